/- The symbolic executor: definitions. -/
import Derived.Test.YtpdipcopnmiddaaGreatDoorRxA
namespace Go.RX
open Go.RowKit

inductive SV where
 | v (i : Nat)
 | k (c : Value)
 | z (t : TypeId)
 | ag (x : SV)
 | cell (x : SV) (o s : Nat) (i : SV)
 | sub (x : SV) (o n s : Nat) (i : SV)
 | put (x : SV) (o n : Nat) (y : SV) (s : Nat) (i : SV)
 | cat (x : SV) (n : Nat) (y : SV)
 | proj (x : SV) (i : Nat)
 | op2 (o : BinOp) (k : IntKind) (x y : SV)
 | op1 (o : UnOp) (k : IntKind) (x : SV)
 | nt (x : SV)
 | cv (k : IntKind) (x : SV)
 | ite (c x y : SV)
 | eqb (n : Bool) (x y : SV)

inductive SL where
 | x (s : SV)
 | p (b o s : Nat) (i : SV)
 | u

inductive Rq where
 | int (k : IntKind) (x : SV)
 | num (x : SV)
 | bool (x : SV)
 | cells (n : Nat) (x : SV)
 | agg (n : Nat) (x : SV)
 | tup (n : Nat) (x : SV)
 | nz (x : SV)
 | nn (x : SV)
 | lt (n : Nat) (x : SV)
 | isb (b : Bool) (x : SV)

inductive Tree where
 | ret (l : List SV)
 | rq (r : Rq) (t : Tree)
 | br (c : SV) (t e : Tree)
 | call (pf : Bool) (f : FuncId) (args : List SV) (t : Tree)
 | prim (id i : Nat) (o : Oper) (args : List SV) (t : Tree)
 | eff (pf : Bool) (id i : Nat) (o : Oper) (args : List SV) (t : Tree)
 | ext (f : FuncId) (args : List SV) (t : Tree)
 | pub (T : TypeId) (c : SV) (t : Tree)
 | dead (n : Nat)
 | loop (ini : List SV) (t : Tree)
 | next (d : Nat) (l : List SV)
 | join (n : Nat) (t u : Tree)
 | mk (id i : Nat) (o : Oper) (args : List SV) (t : Tree)
 | rf (g : SV) (np : Nat) (ini : List SV) (tb ta te : Tree)

def oneC : Value -> Bool | .agg _ | .tuple _ => false | _ => true
def boolOf : Value -> Bool | .bool b => b | _ => false
def isCmp : BinOp -> Bool | .eql | .neq | .lss | .leq | .gtr | .geq => true | _ => false
def binV (o : BinOp) (k : IntKind) (a b : Int) : Value :=
 match o with
 | .add => .int k (k.wrap (a + b))
 | .sub => .int k (k.wrap (a - b))
 | .mul => .int k (k.wrap (a * b))
 | .quo => .int k (k.wrap (a.tdiv b))
 | .rem => .int k (a.tmod b)
 | .and => .int k (k.wrap (BitVec.ofInt k.bits a &&& BitVec.ofInt k.bits b).toNat)
 | .or => .int k (k.wrap (BitVec.ofInt k.bits a ||| BitVec.ofInt k.bits b).toNat)
 | .xor => .int k (k.wrap (BitVec.ofInt k.bits a ^^^ BitVec.ofInt k.bits b).toNat)
 | .andNot => .int k (k.wrap (BitVec.ofInt k.bits a &&& ~~~ BitVec.ofInt k.bits b).toNat)
 | .shl => .int k (k.wrap (a * 2 ^ (min b.toNat k.bits)))
 | .shr => .int k (a.fdiv (2 ^ (min b.toNat k.bits)))
 | .eql => .bool (a == b)
 | .neq => .bool (a != b)
 | .lss => .bool (a < b)
 | .leq => .bool (a <= b)
 | .gtr => .bool (a > b)
 | .geq => .bool (a ≥ b)
def unV (o : UnOp) (k : IntKind) (a : Int) : Value :=
 match o with
 | .neg => .int k (k.wrap (0 - a))
 | _ => .int k (k.wrap (BitVec.ofInt k.bits (if k.signed then -1 else k.max) ^^^ BitVec.ofInt k.bits a).toNat)
def tupV (i : Nat) : Value -> Value | .tuple vs => vs.getD i undef | _ => undef
def spl : Array Value -> Nat -> List Value -> Array Value
 | cs,_,[] => cs
 | cs,q,y :: ys => spl (cs.setIfInBounds q y) (q + 1) ys
def zeroV (P : Program) (t : TypeId) : Value := ((P.info? t).bind (·.zero)).getD undef
def ixOf (v : Value) : Nat := (intOf v).toNat

def D (P : Program) (ρ : List Value) : SV -> Value
 | .v i => ρ.getD i undef
 | .k c => c
 | .z t => zeroV P t
 | .ag x => .agg (D P ρ x).cells
 | .cell x o s i => (D P ρ x).cells.getD (o + s * ixOf (D P ρ i)) undef
 | .sub x o n s i => .agg ((D P ρ x).cells.extract (o + s * ixOf (D P ρ i)) (o + s * ixOf (D P ρ i) + n))
 | .put x o _ y s i => .agg (spl (D P ρ x).cells (o + s * ixOf (D P ρ i)) (D P ρ y).cells.toList)
 | .cat x _ y => .agg ((D P ρ x).cells ++ (D P ρ y).cells)
 | .proj x i => tupV i (D P ρ x)
 | .op2 o k x y => binV o k (intOf (D P ρ x)) (intOf (D P ρ y))
 | .op1 o k x => unV o k (intOf (D P ρ x))
 | .nt x => .bool (!boolOf (D P ρ x))
 | .cv k x => .int k (k.wrap (intOf (D P ρ x)))
 | .ite c x y => if boolOf (D P ρ c) then D P ρ x else D P ρ y
 | .eqb n x y => .bool (n != (boolOf (D P ρ x) == boolOf (D P ρ y)))

def oneAll (cs : Array Value) : Prop := ∀ c ∈ cs.toList,oneC c = true
def Rq.holds (P : Program) (ρ : List Value) : Rq -> Prop
 | .int k x => ∃ n,D P ρ x = .int k n
 | .num x => ∃ k n,D P ρ x = .int k n
 | .bool x => ∃ b,D P ρ x = .bool b
 | .cells n x => (D P ρ x).cells.size = n /\ oneAll (D P ρ x).cells
 | .agg n x => ∃ cs,D P ρ x = .agg cs /\ cs.size = n
 | .tup n x => ∃ vs,D P ρ x = .tuple vs /\ n < vs.size
 | .nz x => intOf (D P ρ x) ≠ 0
 | .nn x => 0 <= intOf (D P ρ x)
 | .lt n x => 0 <= intOf (D P ρ x) /\ intOf (D P ρ x) < n
 | .isb b x => D P ρ x = .bool b

def vbeq : Value -> Value -> Bool
 | .bool a,.bool b => a == b
 | .int k a,.int l b => k == l && a == b
 | .tuple a,.tuple b => a.size == 0 && b.size == 0
 | .string a,.string b => a.data.toList == b.data.toList
 | .func (.func f) a b,.func (.func g) c d => f == g && a.size == 0 && b.size == 0 && c.size == 0 && d.size == 0
 | .slice none l c,.slice none l' c' => l == l' && c == c'
 | .pointer none,.pointer none => true
 | .map none,.map none => true
 | .nilIface,.nilIface => true
 | .nilFunc,.nilFunc => true
 | _,_ => false
def SV.beq : SV -> SV -> Bool
 | .v i,.v j => i == j
 | .k c,.k d => vbeq c d
 | .z t,.z u => t == u
 | .ag x,.ag y => x.beq y
 | .cell x o s i,.cell y p t j => x.beq y && o == p && s == t && i.beq j
 | .sub x o n s i,.sub y p m t j => x.beq y && o == p && n == m && s == t && i.beq j
 | .put x o n y s i,.put x' o' n' y' s' i' => x.beq x' && o == o' && n == n' && y.beq y' && s == s' && i.beq i'
 | .cat x n y,.cat x' n' y' => x.beq x' && n == n' && y.beq y'
 | .proj x i,.proj y j => x.beq y && i == j
 | .op2 o l x y,.op2 o' l' x' y' => o == o' && l == l' && x.beq x' && y.beq y'
 | .op1 o l x,.op1 o' l' x' => o == o' && l == l' && x.beq x'
 | .nt x,.nt y => x.beq y
 | .cv l x,.cv l' y => l == l' && x.beq y
 | .ite c x y,.ite c' x' y' => c.beq c' && x.beq x' && y.beq y'
 | .eqb n x y,.eqb n' x' y' => n == n' && x.beq x' && y.beq y'
 | _,_ => false
def SL.beq : SL -> SL -> Bool
 | .x a,.x b => a.beq b
 | .p b o s i,.p b' o' s' i' => b == b' && o == o' && s == s' && i.beq i'
 | .u,_ => true
 | _,_ => false
def Rq.beq : Rq -> Rq -> Bool
 | .int k x,.int l y => k == l && x.beq y
 | .num x,.num y => x.beq y
 | .bool x,.bool y => x.beq y
 | .cells n x,.cells m y => n == m && x.beq y
 | .agg n x,.agg m y => n == m && x.beq y
 | .tup n x,.tup m y => n == m && x.beq y
 | .nz x,.nz y => x.beq y
 | .nn x,.nn y => x.beq y
 | .lt n x,.lt m y => n == m && x.beq y
 | .isb b x,.isb c y => b == c && x.beq y
 | _,_ => false

def SV.lt (n : Nat) : SV -> Bool
 | .v i => decide (i < n)
 | .k _ | .z _ => true
 | .ag x | .proj x _ | .op1 _ _ x | .nt x | .cv _ x => x.lt n
 | .cell x _ _ i | .sub x _ _ _ i => x.lt n && i.lt n
 | .put x _ _ y _ i => x.lt n && y.lt n && i.lt n
 | .cat x _ y | .op2 _ _ x y | .eqb _ x y => x.lt n && y.lt n
 | .ite c x y => c.lt n && x.lt n && y.lt n
def SL.lt (n : Nat) : SL -> Bool
 | .x s => s.lt n
 | .p _ _ _ i => i.lt n
 | .u => true
def Rq.sv : Rq -> SV
 | .int _ x | .num x | .bool x | .cells _ x | .agg _ x | .tup _ x | .nz x | .nn x | .lt _ x | .isb _ x => x

def noI : SV := .k undef
def evInt (k : IntKind) : SV -> Bool
 | .k (.int l _) => k == l
 | .op2 o l _ _ => !isCmp o && k == l
 | .op1 _ l _ => k == l
 | .cv l _ => k == l
 | _ => false
def evNum : SV -> Bool
 | .k (.int _ _) => true
 | .op2 o _ _ _ => !isCmp o
 | .op1 _ _ _ | .cv _ _ => true
 | _ => false
def evBool : SV -> Bool
 | .k (.bool _) => true
 | .op2 o _ _ _ => isCmp o
 | .nt _ => true
 | .eqb _ _ _ => true
 | _ => false
def evOne (x : SV) : Bool := evNum x || evBool x || (match x with | .k (.string _) => true | _ => false)
def aggB : Value -> Bool | .agg _ => true | _ => false
def evAgg (P : Program) : SV -> Bool
 | .ag _ | .sub _ _ _ _ _ | .put _ _ _ _ _ _ | .cat _ _ _ => true
 | .z t => aggB (zeroV P t)
 | .k c => aggB c
 | _ => false
def cellsB (n : Nat) (v : Value) : Bool := v.cells.size == n && v.cells.toList.all oneC
def has (kn : List Rq) (r : Rq) : Bool := kn.any (·.beq r)
def knCells : List Rq -> SV -> Option Nat
 | [],_ => none
 | .cells n y :: r,x => if y.beq x then some n else knCells r x
 | _ :: r,x => knCells r x
def evCells (P : Program) (kn : List Rq) : SV -> Nat -> Bool
 | .z t,n => cellsB n (zeroV P t)
 | .ag x,n => evCells P kn x n
 | .cat x m y,n => evCells P kn x m && decide (m <= n) && evCells P kn y (n - m) || has kn (.cells n (.cat x m y))
 | .put x o m y s i,n => (evCells P kn x n && evCells P kn y m) || has kn (.cells n (.put x o m y s i))
 | .k c,n => cellsB n c
 | .sub x o m s i,n => (s == 0 && m == n && (match knCells kn x with | some N => decide (o + m <= N) | none => false)) || has kn (.cells n (.sub x o m s i))
 | x,n => (n == 1 && evOne x) || has kn (.cells n x)
def ev (P : Program) (kn : List Rq) : Rq -> Bool
 | .int k x => evInt k x || has kn (.int k x)
 | .num x => evNum x || has kn (.num x)
 | .bool x => evBool x || (has kn (.bool x) || (has kn (.isb true x) || has kn (.isb false x)))
 | .cells n x => evCells P kn x n
 | .agg n x => (evAgg P x && evCells P kn x n) || has kn (.agg n x)
 | .tup n x => has kn (.tup n x)
 | .nz (.k (.int _ m)) => m != 0
 | .nz x => has kn (.nz x)
 | .nn (.k (.int _ m)) => decide (0 <= m)
 | .nn x => has kn (.nn x)
 | .lt n (.k (.int _ m)) => decide (0 <= m /\ m < n)
 | .lt n x => has kn (.lt n x)
 | .isb b (.k (.bool c)) => b == c
 | .isb b x => has kn (.isb b x)

def mkAg (P : Program) (x : SV) : SV := if evAgg P x then x else .ag x
def mkIte (c x y : SV) : SV := match c with | .k (.bool true) => x | .k (.bool false) => y | _ => .ite c x y
def mkSub (P : Program) (kn : List Rq) (o n : Nat) : SV -> SV
 | .cat x m y => if o = 0 /\ n = m /\ evCells P kn x m then mkAg P x else if m <= o /\ evCells P kn x m then mkSub P kn (o - m) n y else if o + n <= m /\ evCells P kn x m then .sub x o n 0 noI else .sub (.cat x m y) o n 0 noI
 | .ag x => mkSub P kn o n x
 | x => if o = 0 /\ evCells P kn x n then mkAg P x else .sub x o n 0 noI
def mkCell (P : Program) (kn : List Rq) (o : Nat) : SV -> SV
 | .cat x m y => if m <= o /\ evCells P kn x m then mkCell P kn (o - m) y else if o = 0 /\ evOne x then x else if o < m /\ evCells P kn x m then .cell x o 0 noI else .cell (.cat x m y) o 0 noI
 | .ag x => mkCell P kn o x
 | x => if o = 0 /\ evOne x then x else .cell x o 0 noI
def mkPut (P : Program) (kn : List Rq) (sf : Bool) (N o n : Nat) (y : SV) : SV -> SV
 | .cat x m r => if o = 0 /\ n = m /\ evCells P kn x m then .cat y n r
   else if m <= o /\ evCells P kn x m then .cat x m (mkPut P kn sf (N - m) (o - m) n y r)
   else .put (.cat x m r) o n y 0 noI
 | x => if o = 0 /\ n = N then y else if sf then
    (if o = 0 then .cat y n (.sub x n (N - n) 0 noI) else if o + n = N then .cat (.sub x 0 o 0 noI) o y else .cat (.sub x 0 o 0 noI) o (.cat y n (.sub x (o + n) (N - (o + n)) 0 noI)))
   else .put x o n y 0 noI

def vbeqL : List Value -> List Value -> Bool
 | [],[] => true
 | a :: l,b :: r => vbeq a b && vbeqL l r
 | _,_ => false
def catL : List (Nat × SV) -> SV
 | [] => .k (.agg #[])
 | [(_,x)] => x
 | (n,x) :: r => .cat x n (catL r)
def exZ (P : Program) (T : TypeId) : SV :=
 match P.underlying T with
 | some (.struct fs) =>
  if fs.size ≥ 2 /\ vbeqL (zeroV P T).cells.toList (fs.toList.flatMap fun f => (zeroV P f.type).cells.toList) then catL (fs.toList.map fun f => ((zeroV P f.type).cells.size,.z f.type)) else .z T
 | _ => .z T

structure Blk where
 c : SV
 T : TypeId
 n : Nat
structure Jn where
 kd : Nat
 key : Nat
 ts : List Nat
 bs : List Nat
def findJ : List Jn -> Nat -> Nat -> Option Jn
 | [],_,_ => none
 | j :: r,kd,key => if j.kd == kd && j.key == key then some j else findJ r kd key
structure St where
 es : List Nat
 am : List (Nat × Bool)
 js : List Jn
 sl : List SL
 bl : List Blk
 kn : List Rq
 kb : List (SV × Bool)
 n : Nat
 d : Nat
 rd : Bool := false

def St.get (st : St) : Operand -> Option SL
 | .tmp t => st.sl[t]?
 | .const c => some (.x (.k c))
 | .func f => some (.x (.k (.func (.func f) #[] #[])))
 | .global g => some (.x (.k (.pointer (some ⟨g,0,none⟩))))
def St.val (st : St) (x : Operand) : Option SV := match st.get x with | some (.x s) => some s | _ => none
def St.set (st : St) (d : Option Tmp) (s : SL) : St := match d with | some t => { st with sl := st.sl.set t s } | none => st

def lookB : List (SV × Bool) -> SV -> SV
 | [],c => c
 | (x,b) :: r,c => if x.beq c then .k (.bool b) else lookB r c
def St.know (st : St) (P : Program) (c : SV) (b : Bool) : St := { st with kb := (match c with | .nt x => if ev P st.kn (.bool x) then [(c,b),(x,!b)] else [(c,b)] | _ => [(c,b)]) ++ st.kb }

inductive Res where
 | val (s : SL)
 | new (c : SV) (T n : Nat)
 | sto (b : Nat) (c : SV)
 | call (f : FuncId) (args : List SV)
 | prim (args : List SV)
 | eff (args : List SV)
 | ext (f : FuncId) (args : List SV)
 | mk (args : List SV)
 | bad

def hasT (P : Program) (t : TypeId) : Bool := (P.info? t).isSome && (P.underlying t).isSome
def isAggB (P : Program) (t : TypeId) : Bool := match P.underlying t with | some (.struct _) | some (.array _ _) => true | _ => false
def intK (P : Program) (t : TypeId) : Option IntKind := match P.underlying t with | some (.int k) => some k | _ => none

def structB (P : Program) (t : TypeId) : Bool := match P.underlying t with | some (.struct _) => true | _ => false
def boolT (P : Program) (t : TypeId) : Bool := match P.underlying t with | some .bool => true | _ => false
def allVals (st : St) : List Operand -> Option (List SV)
 | [] => some []
 | x :: r => match st.val x,allVals st r with | some s,some l => some (s :: l) | _,_ => none

def placesOf (P : Program) (T : TypeId) : Option (Nat -> Option (Nat × Nat)) :=
 match P.underlying T with
 | some (.struct fs) => some fun i => (fs[i]?).map fun f => (f.offset,P.cellsOf f.type)
 | some (.array _ e) => some fun i => some (i * P.cellsOf e,P.cellsOf e)
 | _ => none

def partsT (P : Program) (T : TypeId) : Bool :=
 match P.underlying T with
 | some (.struct fs) => fs.all fun f => hasT P f.type
 | some (.array _ e) => hasT P e
 | _ => false

def kdOf (P : Program) (o : Oper) : Nat :=
 match o.op with
 | .move _ | .assign _ | .pick _ _ _ | .build _ _ | .unOp _ _ _ | .field _ _ _ | .extract _ _ => 0
 | .index t _ _ => match P.underlying t with | some (.array _ _) => 0 | _ => 1
 | .binOp op t _ _ _ => if (intK P t).isSome || (boolT P t && (op == .eql || op == .neq)) then 0 else 1
 | .convert s d _ => if (intK P s).isSome && (intK P d).isSome then 0 else 1
 | .load _ _ | .fieldAddr _ _ _ | .indexAddr _ _ _ | .lookup _ _ _ _ | .slice _ _ _ _ _ | .makeInterface _ _ | .sliceToArrayPointer _ _ | .nilCheck _ => 1
 | .alloc _ | .box _ _ => 3
 | .store _ _ _ | .insert _ _ _ _ | .mapUpdate _ _ _ _ => 4
 | .call { callee := .builtin .len,.. } | .call { callee := .builtin .min,.. } | .call { callee := .builtin .max,.. } | .call { callee := .builtin .unsafeSliceData,.. } => 1
 | _ => 2

def bad : List Rq × Res := ([],.bad)
def sMove (st : St) (x : Operand) : List Rq × Res := match st.get x with | some s => ([],.val s) | none => bad
def sPick (st : St) (c a b : Operand) : List Rq × Res := match st.val c,st.val a,st.val b with
 | some c,some a,some b => ([.bool c],.val (.x (mkIte (lookB st.kb c) a b)))
 | _,_,_ => bad
def sAlloc (P : Program) (T : TypeId) : List Rq × Res := match (P.info? T).bind (·.zero) with
 | some z => ([.cells z.cells.size (.z T)],.new (.z T) T z.cells.size)
 | none => bad
def sBox (P : Program) (st : St) (T : TypeId) (x : Operand) : List Rq × Res := match st.val x with
 | some x => ([.cells (P.cellsOf T) x],.new x T (P.cellsOf T))
 | none => bad
def sLoadB (P : Program) (st : St) (T : TypeId) (B : Blk) (q s : Nat) (i : SV) : List Rq × Res :=
 if hasT P T = false then bad else
 if s = 0 then
  if isAggB P T then
   if q + P.cellsOf T <= B.n then ([],.val (.x (if q = 0 /\ P.cellsOf T = B.n then mkAg P B.c else mkSub P st.kn q (P.cellsOf T) B.c))) else bad
  else if q + P.cellsOf T <= B.n /\ q < B.n then ([],.val (.x (mkCell P st.kn q B.c))) else bad
 else if q + P.cellsOf T <= B.n /\ 0 < P.cellsOf T then
  ([.num i,.lt ((B.n - q - P.cellsOf T) / s + 1) i],.val (.x (if isAggB P T then .sub B.c q (P.cellsOf T) s i else .cell B.c q s i)))
 else bad
def sLoad (P : Program) (st : St) (T : TypeId) (a : Operand) : List Rq × Res := match st.get a with
 | some (.p b q s i) => match st.bl[b]? with
  | some B => sLoadB P { st with kn := .cells B.n B.c :: st.kn } T B q s i
  | none => bad
 | some (.x a) => ([],.prim [a])
 | _ => bad
def sStoreB (P : Program) (st : St) (T : TypeId) (B : Blk) (b q s : Nat) (i x : SV) : List Rq × Res :=
 if hasT P T = false then bad else
 if q + P.cellsOf T <= B.n then
  if s = 0 then ([.cells (P.cellsOf T) x],.sto b (mkPut P st.kn (structB P B.T) B.n q (P.cellsOf T) x B.c))
  else ([.cells (P.cellsOf T) x,.num i,.lt ((B.n - q - P.cellsOf T) / s + 1) i],.sto b (.put B.c q (P.cellsOf T) x s i))
 else bad
def sStore (P : Program) (st : St) (T : TypeId) (a x : Operand) : List Rq × Res := match st.get a,st.val x with
 | some (.p b q s i),some x => match st.bl[b]? with
  | some B => sStoreB P { st with kn := .cells B.n B.c :: st.kn } T B b q s i x
  | none => bad
 | some (.x a),some x => ([],.eff [a,x])
 | _,_ => bad
def sFieldAddr (P : Program) (st : St) (S : TypeId) (a : Operand) (f : Nat) : List Rq × Res := match st.get a with
 | some (.p b q s i) => match P.underlying S with
  | some (.struct fs) => match fs[f]? with
   | some fd => if P.cellsOf fd.type = 0 \/ hasT P fd.type = false then bad else ([],.val (.p b (q + fd.offset) s i))
   | none => bad
  | _ => bad
 | some (.x a) => ([],.prim [a])
 | _ => bad
def sIndexAddr (P : Program) (st : St) (T : TypeId) (a ix : Operand) : List Rq × Res := match st.get a,st.val ix with
 | some (.p b q s _),some j => match P.underlying T with
  | some (.array len e) =>
   if s ≠ 0 \/ hasT P e = false then bad else
   match j with
   | .k (.int _ m) => if 0 <= m /\ m < len then ([],.val (.p b (q + m.toNat * P.cellsOf e) 0 noI)) else bad
   | j => if P.cellsOf e = 0 then bad else ([.num j,.lt len j],.val (.p b q (P.cellsOf e) j))
  | _ => bad
 | some (.x a),some j => ([],.prim [a,j])
 | _,_ => bad
def sField (P : Program) (st : St) (S : TypeId) (x : Operand) (f : Nat) : List Rq × Res := match st.val x with
 | some x => match P.underlying S with
  | some (.struct fs) => match fs[f]? with
   | some fd => if fd.offset + P.cellsOf fd.type <= P.cellsOf S /\ 0 < P.cellsOf fd.type /\ hasT P fd.type = true then ([.agg (P.cellsOf S) x],.val (.x (if isAggB P fd.type then mkSub P st.kn fd.offset (P.cellsOf fd.type) x else mkCell P st.kn fd.offset x))) else bad
   | none => bad
  | _ => bad
 | none => bad
def sIndex (P : Program) (st : St) (T : TypeId) (x ix : Operand) : List Rq × Res := match st.val x,st.val ix with
 | some x,some j => match P.underlying T with
  | some (.array len e) =>
   if len * P.cellsOf e <= P.cellsOf T /\ 0 < P.cellsOf e /\ hasT P e = true then
    match j with
    | .k (.int _ m) => if 0 <= m /\ m < len then ([.agg (P.cellsOf T) x],.val (.x (if isAggB P e then mkSub P st.kn (m.toNat * P.cellsOf e) (P.cellsOf e) x else mkCell P st.kn (m.toNat * P.cellsOf e) x))) else bad
    | j => ([.agg (P.cellsOf T) x,.num j,.lt len j],.val (.x (if isAggB P e then .sub x 0 (P.cellsOf e) (P.cellsOf e) j else .cell x 0 (P.cellsOf e) j)))
   else bad
  | some .string => ([],.prim [x,j])
  | _ => bad
 | _,_ => bad
def partsV (st : St) : List (Nat × Operand) -> Option (List (Nat × SV))
 | [] => some []
 | (i,x) :: r => match st.val x,partsV st r with | some s,some l => some ((i,s) :: l) | _,_ => none
def placed (pl : Nat -> Option (Nat × Nat)) : List (Nat × SV) -> Option (List (Nat × Nat × SV))
 | [] => some []
 | (i,x) :: r => match pl i,placed pl r with | some (q,n),some l => some ((q,n,x) :: l) | _,_ => none
def sBuild (P : Program) (st : St) (T : TypeId) (parts : List (Nat × Operand)) : List Rq × Res :=
 match partsV st parts,placesOf P T with
 | some ps,some pl => match placed pl ps with
  | some l => if (l.all fun p => decide (p.1 + p.2.1 <= P.cellsOf T)) && partsT P T && (P.info? T).any (·.zero.isSome) then (.cells (P.cellsOf T) (.z T) :: l.map (fun p => .cells p.2.1 p.2.2),.val (.x (mkAg P (l.foldl (fun acc p => mkPut P st.kn (structB P T) (P.cellsOf T) p.1 p.2.1 p.2.2 acc) (exZ P T))))) else bad
  | none => bad
 | _,_ => bad
def sExtract (st : St) (x : Operand) (i : Nat) : List Rq × Res := match st.val x with
 | some x => ([.tup i x],.val (.x (.proj x i)))
 | none => bad
def isSh (op : BinOp) : Bool := op == .shl || op == .shr
def isDv (op : BinOp) : Bool := op == .quo || op == .rem
def isEq (op : BinOp) : Bool := op == .eql || op == .neq
def sBin (P : Program) (st : St) (op : BinOp) (T : TypeId) (x y : Operand) : List Rq × Res := match st.val x,st.val y with
 | some x,some y => match intK P T with
  | some k => if isSh op then ([.int k x,.num y,.nn y],.val (.x (.op2 op k x y))) else ([.int k x,.int k y] ++ (if isDv op then [.nz y] else []),.val (.x (.op2 op k x y)))
  | none => if boolT P T && isEq op then ([.bool x,.bool y],.val (.x (.eqb (op == .neq) x y))) else ([],.prim [x,y])
 | _,_ => bad
def mkNt (x : SV) : SV := match x with | .k (.bool b) => .k (.bool (!b)) | x => .nt x
def sUn (P : Program) (st : St) (op : UnOp) (T : TypeId) (x : Operand) : List Rq × Res := match st.val x with
 | some x => match op with
  | .not => ([.bool x],.val (.x (mkNt x)))
  | .plus => bad
  | op => match intK P T with
   | some k => ([.int k x],.val (.x (.op1 op k x)))
   | none => bad
 | none => bad
def sConv (P : Program) (st : St) (s d : TypeId) (x : Operand) : List Rq × Res := match st.val x with
 | some x => match intK P s,intK P d with
  | some k,some l => ([.int k x],.val (.x (.cv l x)))
  | _,_ => ([],.prim [x])
 | none => bad
def quietB : Builtin -> Bool | .len | .min | .max | .unsafeSliceData => true | _ => false
def sCall (P : Program) (st : St) (c : Call) : List Rq × Res := match c.callee with
 | .value (.func f) => match allVals st c.args.toList with
  | some l => match (P.funcs[f]?).bind (·.body) with
   | some _ => if ((P.funcs[f]?).map (·.name)) == some "runtime.NumGoroutine" then bad else ([], .call f l)
   | none => ([],.ext f l)
  | none => bad
 | .builtin b => match allVals st c.args.toList with
  | some l => if quietB b then ([],.prim l) else ([],.eff l)
  | none => bad
 | .value f => match allVals st (f :: c.args.toList) with
  | some l => ([],.eff l)
  | none => bad
 | .invoke _ _ => bad
def primOp : Op -> Bool | .lookup _ _ _ _ | .slice _ _ _ _ _ | .makeInterface _ _ | .sliceToArrayPointer _ _ | .nilCheck _ => true | _ => false
def effOp : Op -> Bool | .insert _ _ _ _ | .mapUpdate _ _ _ _ | .buildSlice _ _ _ | .makeSlice _ _ _ | .makeMap _ _ | .makeFunc _ _ _ | .range _ _ | .next _ _ | .entry _ => true | _ => false
def sOther (st : St) (op : Op) : List Rq × Res := match allVals st op.operands.toList with
 | some l => if primOp op then ([],.prim l) else if effOp op then ([],.eff l) else bad
 | none => bad

def escB (st : St) (d : Option Tmp) : Bool := match d with | some t => st.es.contains t | none => false
def mkB (st : St) (o : Oper) : Bool := match o.op with | .buildSlice _ _ _ | .makeSlice _ _ _ | .makeMap _ _ => escB st o.dst | _ => false
def sMk (st : St) (op : Op) : List Rq × Res := match allVals st op.operands.toList with
 | some l => ([],.mk l)
 | none => bad

def symOp (P : Program) (st : St) (o : Oper) : List Rq × Res :=
 match o.op with
 | .move x => sMove st x
 | .assign x => sMove st x
 | .pick c a b => sPick st c a b
 | .alloc T => sAlloc P T
 | .box T x => sBox P st T x
 | .load T a => sLoad P st T a
 | .store T a x => sStore P st T a x
 | .fieldAddr S a f => sFieldAddr P st S a f
 | .indexAddr T a ix => sIndexAddr P st T a ix
 | .field S x f => sField P st S x f
 | .index T x ix => sIndex P st T x ix
 | .build T parts => sBuild P st T parts.toList
 | .extract x i => sExtract st x i
 | .binOp op T x y _ => sBin P st op T x y
 | .unOp op T x => sUn P st op T x
 | .convert s d x => sConv P st s d x
 | .call c => sCall P st c
 | op => if mkB st o then sMk st op else sOther st op

def askAll (P : Program) : List Rq -> St -> (St -> Option Tree) -> Option Tree
 | [],st,k => k st
 | r :: rs,st,k => if ev P st.kn r then askAll P rs st k else (askAll P rs { st with kn := r :: st.kn } k).map (Tree.rq r)

def inSc (st : St) : Bool := st.sl.all (·.lt st.n) && st.bl.all (·.c.lt st.n) && st.kn.all (·.sv.lt st.n) && st.kb.all (·.1.lt st.n)

def bindS (st : St) (d : Option Tmp) : St := St.set { st with n := st.n + 1 } d (.x (.v st.n))

def stepS (P : Program) (pf : Bool) (id i : Nat) (o : Oper) (st : St) (k : St -> Option Tree) : Option Tree :=
 let (rs,r) := symOp P st o
 askAll P rs st fun st => match r with
  | .val s => k (st.set o.dst s)
  | .new c T n => if escB st o.dst then (if inSc st && c.lt st.n then (k (bindS st o.dst)).map (Tree.pub T c) else none) else k (St.set { st with bl := st.bl ++ [Blk.mk c T n] } o.dst (.p st.bl.length 0 0 noI))
  | .sto b c => match st.bl[b]? with
   | some B => k (St.set { st with bl := st.bl.set b { B with c := c } } o.dst (.x (.k undef)))
   | none => none
  | .call f args => if inSc st && args.all (·.lt st.n) then (k (bindS st o.dst)).map (Tree.call pf f args) else none
  | .prim args => if inSc st && args.all (·.lt st.n) then (k (bindS st o.dst)).map (Tree.prim id i o args) else none
  | .eff args => if inSc st && args.all (·.lt st.n) then (k (bindS st o.dst)).map (Tree.eff pf id i o args) else none
  | .ext f args => if inSc st && args.all (·.lt st.n) then (k (bindS st o.dst)).map (Tree.ext f args) else none
  | .mk args => if inSc st && args.all (·.lt st.n) then (k (bindS st o.dst)).map (Tree.mk id i o args) else none
  | .bad => some (.dead (777000000 + 1000 * id + i))

def ownA (st : St) (x : Operand) : Option Nat := match st.get x with | some (.p b _ _ _) => some b | _ => none
def ownAddr (st : St) (o : Oper) : Bool := match o.op with | .fieldAddr _ a _ => (ownA st a).isSome | .indexAddr _ a _ => (ownA st a).isSome | _ => false
def isPrim : Res -> Bool | .prim _ => true | _ => false
def isSto : Res -> Bool | .sto _ _ => true | _ => false
def okOp (P : Program) (st : St) (o : Oper) (k tg : Nat) : Bool :=
 match k with
 | 0 => kdOf P o == 0 || ownAddr st o
 | 1 => decide (kdOf P o <= 1)
 | 2 => kdOf P o == 2 && !mkB st o
 | 3 => kdOf P o == 3 || mkB st o
 | 4 => true
 | 5 => match o.op with | .load _ a => ownA st a == some tg | _ => false
 | 6 => match o.op with | .store _ a _ => ownA st a == some tg | _ => false
 | 7 => isPrim (symOp P st o).2
 | 8 => !isSto (symOp P st o).2
 | _ => false
def stepK (P : Program) (pf : Bool) (ck : Nat -> Oper -> St -> Bool) (id i : Nat) (o : Oper) (st : St) (k : St -> Option Tree) : Option Tree :=
 if ck i o st then stepS P pf id i o st k else some (.dead (778000000 + 1000 * id + i))

def amOf : List (Nat × Bool) -> Nat -> Option Bool
 | [],_ => none
 | (t,b) :: r,u => if t == u then some b else amOf r u
def amO (am : List (Nat × Bool)) : Operand -> Option Bool
 | .tmp t => amOf am t
 | _ => none
def runL (P : Program) (pf : Bool) (ck : Nat -> Oper -> St -> Bool) (ops : Array Oper) (id : Nat) (k : St -> Option Tree) : List Nat -> St -> Option Tree
 | [],st => k st
 | i :: L,st => match ops[i]? with
  | none => none
  | some o => match o.guard with
   | none => stepK P pf ck id i o st (runL P pf ck ops id k L)
   | some (j,want) => match ((ops[j]?).bind (·.dst)).bind (st.sl[·]?) with
    | some (.x c) => match lookB st.kb c with
     | .k (.bool b) => if b == want then stepK P pf ck id i o st (runL P pf ck ops id k L) else runL P pf ck ops id k L (st.set o.dst (.x (.k undef)))
     | .k (.tuple _) => runL P pf ck ops id k L (st.set o.dst (.x (.k undef)))
     | c => match amOf st.am (((ops[j]?).bind (·.dst)).getD 0) with
     | some b => askAll P [.isb b c] st fun st => if b == want then stepK P pf ck id i o (st.know P c b) (runL P pf ck ops id k L) else runL P pf ck ops id k L ((st.know P c b).set o.dst (.x (.k undef)))
     | none => askAll P [.bool c] st fun st =>
      match stepK P pf ck id i o (st.know P c want) (runL P pf ck ops id k L),runL P pf ck ops id k L ((st.know P c (!want)).set o.dst (.x (.k undef))) with
      | some t1,some t2 => some (if want then .br c t1 t2 else .br c t2 t1)
      | _,_ => none
    | _ => none

structure Cert where
 id : Nat
 an : List Nat
 ks : List Nat
 ts : List Nat
 F : List Nat
 T : List Nat
def findC : List Cert -> Nat -> Option Cert
 | [],_ => none
 | c :: C,id => if c.id == id then some c else findC C id
def ckC (P : Program) (c : Cert) (i : Nat) (o : Oper) (st : St) : Bool := okOp P st o (c.ks.getD i 9) (c.ts.getD i 0)
def certB (st : St) (ops : Array Oper) (c : Cert) : Bool :=
 c.an == ancs ops.toList [] && ((List.range c.ks.length).all fun i => !(c.ks.getD i 9 == 5 || c.ks.getD i 9 == 6) || decide (c.ts.getD i 0 < st.bl.length)) && ordB ops c.an (fun i => c.ks.getD i 9) (fun i => c.ts.getD i 0) c.F c.T

def writes : Code -> List Nat
 | .region _ ops _ => ops.toList.filterMap (·.dst)
 | .seq a b => writes a ++ writes b
 | .cond _ a b => writes a ++ writes b
 | .block _ a => writes a
 | .loop a => writes a
 | .scope a => writes a
 | _ => []
def stores : Code -> Bool
 | .region _ ops _ => ops.any fun o => match o.op with | .store .. => true | _ => false
 | .seq a b => stores a || stores b
 | .cond _ a b => stores a || stores b
 | .block _ a => stores a
 | .loop a => stores a
 | .scope a => stores a
 | .rangeFunc _ _ a c => stores a || stores c
 | _ => false

def liveB : SL -> Bool | .x (.k (.tuple _)) => false | .x _ => true | _ => false
def liveOf (sl : List SL) (ws : List Nat) : List Nat := ws.filter fun t => match sl[t]? with | some s => liveB s | none => false
def deadOf (sl : List SL) (ws : List Nat) : List Nat := ws.filter fun t => match sl[t]? with | some s => !liveB s | none => false
def setAll (sl : List SL) (ts : List Nat) (s : SL) : List SL := ts.foldl (fun sl t => sl.set t s) sl
def havocS : List Nat -> Nat -> List SL -> List SL
 | [],_,sl => sl
 | t :: ts,n,sl => havocS ts (n + 1) (sl.set t (.x (.v n)))
def posOf (i : Nat) : List Nat -> Nat -> Option Nat
 | [],_ => none
 | x :: l,k => if x == i then some k else posOf i l (k + 1)
def havocB (bs : List Nat) (n : Nat) : List Blk -> Nat -> List Blk
 | [],_ => []
 | b :: l,i => (match posOf i bs 0 with | some k => { b with c := .v (n + k) } | none => b) :: havocB bs n l (i + 1)
def cAt (bl : List Blk) : List Nat -> Option (List SV)
 | [] => some []
 | i :: r => match bl[i]?,cAt bl r with | some B,some l => some (B.c :: l) | _,_ => none
def cFacts (bl : List Blk) : List Nat -> Nat -> List Rq
 | [],_ => []
 | i :: r,n => (match bl[i]? with | some B => [Rq.cells B.n (.v n)] | none => []) ++ cFacts bl r (n + 1)
def nodB : List Nat -> Bool
 | [] => true
 | x :: l => !l.contains x && nodB l
def valAt (sl : List SL) (t : Nat) : Option SV := match sl[t]? with | some (SL.x s) => some s | _ => none
def valsAt (sl : List SL) : List Nat -> Option (List SV)
 | [] => some []
 | t :: ts => match valAt sl t,valsAt sl ts with | some s,some l => some (s :: l) | _,_ => none
def dedup : List Nat -> List Nat
 | [] => []
 | x :: l => if l.contains x then dedup l else x :: dedup l
def wsOf (b : Code) : List Nat := dedup (writes b)
def sameBl (bs : List Nat) : List Blk -> List Blk -> Nat -> Bool
 | [],_,_ => true
 | x :: l,y :: r,i => x.T == y.T && x.n == y.n && (bs.contains i || x.c.beq y.c) && sameBl bs l r (i + 1)
 | _ :: _,[],_ => false
def sameL (ws : List Nat) : List SL -> List SL -> Nat -> Bool
 | [],[],_ => true
 | x :: a,y :: b,i => (x.beq y || ws.contains i) && sameL ws a b (i + 1)
 | [],_ :: _,_ => false
 | _ :: _,[],_ => false
def sameBut (ws : List Nat) (a b : List SL) : Bool := sameL ws a b 0

def keyO : Code -> Option Nat
 | .region id _ _ => some id
 | .seq a b => match keyO a with | some k => some k | none => keyO b
 | .cond _ a b => match keyO a with | some k => some k | none => keyO b
 | .block _ a => keyO a
 | .loop a => keyO a
 | .scope a => keyO a
 | .rangeFunc _ _ a c => match keyO c with | some k => some k | none => keyO a
 | _ => none
def bsOf (st : St) (b : Code) : List Nat :=
 if stores b then match findJ st.js 0 ((keyO b).getD 0) with | some j => j.bs | none => List.range st.bl.length else []
def headG (st : St) (lv dd bs : List Nat) (δ : Nat) : St :=
 {es := st.es,am := st.am,js := st.js,
  sl := setAll (havocS lv st.n st.sl) dd .u,
  bl := havocB bs (st.n + lv.length) st.bl 0,
  kn := cFacts st.bl bs (st.n + lv.length) ++ st.kn,
  kb := st.kb,
  n := st.n + lv.length + bs.length,
  d := st.d + δ,
  rd := st.rd }
def jn (st : St) (b : Code) (ts bs : List Nat) (run : St -> (Exit -> St -> Option Tree) -> Option Tree) (k : Exit -> St -> Option Tree) : Option Tree :=
 if inSc st && nodB ts && nodB bs then
  match run { st with d := st.d + 1 } (fun e st2 => match e with
    | .normal => match valsAt st2.sl ts,cAt st2.bl bs with
     | some nv,some nb => if sameBut (wsOf b) st.sl st2.sl && sameBl bs st.bl st2.bl 0 then some (.next st.d (nv ++ nb)) else some (.dead 807)
     | _,_ => some (.dead 808)
    | e => k e st2),k .normal (headG st ts ((wsOf b).filter fun t => !ts.contains t) bs 0) with
  | some t,some u => some (.join (ts.length + bs.length) t u)
  | _,_ => none
 else none
def condKey : Operand -> Nat
 | .tmp t => t
 | _ => 0

def outs : Code -> List Exit
 | .seq a b => outs a ++ outs b
 | .cond _ a b => outs a ++ outs b
 | .block id a => (outs a).filter fun e => match e with | .exit j => j != id | _ => true
 | .loop a => outs a
 | .scope a => outs a
 | .exit id => [.exit id]
 | .ret => [.ret]
 | _ => []
def exEq : Exit -> List Exit -> Bool
 | .ret,.ret :: _ => true
 | .exit i,.exit j :: _ => i == j
 | _,_ => false
def rfBs (st : St) (a b : Code) : List Nat :=
 if stores a || stores b then match findJ st.js 4 ((keyO b).getD 0) with | some j => j.bs | none => List.range st.bl.length else []
def rfLeaf (st : St) (bs : List Nat) (j : Nat) (st2 : St) : Option Tree :=
 match cAt st2.bl bs with
 | some nb => if sameBl bs st.bl st2.bl 0 then some (.next (st.d + j) nb) else some (.dead 820)
 | none => some (.dead 820)
def rfHead (st : St) (ps bs : List Nat) : St := { headG st ps [] bs 2 with rd := true }

def exR (P : Program) (C : List Cert) (id : Nat) (ops : Array Oper) (draw : Bool) (st : St) (k : Exit -> St -> Option Tree) : Option Tree :=
 match draw with
 | false => runL P false (fun _ _ _ => true) ops id (k .normal) (List.range ops.size) st
 | true => match findC C id with
  | some c => if certB st ops c then runL P true (ckC P c) ops id (fun st' => runL P false (ckC P c) ops id (k .normal) c.T st') c.F st else some (.dead (805000000 + id))
  | none => some (.dead (805500000 + id))
def ex (P : Program) (C : List Cert) : Code -> St -> (Exit -> St -> Option Tree) -> Option Tree
 | .skip,st,k => k .normal st
 | .region id ops draw,st,k => match findJ st.js 3 id with
  | some j => jn st (.region id ops draw) j.ts j.bs (exR P C id ops draw) k
  | none => exR P C id ops draw st k
 | .seq a b,st,k => ex P C a st fun e st => match e with | .normal => ex P C b st k | e => k e st
 | .cond c t e,st,k =>
  let run : St -> (Exit -> St -> Option Tree) -> Option Tree := fun st k => match (st.val c).map (lookB st.kb) with
  | some (.k (.bool true)) => ex P C t st k
  | some (.k (.bool false)) => ex P C e st k
  | some s => match amO st.am c with
   | some true => askAll P [.isb true s] st fun st => ex P C t (st.know P s true) k
   | some false => askAll P [.isb false s] st fun st => ex P C e (st.know P s false) k
   | none => askAll P [.bool s] st fun st =>
    match ex P C t (st.know P s true) k,ex P C e (st.know P s false) k with
    | some t1,some t2 => some (.br s t1 t2)
    | _,_ => none
  | none => none
  match findJ st.js 2 (condKey c) with
  | some j => jn st (.cond c t e) j.ts j.bs run k
  | none => run st k
 | .block id b,st,k =>
  let run : St -> (Exit -> St -> Option Tree) -> Option Tree := fun st k => ex P C b st fun e st => match e with
   | .exit j => if j = id then k .normal st else k (.exit j) st
   | e => k e st
  match findJ st.js 1 id with
  | some j => jn st (.block id b) j.ts j.bs run k
  | none => run st k
 | .exit id,st,k => k (.exit id) st
 | .ret,st,k => k .ret st
 | .label _,st,k => k .normal st
 | .scope b,st,k => ex P C b st fun e st => match e with | .goto _ => some (.dead 817) | e => k e st
 | .loop b,st,k =>
  match valsAt st.sl (liveOf st.sl (wsOf b)),cAt st.bl (bsOf st b) with
  | some iv,some ib =>
   if inSc st && nodB (bsOf st b) then
    (ex P C b (headG st (liveOf st.sl (wsOf b)) (deadOf st.sl (wsOf b)) (bsOf st b) 1) fun e st2 => match e with
     | .normal =>
      match valsAt st2.sl (liveOf st.sl (wsOf b)),cAt st2.bl (bsOf st b) with
      | some nv,some nb => if sameBut (wsOf b) st.sl st2.sl && sameBl (bsOf st b) st.bl st2.bl 0 then some (.next st.d (nv ++ nb)) else some (.dead 806)
      | _,_ => some (.dead 806)
     | e => k e st2).map (Tree.loop (iv ++ ib))
   else none
  | _,_ => none
 | .rangeFunc g ps asg body,st,k =>
  match st.rd,st.val g,cAt st.bl (rfBs st asg body) with
  | false,some gv,some ib =>
   if inSc st && nodB (rfBs st asg body) && nodB ps.toList && ps.toList.all (fun t => decide (t < st.sl.length)) then
    match ex P C asg (rfHead st ps.toList (rfBs st asg body)) (fun e st1 => match e with
      | .normal => ex P C body st1 fun e st2 => match e with
       | .normal => rfLeaf st (rfBs st asg body) 0 st2
       | e => if exEq e (outs body) then rfLeaf st (rfBs st asg body) 1 st2 else some (.dead 821)
      | _ => some (.dead 819)),
     k .normal (headG st [] [] (rfBs st asg body) 0),
     (match outs body with | e0 :: _ => k e0 (headG st [] [] (rfBs st asg body) 0) | [] => some (.dead 818)) with
    | some tb,some ta,some te => some (.rf gv ps.size ib tb ta te)
    | _,_,_ => none
   else none
  | _,_,_ => some (.dead 822)
 | _,_,_ => some (.dead 816)

def resOf (P : Program) (st : St) : List ResultVar -> Option (List SV)
 | [] => some []
 | .tmp t :: r => match st.sl[t]?,resOf P st r with | some (.x s),some l => some (s :: l) | _,_ => none
 | .cell t T :: r => match sLoad P st T (.tmp t),resOf P st r with
  | ([],.val (.x s)),some l => some (s :: l)
  | _,_ => none

def tree (P : Program) (E : List Nat) (A : List (Nat × Bool)) (J : List Jn) (C : List Cert) (f : FuncId) : Option Tree :=
 match P.funcs[f]? with
 | some fn => match fn.body with
  | some c =>
   let n := fn.params.size + fn.nfree
   ex P C c { es := E,am := A,js := J,sl := (List.range n).map (fun i => .x (.v i)) ++ List.replicate (fn.ntmps - n) (.x (.k undef)),bl := [],kn := [],kb := [],n,d := 0 } fun e st => match e with
    | .normal | .ret => (resOf P st fn.results.toList).map Tree.ret
    | _ => none
  | none => none
 | none => none
end Go.RX


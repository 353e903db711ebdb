/- The symbolic executor: definitions. -/
import Derived.Test.YtlmgkkjgdapnpaaGreatDoorRxB
namespace Go.RX
open Go.RowKit
inductive SV where
 |v (i:Nat)
 |k (c:Value)
 |z (t:TypeId)
 |ag (x:SV)
 |cell (x:SV) (o s:Nat) (i:SV)
 |sub (x:SV) (o n s:Nat) (i:SV)
 |put (x:SV) (o n:Nat) (y:SV) (s:Nat) (i:SV)
 |cat (x:SV) (n:Nat) (y:SV)
 |proj (x:SV) (i:Nat)
 |op2 (o:BinOp) (k:IntKind) (x y:SV)
 |op1 (o:UnOp) (k:IntKind) (x:SV)
 |nt (x:SV)
 |cv (k:IntKind) (x:SV)
 |ite (c x y:SV)
 |eqb (n:Bool) (x y:SV)
inductive SL where
 |x (s:SV)
 |p (b o s:Nat) (i:SV)
 |u
inductive Rq where
 |int (k:IntKind) (x:SV)
 |num (x:SV)
 |bool (x:SV)
 |cells (n:Nat) (x:SV)
 |agg (n:Nat) (x:SV)
 |tup (n:Nat) (x:SV)
 |nz (x:SV)
 |nn (x:SV)
 |lt (n:Nat) (x:SV)
 |isb (b:Bool) (x:SV)
inductive Tree where
 |ret (l:List SV)
 |rq (r:Rq) (t:Tree)
 |br (c:SV) (t e:Tree)
 |call (pf:Bool) (f:FuncId) (args:List SV) (t:Tree)
 |prim (id i:Nat) (o:Oper) (args:List SV) (t:Tree)
 |eff (pf:Bool) (id i:Nat) (o:Oper) (args:List SV) (t:Tree)
 |ext (f:FuncId) (args:List SV) (t:Tree)
 |pub (T:TypeId) (c:SV) (t:Tree)
 |dead (n:Nat)
 |loop (ini:List SV) (t:Tree)
 |next (d:Nat) (l:List SV)
 |join (n:Nat) (t u:Tree)
 |mk (id i:Nat) (o:Oper) (args:List SV) (t:Tree)
 |rf (g:SV) (np:Nat) (ini:List SV) (tb ta te:Tree)
 |both (t u:Tree)
def a3G:Value->Bool| .agg _| .tuple _=>false|_=>true
def a2u:Value->Bool| .bool b=>b|_=>false
def b2R:BinOp->Bool| .eql| .neq| .lss| .leq| .gtr| .geq=>true|_=>false
def a2U (o:BinOp) (k:IntKind) (a b:Int):Value:=
 match o with
 | .add=> .int k (k.wrap (a+b))
 | .sub=> .int k (k.wrap (a-b))
 | .mul=> .int k (k.wrap (a*b))
 | .quo=> .int k (k.wrap (a.tdiv b))
 | .rem=> .int k (a.tmod b)
 | .and=> .int k (k.wrap (BitVec.ofInt k.bits a&&&BitVec.ofInt k.bits b).toNat)
 | .or=> .int k (k.wrap (BitVec.ofInt k.bits a|||BitVec.ofInt k.bits b).toNat)
 | .xor=> .int k (k.wrap (BitVec.ofInt k.bits a^^^BitVec.ofInt k.bits b).toNat)
 | .andNot=> .int k (k.wrap (BitVec.ofInt k.bits a&&& ~~~BitVec.ofInt k.bits b).toNat)
 | .shl=> .int k (k.wrap (a*2^(min b.toNat k.bits)))
 | .shr=> .int k (a.fdiv (2^(min b.toNat k.bits)))
 | .eql=> .bool (a==b)
 | .neq=> .bool (a !=b)
 | .lss=> .bool (a<b)
 | .leq=> .bool (a<=b)
 | .gtr=> .bool (a>b)
 | .geq=> .bool (a≥b)
def unV (o:UnOp) (k:IntKind) (a:Int):Value:=
 match o with
 | .neg=> .int k (k.wrap (0-a))
 |_=> .int k (k.wrap (BitVec.ofInt k.bits (if k.signed then -1 else k.max)^^^BitVec.ofInt k.bits a).toNat)
def c3E (i:Nat):Value->Value| .tuple vs=>vs.getD i undef|_=>undef
def spl:Array Value->Nat->List Value->Array Value
 |cs,_,[]=>cs
 |cs,q,y::ys=>spl (cs.setIfInBounds q y) (q+1) ys
def a0G (P:Program) (t:TypeId):Value:=((P.info? t).bind (·.zero)).getD undef
def a2G (v:Value):Nat:=(intOf v).toNat
def D (P:Program) (ρ:List Value):SV->Value
 | .v i=>ρ.getD i undef
 | .k c=>c
 | .z t=>a0G P t
 | .ag x=> .agg (D P ρ x).cells
 | .cell x o s i=>(D P ρ x).cells.getD (o+s*a2G (D P ρ i)) undef
 | .sub x o n s i=> .agg ((D P ρ x).cells.extract (o+s*a2G (D P ρ i)) (o+s*a2G (D P ρ i)+n))
 | .put x o _ y s i=> .agg (spl (D P ρ x).cells (o+s*a2G (D P ρ i)) (D P ρ y).cells.toList)
 | .cat x _ y=> .agg ((D P ρ x).cells++(D P ρ y).cells)
 | .proj x i=>c3E i (D P ρ x)
 | .op2 o k x y=>a2U o k (intOf (D P ρ x)) (intOf (D P ρ y))
 | .op1 o k x=>unV o k (intOf (D P ρ x))
 | .nt x=> .bool (!a2u (D P ρ x))
 | .cv k x=> .int k (k.wrap (intOf (D P ρ x)))
 | .ite c x y=>if a2u (D P ρ c)then D P ρ x else D P ρ y
 | .eqb n x y=> .bool (n !=(a2u (D P ρ x)==a2u (D P ρ y)))
def a0p (cs:Array Value):Prop:=∀c∈cs.toList,a3G c=true
def Rq.holds (P:Program) (ρ:List Value):Rq->Prop
 | .int k x=>∃n,D P ρ x= .int k n
 | .num x=>∃k n,D P ρ x= .int k n
 | .bool x=>∃b,D P ρ x= .bool b
 | .cells n x=>(D P ρ x).cells.size=n/\a0p (D P ρ x).cells
 | .agg n x=>∃cs,D P ρ x= .agg cs/\cs.size=n
 | .tup n x=>∃vs,D P ρ x= .tuple vs/\n<vs.size
 | .nz x=>intOf (D P ρ x)≠0
 | .nn x=>0<=intOf (D P ρ x)
 | .lt n x=>0<=intOf (D P ρ x)/\intOf (D P ρ x)<n
 | .isb b x=>D P ρ x= .bool b
def d6b:Value->Value->Bool
 | .bool a,.bool b=>a==b
 | .int k a,.int l b=>k==l&&a==b
 | .tuple a,.tuple b=>a.size==0&&b.size==0
 | .string a,.string b=>a.data.toList==b.data.toList
 | .func (.func f) a b,.func (.func g) c d=>f==g&&a.size==0&&b.size==0&&c.size==0&&d.size==0
 | .slice none l c,.slice none l' c'=>l==l'&&c==c'
 | .pointer none,.pointer none=>true
 | .map none,.map none=>true
 | .nilIface,.nilIface=>true
 | .nilFunc,.nilFunc=>true
 |_,_=>false
def SV.beq:SV->SV->Bool
 | .v i,.v j=>i==j
 | .k c,.k d=>d6b c d
 | .z t,.z u=>t==u
 | .ag x,.ag y=>x.beq y
 | .cell x o s i,.cell y p t j=>x.beq y&&o==p&&s==t&&i.beq j
 | .sub x o n s i,.sub y p m t j=>x.beq y&&o==p&&n==m&&s==t&&i.beq j
 | .put x o n y s i,.put x' o' n' y' s' i'=>x.beq x'&&o==o'&&n==n'&&y.beq y'&&s==s'&&i.beq i'
 | .cat x n y,.cat x' n' y'=>x.beq x'&&n==n'&&y.beq y'
 | .proj x i,.proj y j=>x.beq y&&i==j
 | .op2 o l x y,.op2 o' l' x' y'=>o==o'&&l==l'&&x.beq x'&&y.beq y'
 | .op1 o l x,.op1 o' l' x'=>o==o'&&l==l'&&x.beq x'
 | .nt x,.nt y=>x.beq y
 | .cv l x,.cv l' y=>l==l'&&x.beq y
 | .ite c x y,.ite c' x' y'=>c.beq c'&&x.beq x'&&y.beq y'
 | .eqb n x y,.eqb n' x' y'=>n==n'&&x.beq x'&&y.beq y'
 |_,_=>false
def SL.beq:SL->SL->Bool
 | .x a,.x b=>a.beq b
 | .p b o s i,.p b' o' s' i'=>b==b'&&o==o'&&s==s'&&i.beq i'
 | .u,_=>true
 |_,_=>false
def Rq.beq:Rq->Rq->Bool
 | .int k x,.int l y=>k==l&&x.beq y
 | .num x,.num y=>x.beq y
 | .bool x,.bool y=>x.beq y
 | .cells n x,.cells m y=>n==m&&x.beq y
 | .agg n x,.agg m y=>n==m&&x.beq y
 | .tup n x,.tup m y=>n==m&&x.beq y
 | .nz x,.nz y=>x.beq y
 | .nn x,.nn y=>x.beq y
 | .lt n x,.lt m y=>n==m&&x.beq y
 | .isb b x,.isb c y=>b==c&&x.beq y
 |_,_=>false
def SV.lt (n:Nat):SV->Bool
 | .v i=>decide (i<n)
 | .k _| .z _=>true
 | .ag x| .proj x _| .op1 _ _ x| .nt x| .cv _ x=>x.lt n
 | .cell x _ _ i| .sub x _ _ _ i=>x.lt n&&i.lt n
 | .put x _ _ y _ i=>x.lt n&&y.lt n&&i.lt n
 | .cat x _ y| .op2 _ _ x y| .eqb _ x y=>x.lt n&&y.lt n
 | .ite c x y=>c.lt n&&x.lt n&&y.lt n
def SL.lt (n:Nat):SL->Bool
 | .x s=>s.lt n
 | .p _ _ _ i=>i.lt n
 | .u=>true
def Rq.sv:Rq->SV
 | .int _ x| .num x| .bool x| .cells _ x| .agg _ x| .tup _ x| .nz x| .nn x| .lt _ x| .isb _ x=>x
def noI:SV:= .k undef
def c8L (k:IntKind):SV->Bool
 | .k (.int l _)=>k==l
 | .op2 o l _ _=> !b2R o&&k==l
 | .op1 _ l _=>k==l
 | .cv l _=>k==l
 |_=>false
def c3F:SV->Bool
 | .k (.int _ _)=>true
 | .op2 o _ _ _=> !b2R o
 | .op1 _ _ _| .cv _ _=>true
 |_=>false
def b4a:SV->Bool
 | .k (.bool _)=>true
 | .op2 o _ _ _=>b2R o
 | .nt _=>true
 | .eqb _ _ _=>true
 |_=>false
def b2S (x:SV):Bool:=c3F x||b4a x||(match x with| .k (.string _)=>true|_=>false)
def d6c:Value->Bool| .agg _=>true|_=>false
def c3G (P:Program):SV->Bool
 | .ag _| .sub _ _ _ _ _| .put _ _ _ _ _ _| .cat _ _ _=>true
 | .z t=>d6c (a0G P t)
 | .k c=>d6c c
 |_=>false
def b4b (n:Nat) (v:Value):Bool:=v.cells.size==n&&v.cells.toList.all a3G
def has (kn:List Rq) (r:Rq):Bool:=kn.any (·.beq r)
def a4G:List Rq->SV->Option Nat
 |[],_=>none
 | .cells n y::r,x=>if y.beq x then some n else a4G r x
 |_::r,x=>a4G r x
def a0M (P:Program) (kn:List Rq):SV->Nat->Bool
 | .z t,n=>b4b n (a0G P t)
 | .ag x,n=>a0M P kn x n
 | .cat x m y,n=>a0M P kn x m&&decide (m<=n)&&a0M P kn y (n-m)||has kn (.cells n (.cat x m y))
 | .put x o m y s i,n=>(a0M P kn x n&&a0M P kn y m)||has kn (.cells n (.put x o m y s i))
 | .k c,n=>b4b n c
 | .sub x o m s i,n=>(s==0&&m==n&&(match a4G kn x with|some N=>decide (o+m<=N)|none=>false))||has kn (.cells n (.sub x o m s i))
 |x,n=>(n==1&&b2S x)||has kn (.cells n x)
def ev (P:Program) (kn:List Rq):Rq->Bool
 | .int k x=>c8L k x||has kn (.int k x)
 | .num x=>c3F x||has kn (.num x)
 | .bool x=>b4a x||(has kn (.bool x)||(has kn (.isb true x)||has kn (.isb false x)))
 | .cells n x=>a0M P kn x n
 | .agg n x=>(c3G P x&&a0M P kn x n)||has kn (.agg n x)
 | .tup n x=>has kn (.tup n x)
 | .nz (.k (.int _ m))=>m !=0
 | .nz x=>has kn (.nz x)
 | .nn (.k (.int _ m))=>decide (0<=m)
 | .nn x=>has kn (.nn x)
 | .lt n (.k (.int _ m))=>decide (0<=m/\m<n)
 | .lt n x=>has kn (.lt n x)
 | .isb b (.k (.bool c))=>b==c
 | .isb b x=>has kn (.isb b x)
def c8M (P:Program) (x:SV):SV:=if c3G P x then x else .ag x
def c8N (c x y:SV):SV:=match c with| .k (.bool true)=>x| .k (.bool false)=>y|_=> .ite c x y
def b0S (P:Program) (kn:List Rq) (o n:Nat):SV->SV
 | .cat x m y=>if o=0/\n=m/\a0M P kn x m then c8M P x else if m<=o/\a0M P kn x m then b0S P kn (o-m) n y else if o+n<=m/\a0M P kn x m then .sub x o n 0 noI else .sub (.cat x m y) o n 0 noI
 | .ag x=>b0S P kn o n x
 |x=>if o=0/\a0M P kn x n then c8M P x else .sub x o n 0 noI
def a6f (P:Program) (kn:List Rq) (o:Nat):SV->SV
 | .cat x m y=>if m<=o/\a0M P kn x m then a6f P kn (o-m) y else if o=0/\b2S x then x else if o<m/\a0M P kn x m then .cell x o 0 noI else .cell (.cat x m y) o 0 noI
 | .ag x=>a6f P kn o x
 |x=>if o=0/\b2S x then x else .cell x o 0 noI
def b2T (P:Program) (kn:List Rq) (sf:Bool) (N o n:Nat) (y:SV):SV->SV
 | .cat x m r=>if o=0/\n=m/\a0M P kn x m then .cat y n r
   else if m<=o/\a0M P kn x m then .cat x m (b2T P kn sf (N-m) (o-m) n y r)
   else .put (.cat x m r) o n y 0 noI
 | x => if o = 0 /\ n = N then y else if sf then
    (if o=0 then .cat y n (.sub x n (N-n) 0 noI)else if o+n=N then .cat (.sub x 0 o 0 noI) o y else .cat (.sub x 0 o 0 noI) o (.cat y n (.sub x (o+n) (N-(o+n)) 0 noI)))
   else .put x o n y 0 noI
def b5I:List Value->List Value->Bool
 |[],[]=>true
 |a::l,b::r=>d6b a b&&b5I l r
 |_,_=>false
def c8O:List (Nat×SV)->SV
 |[]=> .k (.agg #[])
 |[(_,x)]=>x
 |(n,x)::r=> .cat x n (c8O r)
def exZ (P:Program) (T:TypeId):SV:=
 match P.underlying T with
 |some (.struct fs)=>
  if fs.size≥2/\b5I (a0G P T).cells.toList (fs.toList.flatMap fun f=>(a0G P f.type).cells.toList)then c8O (fs.toList.map fun f=>((a0G P f.type).cells.size,.z f.type))else .z T
 |_=> .z T
structure Blk where
 c:SV
 T:TypeId
 n:Nat
structure Jn where
 kd:Nat
 key:Nat
 ts:List Nat
 bs:List Nat
def b5J:List Jn->Nat->Nat->Option Jn
 |[],_,_=>none
 |j::r,kd,key=>if j.kd==kd&&j.key==key then some j else b5J r kd key
structure St where
 es:List Nat
 am:List (Nat×Bool)
 js:List Jn
 sl:List SL
 bl:List Blk
 kn:List Rq
 kb:List (SV×Bool)
 n:Nat
 d:Nat
 rd:Bool:=false
def St.get (st:St):Operand->Option SL
 | .tmp t=>st.sl[t]?
 | .const c=>some (.x (.k c))
 | .func f=>some (.x (.k (.func (.func f) #[] #[])))
 | .global g=>some (.x (.k (.pointer (some ⟨g,0,none⟩))))
def St.val (st:St) (x:Operand):Option SV:=match st.get x with|some (.x s)=>some s|_=>none
def St.set (st:St) (d:Option Tmp) (s:SL):St:=match d with|some t=>{st with sl:=st.sl.set t s}|none=>st
def b0T:List (SV×Bool)->SV->SV
 |[],c=>c
 |(x,b)::r,c=>if x.beq c then .k (.bool b)else b0T r c
def St.know (st:St) (P:Program) (c:SV) (b:Bool):St:={st with kb:=(match c with| .nt x=>if ev P st.kn (.bool x)then[(c,b),(x,!b)]else[(c,b)]|_=>[(c,b)])++st.kb}
inductive Res where
 |val (s:SL)
 |new (c:SV) (T n:Nat)
 |sto (b:Nat) (c:SV)
 |call (f:FuncId) (args:List SV)
 |prim (args:List SV)
 |eff (args:List SV)
 |ext (f:FuncId) (args:List SV)
 |mk (args:List SV)
 |bad
def a2h (P:Program) (t:TypeId):Bool:=(P.info? t).isSome&&(P.underlying t).isSome
def a0F (P:Program) (t:TypeId):Bool:=match P.underlying t with|some (.struct _)|some (.array _ _)=>true|_=>false
def c3H (P:Program) (t:TypeId):Option IntKind:=match P.underlying t with|some (.int k)=>some k|_=>none
def b7o (P:Program) (t:TypeId):Bool:=match P.underlying t with|some (.struct _)=>true|_=>false
def c3I (P:Program) (t:TypeId):Bool:=match P.underlying t with|some .bool=>true|_=>false
def a3t (st:St):List Operand->Option (List SV)
 |[]=>some []
 |x::r=>match st.val x,a3t st r with|some s,some l=>some (s::l)|_,_=>none
def a9v (P:Program) (T:TypeId):Option (Nat->Option (Nat×Nat)):=
 match P.underlying T with
 |some (.struct fs)=>some fun i=>(fs[i]?).map fun f=>(f.offset,P.cellsOf f.type)
 |some (.array _ e)=>some fun i=>some (i*P.cellsOf e,P.cellsOf e)
 |_=>none
def b7p (P:Program) (T:TypeId):Bool:=
 match P.underlying T with
 |some (.struct fs)=>fs.all fun f=>a2h P f.type
 |some (.array _ e)=>a2h P e
 |_=>false
def a1u (P:Program) (o:Oper):Nat:=
 match o.op with
 | .move _| .assign _| .pick _ _ _| .build _ _| .unOp _ _ _| .field _ _ _| .extract _ _=>0
 | .index t _ _=>match P.underlying t with|some (.array _ _)=>0|_=>1
 | .binOp op t _ _ _=>if(c3H P t).isSome||(c3I P t&&(op== .eql||op== .neq))then 0 else 1
 | .convert s d _=>if(c3H P s).isSome&&(c3H P d).isSome then 0 else 1
 | .load _ _| .fieldAddr _ _ _| .indexAddr _ _ _| .lookup _ _ _ _| .slice _ _ _ _ _| .makeInterface _ _| .sliceToArrayPointer _ _| .nilCheck _| .typeAssert _ _ _ _=>1
 | .alloc _| .box _ _=>3
 | .store _ _ _| .insert _ _ _ _| .mapUpdate _ _ _ _| .panic _=>4
 | .call {callee:= .builtin .len,.. }| .call {callee:= .builtin .min,.. }| .call {callee:= .builtin .max,.. }| .call {callee:= .builtin .unsafeSliceData,.. }=>1
 |_=>2
def bad:List Rq×Res:=([],.bad)
def c3J (st:St) (x:Operand):List Rq×Res:=match st.get x with|some s=>([],.val s)|none=>bad
def c8P (st:St) (c a b:Operand):List Rq×Res:=match st.val c,st.val a,st.val b with
 |some c,some a,some b=>([.bool c],.val (.x (c8N (b0T st.kb c) a b)))
 |_,_,_=>bad
def b7q (P:Program) (T:TypeId):List Rq×Res:=match(P.info? T).bind (·.zero)with
 |some z=>([.cells z.cells.size (.z T)],.new (.z T) T z.cells.size)
 |none=>bad
def d6q (P:Program) (st:St) (T:TypeId) (x:Operand):List Rq×Res:=match st.val x with
 |some x=>([.cells (P.cellsOf T) x],.new x T (P.cellsOf T))
 |none=>bad
def b7r (P:Program) (st:St) (T:TypeId) (B:Blk) (q s:Nat) (i:SV):List Rq×Res:=
 if a2h P T=false then bad else
 if s=0 then
  if a0F P T then
   if q+P.cellsOf T<=B.n then([],.val (.x (if q=0/\P.cellsOf T=B.n then c8M P B.c else b0S P st.kn q (P.cellsOf T) B.c)))else bad
  else if q+P.cellsOf T<=B.n/\q<B.n then([],.val (.x (a6f P st.kn q B.c)))else bad
 else if q+P.cellsOf T<=B.n/\0<P.cellsOf T then
  ([.num i,.lt ((B.n-q-P.cellsOf T)/s+1) i],.val (.x (if a0F P T then .sub B.c q (P.cellsOf T) s i else .cell B.c q s i)))
 else bad
def a9w (P:Program) (st:St) (T:TypeId) (a:Operand):List Rq×Res:=match st.get a with
 |some (.p b q s i)=>match st.bl[b]? with
  |some B=>b7r P {st with kn:= .cells B.n B.c::st.kn} T B q s i
  |none=>bad
 |some (.x a)=>([],.prim [a])
 |_=>bad
def b2U (P:Program) (st:St) (T:TypeId) (B:Blk) (b q s:Nat) (i x:SV):List Rq×Res:=
 if a2h P T=false then bad else
 if q+P.cellsOf T<=B.n then
  if s=0 then([.cells (P.cellsOf T) x],.sto b (b2T P st.kn (b7o P B.T) B.n q (P.cellsOf T) x B.c))
  else([.cells (P.cellsOf T) x,.num i,.lt ((B.n-q-P.cellsOf T)/s+1) i],.sto b (.put B.c q (P.cellsOf T) x s i))
 else bad
def a6Y (P:Program) (st:St) (T:TypeId) (a x:Operand):List Rq×Res:=match st.get a,st.val x with
 |some (.p b q s i),some x=>match st.bl[b]? with
  |some B=>b2U P {st with kn:= .cells B.n B.c::st.kn} T B b q s i x
  |none=>bad
 |some (.x a),some x=>([],.eff [a,x])
 |_,_=>bad
def a4g (P:Program) (st:St) (S:TypeId) (a:Operand) (f:Nat):List Rq×Res:=match st.get a with
 |some (.p b q s i)=>match P.underlying S with
  |some (.struct fs)=>match fs[f]? with
   |some fd=>if P.cellsOf fd.type=0\/a2h P fd.type=false then bad else([],.val (.p b (q+fd.offset) s i))
   |none=>bad
  |_=>bad
 |some (.x a)=>([],.prim [a])
 |_=>bad
def a4h (P:Program) (st:St) (T:TypeId) (a ix:Operand):List Rq×Res:=match st.get a,st.val ix with
 |some (.p b q s _),some j=>match P.underlying T with
  |some (.array len e)=>
   if s≠0\/a2h P e=false then bad else
   match j with
   | .k (.int _ m)=>if 0<=m/\m<len then([],.val (.p b (q+m.toNat*P.cellsOf e) 0 noI))else bad
   |j=>if P.cellsOf e=0 then bad else([.num j,.lt len j],.val (.p b q (P.cellsOf e) j))
  |_=>bad
 |some (.x a),some j=>([],.prim [a,j])
 |_,_=>bad
def b7s (P:Program) (st:St) (S:TypeId) (x:Operand) (f:Nat):List Rq×Res:=match st.val x with
 |some x=>match P.underlying S with
  |some (.struct fs)=>match fs[f]? with
   |some fd=>if fd.offset+P.cellsOf fd.type<=P.cellsOf S/\0<P.cellsOf fd.type/\a2h P fd.type=true then([.agg (P.cellsOf S) x],.val (.x (if a0F P fd.type then b0S P st.kn fd.offset (P.cellsOf fd.type) x else a6f P st.kn fd.offset x)))else bad
   |none=>bad
  |_=>bad
 |none=>bad
def b7t (P:Program) (st:St) (T:TypeId) (x ix:Operand):List Rq×Res:=match st.val x,st.val ix with
 |some x,some j=>match P.underlying T with
  |some (.array len e)=>
   if len*P.cellsOf e<=P.cellsOf T/\0<P.cellsOf e/\a2h P e=true then
    match j with
    | .k (.int _ m)=>if 0<=m/\m<len then([.agg (P.cellsOf T) x],.val (.x (if a0F P e then b0S P st.kn (m.toNat*P.cellsOf e) (P.cellsOf e) x else a6f P st.kn (m.toNat*P.cellsOf e) x)))else bad
    |j=>([.agg (P.cellsOf T) x,.num j,.lt len j],.val (.x (if a0F P e then .sub x 0 (P.cellsOf e) (P.cellsOf e) j else .cell x 0 (P.cellsOf e) j)))
   else bad
  |some .string=>([],.prim [x,j])
  |_=>bad
 |_,_=>bad
def b0U (st:St):List (Nat×Operand)->Option (List (Nat×SV))
 |[]=>some []
 |(i,x)::r=>match st.val x,b0U st r with|some s,some l=>some ((i,s)::l)|_,_=>none
def b0V (pl:Nat->Option (Nat×Nat)):List (Nat×SV)->Option (List (Nat×Nat×SV))
 |[]=>some []
 |(i,x)::r=>match pl i,b0V pl r with|some (q,n),some l=>some ((q,n,x)::l)|_,_=>none
def b7u (P:Program) (st:St) (T:TypeId) (parts:List (Nat×Operand)):List Rq×Res:=
 match b0U st parts,a9v P T with
 |some ps,some pl=>match b0V pl ps with
  |some l=>if(l.all fun p=>decide (p.1+p.2.1<=P.cellsOf T))&&b7p P T&&(P.info? T).any (·.zero.isSome)then(.cells (P.cellsOf T) (.z T)::l.map (fun p=> .cells p.2.1 p.2.2),.val (.x (c8M P (l.foldl (fun acc p=>b2T P st.kn (b7o P T) (P.cellsOf T) p.1 p.2.1 p.2.2 acc) (exZ P T)))))else bad
  |none=>bad
 |_,_=>bad
def a9x (st:St) (x:Operand) (i:Nat):List Rq×Res:=match st.val x with
 |some x=>([.tup i x],.val (.x (.proj x i)))
 |none=>bad
def d6r (op:BinOp):Bool:=op== .shl||op== .shr
def d6s (op:BinOp):Bool:=op== .quo||op== .rem
def d6d (op:BinOp):Bool:=op== .eql||op== .neq
def d6t (P:Program) (st:St) (op:BinOp) (T:TypeId) (x y:Operand):List Rq×Res:=match st.val x,st.val y with
 |some x,some y=>match c3H P T with
  |some k=>if d6r op then([.int k x,.num y,.nn y],.val (.x (.op2 op k x y)))else([.int k x,.int k y]++(if d6s op then[.nz y]else[]),.val (.x (.op2 op k x y)))
  |none=>if c3I P T&&d6d op then([.bool x,.bool y],.val (.x (.eqb (op== .neq) x y)))else([],.prim [x,y])
 |_,_=>bad
def d6u (x:SV):SV:=match x with| .k (.bool b)=> .k (.bool (!b))|x=> .nt x
def sUn (P:Program) (st:St) (op:UnOp) (T:TypeId) (x:Operand):List Rq×Res:=match st.val x with
 |some x=>match op with
  | .not=>([.bool x],.val (.x (d6u x)))
  | .plus=>bad
  |op=>match c3H P T with
   |some k=>([.int k x],.val (.x (.op1 op k x)))
   |none=>bad
 |none=>bad
def c8Q (P:Program) (st:St) (s d:TypeId) (x:Operand):List Rq×Res:=match st.val x with
 |some x=>match c3H P s,c3H P d with
  |some k,some l=>([.int k x],.val (.x (.cv l x)))
  |_,_=>([],.prim [x])
 |none=>bad
def b7v:Builtin->Bool| .len| .min| .max| .unsafeSliceData=>true|_=>false
def c8R (P:Program) (st:St) (c:Call):List Rq×Res:=match c.callee with
 | .value (.func f)=>match a3t st c.args.toList with
  |some l=>match(P.funcs[f]?).bind (·.body)with
   |some _=>if((P.funcs[f]?).map (·.name))==some "runtime.NumGoroutine" then bad else([],.call f l)
   |none=>([],.ext f l)
  |none=>bad
 | .builtin b=>match a3t st c.args.toList with
  |some l=>if b7v b then([],.prim l)else([],.eff l)
  |none=>bad
 | .value f=>match a3t st (f::c.args.toList)with
  |some l=>([],.eff l)
  |none=>bad
 | .invoke _ _=>bad
def b4c:Op->Bool| .lookup _ _ _ _| .slice _ _ _ _ _| .makeInterface _ _| .sliceToArrayPointer _ _| .nilCheck _| .typeAssert _ _ _ _=>true|_=>false
def c3K:Op->Bool| .insert _ _ _ _| .mapUpdate _ _ _ _| .mapEntry _ _ _| .entryStore _ _ _ _| .buildSlice _ _ _| .makeSlice _ _ _| .makeMap _ _| .makeFunc _ _ _| .range _ _| .next _ _| .entry _| .panic _=>true|_=>false
def b0W (st:St) (op:Op):List Rq×Res:=match a3t st op.operands.toList with
 |some l=>if b4c op then([],.prim l)else if c3K op then([],.eff l)else bad
 |none=>bad
def d3H (st:St) (d:Option Tmp):Bool:=match d with|some t=>st.es.contains t|none=>false
def mkB (st:St) (o:Oper):Bool:=match o.op with| .buildSlice _ _ _| .makeSlice _ _ _| .makeMap _ _=>d3H st o.dst|_=>false
def sMk (st:St) (op:Op):List Rq×Res:=match a3t st op.operands.toList with
 |some l=>([],.mk l)
 |none=>bad
def a1K (P:Program) (st:St) (o:Oper):List Rq×Res:=
 match o.op with
 | .move x=>c3J st x
 | .assign x=>c3J st x
 | .pick c a b=>c8P st c a b
 | .alloc T=>b7q P T
 | .box T x=>d6q P st T x
 | .load T a=>a9w P st T a
 | .store T a x=>a6Y P st T a x
 | .fieldAddr S a f=>a4g P st S a f
 | .indexAddr T a ix=>a4h P st T a ix
 | .field S x f=>b7s P st S x f
 | .index T x ix=>b7t P st T x ix
 | .build T parts=>b7u P st T parts.toList
 | .extract x i=>a9x st x i
 | .binOp op T x y _=>d6t P st op T x y
 | .unOp op T x=>sUn P st op T x
 | .convert s d x=>c8Q P st s d x
 | .call c=>c8R P st c
 |op=>if mkB st o then sMk st op else b0W st op
def a3b (P:Program):List Rq->St->(St->Option Tree)->Option Tree
 |[],st,k=>k st
 |r::rs,st,k=>if ev P st.kn r then a3b P rs st k else(a3b P rs {st with kn:=r::st.kn} k).map (Tree.rq r)
def a6A (st:St):Bool:=st.sl.all (·.lt st.n)&&st.bl.all (·.c.lt st.n)&&st.kn.all (·.sv.lt st.n)&&st.kb.all (·.1.lt st.n)
def a4v (st:St) (d:Option Tmp):St:=St.set {st with n:=st.n+1} d (.x (.v st.n))
def c3L (P:Program) (pf:Bool) (id i:Nat) (o:Oper) (st:St) (k:St->Option Tree):Option Tree:=
 let(rs,r):=a1K P st o
 a3b P rs st fun st=>match r with
  | .val s=>k (st.set o.dst s)
  | .new c T n=>if d3H st o.dst then(if a6A st&&c.lt st.n then(k (a4v st o.dst)).map (Tree.pub T c)else none)else k (St.set {st with bl:=st.bl++[Blk.mk c T n]} o.dst (.p st.bl.length 0 0 noI))
  | .sto b c=>match st.bl[b]? with
   |some B=>k (St.set {st with bl:=st.bl.set b {B with c:=c}} o.dst (.x (.k undef)))
   |none=>none
  | .call f args=>if a6A st&&args.all (·.lt st.n)then(k (a4v st o.dst)).map (Tree.call pf f args)else none
  | .prim args=>if a6A st&&args.all (·.lt st.n)then(k (a4v st o.dst)).map (Tree.prim id i o args)else none
  | .eff args=>if a6A st&&args.all (·.lt st.n)then(k (a4v st o.dst)).map (Tree.eff pf id i o args)else none
  | .ext f args=>if a6A st&&args.all (·.lt st.n)then(k (a4v st o.dst)).map (Tree.ext f args)else none
  | .mk args=>if a6A st&&args.all (·.lt st.n)then(k (a4v st o.dst)).map (Tree.mk id i o args)else none
  | .bad=>some (.dead (777000000+1000*id+i))
def d3s (st:St) (x:Operand):Option Nat:=match st.get x with|some (.p b _ _ _)=>some b|_=>none
def a2V (st:St) (o:Oper):Bool:=match o.op with| .fieldAddr _ a _=>(d3s st a).isSome| .indexAddr _ a _=>(d3s st a).isSome|_=>false
def b4d:Res->Bool| .prim _=>true|_=>false
def d7Z:Res->Bool| .sto _ _=>true|_=>false
def frS (tg:Nat):Res->Bool| .sto b _=>tg !=0&&decide (tg<=b)|_=>true
def a6Z (P:Program) (st:St) (o:Oper) (k tg:Nat):Bool:=
 match k with
 |0=>a1u P o==0||a2V st o
 |1=>decide (a1u P o<=1)
 |2=>a1u P o==2&& !mkB st o
 |3=>a1u P o==3||mkB st o
 |4=>true
 |5=>match o.op with| .load _ a=>d3s st a==some tg|_=>false
 |6=>match o.op with| .store _ a _=>d3s st a==some tg|_=>false
 |7=>b4d (a1K P st o).2
 |8=>frS tg (a1K P st o).2
 |9=>b4d (a1K P st o).2&&a9u o.op
 |10=>c3D P o.op
 |_=>false
def b2V (P:Program) (pf:Bool) (ck:Nat->Oper->St->Bool) (id i:Nat) (o:Oper) (st:St) (k:St->Option Tree):Option Tree:=
 if ck i o st then c3L P pf id i o st k else some (.dead (778000000+1000*id+i))
def d6v:List (Nat×Bool)->Nat->Option Bool
 |[],_=>none
 |(t,b)::r,u=>if t==u then some b else d6v r u
def amO (am:List (Nat×Bool)):Operand->Option Bool
 | .tmp t=>d6v am t
 |_=>none
def a6g (P:Program) (pf:Bool) (ck:Nat->Oper->St->Bool) (ops:Array Oper) (id:Nat) (k:St->Option Tree):List Nat->St->Option Tree
 |[],st=>k st
 |i::L,st=>match ops[i]? with
  |none=>none
  |some o=>match o.guard with
   |none=>b2V P pf ck id i o st (a6g P pf ck ops id k L)
   |some (j,want)=>match((ops[j]?).bind (·.dst)).bind (st.sl[·]?)with
    |some (.x c)=>match b0T st.kb c with
     | .k (.bool b)=>if b==want then b2V P pf ck id i o st (a6g P pf ck ops id k L)else a6g P pf ck ops id k L (st.set o.dst (.x (.k undef)))
     | .k (.tuple _)=>a6g P pf ck ops id k L (st.set o.dst (.x (.k undef)))
     |c=>match d6v st.am (((ops[j]?).bind (·.dst)).getD 0)with
     |some b=>a3b P [.isb b c] st fun st=>if b==want then b2V P pf ck id i o (st.know P c b) (a6g P pf ck ops id k L)else a6g P pf ck ops id k L ((st.know P c b).set o.dst (.x (.k undef)))
     |none=>a3b P [.bool c] st fun st=>
      match b2V P pf ck id i o (st.know P c want) (a6g P pf ck ops id k L),a6g P pf ck ops id k L ((st.know P c (!want)).set o.dst (.x (.k undef)))with
      |some t1,some t2=>some (if want then .br c t1 t2 else .br c t2 t1)
      |_,_=>none
    |_=>none
structure b0K where
 id:Nat
 an:List Nat
 ks:List Nat
 ts:List Nat
 F:List Nat
 T:List Nat
def b7w:List b0K->Nat->Option b0K
 |[],_=>none
 |c::C,id=>if c.id==id then some c else b7w C id
def ckC (P:Program) (c:b0K) (i:Nat) (o:Oper) (st:St):Bool:=a6Z P st o (c.ks.getD i 99) (c.ts.getD i 0)
def tgB (n0:Nat) (c:b0K):Bool:=(List.range c.ks.length).all fun i=>(!(c.ks.getD i 99==5||c.ks.getD i 99==6)||decide (c.ts.getD i 0<n0))&&(!(c.ks.getD i 99==8)||(c.ts.getD i 0==0||decide (n0<=c.ts.getD i 0)))
def b7x (st:St) (ops:Array Oper) (c:b0K):Bool:=
 c.an==a9t ops.toList []&&tgB st.bl.length c&&c7u ops c.an (fun i=>c.ks.getD i 99) (fun i=>c.ts.getD i 0) c.F c.T
def a6h:Code->List Nat
 | .region _ ops _=>ops.toList.filterMap (·.dst)
 | .seq a b=>a6h a++a6h b
 | .cond _ a b=>a6h a++a6h b
 | .block _ a=>a6h a
 | .loop a=>a6h a
 | .scope a=>a6h a
 |_=>[]
def a3c:Code->Bool
 | .region _ ops _=>ops.any fun o=>match o.op with| .store .. =>true|_=>false
 | .seq a b=>a3c a||a3c b
 | .cond _ a b=>a3c a||a3c b
 | .block _ a=>a3c a
 | .loop a=>a3c a
 | .scope a=>a3c a
 | .rangeFunc _ _ a c=>a3c a||a3c c
 |_=>false
def c8S:SL->Bool| .x (.k (.tuple _))=>false| .x _=>true|_=>false
def a7a (sl:List SL) (ws:List Nat):List Nat:=ws.filter fun t=>match sl[t]? with|some s=>c8S s|none=>false
def b7y (sl:List SL) (ws:List Nat):List Nat:=ws.filter fun t=>match sl[t]? with|some s=> !c8S s|none=>false
def a6i (sl:List SL) (ts:List Nat) (s:SL):List SL:=ts.foldl (fun sl t=>sl.set t s) sl
def a5c:List Nat->Nat->List SL->List SL
 |[],_,sl=>sl
 |t::ts,n,sl=>a5c ts (n+1) (sl.set t (.x (.v n)))
def a1Z (i:Nat):List Nat->Nat->Option Nat
 |[],_=>none
 |x::l,k=>if x==i then some k else a1Z i l (k+1)
def a7b (bs:List Nat) (n:Nat):List Blk->Nat->List Blk
 |[],_=>[]
 |b::l,i=>(match a1Z i bs 0 with|some k=>{b with c:= .v (n+k)}|none=>b)::a7b bs n l (i+1)
def cAt (bl:List Blk):List Nat->Option (List SV)
 |[]=>some []
 |i::r=>match bl[i]?,cAt bl r with|some B,some l=>some (B.c::l)|_,_=>none
def b0X (bl:List Blk):List Nat->Nat->List Rq
 |[],_=>[]
 |i::r,n=>(match bl[i]? with|some B=>[Rq.cells B.n (.v n)]|none=>[])++b0X bl r (n+1)
def c7w:List Nat->Bool
 |[]=>true
 |x::l=> !l.contains x&&c7w l
def d3I (sl:List SL) (t:Nat):Option SV:=match sl[t]? with|some (SL.x s)=>some s|_=>none
def a6j (sl:List SL):List Nat->Option (List SV)
 |[]=>some []
 |t::ts=>match d3I sl t,a6j sl ts with|some s,some l=>some (s::l)|_,_=>none
def b0Y:List Nat->List Nat
 |[]=>[]
 |x::l=>if l.contains x then b0Y l else x::b0Y l
def b0L (b:Code):List Nat:=b0Y (a6h b)
def a6k (bs:List Nat):List Blk->List Blk->Nat->Bool
 |[],_,_=>true
 |x::l,y::r,i=>x.T==y.T&&x.n==y.n&&(bs.contains i||x.c.beq y.c)&&a6k bs l r (i+1)
 |_::_,[],_=>false
def b5K (ws:List Nat):List SL->List SL->Nat->Bool
 |[],[],_=>true
 |x::a,y::b,i=>(x.beq y||ws.contains i)&&b5K ws a b (i+1)
 |[],_::_,_=>false
 |_::_,[],_=>false
def a7c (ws:List Nat) (a b:List SL):Bool:=b5K ws a b 0
def b7z:Code->Option Nat
 | .region id _ _=>some id
 | .seq a b=>match b7z a with|some k=>some k|none=>b7z b
 | .cond _ a b=>match b7z a with|some k=>some k|none=>b7z b
 | .block _ a=>b7z a
 | .loop a=>b7z a
 | .scope a=>b7z a
 | .rangeFunc _ _ a c=>match b7z c with|some k=>some k|none=>b7z a
 |_=>none
def c8T (st:St) (b:Code):List Nat:=
 if a3c b then match b5J st.js 0 ((b7z b).getD 0)with|some j=>j.bs|none=>List.range st.bl.length else[]
def a2H (st:St) (lv dd bs:List Nat) (δ:Nat):St:=
 {es:=st.es,am:=st.am,js:=st.js,
  sl:=a6i (a5c lv st.n st.sl) dd .u,
  bl:=a7b bs (st.n+lv.length) st.bl 0,
  kn:=b0X st.bl bs (st.n+lv.length)++st.kn,
  kb:=st.kb,
  n:=st.n+lv.length+bs.length,
  d:=st.d+δ,
  rd:=st.rd}
def jn (st:St) (b:Code) (ts bs:List Nat) (run:St->(Exit->St->Option Tree)->Option Tree) (k:Exit->St->Option Tree):Option Tree:=
 if a6A st&&c7w ts&&c7w bs then
  match run {st with d:=st.d+1} (fun e st2=>match e with
    | .normal=>match a6j st2.sl ts,cAt st2.bl bs with
     |some nv,some nb=>if a7c (b0L b) st.sl st2.sl&&a6k bs st.bl st2.bl 0 then some (.next st.d (nv++nb))else some (.dead 807)
     |_,_=>some (.dead 808)
    |e=>k e st2),k .normal (a2H st ts ((b0L b).filter fun t=> !ts.contains t) bs 0)with
  |some t,some u=>some (.join (ts.length+bs.length) t u)
  |_,_=>none
 else none
def c8U:Operand->Nat
 | .tmp t=>t
 |_=>0
def b7A:Code->List Exit
 | .seq a b=>b7A a++b7A b
 | .cond _ a b=>b7A a++b7A b
 | .block id a=>(b7A a).filter fun e=>match e with| .exit j=>j !=id|_=>true
 | .loop a=>b7A a
 | .scope a=>b7A a
 | .exit id=>[.exit id]
 | .ret=>[.ret]
 |_=>[]
def d3t:Exit->List Exit->Bool
 | .ret,.ret::_=>true
 | .exit i,.exit j::_=>i==j
 |_,_=>false
def c7x (st:St) (a b:Code):List Nat:=
 if a3c a||a3c b then match b5J st.js 4 ((b7z b).getD 0)with|some j=>j.bs|none=>List.range st.bl.length else[]
def b0Z (st:St) (bs:List Nat) (j:Nat) (st2:St):Option Tree:=
 match cAt st2.bl bs with
 |some nb=>if a6k bs st.bl st2.bl 0 then some (.next (st.d+j) nb)else some (.dead 820)
 |none=>some (.dead 820)
def b7B (st:St) (ps bs:List Nat):St:={a2H st ps [] bs 2 with rd:=true}
def exR (P:Program) (C:List b0K) (id:Nat) (ops:Array Oper) (draw:Bool) (st:St) (k:Exit->St->Option Tree):Option Tree:=
 match draw with
 |false=>a6g P false (fun _ _ _=>true) ops id (k .normal) (List.range ops.size) st
 |true=>match b7w C (2000000+id)with
  |some p=>match p.F,p.T,b7w C id,b7w C (1000000+id)with
   |[x],[y],some c1,some c2=>if x !=y&&(b7x st (a4Z ops y x) c1&&b7x st (a4Z ops x y) c2)then
     match a6g P true (ckC P c1) ops id (fun st'=>a6g P false (ckC P c1) ops id (k .normal) c1.T st') c1.F st,a6g P true (ckC P c2) ops id (fun st'=>a6g P false (ckC P c2) ops id (k .normal) c2.T st') c2.F st with
     |some t1,some t2=>some (.both t1 t2)
     |_,_=>none
    else some (.dead (806000000+id))
   |_,_,_,_=>some (.dead (806500000+id))
  |none=>match b7w C id with
  |some c=>if b7x st ops c then a6g P true (ckC P c) ops id (fun st'=>a6g P false (ckC P c) ops id (k .normal) c.T st') c.F st else some (.dead (805000000+id))
  |none=>some (.dead (805500000+id))
def ex (P:Program) (C:List b0K):Code->St->(Exit->St->Option Tree)->Option Tree
 | .skip,st,k=>k .normal st
 | .region id ops draw,st,k=>match b5J st.js 3 id with
  |some j=>jn st (.region id ops draw) j.ts j.bs (exR P C id ops draw) k
  |none=>exR P C id ops draw st k
 | .seq a b,st,k=>ex P C a st fun e st=>match e with| .normal=>ex P C b st k|e=>k e st
 | .cond c t e,st,k=>
  let run:St->(Exit->St->Option Tree)->Option Tree:=fun st k=>match(st.val c).map (b0T st.kb)with
  |some (.k (.bool true))=>ex P C t st k
  |some (.k (.bool false))=>ex P C e st k
  |some s=>match amO st.am c with
   |some true=>a3b P [.isb true s] st fun st=>ex P C t (st.know P s true) k
   |some false=>a3b P [.isb false s] st fun st=>ex P C e (st.know P s false) k
   |none=>a3b P [.bool s] st fun st=>
    match ex P C t (st.know P s true) k,ex P C e (st.know P s false) k with
    |some t1,some t2=>some (.br s t1 t2)
    |_,_=>none
  |none=>none
  match b5J st.js 2 (c8U c)with
  |some j=>jn st (.cond c t e) j.ts j.bs run k
  |none=>run st k
 | .block id b,st,k=>
  let run:St->(Exit->St->Option Tree)->Option Tree:=fun st k=>ex P C b st fun e st=>match e with
   | .exit j=>if j=id then k .normal st else k (.exit j) st
   |e=>k e st
  match b5J st.js 1 id with
  |some j=>jn st (.block id b) j.ts j.bs run k
  |none=>run st k
 | .exit id,st,k=>k (.exit id) st
 | .ret,st,k=>k .ret st
 | .label _,st,k=>k .normal st
 | .scope b,st,k=>ex P C b st fun e st=>match e with| .goto _=>some (.dead 817)|e=>k e st
 | .loop b,st,k=>
  match a6j st.sl (a7a st.sl (b0L b)),cAt st.bl (c8T st b)with
  |some iv,some ib=>
   if a6A st&&c7w (c8T st b)then
    (ex P C b (a2H st (a7a st.sl (b0L b)) (b7y st.sl (b0L b)) (c8T st b) 1) fun e st2=>match e with
     | .normal=>
      match a6j st2.sl (a7a st.sl (b0L b)),cAt st2.bl (c8T st b)with
      |some nv,some nb=>if a7c (b0L b) st.sl st2.sl&&a6k (c8T st b) st.bl st2.bl 0 then some (.next st.d (nv++nb))else some (.dead 806)
      |_,_=>some (.dead 806)
     |e=>k e st2).map (Tree.loop (iv++ib))
   else none
  |_,_=>none
 | .rangeFunc g ps asg body,st,k=>
  match st.rd,st.val g,cAt st.bl (c7x st asg body)with
  |false,some gv,some ib=>
   if a6A st&&c7w (c7x st asg body)&&c7w ps.toList&&ps.toList.all (fun t=>decide (t<st.sl.length))then
    match ex P C asg (b7B st ps.toList (c7x st asg body)) (fun e st1=>match e with
      | .normal=>ex P C body st1 fun e st2=>match e with
       | .normal=>b0Z st (c7x st asg body) 0 st2
       |e=>if d3t e (b7A body)then b0Z st (c7x st asg body) 1 st2 else some (.dead 821)
      |_=>some (.dead 819)),
     k .normal (a2H st [] [] (c7x st asg body) 0),
     (match b7A body with|e0::_=>k e0 (a2H st [] [] (c7x st asg body) 0)|[]=>some (.dead 818))with
    |some tb,some ta,some te=>some (.rf gv ps.size ib tb ta te)
    |_,_,_=>none
   else none
  |_,_,_=>some (.dead 822)
 |_,_,_=>some (.dead 816)
def ldO (T:TypeId) (t:Tmp):Oper:=⟨none,.load T (.tmp t),0, "",#[],none⟩
def c3M (P:Program) (st:St):List ResultVar->List SV->Option Tree
 |[],l=>some (.ret l)
 | .tmp t::r,l=>match st.sl[t]? with
  |some (.x s)=>c3M P st r (l++[s])
  |_=>none
 | .cell t T::r,l=>match a9w P st T (.tmp t)with
  |([],.val (.x s))=>c3M P st r (l++[s])
  |([],.prim [a])=>if a6A st&&a.lt st.n&&l.all (·.lt st.n)then(c3M P (a4v st none) r (l++[.v st.n])).map (Tree.prim 999999 t (ldO T t) [a])else none
  |_=>none
def a0w (P:Program) (E:List Nat) (A:List (Nat×Bool)) (J:List Jn) (C:List b0K) (f:FuncId):Option Tree:=
 match P.funcs[f]? with
 |some fn=>match fn.body with
  |some c=>
   let n:=fn.params.size+fn.nfree
   ex P C c {es:=E,am:=A,js:=J,sl:=(List.range n).map (fun i=> .x (.v i))++List.replicate (fn.ntmps-n) (.x (.k undef)),bl:=[],kn:=[],kb:=[],n,d:=0} fun e st=>match e with
    | .normal| .ret=>c3M P st fn.results.toList []
    |_=>none
  |none=>none
 |none=>none
end Go.RX

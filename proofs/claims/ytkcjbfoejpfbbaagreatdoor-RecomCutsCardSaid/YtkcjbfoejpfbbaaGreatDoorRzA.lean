/- Concrete runs: an evaluator of trees. -/
import Derived.Test.YtkcjbfoejpfbbaaGreatDoorRxY
namespace Go.RZ
open Go.RowKit Go.RX
noncomputable section
inductive AV where
 |int (k:IntKind) (n:Int)
 |bool (b:Bool)
 |ptr (k q:Nat)
 |nptr
 |sl (k q n c:Nat)
 |sg (k q n d:Nat)
 |nsl
 |mp (k:Nat)
 |nmp
 |fn (f:FuncId) (b c:List AV)
 |nfn
 |agg (l:List AV)
 |tup (l:List AV)
 deriving Inhabited
inductive AO where
 |cells (l:List AV) (T:TypeId)
 |grown (l:List AV) (T:TypeId)
 |map (es:List (AV×AV×Nat)) (clock:Nat)
 |iter (m:Nat) (since:Nat) (seen:List Nat) (last:Nat)
def gd {α:Type} (b:Bool) (x:Option α):Option α:=Bool.rec (motive:=fun _=>Option α) none x b
def nth {α:Type} (l:List α):Nat->Option α:=List.rec (motive:=fun _=>Nat->Option α) (fun _=>none) (fun x _ ih n=>Bool.rec (motive:=fun _=>Option α) (ih (Nat.sub n 1)) (some x) (Nat.beq n 0)) l
def len {α:Type} (l:List α):Nat:=List.rec (motive:=fun _=>Nat) 0 (fun _ _ n=>Nat.succ n) l
def frc {α β:Type} (l:List α):(List α->β)->β:=List.rec (motive:=fun _=>(List α->β)->β) (fun k=>k []) (fun x _ ih k=>ih fun r=>k (x::r)) l
inductive Tr where
 |nil
 |node (o:Option AO) (l r:Tr)
def Tr.get (t:Tr):Nat->Option AO:=Tr.rec (motive:=fun _=>Nat->Option AO) (fun _=>none)
 (fun o _ _ il ir k=>Bool.rec (motive:=fun _=>Option AO) (Bool.rec (motive:=fun _=>Option AO) (ir (Nat.div (Nat.sub k 1) 2)) (il (Nat.div k 2)) (Nat.beq (Nat.mod k 2) 1)) o (Nat.beq k 0)) t
def Tr.put (f:Nat):Tr->Nat->Option AO->Tr:=Nat.rec (motive:=fun _=>Tr->Nat->Option AO->Tr) (fun t _ _=>t)
 (fun _ ih t k v=>Tr.rec (motive:=fun _=>Tr)
  (Bool.rec (motive:=fun _=>Tr) (Bool.rec (motive:=fun _=>Tr) (.node none .nil (ih .nil (Nat.div (Nat.sub k 1) 2) v)) (.node none (ih .nil (Nat.div k 2) v) .nil) (Nat.beq (Nat.mod k 2) 1)) (.node v .nil .nil) (Nat.beq k 0))
  (fun o l r _ _=>Bool.rec (motive:=fun _=>Tr) (Bool.rec (motive:=fun _=>Tr) (.node o l (ih r (Nat.div (Nat.sub k 1) 2) v)) (.node o (ih l (Nat.div k 2) v) r) (Nat.beq (Nat.mod k 2) 1)) (.node v l r) (Nat.beq k 0)) t) f
structure S where
 n:Nat
 h:Tr
def S.get (s:S) (k:Nat):Option AO:=s.h.get k
def S.set (s:S) (k:Nat) (o:AO):S:=⟨s.n,s.h.put (Nat.succ k) k (some o)⟩
def S.del (s:S) (k:Nat):S:=⟨s.n,s.h.put (Nat.succ k) k none⟩
def S.add (s:S) (o:AO):S:=⟨Nat.succ s.n,s.h.put (Nat.succ s.n) s.n (some o)⟩
def cl:AV->List AV
 | .agg l=>l
 |v=>[v]
def d5v:AV->Bool
 | .agg _=>false
 | .tup _=>false
 |_=>true
def c6z:List AV->Bool
 |[]=>true
 |x::r=>d5v x&&c6z r
def ofS:Value->Option AV
 | .int k n=>some (.int k n)
 | .bool b=>some (.bool b)
 | .pointer none=>some .nptr
 | .slice none 0 0=>some .nsl
 | .map none=>some .nmp
 | .nilFunc=>some .nfn
 | .func (.func f) ⟨[]⟩ ⟨[]⟩=>some (.fn f [] [])
 |_=>none
def d2A:List Value->Option (List AV)
 |[]=>some []
 |x::r=>match ofS x,d2A r with|some a,some b=>some (a::b)|_,_=>none
def ofV:Value->Option AV
 | .agg ⟨l⟩=>match d2A l with|some a=>some (.agg a)|none=>none
 | .tuple ⟨[]⟩=>some (.tup [])
 |v=>ofS v
def b3H (l:List AV):Nat->List AV->List AV:=List.rec (motive:=fun _=>Nat->List AV->List AV) (fun _ _=>[])
 (fun x r ih q ys=>Bool.rec (motive:=fun _=>List AV) (x::ih (Nat.sub q 1) ys) (List.rec (motive:=fun _=>List AV) (x::r) (fun y ys _=>y::ih 0 ys) ys) (Nat.beq q 0)) l
def okI:IntKind->Int->Bool
 | .i64,.ofNat m=>Nat.blt m 9223372036854775808
 | .u64,.ofNat m=>Nat.blt m 18446744073709551616
 | .i64,.negSucc m=>Nat.blt m 9223372036854775808
 |_,_=>false
def b2q (k:IntKind) (n:Int):Int:=bif okI k n then n else k.wrap n
def eqI:Int->Int->Bool
 | .ofNat m,.ofNat n=>Nat.beq m n
 | .negSucc m,.negSucc n=>Nat.beq m n
 |_,_=>false
def ltI:Int->Int->Bool
 | .ofNat m,.ofNat n=>Nat.blt m n
 | .negSucc _,.ofNat _=>true
 | .negSucc m,.negSucc n=>Nat.blt n m
 | .ofNat _,.negSucc _=>false
def ofB:Value->Option AV
 | .int k n=>some (.int k n)
 | .bool b=>some (.bool b)
 |_=>none
def d4U (f:Nat->Nat->Nat) (o:BinOp) (k:IntKind) (a b:Int):Option AV:=
 match a,b with
 | .ofNat x,.ofNat y=>bif okI k a&&okI k b then some (.int k (.ofNat (f x y)))else ofB (a1H o k a b)
 |_,_=>ofB (a1H o k a b)
def d2B (f:Nat->Nat->Nat) (o:BinOp) (k:IntKind) (a b:Int):Option AV:=
 match k,a,b with
 | .u64,.ofNat x,.ofNat y=>bif Nat.blt x 18446744073709551616&&Nat.blt y 18446744073709551616 then some (.int .u64 (.ofNat (f x y)))else ofB (a1H o k a b)
 |_,_,_=>ofB (a1H o k a b)
def shA (f:Nat->Nat->Nat) (o:BinOp) (k:IntKind) (a b:Int):Option AV:=
 match k,a,b with
 | .u64,.ofNat x,.ofNat y=>bif Nat.blt y 64 then some (.int .u64 (.ofNat (f x y)))else ofB (a1H o k a b)
 |_,_,_=>ofB (a1H o k a b)
def d5w (o:BinOp) (k:IntKind) (a b:Int):Option AV:=
 match o with
 | .add=>some (.int k (b2q k (Int.add a b)))
 | .sub=>some (.int k (b2q k (Int.sub a b)))
 | .mul=>some (.int k (b2q k (Int.mul a b)))
 | .quo=>d4U Nat.div .quo k a b
 | .rem=>d4U Nat.mod .rem k a b
 | .and=>d2B Nat.land .and k a b
 | .or=>d2B Nat.lor .or k a b
 | .andNot=>d2B (fun x y=>Nat.xor x (Nat.land x y)) .andNot k a b
 | .shr=>shA (fun x y=>Nat.div x (Nat.pow 2 y)) .shr k a b
 | .shl=>shA (fun x y=>Nat.mod (Nat.mul x (Nat.pow 2 y)) 18446744073709551616) .shl k a b
 | .eql=>some (.bool (eqI a b))
 | .neq=>some (.bool (not (eqI a b)))
 | .lss=>some (.bool (ltI a b))
 | .geq=>some (.bool (not (ltI a b)))
 | .gtr=>some (.bool (ltI b a))
 | .leq=>some (.bool (not (ltI b a)))
 | .xor=>ofB (a1H .xor k a b)
def lkE (e:List AV) (m i:Nat):Option AV:=bif Nat.blt i m then nth e (Nat.sub (Nat.sub m 1) i)else none
def ixN:Option AV->Option Nat
 |some (.int _ (.ofNat n))=>some n
 |_=>none
def d5x:Option AV->Option AV
 |some v=>some (.agg (cl v))
 |none=>none
def b8m (ox:Option AV) (o s:Nat) (oi:Option AV):Option AV:=match ox with
 |some v=>match s with
  |0=>nth (cl v) o
  |_+1=>match ixN oi with
   |some j=>nth (cl v) (Nat.add o (Nat.mul s j))
   |none=>none
 |none=>none
def c8v (ox:Option AV) (o n s:Nat) (oi:Option AV):Option AV:=match ox with
 |some v=>match s with
  |0=>some (.agg (((cl v).drop o).take n))
  |_+1=>match ixN oi with
   |some j=>some (.agg (((cl v).drop (Nat.add o (Nat.mul s j))).take n))
   |none=>none
 |none=>none
def c8w (ox:Option AV) (o:Nat) (oy:Option AV) (s:Nat) (oi:Option AV):Option AV:=match ox,oy with
 |some v,some u=>match s with
  |0=>some (.agg (b3H (cl v) o (cl u)))
  |_+1=>match ixN oi with
   |some j=>some (.agg (b3H (cl v) (Nat.add o (Nat.mul s j)) (cl u)))
   |none=>none
 |_,_=>none
def c8x (ox oy:Option AV):Option AV:=match ox,oy with
 |some v,some u=>some (.agg (cl v++cl u))
 |_,_=>none
def b8n (ox:Option AV) (i:Nat):Option AV:=match ox with
 |some (.tup l)=>nth l i
 |_=>none
def c8y (o:BinOp) (k:IntKind) (ox oy:Option AV):Option AV:=match ox,oy with
 |some (.int _ a),some (.int _ b)=>d5w o k a b
 |_,_=>none
def c8z (o:UnOp) (k:IntKind) (ox:Option AV):Option AV:=match ox with
 |some (.int _ a)=>ofB (unV o k a)
 |_=>none
def d5y (ox:Option AV):Option AV:=match ox with
 |some (.bool b)=>some (.bool (not b))
 |_=>none
def d5z (k:IntKind) (ox:Option AV):Option AV:=match ox with
 |some (.int _ a)=>some (.int k (b2q k a))
 |_=>none
def c8A (oc ox oy:Option AV):Option AV:=match oc with
 |some (.bool true)=>ox
 |some (.bool false)=>oy
 |_=>none
def c8B (n:Bool) (ox oy:Option AV):Option AV:=match ox,oy with
 |some (.bool a),some (.bool b)=>some (.bool (n !=(a==b)))
 |_,_=>none
def adK (c:Value):Option AV:=match c with
 | .int k n=>some (.int k n)
 | .bool b=>some (.bool b)
 |c=>ofV c
def AD (P:Program) (e:List AV) (m:Nat) (x:SV):Option AV:=SV.rec (motive:=fun _=>Option AV)
 (fun i=>lkE e m i) adK (fun t=>ofV (a0G P t)) (fun _ i=>d5x i) (fun _ o s _ i j=>b8m i o s j) (fun _ o n s _ i j=>c8v i o n s j) (fun _ o _ _ s _ i j l=>c8w i o j s l)
 (fun _ _ _ i j=>c8x i j) (fun _ n i=>b8n i n) (fun o k _ _ i j=>c8y o k i j) (fun o k _ i=>c8z o k i) (fun _ i=>d5y i) (fun k _ i=>d5z k i) (fun _ _ _ i j l=>c8A i j l) (fun n _ _ i j=>c8B n i j) x
section
variable (P:Program) (e:List AV) (m:Nat)
theorem d5A (x:SV):AD P e m (.ag x)=d5x (AD P e m x):=rfl
theorem c8C (x:SV) (o s:Nat) (i:SV):AD P e m (.cell x o s i)=b8m (AD P e m x) o s (AD P e m i):=rfl
theorem d2C (x:SV) (o n s:Nat) (i:SV):AD P e m (.sub x o n s i)=c8v (AD P e m x) o n s (AD P e m i):=rfl
theorem d2D (x:SV) (o n:Nat) (y:SV) (s:Nat) (i:SV):AD P e m (.put x o n y s i)=c8w (AD P e m x) o (AD P e m y) s (AD P e m i):=rfl
theorem d2E (x:SV) (n:Nat) (y:SV):AD P e m (.cat x n y)=c8x (AD P e m x) (AD P e m y):=rfl
theorem c8D (x:SV) (i:Nat):AD P e m (.proj x i)=b8n (AD P e m x) i:=rfl
theorem d2F (o:BinOp) (k:IntKind) (x y:SV):AD P e m (.op2 o k x y)=c8y o k (AD P e m x) (AD P e m y):=rfl
theorem d2G (o:UnOp) (k:IntKind) (x:SV):AD P e m (.op1 o k x)=c8z o k (AD P e m x):=rfl
theorem d5B (x:SV):AD P e m (.nt x)=d5y (AD P e m x):=rfl
theorem d5C (k:IntKind) (x:SV):AD P e m (.cv k x)=d5z k (AD P e m x):=rfl
theorem d2H (c x y:SV):AD P e m (.ite c x y)=c8A (AD P e m c) (AD P e m x) (AD P e m y):=rfl
theorem d2I (n:Bool) (x y:SV):AD P e m (.eqb n x y)=c8B n (AD P e m x) (AD P e m y):=rfl
end
def ADs (P:Program) (e:List AV) (m:Nat) (l:List SV):Option (List AV):=List.rec (motive:=fun _=>Option (List AV)) (some []) (fun x _ ih=>Option.rec (motive:=fun _=>Option (List AV)) none (fun a=>Option.rec (motive:=fun _=>Option (List AV)) none (fun b=>some (a::b)) ih) (AD P e m x)) l
theorem c8E (P:Program) (e:List AV) (m:Nat):ADs P e m []=some []:=rfl
theorem c4i (P:Program) (e:List AV) (m:Nat) (x:SV) (r:List SV):ADs P e m (x::r)=match AD P e m x,ADs P e m r with|some a,some b=>some (a::b)|_,_=>none:=by
 show Option.rec (motive:=fun _=>Option (List AV)) none (fun a=>Option.rec (motive:=fun _=>Option (List AV)) none (fun b=>some (a::b)) (ADs P e m r)) (AD P e m x)=_
 cases AD P e m x<;>cases ADs P e m r<;>rfl
def isK (k l:IntKind):Bool:=k==l
def d2J (k:IntKind):Option AV->Bool
 |some (.int l _)=>isK k l
 |_=>false
def d2K:Option AV->Bool
 |some (.int _ _)=>true
 |_=>false
def c6A:Option AV->Bool
 |some (.bool _)=>true
 |_=>false
def b8o (n:Nat):Option AV->Bool
 |some v=>Nat.beq (len (cl v)) n&&c6z (cl v)
 |_=>false
def d2L (n:Nat):Option AV->Bool
 |some (.agg l)=>Nat.beq (len l) n
 |_=>false
def d2M (n:Nat):Option AV->Bool
 |some (.tup l)=>Nat.blt n (len l)
 |_=>false
def d6C:Option AV->Bool
 |some (.int _ a)=>not (eqI a (.ofNat 0))
 |_=>false
def d6D:Option AV->Bool
 |some (.int _ (.ofNat _))=>true
 |_=>false
def d6E (n:Nat):Option AV->Bool
 |some (.int _ (.ofNat a))=>Nat.blt a n
 |_=>false
def d2N (b:Bool):Option AV->Bool
 |some (.bool c)=>b==c
 |_=>false
def rqA (P:Program) (e:List AV) (m:Nat) (r:Rq):Bool:=Rq.rec (motive:=fun _=>Bool) (fun k x=>d2J k (AD P e m x)) (fun x=>d2K (AD P e m x)) (fun x=>c6A (AD P e m x)) (fun n x=>b8o n (AD P e m x)) (fun n x=>d2L n (AD P e m x)) (fun n x=>d2M n (AD P e m x)) (fun x=>d6C (AD P e m x)) (fun x=>d6D (AD P e m x)) (fun n x=>d6E n (AD P e m x)) (fun b x=>d2N b (AD P e m x)) r
def b2r (t:Nat) (os:List Operand):List AV->Option AV:=List.rec (motive:=fun _=>List AV->Option AV) (fun _=>none)
 (fun x _ ih vs=>List.rec (motive:=fun _=>Option AV) none (fun v vs _=>Operand.rec (motive:=fun _=>Option AV) (fun u=>Bool.rec (motive:=fun _=>Option AV) (ih vs) (some v) (Nat.beq u t)) (fun _=>ih vs) (fun _=>ih vs) (fun _=>ih vs) x) vs) os
def aE (os:List Operand) (vs:List AV):Operand->Option AV
 | .tmp t=>b2r t os vs
 | .const v=>ofV v
 | .func f=>some (.fn f [] [])
 |_=>none
def aEs (os:List Operand) (vs:List AV):List Operand->Option (List AV)
 |[]=>some []
 |x::r=>match aE os vs x,aEs os vs r with|some a,some b=>some (a::b)|_,_=>none
def pkL (s:S) (k:Nat):Option (List AV):=
 match s.get k with
 |some (.cells l _)=>some l
 |some (.grown l _)=>some l
 |_=>none
def a0U:List AV->List AV->Bool
 |[],[]=>true
 | .int k a::r,.int l b::q=>isK k l&&eqI a b&&a0U r q
 | .bool a::r,.bool b::q=>(a==b)&&a0U r q
 |_,_=>false
def c8F (P:Program) (t:TypeId):Bool:=match P.underlying t with|some (.map _ _)=>true|_=>false
def c8G (P:Program) (t:TypeId):Bool:=match P.underlying t with|some (.slice _)=>true|_=>false
def c8H (P:Program) (t:TypeId):Bool:=match P.info? t with
 |some i=>match i.zero with
  |some z=>Nat.beq z.cells.size i.size&&Nat.ble i.bytes 4096&&Nat.blt 0 i.size
  |none=>false
 |none=>false
def c8I (P:Program):Nat->TypeId->List AV->Bool
 |0,_,_=>false
 |d+1,t,l=>match P.underlying t with
  |some .bool=>match l with
   |[.bool _]=>true
   |_=>false
  |some (.int q)=>match l with
   |[.int k n]=>isK k q&&(okI k n||(Lit.int k n).wf)
   |_=>false
  |some (.array n e)=>Nat.beq (len l) (P.cellsOf t)&&(List.range n).all fun i=>c8I P d e ((l.drop (Nat.mul i (P.cellsOf e))).take (P.cellsOf e))
  |some (.struct fs)=>Nat.beq (len l) (P.cellsOf t)&&fs.toList.all fun f=>c8I P d f.type ((l.drop f.offset).take (P.cellsOf f.type))
  |_=>false
def a5r (P:Program) (kty:TypeId->Bool) (kt:TypeId) (v:AV):Bool:=match v with
 | .agg l=>kty kt&&c8I P 6 kt l
 | .int k _=>match P.underlying kt with
  |some (.int q)=>isK k q
  |_=>false
 |_=>false
def b6b (P:Program) (kty:TypeId->Bool) (kt:TypeId):List (AV×AV×Nat)->Bool
 |[]=>true
 |p::r=>a5r P kty kt p.1&&b6b P kty kt r
def a6E (key:AV):List (AV×AV×Nat)->Option AV
 |[]=>none
 |p::r=>bif a0U (cl p.1) (cl key)then some p.2.1 else a6E key r
def loA (os:List Operand) (vs:List AV):Option Operand->Option Nat
 |none=>some 0
 |some y=>ixN (aE os vs y)
def hiA (os:List Operand) (vs:List AV) (n:Nat):Option Operand->Option Nat
 |none=>some n
 |some y=>ixN (aE os vs y)
def sgB (P:Program) (s:S) (e:TypeId) (k q n d:Nat):Bool:=match s.get k with
 |some (.grown l T)=>Nat.beq T e&&Nat.blt 0 (P.cellsOf e)&&Nat.beq q (Nat.mul d (P.cellsOf e))&&Nat.ble (Nat.add q (Nat.mul n (P.cellsOf e))) (len l)
 |_=>false
def d4V (key:AV):List (AV×AV×Nat)->Bool
 |[]=>false
 |p::r=>a0U (cl p.1) (cl key)||d4V key r
def c8J (key:AV):List (AV×AV×Nat)->Bool
 |[]=>true
 |p::r=>bif a0U (cl p.1) (cl key)then not (d4V key r)else c8J key r
def b8p:List Nat->Option Nat
 |[]=>none
 |x::r=>match r with
  |[]=>some x
  |_=>b8p r
def b8q (b:Nat):List (AV×AV×Nat)->Option (AV×AV×Nat)
 |[]=>none
 |p::r=>bif Nat.beq p.2.2 b then some p else b8q b r
def d2O (P:Program) (kty:TypeId->Bool) (s:S) (vs:List AV) (c:Call):Option AV:=match c.callee,c.args.toList with
  | .builtin .len,[x]=>match c.argTypes.toList with
   |[t]=>match c8G P t with
    |true=>match aE [x] vs x with
     |some (.sl _ _ n _)=>some (.int .i64 (.ofNat n))
     |some (.sg _ _ n _)=>some (.int .i64 (.ofNat n))
     |some .nsl=>some (.int .i64 (.ofNat 0))
     |_=>none
    |false=>gd (c8F P t) (match aE [x] vs x with
     |some (.mp k)=>match s.get k with
      |some (.map es _)=>some (.int .i64 (.ofNat (len es)))
      |_=>none
     |_=>none)
   |_=>none
  | .builtin .min,[x,y]=>match c.argTypes.toList,aE [x,y] vs x,aE [x,y] vs y with
   |[_,_],some (.int .i64 a),some (.int .i64 b)=>some (.int .i64 (bif ltI b a then b else a))
   |_,_,_=>none
  | .builtin .max,[x,y]=>match c.argTypes.toList,aE [x,y] vs x,aE [x,y] vs y with
   |[_,_],some (.int .i64 a),some (.int .i64 b)=>some (.int .i64 (bif ltI a b then b else a))
   |_,_,_=>none
  |_,_=>none
def d2P (P:Program) (kty:TypeId->Bool) (s:S) (vs:List AV) (T:TypeId) (x y:Operand):Option AV:=match aE [x,y] vs x,aE [x,y] vs y with
  |some b,some (.int _ (.ofNat j))=>match P.underlying T with
   |some (.slice e)=>gd (a1V P e) (match b with
    | .sl k q n _=>gd (Nat.blt j n) (some (.ptr k (Nat.add q (Nat.mul j (P.cellsOf e)))))
    | .sg k q n _=>gd (Nat.blt j n) (some (.ptr k (Nat.add q (Nat.mul j (P.cellsOf e)))))
    |_=>none)
   |some (.array n e)=>gd (a1V P e) (match b with
    | .ptr k q=>gd (Nat.blt j n) (some (.ptr k (Nat.add q (Nat.mul j (P.cellsOf e)))))
    |_=>none)
   |_=>none
  |_,_=>none
def d6F (P:Program) (kty:TypeId->Bool) (s:S) (vs:List AV) (T:TypeId) (x:Operand):Option AV:=match aE [x] vs x with
  |some (.ptr k q)=>match pkL s k with
   |some l=>gd (a1V P T) (match a0I P T with
    |true=>gd (Nat.ble (Nat.add q (P.cellsOf T)) (len l)) (some (.agg ((l.drop q).take (P.cellsOf T))))
    |false=>gd (Nat.beq (P.cellsOf T) 1) (nth l q))
   |none=>none
  |_=>none
def d2Q (P:Program) (kty:TypeId->Bool) (s:S) (vs:List AV) (T:TypeId) (x:Operand) (i:Nat):Option AV:=match aE [x] vs x with
  |some (.ptr k q)=>match P.underlying T with
   |some (.struct fs)=>match nth fs.toList i with
    |some fd=>gd (a1V P fd.type&&Nat.blt 0 (P.cellsOf fd.type)) (some (.ptr k (Nat.add q fd.offset)))
    |none=>none
   |_=>none
  |_=>none
def d6G (P:Program) (kty:TypeId->Bool) (s:S) (vs:List AV) (x:Operand):Option AV:=match aE [x] vs x with
  |some (.ptr k q)=>some (.ptr k q)
  |_=>none
def d5D (P:Program) (kty:TypeId->Bool) (s:S) (vs:List AV) (T:TypeId) (x:Operand) (lo hi mx:Option Operand):Option AV:=match mx with
  |some _=>none
  |none=>
   match aE (x::(lo.toList++hi.toList)) vs x,loA (x::(lo.toList++hi.toList)) vs lo,P.underlying T with
   |some (.sl k q n c),some l,some (.slice e)=>match hiA (x::(lo.toList++hi.toList)) vs n hi with
    |some h=>gd (Nat.ble l h&&Nat.ble h c&&a1V P e) (some (.sl k (bif Nat.beq l c then q else Nat.add q (Nat.mul l (P.cellsOf e))) (Nat.sub h l) (Nat.sub c l)))
    |none=>none
   |some (.sg k q n d),some l,some (.slice e)=>match hiA (x::(lo.toList++hi.toList)) vs n hi with
    |some h=>gd (Nat.ble l h&&Nat.ble h n&&a1V P e&&(Nat.beq l 0||Nat.blt l n)&&sgB P s e k q n d) (some (.sg k (Nat.add q (Nat.mul l (P.cellsOf e))) (Nat.sub h l) (Nat.add d l)))
    |none=>none
   |some .nsl,some 0,some (.slice e)=>match hiA (x::(lo.toList++hi.toList)) vs 0 hi with
    |some 0=>gd (a1V P e) (some .nsl)
    |_=>none
   |some (.ptr k q),some l,some (.array n e)=>match hiA (x::(lo.toList++hi.toList)) vs n hi with
    |some h=>gd (Nat.ble l h&&Nat.ble h n&&a1V P e) (some (.sl k (bif Nat.beq l n then q else Nat.add q (Nat.mul l (P.cellsOf e))) (Nat.sub h l) (Nat.sub n l)))
    |none=>none
   |_,_,_=>none
def d6H (P:Program) (kty:TypeId->Bool) (s:S) (vs:List AV) (T:TypeId) (x y:Operand) (ok:Bool):Option AV:=match aE [x,y] vs x,aE [x,y] vs y,P.underlying T with
  |some (.mp k),some key,some (.map kt et)=>match s.get k with
   |some (.map es _)=>gd (a5r P kty kt key&&b6b P kty kt es&&c8J key es&&c8H P et) (match a6E key es with
    |some v=>some (match ok with|true=> .tup [v,.bool true]|false=>v)
    |none=>match ofV (a0G P et)with
     |some z=>some (match ok with|true=> .tup [z,.bool false]|false=>z)
     |none=>none)
   |_=>none
  |some .nmp,some key,some (.map kt et)=>gd (a5r P kty kt key&&c8H P et) (match ofV (a0G P et)with
   |some z=>some (match ok with|true=> .tup [z,.bool false]|false=>z)
   |none=>none)
  |_,_,_=>none
def d6I (P:Program) (kty:TypeId->Bool) (s:S) (vs:List AV) (T:TypeId) (x y:Operand):Option AV:=match aE [x,y] vs x,aE [x,y] vs y,P.underlying T with
  |some v,some .nsl,some (.slice _)=>match v with
   | .nsl=>some (.bool true)
   | .sl _ _ _ _=>some (.bool false)
   | .sg _ _ _ _=>some (.bool false)
   |_=>none
  |some (.agg a),some (.agg b),some _=>gd (a5r P kty T (.agg a)&&a5r P kty T (.agg b)) (some (.bool (a0U a b)))
  |_,_,_=>none
def d6J (P:Program) (kty:TypeId->Bool) (s:S) (vs:List AV) (T:TypeId) (x y:Operand):Option AV:=match aE [x,y] vs x,aE [x,y] vs y with
  |some (.agg a),some (.agg b)=>gd (a5r P kty T (.agg a)&&a5r P kty T (.agg b)) (some (.bool (not (a0U a b))))
  |_,_=>none
def d6K (P:Program) (kty:TypeId->Bool) (s:S) (vs:List AV) (x:Operand):Option AV:=match aE [x] vs x with
  |some (.ptr k 0)=>match s.get k with
   |some (.iter m _ seen stepped)=>match s.get m,b8p seen with
    |some (.map es clock),some b=>gd (Nat.beq clock stepped) (match b8q b es with
     |some p=>some (.tup [p.1,p.2.1])
     |none=>none)
    |_,_=>none
   |_=>none
  |_=>none
def evP (P:Program) (kty:TypeId->Bool) (s:S) (vs:List AV):Op->Option AV
 | .call c=>d2O P kty s vs c
 | .indexAddr T x y=>d2P P kty s vs T x y
 | .load T x=>d6F P kty s vs T x
 | .fieldAddr T x i=>d2Q P kty s vs T x i
 | .nilCheck x=>d6G P kty s vs x
 | .slice T x lo hi mx=>d5D P kty s vs T x lo hi mx
 | .lookup T x y ok=>d6H P kty s vs T x y ok
 | .binOp .eql T x y _=>d6I P kty s vs T x y
 | .binOp .neq T x y _=>d6J P kty s vs T x y
 | .entry x=>d6K P kty s vs x
 |_=>none
def rep {α:Type} (x:List α):Nat->List α
 |0=>[]
 |n+1=>x++rep x n
def parts (os:List Operand) (vs:List AV) (sz:Nat):List (Nat×Operand)->List AV->Option (List AV)
 |[],l=>some l
 |(j,x)::r,l=>match aE os vs x with
  |some v=>gd (Nat.beq (len (cl v)) sz&&Nat.ble (Nat.add (Nat.mul j sz) sz) (len l)) (parts os vs sz r (b3H l (Nat.mul j sz) (cl v)))
  |none=>none
def evM (P:Program) (k:Nat) (vs:List AV):Op->Option (AV×AO)
 | .buildSlice T n ps=>match P.underlying T with
  |some (.slice e)=>match ofV (a0G P e)with
   |some z=>gd (c8H P e&&Nat.ble (Nat.mul n (len (cl z))) 16777216) (match parts (ps.toList.map (·.2)) vs (len (cl z)) ps.toList (rep (cl z) n)with|some l=>some (.sl k 0 n n,.cells l e)|none=>none)
   |none=>none
  |_=>none
 | .makeSlice T x y=>match P.underlying T with
  |some (.slice e)=>match ofV (a0G P e),aE [x,y] vs x,aE [x,y] vs y with
   |some z,some (.int _ (.ofNat n)),some (.int _ (.ofNat c))=>gd (c8H P e&&Nat.beq n c&&Nat.ble n 100000) (some (.sl k 0 n n,.cells (rep (cl z) n) e))
   |_,_,_=>none
  |_=>none
 | .makeMap _ none=>some (.mp k,.map [] 0)
 |_=>none
def rdS (P:Program) (s:S) (e:TypeId):AV->Option (List AV)
 | .nsl=>some []
 | .sl k q n _=>match pkL s k with|some l=>gd (Nat.ble (Nat.add q (Nat.mul n (P.cellsOf e))) (len l)) (some ((l.drop q).take (Nat.mul n (P.cellsOf e))))|none=>none
 | .sg k q n _=>match pkL s k with|some l=>gd (Nat.ble (Nat.add q (Nat.mul n (P.cellsOf e))) (len l)) (some ((l.drop q).take (Nat.mul n (P.cellsOf e))))|none=>none
 |_=>none
def a7P:AV->Option Nat
 | .nsl=>some 0
 | .sl _ _ n _=>some n
 | .sg _ _ n _=>some n
 |_=>none
def wrS (s:S) (wm k q:Nat) (ys:List AV):Option S:=
 gd (Nat.ble wm k) (match s.get k with
  |some (.cells l T)=>gd (Nat.ble (Nat.add q (len ys)) (len l)) (frc (b3H l q ys) fun l'=>some (s.set k (.cells l' T)))
  |some (.grown l T)=>gd (Nat.ble (Nat.add q (len ys)) (len l)) (frc (b3H l q ys) fun l'=>some (s.set k (.grown l' T)))
  |_=>none)
def a6F (key val:AV) (clock:Nat):List (AV×AV×Nat)->List (AV×AV×Nat)×Bool
 |[]=>([(key,val,clock)],true)
 |p::r=>bif a0U (cl p.1) (cl key)then((key,val,p.2.2)::r,false)else match a6F key val clock r with|(q,b)=>(p::q,b)
def b6c (s:S) (k m since:Nat) (seen:List Nat) (clock:Nat):List (AV×AV×Nat)->List (AV×S)
 |[]=>[]
 |p::r=>(.tup [.bool true,p.1,p.2.1],s.set k (.iter m since (seen++[p.2.2]) clock))::b6c s k m since seen clock r
def nxt (s:S) (wm k m since:Nat) (seen:List Nat) (last:Nat) (es:List (AV×AV×Nat)) (clock:Nat) (left:List (AV×AV×Nat)):Option (List (AV×S)):=
 gd (left.all (fun p=>Nat.blt p.2.2 since)&&(seen.isEmpty||es.isEmpty||es.any fun p=>Nat.blt p.2.2 last)&&Nat.ble wm k) (match left with
  |[]=>some [(.tup [.bool false],s)]
  |_=>some (b6c s k m since seen clock left))
def d6L (P:Program) (s:S) (e:TypeId):AV->Bool
 | .nsl=>true
 | .sl _ _ n c=>Nat.ble n c
 | .sg k q n d=>sgB P s e k q n d
 |_=>false
def app (P:Program) (s:S) (wm:Nat) (e:TypeId):AV->List AV->Nat->Option (List (AV×S))
 | .nsl,news,m=>some [(.sg s.n 0 m 0,s.add (.grown news e))]
 | .sl k q n c,news,m=>match Nat.ble (Nat.add n m) c with
  |true=>match s.get k with
   |some (.cells _ T)=>gd (Nat.beq q 0&&Nat.beq T e) (match wrS s wm k (Nat.mul n (P.cellsOf e)) news with|some s'=>some [(.sl k 0 (Nat.add n m) c,s')]|none=>none)
   |_=>none
  |false=>match rdS P s e (.sl k q n c)with
   |some old=>some [(.sg s.n 0 (Nat.add n m) 0,s.add (.grown (old++news) e))]
   |none=>none
 | .sg k 0 n 0,news,m=>match s.get k with
  |some (.grown l T)=>gd (Nat.beq T e&&Nat.beq (len l) (Nat.mul n (P.cellsOf e))&&Nat.ble wm k) (some [(.sg s.n 0 (Nat.add n m) 0,(s.del k).add (.grown (l++news) e))])
  |_=>none
 |_,_,_=>none
def cpy (s:S) (wm:Nat):AV->List AV->Option S
 | .sl k q _ _,w=>wrS s wm k q w
 | .sg k q _ _,w=>wrS s wm k q w
 | .nsl,_=>some s
 |_,_=>none
def d6M (P : Program) (kty : TypeId -> Bool) (s : S) (wm : Nat) (vs : List AV) (T : TypeId) (x y : Operand) : Option (List (AV × S)) := match aE [x,y] vs x,aE [x,y] vs y with
   |some (.ptr k q),some v=>gd (a1V P T&&Nat.beq (P.cellsOf T) (len (cl v))&&c6z (cl v)) (match wrS s wm k q (cl v)with|some s'=>some [(.tup [],s')]|none=>none)
   |_,_=>none
def d6N (P : Program) (kty : TypeId -> Bool) (s : S) (wm : Nat) (vs : List AV) (f : FuncId) (bs cs : Array Operand) : Option (List (AV × S)) := match aEs (bs.toList ++ cs.toList) vs bs.toList,aEs (bs.toList ++ cs.toList) vs cs.toList with
   |some b,some c=>some [(.fn f b c,s)]
   |_,_=>none
def d6O (P : Program) (kty : TypeId -> Bool) (s : S) (wm : Nat) (vs : List AV) (T : TypeId) (x y z : Operand) : Option (List (AV × S)) := match aE [x,y,z] vs x,aE [x,y,z] vs y,aE [x,y,z] vs z,P.underlying T with
   |some (.mp k),some key,some val,some (.map kt _)=>match s.get k with
    |some (.map es clock)=>gd (Nat.ble wm k&&a5r P kty kt key&&b6b P kty kt es&&c8J key es) (match a6F key val clock es with|(q,b)=>some [(.tup [],s.set k (.map q (match b with|true=>Nat.succ clock|false=>clock)))])
    |_=>none
   |_,_,_,_=>none
def d6P (P : Program) (kty : TypeId -> Bool) (s : S) (wm : Nat) (vs : List AV) (T : TypeId) (x : Operand) : Option (List (AV × S)) := match aE [x] vs x,P.underlying T with
   |some (.mp m),some (.map _ _)=>match s.get m with
    |some (.map _ clock)=>some [(.ptr s.n 0,s.add (.iter m clock [] clock))]
    |_=>none
   |_,_=>none
def d6Q (P : Program) (kty : TypeId -> Bool) (s : S) (wm : Nat) (vs : List AV) (x : Operand) : Option (List (AV × S)) := match aE [x] vs x with
   |some (.ptr k 0)=>match s.get k with
    |some (.iter m since seen last)=>match s.get m with
     |some (.map es clock)=>nxt s wm k m since seen last es clock (es.filter fun p=>not (seen.any (Nat.beq p.2.2)))
     |_=>none
    |_=>none
   |_=>none
def d6R (P : Program) (s : S) (wm : Nat) (vs : List AV) (c : Call) (x y : Operand) : Option (List (AV × S)) := match c.argTypes.toList with
        |[t,t']=>match P.underlying t with
          |some (.slice e)=>match aE [x,y] vs x,aE [x,y] vs y with
            |some a,some b=>match rdS P s e b,a7P b,a7P a with
              |some news,some m,some n=>gd (Nat.beq t t'&&c8H P e&&d6L P s e a) (match m with
                |0=>some [(a,s)]
                |_+1=>gd (c6z news&&Nat.ble (Nat.add n m) 1000000) (app P s wm e a news m))
              |_,_,_=>none
            |_,_=>none
          |_=>none
        |_=>none
def d6S (P : Program) (s : S) (wm : Nat) (vs : List AV) (c : Call) (x y : Operand) : Option (List (AV × S)) := match c.argTypes.toList with
        |[t,_]=>match P.underlying t with
          |some (.slice e)=>match aE [x,y] vs x,aE [x,y] vs y with
            |some a,some b=>match a7P a,rdS P s e b,a7P b with
              |some n,some w,some m=>gd (a1V P e&&Nat.beq (P.cellsOf e) 1&&c6z w) (match cpy s wm a (w.take (bif Nat.ble m n then m else n))with
                |some s'=>some [(.int .i64 (.ofNat (bif Nat.ble m n then m else n)),s')]
                |none=>none)
              |_,_,_=>none
            |_,_=>none
          |_=>none
        |_=>none
def d4W (P : Program) (kty : TypeId -> Bool) (s : S) (wm : Nat) (vs : List AV) (c : Call) : Option (List (AV × S)) := match c.callee,c.args.toList with
   | .builtin .append,[x,y]=>d6R P s wm vs c x y
   | .builtin .copy,[x,y]=>d6S P s wm vs c x y
   |_,_=>none
def evX (P:Program) (kty:TypeId->Bool) (s:S) (wm:Nat) (vs:List AV) (o:Op):Option (List (AV×S)):=
 match o with
 | .store T x y=>d6M P kty s wm vs T x y
 | .makeFunc (.func f) bs cs=>d6N P kty s wm vs f bs cs
 | .mapUpdate T x y z=>d6O P kty s wm vs T x y z
 | .range T x=>d6P P kty s wm vs T x
 | .next x false=>d6Q P kty s wm vs x
 | .call c=>d4W P kty s wm vs c
 |_=>none
def d6T (o:Op) (vs:List AV):Option (FuncId×List AV):=match o with
 | .call c=>match c.callee with
  | .value x=>match aE (x::c.args.toList) vs x,aEs (x::c.args.toList) vs c.args.toList with
   |some (.fn g bs cs),some ws=>some (g,bs++(ws++cs))
   |_,_=>none
  |_=>none
 |_=>none
def evE (P:Program) (kty:TypeId->Bool) (s:S) (wm:Nat) (vs:List AV) (o:Op):Option (List (AV×S)):=
 match evM P s.n vs o with
 |some (v,ob)=>some [(v,s.add ob)]
 |none=>match evX P kty s wm vs o with
  |some l=>some l
  |none=>match evP P kty s vs o with
   |some v=>some [(v,s)]
   |none=>none
mutual
def ids:AV->List Nat
 | .ptr k _| .sl k _ _ _| .sg k _ _ _| .mp k=>[k]
 | .fn _ b c=>c4j b++c4j c
 | .agg l| .tup l=>c4j l
 |_=>[]
def c4j:List AV->List Nat
 |[]=>[]
 |x::r=>ids x++c4j r
end
def idE:List (AV×AV×Nat)->List Nat
 |[]=>[]
 |p::r=>ids p.1++(ids p.2.1++idE r)
def idO:AO->List Nat
 | .cells l _| .grown l _=>c4j l
 | .map es _=>idE es
 | .iter m _ _ _=>[m]
def d2R:List Nat->Nat->Bool
 |[],_=>false
 |x::r,k=>Nat.beq x k||d2R r k
def reach (s:S) (n:Nat):Nat->List Nat->List Nat->Option (List Nat)
 |0,_,_=>none
 |_+1,acc,[]=>some acc
 |f+1,acc,k::r=>match Nat.blt k n||d2R acc k with
  |true=>reach s n f acc r
  |false=>reach s n f (acc++[k]) (match s.get k with|some o=>r++idO o|none=>r)
def idx:List Nat->Nat->Nat
 |[],_=>0
 |x::r,k=>bif Nat.beq x k then 0 else Nat.succ (idx r k)
def ren (n:Nat) (acc:List Nat) (k:Nat):Nat:=bif Nat.blt k n then k else Nat.add n (idx acc k)
mutual
def rnV (g:Nat->Nat):AV->AV
 | .int k n=> .int k n
 | .bool b=> .bool b
 | .ptr k q=> .ptr (g k) q
 | .nptr=> .nptr
 | .sl k q n c=> .sl (g k) q n c
 | .sg k q n d=> .sg (g k) q n d
 | .nsl=> .nsl
 | .mp k=> .mp (g k)
 | .nmp=> .nmp
 | .fn f b c=> .fn f (b6A g b) (b6A g c)
 | .nfn=> .nfn
 | .agg l=> .agg (b6A g l)
 | .tup l=> .tup (b6A g l)
def b6A (g:Nat->Nat):List AV->List AV
 |[]=>[]
 |x::r=>rnV g x::b6A g r
end
def rnE (g:Nat->Nat):List (AV×AV×Nat)->List (AV×AV×Nat)
 |[]=>[]
 |p::r=>(rnV g p.1,rnV g p.2.1,p.2.2)::rnE g r
def rnO (g:Nat->Nat):AO->AO
 | .cells l T=> .cells (b6A g l) T
 | .grown l T=> .grown (b6A g l) T
 | .map es c=> .map (rnE g es) c
 | .iter m a b c=> .iter (g m) a b c
def c2P (s:S) (g:Nat->Nat):List Nat->List (Option AO)
 |[]=>[]
 |k::r=>(match s.get k with|some o=>some (rnO g o)|none=>none)::c2P s g r
def c4k (n:Nat) (v:AV) (s:S):Option (AV×List (Option AO)):=
 match reach s n 10000 [] (ids v)with
 |some acc=>some (rnV (ren n acc) v,c2P s (ren n acc) acc)
 |none=>none
def b3I (n:Nat):List (AV×S)->Option (List (AV×List (Option AO)))
 |[]=>some []
 |x::r=>match c4k n x.1 x.2,b3I n r with|some a,some b=>some (a::b)|_,_=>none
mutual
def eqV:AV->AV->Bool
 | .int k a,.int l b=>isK k l&&eqI a b
 | .bool a,.bool b=>a==b
 | .ptr k q,.ptr l r=>Nat.beq k l&&Nat.beq q r
 | .nptr,.nptr=>true
 | .sl k q n c,.sl k' q' n' c'=>Nat.beq k k'&&Nat.beq q q'&&Nat.beq n n'&&Nat.beq c c'
 | .sg k q n c,.sg k' q' n' c'=>Nat.beq k k'&&Nat.beq q q'&&Nat.beq n n'&&Nat.beq c c'
 | .nsl,.nsl=>true
 | .mp k,.mp l=>Nat.beq k l
 | .nmp,.nmp=>true
 | .fn f b c,.fn f' b' c'=>Nat.beq f f'&&c2Q b b'&&c2Q c c'
 | .nfn,.nfn=>true
 | .agg l,.agg l'=>c2Q l l'
 | .tup l,.tup l'=>c2Q l l'
 |_,_=>false
def c2Q:List AV->List AV->Bool
 |[],[]=>true
 |x::r,y::q=>eqV x y&&c2Q r q
 |_,_=>false
end
def d2S:List Nat->List Nat->Bool
 |[],[]=>true
 |x::r,y::q=>Nat.beq x y&&d2S r q
 |_,_=>false
def d2T:List (AV×AV×Nat)->List (AV×AV×Nat)->Bool
 |[],[]=>true
 |x::r,y::q=>eqV x.1 y.1&&eqV x.2.1 y.2.1&&Nat.beq x.2.2 y.2.2&&d2T r q
 |_,_=>false
def eqO:AO->AO->Bool
 | .cells l T,.cells l' T'=>Nat.beq T T'&&c2Q l l'
 | .grown l T,.grown l' T'=>Nat.beq T T'&&c2Q l l'
 | .map es c,.map es' c'=>Nat.beq c c'&&d2T es es'
 | .iter m a b c,.iter m' a' b' c'=>Nat.beq m m'&&Nat.beq a a'&&d2S b b'&&Nat.beq c c'
 |_,_=>false
def c8K:List (Option AO)->List (Option AO)->Bool
 |[],[]=>true
 |some x::r,some y::q=>eqO x y&&c8K r q
 |none::r,none::q=>c8K r q
 |_,_=>false
def c8L (x:AV×List (Option AO)):List (AV×List (Option AO))->Bool
 |[]=>false
 |y::r=>(eqV x.1 y.1&&c8K x.2 y.2)||c8L x r
def dd:List (AV×List (Option AO))->List (AV×List (Option AO))
 |[]=>[]
 |x::r=>match r with
  |[]=>[x]
  |_=>(fun q=>bif c8L x q then q else x::q) (dd r)
def mkS (s:S):List (Option AO)->S
 |[]=>s
 |some o::r=>mkS (s.add o) r
 |none::r=>mkS ⟨Nat.succ s.n,s.h⟩ r
def c4l (s:S):List (AV×List (Option AO))->List (AV×S)
 |[]=>[]
 |x::r=>(x.1,mkS s x.2)::c4l s r
def fin (b:Bool) (s:S) (l:List (AV×S)):List (AV×S):=
 match b with
 |true=>match b3I s.n l with
  |some q=>c4l s (dd q)
  |none=>l
 |false=>l
inductive Fr where
 |lp (t:Tree) (e:List AV) (m:Nat)
 |jn (t:Tree) (e:List AV) (m:Nat)
 |rn (ys:List (List AV)) (tb ta te:Tree) (e:List AV) (m:Nat) (rs:List (Nat×AO))
 |rx (te:Tree) (e:List AV) (m:Nat)
def psh (e l:List AV):List AV:=List.rec (motive:=fun _=>List AV->List AV) (fun e=>e) (fun x _ ih e=>ih (x::e)) l e
theorem c8M (e:List AV):psh e []=e:=rfl
theorem b3J (e:List AV) (x:AV) (r:List AV):psh e (x::r)=psh (x::e) r:=rfl
def tak {α:Type} (l:List α):Nat->List α:=List.rec (motive:=fun _=>Nat->List α) (fun _=>[]) (fun x _ ih n=>Bool.rec (motive:=fun _=>List α) (x::ih (Nat.sub n 1)) [] (Nat.beq n 0)) l
def cat {α:Type} (l r:List α):List α:=List.rec (motive:=fun _=>List α) r (fun x _ ih=>x::ih) l
theorem b0A {α:Type}:∀(l:List α) (n:Nat),tak l n=l.take n
 |[],n=>by simp[tak]
 |x::r,0=>rfl
 |x::r,n+1=>by rw[List.take_succ_cons,<-b0A r n];rfl
theorem b0B {α:Type}:∀(l r:List α),cat l r=l++r
 |[],r=>rfl
 |x::l,r=>by rw[List.cons_append,<-b0B l r];rfl
theorem a0K {α:Type}:∀l:List α,len l=l.length
 |[]=>rfl
 |x::r=>by rw[List.length_cons,<-a0K r];rfl
theorem b8r {α β:Type}:∀(l:List α) (k:List α->β),frc l k=k l
 |[],k=>rfl
 |x::r,k=>b8r r fun r=>k (x::r)
def b0C:List (AV×S)->(AV->S->Option (List (AV×S)))->Option (List (AV×S))
 |[],_=>some []
 |x::r,f=>match r with
  |[]=>f x.1 x.2
  |_=>match f x.1 x.2,b0C r f with|some a,some b=>some (a++b)|_,_=>none
def c6B:List AV->AV
 |[x]=>x
 |l=> .tup l
def a3c (s:S) (wm:Nat):List Nat->Option S
 |[]=>some s
 |k::r=>gd (Nat.ble wm k) (match s.get k with|some _=>a3c (s.del k) wm r|none=>none)
def b3K (n:Nat):List (List AV)->Bool
 |[]=>true
 |y::r=>Nat.beq (len y) n&&b3K n r
def a8Z (s:S):List Nat->Option (List (Nat×AO))
 |[]=>some []
 |k::r=>match s.get k,a8Z s r with
  |some (.cells l T),some q=>some ((k,.cells l T)::q)
  |_,_=>none
def a4S (s:S):List (Nat×AO)->Bool
 |[]=>true
 |p::r=>(match s.get p.1 with|some o=>eqO o p.2|none=>false)&&a4S s r
section
variable (P:Program) (kty:TypeId->Bool) (tab:FuncId->Option (Nat×Tree)) (pur:FuncId->Bool) (orc:FuncId->List AV->S->Nat->Option (List (AV×S))) (own:FuncId->List AV->Option AV) (itb:FuncId->List AV->S->Option (List (List AV)×List Nat×List Nat))
def d5E (E : Tree -> List Fr -> List AV -> Nat -> S -> Nat -> Option (List (AV × S))) (pf : Bool) (g : FuncId) (args : List SV) (t : Tree) (nx : List Fr) (e : List AV) (m : Nat) (s : S) (wm : Nat) : Option (List (AV × S)) := match ADs P e m args with
   |some vs=>match orc g vs s (bif pf||pur g then s.n else wm)with
    |some a0H=>b0C a0H fun v s'=>E t nx (v::e) (Nat.succ m) s' wm
    |none=>match tab g with
     |some (np,tg)=>match Nat.beq (len vs) np with
      |true=>match E tg [] (psh [] vs) np s (bif pf||pur g then s.n else wm)with
       |some a0H=>b0C (fin (pf||pur g) s a0H) fun v s'=>E t nx (v::e) (Nat.succ m) s' wm
       |none=>none
      |false=>none
     |none=>none
   |none=>none
def d5F (E : Tree -> List Fr -> List AV -> Nat -> S -> Nat -> Option (List (AV × S))) (g : FuncId) (args : List SV) (t : Tree) (nx : List Fr) (e : List AV) (m : Nat) (s : S) (wm : Nat) : Option (List (AV × S)) := match ADs P e m args with
   |some vs=>match own g vs with
    |some v=>E t nx (v::e) (Nat.succ m) s wm
    |none=>none
   |none=>none
def d5G (E : Tree -> List Fr -> List AV -> Nat -> S -> Nat -> Option (List (AV × S))) (o : Oper) (args : List SV) (t : Tree) (nx : List Fr) (e : List AV) (m : Nat) (s : S) (wm : Nat) : Option (List (AV × S)) := match ADs P e m args with
   |some vs=>match evP P kty s vs o.op with
    |some v=>E t nx (v::e) (Nat.succ m) s wm
    |none=>none
   |none=>none
def d5H (E : Tree -> List Fr -> List AV -> Nat -> S -> Nat -> Option (List (AV × S))) (pf : Bool) (o : Oper) (args : List SV) (t : Tree) (nx : List Fr) (e : List AV) (m : Nat) (s : S) (wm : Nat) : Option (List (AV × S)) := match ADs P e m args with
   |some vs=>match evE P kty s (bif pf then s.n else wm) vs o.op with
    |some a0H=>b0C a0H fun v s'=>E t nx (v::e) (Nat.succ m) s' wm
    |none=>match d6T o.op vs with
     |some (g,ws)=>match tab g with
      |some (np,tg)=>match Nat.beq (len ws) np with
       |true=>match E tg [] (psh [] ws) np s (bif pf||pur g then s.n else wm)with
        |some a0H=>b0C (fin (pf||pur g) s a0H) fun v s'=>E t nx (v::e) (Nat.succ m) s' wm
        |none=>none
       |false=>none
      |none=>none
     |none=>none
   |none=>none
def tMk (E : Tree -> List Fr -> List AV -> Nat -> S -> Nat -> Option (List (AV × S))) (o : Oper) (args : List SV) (t : Tree) (nx : List Fr) (e : List AV) (m : Nat) (s : S) (wm : Nat) : Option (List (AV × S)) := match ADs P e m args with
   |some vs=>match evM P s.n vs o.op with
    |some (v,ob)=>E t nx (v::e) (Nat.succ m) (s.add ob) wm
    |none=>none
   |none=>none
def d5I (E : Tree -> List Fr -> List AV -> Nat -> S -> Nat -> Option (List (AV × S))) (T : TypeId) (c : SV) (t : Tree) (nx : List Fr) (e : List AV) (m : Nat) (s : S) (wm : Nat) : Option (List (AV × S)) := match AD P e m c with
   |some v=>E t nx (.ptr s.n 0::e) (Nat.succ m) (s.add (.cells (cl v) T)) wm
   |none=>none
def d5J (E : Tree -> List Fr -> List AV -> Nat -> S -> Nat -> Option (List (AV × S))) (ini : List SV) (t : Tree) (nx : List Fr) (e : List AV) (m : Nat) (s : S) (wm : Nat) : Option (List (AV × S)) := match ADs P e m ini with
   |some vs=>E t (cat nx [.lp t e m]) (psh e vs) (Nat.add m (len vs)) s wm
   |none=>none
def d5K (E : Tree -> List Fr -> List AV -> Nat -> S -> Nat -> Option (List (AV × S))) (d : Nat) (l : List SV) (nx : List Fr) (e : List AV) (m : Nat) (s : S) (wm : Nat) : Option (List (AV × S)) := match ADs P e m l,nth nx d with
   |some vs,some fr=>match fr with
    | .lp t e0 m0=>E t (tak nx (Nat.succ d)) (psh e0 vs) (Nat.add m0 (len vs)) s wm
    | .jn u e0 m0=>E u (tak nx d) (psh e0 vs) (Nat.add m0 (len vs)) s wm
    | .rn ys tb ta te e0 m0 rs=>match a4S s rs with
     |true=>match ys with
      |[]=>E ta (tak nx d) (psh e0 vs) (Nat.add m0 (len vs)) s wm
      |xs::r=>E tb (cat (tak nx d) [.rn r tb ta te e0 m0 rs,.rx te e0 m0]) (psh e0 (xs++vs)) (Nat.add m0 (Nat.add (len xs) (len vs))) s wm
     |false=>none
    | .rx te e0 m0=>E te (tak nx (Nat.sub d 1)) (psh e0 vs) (Nat.add m0 (len vs)) s wm
   |_,_=>none
def tRf (E : Tree -> List Fr -> List AV -> Nat -> S -> Nat -> Option (List (AV × S))) (g : SV) (np : Nat) (ini : List SV) (tb ta te : Tree) (nx : List Fr) (e : List AV) (m : Nat) (s : S) (wm : Nat) : Option (List (AV × S)) := match AD P e m g,ADs P e m ini with
   |some (.fn h [] cs),some vs=>match itb h cs s with
    |some (ys,ks,ls)=>match b3K np ys,a3c s wm ks with
     |true,some s'=>match a8Z s' ls with
      |some rs=>match ys with
       |[]=>E ta nx (psh e vs) (Nat.add m (len vs)) s' wm
       |xs::r=>E tb (cat nx [.rn r tb ta te e m rs,.rx te e m]) (psh e (xs++vs)) (Nat.add m (Nat.add (len xs) (len vs))) s' wm
      |none=>none
     |_,_=>none
    |none=>none
   |_,_=>none
def d5L (l:List SV) (_:List Fr) (e:List AV) (m:Nat) (s:S) (_:Nat):Option (List (AV×S)):=match ADs P e m l with
 |some vs=>some [(c6B vs,s)]
 |none=>none
def tRq (E:Tree->List Fr->List AV->Nat->S->Nat->Option (List (AV×S))) (r:Rq) (t:Tree) (nx:List Fr) (e:List AV) (m:Nat) (s:S) (wm:Nat):Option (List (AV×S)):=match rqA P e m r with
 |true=>E t nx e m s wm
 |false=>none
def tBr (E:Tree->List Fr->List AV->Nat->S->Nat->Option (List (AV×S))) (c:SV) (t u:Tree) (nx:List Fr) (e:List AV) (m:Nat) (s:S) (wm:Nat):Option (List (AV×S)):=match AD P e m c with
 |some (.bool true)=>E t nx e m s wm
 |some (.bool false)=>E u nx e m s wm
 |_=>none
def d5M (E:Tree->List Fr->List AV->Nat->S->Nat->Option (List (AV×S))) (t u:Tree) (nx:List Fr) (e:List AV) (m:Nat) (s:S) (wm:Nat):Option (List (AV×S)):=E t (cat nx [.jn u e m]) e m s wm
def evT (E:Tree->List Fr->List AV->Nat->S->Nat->Option (List (AV×S))) (t:Tree):List Fr->List AV->Nat->S->Nat->Option (List (AV×S)):=
 Tree.rec (motive:=fun _=>List Fr->List AV->Nat->S->Nat->Option (List (AV×S)))
  (fun l=>d5L P l) (fun r t _=>tRq P E r t) (fun c t u _ _=>tBr P E c t u) (fun pf g args t _=>d5E P tab pur orc E pf g args t) (fun _ _ o args t _=>d5G P kty E o args t) (fun pf _ _ o args t _=>d5H P kty tab pur E pf o args t)
  (fun g args t _=>d5F P own E g args t) (fun T c t _=>d5I P E T c t) (fun _ _ _ _ _ _=>none) (fun ini t _=>d5J P E ini t) (fun d l=>d5K P E d l) (fun _ t u _ _=>d5M E t u) (fun _ _ o args t _=>tMk P E o args t)
  (fun g np ini tb ta te _ _ _=>tRf P itb E g np ini tb ta te) t
def ev (f:Nat):Tree->List Fr->List AV->Nat->S->Nat->Option (List (AV×S)):=Nat.rec (motive:=fun _=>Tree->List Fr->List AV->Nat->S->Nat->Option (List (AV×S)))
 (fun _ _ _ _ _ _=>none) (fun _ E=>evT P kty tab pur orc own itb E) f
variable (f:Nat) (t u:Tree) (nx:List Fr) (e:List AV) (m:Nat) (s:S) (wm:Nat)
theorem c8N:ev P kty tab pur orc own itb 0 t nx e m s wm=none:=rfl
theorem d2U (l:List SV):ev P kty tab pur orc own itb (f+1) (.ret l) nx e m s wm=d5L P l nx e m s wm:=rfl
theorem d5N (r:Rq):ev P kty tab pur orc own itb (f+1) (.rq r t) nx e m s wm=tRq P (ev P kty tab pur orc own itb f) r t nx e m s wm:=rfl
theorem d5O (c:SV):ev P kty tab pur orc own itb (f+1) (.br c t u) nx e m s wm=tBr P (ev P kty tab pur orc own itb f) c t u nx e m s wm:=rfl
theorem c8O (pf:Bool) (g:FuncId) (args:List SV):ev P kty tab pur orc own itb (f+1) (.call pf g args t) nx e m s wm=d5E P tab pur orc (ev P kty tab pur orc own itb f) pf g args t nx e m s wm:=rfl
theorem c8P (i j:Nat) (o:Oper) (args:List SV):ev P kty tab pur orc own itb (f+1) (.prim i j o args t) nx e m s wm=d5G P kty (ev P kty tab pur orc own itb f) o args t nx e m s wm:=rfl
theorem d2V (pf:Bool) (i j:Nat) (o:Oper) (args:List SV):ev P kty tab pur orc own itb (f+1) (.eff pf i j o args t) nx e m s wm=d5H P kty tab pur (ev P kty tab pur orc own itb f) pf o args t nx e m s wm:=rfl
theorem d2W (g:FuncId) (args:List SV):ev P kty tab pur orc own itb (f+1) (.ext g args t) nx e m s wm=d5F P own (ev P kty tab pur orc own itb f) g args t nx e m s wm:=rfl
theorem d2X (T:TypeId) (c:SV):ev P kty tab pur orc own itb (f+1) (.pub T c t) nx e m s wm=d5I P (ev P kty tab pur orc own itb f) T c t nx e m s wm:=rfl
theorem c8Q (x:Nat):ev P kty tab pur orc own itb (f+1) (.dead x) nx e m s wm=none:=rfl
theorem c8R (ini:List SV):ev P kty tab pur orc own itb (f+1) (.loop ini t) nx e m s wm=d5J P (ev P kty tab pur orc own itb f) ini t nx e m s wm:=rfl
theorem c8S (d:Nat) (l:List SV):ev P kty tab pur orc own itb (f+1) (.next d l) nx e m s wm=d5K P (ev P kty tab pur orc own itb f) d l nx e m s wm:=rfl
theorem c8T (n:Nat):ev P kty tab pur orc own itb (f+1) (.join n t u) nx e m s wm=d5M (ev P kty tab pur orc own itb f) t u nx e m s wm:=rfl
theorem d5P (i j:Nat) (o:Oper) (args:List SV):ev P kty tab pur orc own itb (f+1) (.mk i j o args t) nx e m s wm=tMk P (ev P kty tab pur orc own itb f) o args t nx e m s wm:=rfl
theorem d5Q (g:SV) (np:Nat) (ini:List SV) (tb ta te:Tree):ev P kty tab pur orc own itb (f+1) (.rf g np ini tb ta te) nx e m s wm=tRf P itb (ev P kty tab pur orc own itb f) g np ini tb ta te nx e m s wm:=rfl
end
end
end Go.RZ

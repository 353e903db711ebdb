/- Lemmas of the proof. -/
import Derived.Test.YtlmbepjdokomkaaGreatDoorRxA
open Go.Sem renaming run_bind->eM
open List renaming range->eT
set_option linter.all false
namespace Go.RX
open RowKit
def Blind {α:Type} (P:Program) (m:Sem α):Prop:=∀(w w':World) (v:α) (w1:World),KeepM w w'->m.run P w= .ok v w1->w1=w/\m.run P w'= .ok v w'
namespace Blind
variable {P:Program} {α β:Type}
def pure' (v:α):Blind P (pure v:Sem α):=fun w w' u w1 _ h=>by
 have h:Result.ok v w=Result.ok u w1:=h;cases h;exact⟨rfl,rfl⟩
def halt (h:Halt):Blind P (.halt h:Sem α):=fun _ _ _ _ _ h=>by cases h
def bind {m:Sem α} {f:α->Sem β} (h1:Blind P m) (h2:∀v,Blind P (f v)):Blind P (m>>=f):=fun w w' v w1 hk h=>by
 rw[eM]at h⊢;cases e:m.run P w with
 |halt x w2=>rw[e]at h;cases h
 |ok u w2=>
  obtain⟨rfl,e'⟩:=h1 w w' u w2 hk e;rw[e]at h;rw[e'];exact h2 u _ _ _ _ hk h
def program:Blind P (Go.program):=fun w w' u w1 _ h=>by
 have h:Result.ok P w=Result.ok u w1:=h;cases h;exact⟨rfl,rfl⟩
def load (a:Addr):Blind P (Go.load a):=fun w w' v w1 hk h=>by
 have e1:∀w,(Go.load a).run P w=(match w.cell? a with
  |some v=> .ok v w
  |none=>match w.farLoad P a false with
   | .ok (v,_)=> .ok v w
   | .error h=> .halt h w):=fun w=>by
  show Sem.run P (.load .plain a .pure) w=_;simp only[Sem.run];rfl
 have hc:w'.cell? a=w.cell? a:=by
  unfold World.cell?;rcases hk a.block with h|⟨⟨_,_,h1⟩,_,_,h2⟩
  ·rw[h]
  ·rw[h1,h2]
 rw[e1]at h⊢;rw[hc];cases e:w.cell? a with
 |some x=>rw[e]at h;cases h;exact⟨rfl,rfl⟩
 |none=>
  rw[e]at h;simp only at h⊢;have hs:∀at_ u,World.viewLoad P w' at_ u a false=World.viewLoad P w at_ u a false:=fun at_ u=>by
   unfold World.viewLoad;have:w'.seen P at_ u a false=w.seen P at_ u a false:=by
    unfold World.seen;rcases hk at_.block with h|⟨⟨_,_,h1⟩,_,_,h2⟩
    ·rw[h]
    ·rw[h1,h2]
   rw[this]
  have hf:(∃v t,w.farLoad P a false= .ok (v,t))->w'.farLoad P a false=w.farLoad P a false:=by
   rintro⟨v,t,hv⟩;unfold World.farLoad at hv⊢;rcases hk a.block with h|⟨⟨_,_,h1⟩,_,_,h2⟩
   ·rw[h];cases eb:w.heap[a.block]? with
    |none=>rw[eb]at hv;simp at hv
    |some ob=>cases ob<;>first|(rw[eb]at hv;simp at hv;done)|(simp only[hs])
   ·rw[h1]at hv;simp at hv
  cases e2:w.farLoad P a false with
  |error x=>rw[e2]at h;cases h
  |ok r=>
   obtain⟨x,t⟩:=r;rw[hf ⟨x,t,e2⟩,e2];rw[e2]at h;cases h;exact⟨rfl,rfl⟩
def typeInfo (t:TypeId):Blind P (Go.typeInfo t):=program.bind fun p=>by
 cases p.info? t with
 |some i=>exact pure' _
 |none=>exact halt _
def underlying (t:TypeId):Blind P (Go.underlying t):=program.bind fun p=>by
 cases p.underlying t with
 |some i=>exact pure' _
 |none=>exact halt _
def sizeOf (t:TypeId):Blind P (Go.sizeOf t):=(typeInfo t).bind fun _=>pure' _
def isAgg (t:TypeId):Blind P (Go.isAgg t):=(underlying t).bind fun d=>by
 cases d<;>exact pure' _
def loadCellsFrom (a:Addr):∀(n i:Nat) (acc:Array Value),Blind P (Go.loadCellsFrom a i n acc)
 |0,_,_=>pure' _
 |n+1,_,_=>(load _).bind fun _=>loadCellsFrom a n _ _
def loadVar (t:TypeId) (a:Addr):Blind P (Go.loadVar t a):=(isAgg t).bind fun b=>by
 cases b
 ·exact load _
 ·exact(sizeOf t).bind fun n=>(loadCellsFrom a n _ _).bind fun _=>pure' _
def sureAddr (v:Value):Blind P (Instr.sureAddr v):=by
 unfold Instr.sureAddr;split
 ·exact pure' _
 ·exact halt _
def loadAt (t:TypeId) (v:Value):Blind P (Instr.loadAt t v):=(sureAddr v).bind fun a=>loadVar t a
def asIntOf (v:Value):Blind P (Go.asIntOf v):=by
 unfold Go.asIntOf;split
 ·exact pure' _
 ·exact halt _
 ·exact halt _
def WH {m:Sem α} (h:∀w v w1,m.run P w≠ .ok v w1):Blind P m:=fun w _ v w1 _ e=>absurd e (h w v w1)
def boundsPanic (k:IntKind) (x y:Int) (code:BoundsCode):Blind P (Go.boundsPanic k x y code:Sem α):=WH fun w v w1 e=>by
 unfold Go.boundsPanic at e
 extract_lets jp at e
 have hj:∀b w,∀v w1,(jp b).run P w≠ .ok v w1:=fun b w v w1 e=>by cases e
 split at e
 ·rw[eM]at e;cases e2:((fun x=>x==1)<$>choose (Question.extern "runtime.boundsError.signed" 2):Sem Bool).run P w with
  |halt _ _=>rw[e2]at e;cases e
  |ok b w2=>rw[e2]at e;exact hj _ _ _ _ e
 ·exact hj _ _ _ _ e
def indexAt (t:TypeId) (x ix:Value):Blind P (Instr.indexAt t x ix):=by
 unfold Instr.indexAt;refine(asIntOf ix).bind fun r=> ?_;obtain⟨k,i⟩:=r;refine Blind.bind (underlying t) fun d=> ?_
 extract_lets jp
 have hj:∀r,Blind P (jp r):=fun r=>by
  obtain⟨base,len,elem⟩:=r;refine(underlying t).bind fun d=> ?_;cases base with
  |none=>exact boundsPanic _ _ _ _
  |some a=>
   simp only;split
   ·exact(sizeOf _).bind fun _=>pure' _
   ·have h2:∀b:Bool,Blind P (if b=true then unsupported (.noEntry "op/indexAddr.an index out of range at an array of length 0 or 1 (ledger 616)")else Go.boundsPanic k i len .index:Sem Value):=fun b=>by
     cases b
     ·exact boundsPanic _ _ _ _
     ·exact halt _
    split
    ·exact h2 _
    ·exact h2 _
 split
 ·exact(sureAddr _).bind fun _=>(pure' _).bind hj
 ·exact(pure' _).bind hj
 ·exact(halt _).bind hj
end Blind
def af:Op->Bool| .load _ _| .indexAddr _ _ _=>true|_=>false
def WI {P:Program} {ρ:Operand->Value} {o:Oper} (h:af o.op=true):Blind P (execOp ρ o):=by
 unfold af at h;split at h
 ·rename_i e;unfold execOp;rw[e];exact(Blind.loadAt _ _).bind fun _=>Blind.pure' _
 ·rename_i e;unfold execOp;rw[e];exact(Blind.indexAt _ _ _).bind fun _=>Blind.pure' _
 ·cases h
def Calm {α:Type} (P:Program) (m:Sem α):Prop:=∀(w:World) (v:α) (w1:World),m.run P w= .ok v w1->w1.heap=w.heap
namespace Calm
variable {P:Program} {α β:Type}
def Lx {m:Sem α} (h:Blind P m):Calm P m:=fun w v w1 e=>by rw[(h w w v w1 (KeepM.refl w) e).1]
def pure' (v:α):Calm P (pure v:Sem α):=Lx (Blind.pure' v)
def halt (h:Halt):Calm P (.halt h:Sem α):=Lx (Blind.halt h)
def bind {m:Sem α} {f:α->Sem β} (h1:Calm P m) (h2:∀v,Calm P (f v)):Calm P (m>>=f):=fun w v w1 h=>by
 rw[eM]at h;cases e:m.run P w with
 |halt x w2=>rw[e]at h;cases h
 |ok u w2=>rw[e]at h;exact(h2 u _ _ _ h).trans (h1 _ _ _ e)
def choose (q:Question):Calm P (Go.choose q):=fun w v w1 h=>by
 have h:Sem.run P (.choose q .pure) w= .ok v w1:=h;simp only[Sem.run]at h;split at h<;>cases h<;>rfl
def shape (r:Nat):Calm P (Go.shape r):=fun w v w1 h=>by
 have h:Sem.run P (.shape r .pure) w= .ok v w1:=h;simp only[Sem.run]at h;cases h;rfl
def getObj (r:Nat):Calm P (Go.getObj r):=fun w v w1 h=>by
 have h:Sem.run P (.getObj r .pure) w= .ok v w1:=h;simp only[Sem.run]at h;split at h<;>cases h;rfl
def viewAt (r:Nat):Calm P (Go.viewAt r):=(shape r).bind fun o=>by
 cases o with
 |some _=>exact pure' _
 |none=>exact(getObj r).bind fun ob=>by cases ob<;>exact pure' _
def numberAt (r:Nat):Calm P (Go.numberAt r):=(shape r).bind fun o=>by
 cases o with
 |some _=>exact pure' _
 |none=>exact(getObj r).bind fun ob=>by cases ob<;>exact pure' _
def behindNumber (n:Addr):Calm P (Go.behindNumber n):=(numberAt _).bind fun _=>pure' _
def noView (a:Addr):Calm P (Go.noView a):=(viewAt _).bind fun o=>by
 cases o with
 |some _=>exact halt _
 |none=>exact pure' _
def byteOf (a:Addr):Calm P (Go.byteOf a):=by
 unfold Go.byteOf;split
 ·exact pure' _
 ·refine Calm.bind (Lx Blind.program) fun p=>(noView a).bind fun _=>(shape _).bind fun o=> ?_;split
  ·extract_lets s
   split
   ·exact pure' _
   ·split
    ·exact pure' _
    ·exact halt _
  ·exact halt _
def WJ {t:TypeId} {k:IntKind} (ht:P.underlying t=some (.int k)) (x y:Value):Calm P (Op.equal t x y):=by
 have hu:∀w,(Go.underlying t).run P w= .ok (.int k) w:=run_underlying ht;unfold Op.equal Op.maxDepth;intro w v w1 h;unfold Op.equalIn at h;rw[eM,hu]at h
 revert h
 simp only[Result.andThen];have go:∀{m:Sem Bool},Calm P m->m.run P w= .ok v w1->w1.heap=w.heap:=fun hm h=>hm _ _ _ h;refine go ?_;clear go;split<;>first|exact pure' _|exact halt _|(rename_i e;cases e;done)|skip
 ·split
  ·exact pure' _
  ·exact halt _
 ·refine(behindNumber _).bind fun a=>(behindNumber _).bind fun b=>(Lx Blind.program).bind fun p=> ?_;split
  ·exact(byteOf _).bind fun _=>(byteOf _).bind fun _=>pure' _
  ·refine(Lx (Blind.typeInfo _)).bind fun i=> ?_;split
   ·split
    ·exact pure' _
    ·exact halt _
   ·exact halt _
def checkInt {t:TypeId} {k:IntKind} (ht:P.underlying t=some (.int k)) (b:Bool) (n:Nat) (x:Value):Calm P (Instr.checkKey b (n+1) t x):=by
 have hu:∀w,(Go.underlying t).run P w= .ok (.int k) w:=run_underlying ht;intro w v w1 h;unfold Instr.checkKey at h;rw[eM,hu]at h;cases h;rfl
def findAsking {t:TypeId} {k:IntKind} (ht:P.underlying t=some (.int k)) (x:Value):∀(es:List MapEntry) (i:Nat),Calm P (Instr.findAsking t x es i)
 |[],_=>pure' _
 |e::es,i=>(WJ ht _ _).bind fun b=>by
  cases b
  ·exact findAsking ht x es (i+1)
  ·exact pure' _
def findKey {t:TypeId} {k:IntKind} (ht:P.underlying t=some (.int k)) (x:Value) (es:List MapEntry):Calm P (Instr.findKey t x es):=(Lx (Blind.underlying t)).bind fun d=>by
 cases Instr.findNow d x es 0 with
 |some r=>exact pure' _
 |none=>exact findAsking ht x es 0
def keyThatStays (a b:Value):Calm P (Instr.keyThatStays a b):=by
 unfold Instr.keyThatStays;split
 ·exact pure' _
 ·exact(choose _).bind fun _=>pure' _
def zeroValue (t:TypeId):Calm P (Go.zeroValue t):=(Lx (Blind.typeInfo t)).bind fun i=>by
 cases i.zero with
 |some v=>exact pure' _
 |none=>exact halt _
def asInt (v:Value):Calm P (Go.asInt v):=(Lx (Blind.asIntOf v)).bind fun _=>pure' _
end Calm
def MapsAt {α:Type} (P:Program) (r:Nat) (m:Sem α):Prop:=∀(w:World) (v:α) (w1:World),(∃es c,w.heap[r]? =some (.map es c))->m.run P w= .ok v w1->KeepM w w1
namespace MapsAt
variable {P:Program} {α β:Type} {r:Nat}
def calm {m:Sem α} (h:Calm P m):MapsAt P r m:=fun w v w1 _ e=>fun b=> .inl (by rw[h w v w1 e])
def bind {m:Sem α} {f:α->Sem β} (h1:Calm P m) (h2:∀v,MapsAt P r (f v)):MapsAt P r (m>>=f):=fun w v w1 hr h=>by
 rw[eM]at h;cases e:m.run P w with
 |halt x w2=>rw[e]at h;cases h
 |ok u w2=>
  rw[e]at h;have e1:=h1 _ _ _ e;have:=h2 u w2 v w1 (by rw[e1];exact hr) h;intro b;have:=this b
  rwa[e1]at this
def setObj (es:Array MapEntry) (c:Nat) (v:α):MapsAt P r (Go.setObj r (.map es c)>>=fun _=>pure v):=fun w u w1 ⟨e0,c0,hr⟩ h=>by
 have h:Sem.run P (.setObj r (.map es c) (.pure v)) w= .ok u w1:=h;simp only[Sem.run,hr]at h;cases h;intro b;show(w.heap.setIfInBounds r _)[b]? =_\/_/\∃es' c',(w.heap.setIfInBounds r _)[b]? =_;have oV:r<w.heap.size:=(Array.getElem?_eq_some_iff.1 hr).1;by_cases e:r=b
 ·subst e;exact .inr ⟨⟨_,_,hr⟩,es,c,by simp[oV]⟩
 ·exact .inl (by simp[e])
end MapsAt
def ah (P:Program):Op->Bool
 | .mapEntry T _ _=>match P.underlying T with
  |some (.map kt _)=>match P.underlying kt with|some (.int _)=>true|_=>false
  |_=>false
 | .entryStore _ _ _ _=>true
 |_=>false
def DK {P:Program} {α:Type} {r:Nat} {f:Array MapEntry->Nat->Sem α} {m:Sem α} {w w1:World} {v:α} (hf:∀es c,MapsAt P r (f es c))
  (h:(getObj r>>=fun o=>match o with| .map es c=>f es c|_=>m).run P w= .ok v w1) (hm:∀w v w1,m.run P w≠ .ok v w1):KeepM w w1:=by
 have h:Sem.run P (.getObj r fun o=>match o with| .map es c=>f es c|_=>m) w= .ok v w1:=h;simp only[Sem.run]at h;cases e:w.heap[r]? with
 |none=>rw[e]at h;cases h
 |some ob=>
  rw[e]at h;cases ob with
  |map es c=>exact hf es c w v w1 ⟨es,c,e⟩ h
  |cells _ _ _=>cases h
  |_=>exact absurd h (hm _ _ _)
def WL {P:Program} {ρ:Operand->Value} {o:Oper} (h:ah P o.op=true) {w w1:World} {v:Next} (hr:(execOp ρ o).run P w= .ok v w1):KeepM w w1/\((∃x,v= .value x)\/v= .skip):=by
 unfold ah at h;split at h
 ·rename_i T x y e;cases hu:P.underlying T with
  |none=>rw[hu]at h;cases h
  |some d=>
   cases d with
   |map kt et=>
    rw[hu]at h;simp only at h;cases hk:P.underlying kt with
    |none=>rw[hk]at h;cases h
    |some dk=>
     cases dk with
     |int k=>
      unfold execOp at hr;rw[e]at hr;simp only at hr;rw[eM]at hr;cases e2:(Instr.mapEntry T (ρ x) (ρ y)).run P w with
      |halt _ _=>rw[e2]at hr;cases hr
      |ok u w2=>
       rw[e2]at hr;obtain rfl:w2=w1:=by cases hr;rfl
       refine⟨?_,.inl ⟨u,by cases hr;rfl⟩⟩;clear hr;unfold Instr.mapEntry at e2;rw[eM,run_underlying hu]at e2;simp only[Result.andThen]at e2;split at e2
       ·cases e2
       ·rename_i r _;refine DK (P:=P) (r:=r) (fun es c=> ?_) e2 (fun _ _ _=>by intro h;cases h);refine MapsAt.bind (Calm.checkInt hk _ _ _) fun _=>MapsAt.bind (Calm.findKey hk _ _) fun fo=> ?_;cases fo with
        |some iv=>exact MapsAt.bind (Calm.keyThatStays _ _) fun _=>MapsAt.setObj _ _ _
        |none=>exact MapsAt.bind (Calm.zeroValue _) fun _=>MapsAt.setObj _ _ _
       ·cases e2
     |_=>rw[hk]at h;cases h
   |_=>rw[hu]at h;cases h
 ·rename_i T x y z e;unfold execOp at hr;rw[e]at hr;simp only at hr;rw[eM]at hr;cases e2:(Instr.entryStore T (ρ x) (ρ y) (ρ z)).run P w with
  |halt _ _=>rw[e2]at hr;cases hr
  |ok u w2=>
   rw[e2]at hr;obtain rfl:w2=w1:=by cases hr;rfl
   refine⟨?_,.inr (by cases hr;rfl)⟩;clear hr;unfold Instr.entryStore at e2;split at e2
   ·rename_i r _;refine DK (P:=P) (r:=r) (fun es c=> ?_) e2 (fun _ _ _=>by intro h;cases h);refine MapsAt.bind (Calm.asInt _) fun n=> ?_;split
    ·exact MapsAt.setObj _ _ ()
    ·exact MapsAt.calm (Calm.halt _)
   ·cases e2
 ·cases h
inductive SV where
 |v (i:Nat)
 |k (c:Value)
 |z (t:TypeId)
 |ag (x:SV)
 |cell (x:SV) (o s:Nat) (i:SV)
 |sub (x:SV) (o n s:Nat) (i:SV)
 |put (x:SV) (o n:Nat) (y:SV) (s:Nat) (i:SV)
 |cat (x:SV) (n:Nat) (y:SV)
 |pj (x:SV) (i:Nat)
 |op2 (o:BinOp) (k:IntKind) (x y:SV)
 |op1 (o:UnOp) (k:IntKind) (x:SV)
 |nt (x:SV)
 |cv (k:IntKind) (x:SV)
 |ite (c x y:SV)
 |eqb (n:Bool) (x y:SV)
inductive SL where
 |x (s:SV)
 |p (b o s:Nat) (i:SV)
 |u
inductive Rq where
 |int (k:IntKind) (x:SV)
 |num (x:SV)
 |bool (x:SV)
 |cells (n:Nat) (x:SV)
 |agg (n:Nat) (x:SV)
 |tup (n:Nat) (x:SV)
 |nz (x:SV)
 |nn (x:SV)
 |lt (n:Nat) (x:SV)
 |isb (b:Bool) (x:SV)
inductive Tree where
 |ret (l:List SV)
 |rq (r:Rq) (t:Tree)
 |br (c:SV) (t e:Tree)
 |call (pf:Bool) (f:FuncId) (args:List SV) (t:Tree)
 |prim (id i:Nat) (o:Oper) (args:List SV) (t:Tree)
 |eff (pf:Bool) (id i:Nat) (o:Oper) (args:List SV) (t:Tree)
 |ext (f:FuncId) (args:List SV) (t:Tree)
 |pub (T:TypeId) (c:SV) (t:Tree)
 |dead (n:Nat)
 |loop (ini:List SV) (t:Tree)
 |next (d:Nat) (l:List SV)
 |join (n:Nat) (t u:Tree)
 |mk (id i:Nat) (o:Oper) (args:List SV) (t:Tree)
 |rf (g:SV) (np:Nat) (ini:List SV) (tb ta te:Tree)
 |both (t u:Tree)
def n8:Value->Bool| .agg _| .tuple _=>false|_=>true
def Ee:Value->Bool| .bool b=>b|_=>false
def Ph:BinOp->Bool| .eql| .neq| .lss| .leq| .gtr| .geq=>true|_=>false
def w9 (o:BinOp) (k:IntKind) (a b:Int):Value:=
 match o with
 | .add=> .int k (k.wrap (a+b))
 | .sub=> .int k (k.wrap (a-b))
 | .mul=> .int k (k.wrap (a*b))
 | .quo=> .int k (k.wrap (a.tdiv b))
 | .rem=> .int k (a.tmod b)
 | .and=> .int k (k.wrap (BitVec.ofInt k.bits a&&&BitVec.ofInt k.bits b).toNat)
 | .or=> .int k (k.wrap (BitVec.ofInt k.bits a|||BitVec.ofInt k.bits b).toNat)
 | .xor=> .int k (k.wrap (BitVec.ofInt k.bits a^^^BitVec.ofInt k.bits b).toNat)
 | .andNot=> .int k (k.wrap (BitVec.ofInt k.bits a&&& ~~~BitVec.ofInt k.bits b).toNat)
 | .shl=> .int k (k.wrap (a*2^(min b.toNat k.bits)))
 | .shr=> .int k (a.fdiv (2^(min b.toNat k.bits)))
 | .eql=> .bool (a==b)
 | .neq=> .bool (a !=b)
 | .lss=> .bool (a<b)
 | .leq=> .bool (a<=b)
 | .gtr=> .bool (a>b)
 | .geq=> .bool (a≥b)
def unV (o:UnOp) (k:IntKind) (a:Int):Value:=
 match o with
 | .neg=> .int k (k.wrap (0-a))
 |_=> .int k (k.wrap (BitVec.ofInt k.bits (if k.signed then -1 else k.max)^^^BitVec.ofInt k.bits a).toNat)
def Ly (i:Nat):Value->Value| .tuple vs=>vs.getD i undef|_=>undef
def spl:Array Value->Nat->List Value->Array Value
 |cs,_,[]=>cs
 |cs,q,y::ys=>spl (cs.setIfInBounds q y) (q+1) ys
def j3 (P:Program) (t:TypeId):Value:=((P.info? t).bind (·.zero)).getD undef
def x4 (v:Value):Nat:=(intOf v).toNat
def D (P:Program) (ρ:List Value):SV->Value
 | .v i=>ρ.getD i undef
 | .k c=>c
 | .z t=>j3 P t
 | .ag x=> .agg (D P ρ x).cells
 | .cell x o s i=>(D P ρ x).cells.getD (o+s*x4 (D P ρ i)) undef
 | .sub x o n s i=> .agg ((D P ρ x).cells.extract (o+s*x4 (D P ρ i)) (o+s*x4 (D P ρ i)+n))
 | .put x o _ y s i=> .agg (spl (D P ρ x).cells (o+s*x4 (D P ρ i)) (D P ρ y).cells.toList)
 | .cat x _ y=> .agg ((D P ρ x).cells++(D P ρ y).cells)
 | .pj x i=>Ly i (D P ρ x)
 | .op2 o k x y=>w9 o k (intOf (D P ρ x)) (intOf (D P ρ y))
 | .op1 o k x=>unV o k (intOf (D P ρ x))
 | .nt x=> .bool (!Ee (D P ρ x))
 | .cv k x=> .int k (k.wrap (intOf (D P ρ x)))
 | .ite c x y=>if Ee (D P ρ c)then D P ρ x else D P ρ y
 | .eqb n x y=> .bool (n !=(Ee (D P ρ x)==Ee (D P ρ y)))
def i8 (cs:Array Value):Prop:=∀c∈cs.toList,n8 c=true
def Rq.holds (P:Program) (ρ:List Value):Rq->Prop
 | .int k x=>∃n,D P ρ x= .int k n
 | .num x=>∃k n,D P ρ x= .int k n
 | .bool x=>∃b,D P ρ x= .bool b
 | .cells n x=>(D P ρ x).cells.size=n/\i8 (D P ρ x).cells
 | .agg n x=>∃cs,D P ρ x= .agg cs/\cs.size=n
 | .tup n x=>∃vs,D P ρ x= .tuple vs/\n<vs.size
 | .nz x=>intOf (D P ρ x)≠0
 | .nn x=>0<=intOf (D P ρ x)
 | .lt n x=>0<=intOf (D P ρ x)/\intOf (D P ρ x)<n
 | .isb b x=>D P ρ x= .bool b
def ai:Value->Value->Bool
 | .bool a,.bool b=>a==b
 | .int k a,.int l b=>k==l&&a==b
 | .tuple a,.tuple b=>a.size==0&&b.size==0
 | .string a,.string b=>a.data.toList==b.data.toList
 | .func (.func f) a b,.func (.func g) c d=>f==g&&a.size==0&&b.size==0&&c.size==0&&d.size==0
 | .slice none l c,.slice none l' c'=>l==l'&&c==c'
 | .pointer none,.pointer none=>true
 | .map none,.map none=>true
 | .nilIface,.nilIface=>true
 | .nilFunc,.nilFunc=>true
 |_,_=>false
def SV.beq:SV->SV->Bool
 | .v i,.v j=>i==j
 | .k c,.k d=>ai c d
 | .z t,.z u=>t==u
 | .ag x,.ag y=>x.beq y
 | .cell x o s i,.cell y p t j=>x.beq y&&o==p&&s==t&&i.beq j
 | .sub x o n s i,.sub y p m t j=>x.beq y&&o==p&&n==m&&s==t&&i.beq j
 | .put x o n y s i,.put x' o' n' y' s' i'=>x.beq x'&&o==o'&&n==n'&&y.beq y'&&s==s'&&i.beq i'
 | .cat x n y,.cat x' n' y'=>x.beq x'&&n==n'&&y.beq y'
 | .pj x i,.pj y j=>x.beq y&&i==j
 | .op2 o l x y,.op2 o' l' x' y'=>o==o'&&l==l'&&x.beq x'&&y.beq y'
 | .op1 o l x,.op1 o' l' x'=>o==o'&&l==l'&&x.beq x'
 | .nt x,.nt y=>x.beq y
 | .cv l x,.cv l' y=>l==l'&&x.beq y
 | .ite c x y,.ite c' x' y'=>c.beq c'&&x.beq x'&&y.beq y'
 | .eqb n x y,.eqb n' x' y'=>n==n'&&x.beq x'&&y.beq y'
 |_,_=>false
def SL.beq:SL->SL->Bool
 | .x a,.x b=>a.beq b
 | .p b o s i,.p b' o' s' i'=>b==b'&&o==o'&&s==s'&&i.beq i'
 | .u,_=>true
 |_,_=>false
def Rq.beq:Rq->Rq->Bool
 | .int k x,.int l y=>k==l&&x.beq y
 | .num x,.num y=>x.beq y
 | .bool x,.bool y=>x.beq y
 | .cells n x,.cells m y=>n==m&&x.beq y
 | .agg n x,.agg m y=>n==m&&x.beq y
 | .tup n x,.tup m y=>n==m&&x.beq y
 | .nz x,.nz y=>x.beq y
 | .nn x,.nn y=>x.beq y
 | .lt n x,.lt m y=>n==m&&x.beq y
 | .isb b x,.isb c y=>b==c&&x.beq y
 |_,_=>false
def SV.lt (n:Nat):SV->Bool
 | .v i=>decide (i<n)
 | .k _| .z _=>true
 | .ag x| .pj x _| .op1 _ _ x| .nt x| .cv _ x=>x.lt n
 | .cell x _ _ i| .sub x _ _ _ i=>x.lt n&&i.lt n
 | .put x _ _ y _ i=>x.lt n&&y.lt n&&i.lt n
 | .cat x _ y| .op2 _ _ x y| .eqb _ x y=>x.lt n&&y.lt n
 | .ite c x y=>c.lt n&&x.lt n&&y.lt n
def SL.lt (n:Nat):SL->Bool
 | .x s=>s.lt n
 | .p _ _ _ i=>i.lt n
 | .u=>true
def Rq.sv:Rq->SV
 | .int _ x| .num x| .bool x| .cells _ x| .agg _ x| .tup _ x| .nz x| .nn x| .lt _ x| .isb _ x=>x
def noI:SV:= .k undef
def ng (k:IntKind):SV->Bool
 | .k (.int l _)=>k==l
 | .op2 o l _ _=> !Ph o&&k==l
 | .op1 _ l _=>k==l
 | .cv l _=>k==l
 |_=>false
def aj:SV->Bool
 | .k (.int _ _)=>true
 | .op2 o _ _ _=> !Ph o
 | .op1 _ _ _| .cv _ _=>true
 |_=>false
def ak:SV->Bool
 | .k (.bool _)=>true
 | .op2 o _ _ _=>Ph o
 | .nt _=>true
 | .eqb _ _ _=>true
 |_=>false
def Pi (x:SV):Bool:=aj x||ak x||(match x with| .k (.string _)=>true|_=>false)
def al:Value->Bool| .agg _=>true|_=>false
def ao (P:Program):SV->Bool
 | .ag _| .sub _ _ _ _ _| .put _ _ _ _ _ _| .cat _ _ _=>true
 | .z t=>al (j3 P t)
 | .k c=>al c
 |_=>false
def ar (n:Nat) (v:Value):Bool:=v.cells.size==n&&v.cells.toList.all n8
def has (kn:List Rq) (r:Rq):Bool:=kn.any (·.beq r)
def Pj:List Rq->SV->Option Nat
 |[],_=>none
 | .cells n y::r,x=>if y.beq x then some n else Pj r x
 |_::r,x=>Pj r x
def z6 (P:Program) (kn:List Rq):SV->Nat->Bool
 | .z t,n=>ar n (j3 P t)
 | .ag x,n=>z6 P kn x n
 | .cat x m y,n=>z6 P kn x m&&decide (m<=n)&&z6 P kn y (n-m)||has kn (.cells n (.cat x m y))
 | .put x o m y s i,n=>(z6 P kn x n&&z6 P kn y m)||has kn (.cells n (.put x o m y s i))
 | .k c,n=>ar n c
 | .sub x o m s i,n=>(s==0&&m==n&&(match Pj kn x with|some N=>decide (o+m<=N)|none=>false))||has kn (.cells n (.sub x o m s i))
 |x,n=>(n==1&&Pi x)||has kn (.cells n x)
def ev (P:Program) (kn:List Rq):Rq->Bool
 | .int k x=>ng k x||has kn (.int k x)
 | .num x=>aj x||has kn (.num x)
 | .bool x=>ak x||(has kn (.bool x)||(has kn (.isb true x)||has kn (.isb false x)))
 | .cells n x=>z6 P kn x n
 | .agg n x=>(ao P x&&z6 P kn x n)||has kn (.agg n x)
 | .tup n x=>has kn (.tup n x)
 | .nz (.k (.int _ m))=>m !=0
 | .nz x=>has kn (.nz x)
 | .nn (.k (.int _ m))=>decide (0<=m)
 | .nn x=>has kn (.nn x)
 | .lt n (.k (.int _ m))=>decide (0<=m/\m<n)
 | .lt n x=>has kn (.lt n x)
 | .isb b (.k (.bool c))=>b==c
 | .isb b x=>has kn (.isb b x)
def Pm (P:Program) (x:SV):SV:=if ao P x then x else .ag x
def nh (c x y:SV):SV:=match c with| .k (.bool true)=>x| .k (.bool false)=>y|_=> .ite c x y
def Mc (P:Program) (kn:List Rq) (o n:Nat):SV->SV
 | .cat x m y=>if o=0/\n=m/\z6 P kn x m then Pm P x else if m<=o/\z6 P kn x m then Mc P kn (o-m) n y else if o+n<=m/\z6 P kn x m then .sub x o n 0 noI else .sub (.cat x m y) o n 0 noI
 | .ag x=>Mc P kn o n x
 |x=>if o=0/\z6 P kn x n then Pm P x else .sub x o n 0 noI
def Md (P:Program) (kn:List Rq) (o:Nat):SV->SV
 | .cat x m y=>if m<=o/\z6 P kn x m then Md P kn (o-m) y else if o=0/\Pi x then x else if o<m/\z6 P kn x m then .cell x o 0 noI else .cell (.cat x m y) o 0 noI
 | .ag x=>Md P kn o x
 |x=>if o=0/\Pi x then x else .cell x o 0 noI
def Pn (P:Program) (kn:List Rq) (sf:Bool) (N o n:Nat) (y:SV):SV->SV
 | .cat x m r=>if o=0/\n=m/\z6 P kn x m then .cat y n r
   else if m<=o/\z6 P kn x m then .cat x m (Pn P kn sf (N-m) (o-m) n y r)
   else .put (.cat x m r) o n y 0 noI
 | x => if o = 0 /\ n = N then y else if sf then
    (if o=0 then .cat y n (.sub x n (N-n) 0 noI)else if o+n=N then .cat (.sub x 0 o 0 noI) o y else .cat (.sub x 0 o 0 noI) o (.cat y n (.sub x (o+n) (N-(o+n)) 0 noI)))
   else .put x o n y 0 noI
def Ry:List Value->List Value->Bool
 |[],[]=>true
 |a::l,b::r=>ai a b&&Ry l r
 |_,_=>false
def Po:List (Nat×SV)->SV
 |[]=> .k (.agg #[])
 |[(_,x)]=>x
 |(n,x)::r=> .cat x n (Po r)
def exZ (P:Program) (T:TypeId):SV:=
 match P.underlying T with
 |some (.struct fs)=>
  if fs.size≥2/\Ry (j3 P T).cells.toList (fs.toList.flatMap fun f=>(j3 P f.type).cells.toList)then Po (fs.toList.map fun f=>((j3 P f.type).cells.size,.z f.type))else .z T
 |_=> .z T
structure Blk where
 c:SV
 T:TypeId
 n:Nat
structure Jn where
 kd:Nat
 key:Nat
 ts:List Nat
 bs:List Nat
def Rz:List Jn->Nat->Nat->Option Jn
 |[],_,_=>none
 |j::r,kd,key=>if j.kd==kd&&j.key==key then some j else Rz r kd key
structure St where
 es:List Nat
 am:List (Nat×Bool)
 js:List Jn
 sl:List SL
 bl:List Blk
 kn:List Rq
 kb:List (SV×Bool)
 n:Nat
 d:Nat
 rd:Bool:=false
def St.get (st:St):Operand->Option SL
 | .tmp t=>st.sl[t]?
 | .const c=>some (.x (.k c))
 | .func f=>some (.x (.k (.func (.func f) #[] #[])))
 | .global g=>some (.x (.k (.pointer (some ⟨g,0,none⟩))))
def St.val (st:St) (x:Operand):Option SV:=match st.get x with|some (.x s)=>some s|_=>none
def St.set (st:St) (d:Option Tmp) (s:SL):St:=match d with|some t=>{st with sl:=st.sl.set t s}|none=>st
def Me:List (SV×Bool)->SV->SV
 |[],c=>c
 |(x,b)::r,c=>if x.beq c then .k (.bool b)else Me r c
def St.know (st:St) (P:Program) (c:SV) (b:Bool):St:={st with kb:=(match c with| .nt x=>if ev P st.kn (.bool x)then[(c,b),(x,!b)]else[(c,b)]|_=>[(c,b)])++st.kb}
inductive Res where
 |val (s:SL)
 |new (c:SV) (T n:Nat)
 |sto (b:Nat) (c:SV)
 |call (f:FuncId) (args:List SV)
 |prim (args:List SV)
 |eff (args:List SV)
 |ext (f:FuncId) (args:List SV)
 |mk (args:List SV)
 |bad
def r9 (P:Program) (t:TypeId):Bool:=(P.info? t).isSome&&(P.underlying t).isSome
def p8 (P:Program) (t:TypeId):Bool:=match P.underlying t with|some (.struct _)|some (.array _ _)=>true|_=>false
def Jp (P:Program) (t:TypeId):Option IntKind:=match P.underlying t with|some (.int k)=>some k|_=>none
def DL (P:Program) (t:TypeId):Bool:=match P.underlying t with|some (.struct _)=>true|_=>false
def au (P:Program) (t:TypeId):Bool:=match P.underlying t with|some .bool=>true|_=>false
def Jq (st:St):List Operand->Option (List SV)
 |[]=>some []
 |x::r=>match st.val x,Jq st r with|some s,some l=>some (s::l)|_,_=>none
def ni (P:Program) (T:TypeId):Option (Nat->Option (Nat×Nat)):=
 match P.underlying T with
 |some (.struct fs)=>some fun i=>(fs[i]?).map fun f=>(f.offset,P.cellsOf f.type)
 |some (.array _ e)=>some fun i=>some (i*P.cellsOf e,P.cellsOf e)
 |_=>none
def nj (P:Program) (T:TypeId):Bool:=
 match P.underlying T with
 |some (.struct fs)=>fs.all fun f=>r9 P f.type
 |some (.array _ e)=>r9 P e
 |_=>false
def n9 (P:Program) (o:Oper):Nat:=
 match o.op with
 | .move _| .assign _| .pick _ _ _| .build _ _| .unOp _ _ _| .field _ _ _| .extract _ _=>0
 | .index t _ _=>match P.underlying t with|some (.array _ _)=>0|_=>1
 | .binOp op t _ _ _=>if(Jp P t).isSome||(au P t&&(op== .eql||op== .neq))then 0 else 1
 | .convert s d _=>if(Jp P s).isSome&&(Jp P d).isSome then 0 else 1
 | .load _ _| .fieldAddr _ _ _| .indexAddr _ _ _| .lookup _ _ _ _| .slice _ _ _ _ _| .makeInterface _ _| .sliceToArrayPointer _ _| .nilCheck _| .typeAssert _ _ _ _=>1
 | .alloc _| .box _ _=>3
 | .store _ _ _| .insert _ _ _ _| .mapUpdate _ _ _ _| .panic _=>4
 | .call {callee:= .builtin .len,.. }| .call {callee:= .builtin .min,.. }| .call {callee:= .builtin .max,.. }| .call {callee:= .builtin .unsafeSliceData,.. }=>1
 |_=>2
def bad:List Rq×Res:=([],.bad)
def av (st:St) (x:Operand):List Rq×Res:=match st.get x with|some s=>([],.val s)|none=>bad
def nl (st:St) (c a b:Operand):List Rq×Res:=match st.val c,st.val a,st.val b with
 |some c,some a,some b=>([.bool c],.val (.x (nh (Me st.kb c) a b)))
 |_,_,_=>bad
def nq (P:Program) (T:TypeId):List Rq×Res:=match(P.info? T).bind (·.zero)with
 |some z=>([.cells z.cells.size (.z T)],.new (.z T) T z.cells.size)
 |none=>bad
def nr (P:Program) (st:St) (T:TypeId) (x:Operand):List Rq×Res:=match st.val x with
 |some x=>([.cells (P.cellsOf T) x],.new x T (P.cellsOf T))
 |none=>bad
def ns (P:Program) (st:St) (T:TypeId) (B:Blk) (q s:Nat) (i:SV):List Rq×Res:=
 if r9 P T=false then bad else
 if s=0 then
  if p8 P T then
   if q+P.cellsOf T<=B.n then([],.val (.x (if q=0/\P.cellsOf T=B.n then Pm P B.c else Mc P st.kn q (P.cellsOf T) B.c)))else bad
  else if q+P.cellsOf T<=B.n/\q<B.n then([],.val (.x (Md P st.kn q B.c)))else bad
 else if q+P.cellsOf T<=B.n/\0<P.cellsOf T then
  ([.num i,.lt ((B.n-q-P.cellsOf T)/s+1) i],.val (.x (if p8 P T then .sub B.c q (P.cellsOf T) s i else .cell B.c q s i)))
 else bad
def Jr (P:Program) (st:St) (T:TypeId) (a:Operand):List Rq×Res:=match st.get a with
 |some (.p b q s i)=>match st.bl[b]? with
  |some B=>ns P {st with kn:= .cells B.n B.c::st.kn} T B q s i
  |none=>bad
 |some (.x a)=>([],.prim [a])
 |_=>bad
def nu (P:Program) (st:St) (T:TypeId) (B:Blk) (b q s:Nat) (i x:SV):List Rq×Res:=
 if r9 P T=false then bad else
 if q+P.cellsOf T<=B.n then
  if s=0 then([.cells (P.cellsOf T) x],.sto b (Pn P st.kn (DL P B.T) B.n q (P.cellsOf T) x B.c))
  else([.cells (P.cellsOf T) x,.num i,.lt ((B.n-q-P.cellsOf T)/s+1) i],.sto b (.put B.c q (P.cellsOf T) x s i))
 else bad
def Pq (P:Program) (st:St) (T:TypeId) (a x:Operand):List Rq×Res:=match st.get a,st.val x with
 |some (.p b q s i),some x=>match st.bl[b]? with
  |some B=>nu P {st with kn:= .cells B.n B.c::st.kn} T B b q s i x
  |none=>bad
 |some (.x a),some x=>([],.eff [a,x])
 |_,_=>bad
def bf (P:Program) (st:St) (S:TypeId) (a:Operand) (f:Nat):List Rq×Res:=match st.get a with
 |some (.p b q s i)=>match P.underlying S with
  |some (.struct fs)=>match fs[f]? with
   |some fd=>if P.cellsOf fd.type=0\/r9 P fd.type=false then bad else([],.val (.p b (q+fd.offset) s i))
   |none=>bad
  |_=>bad
 |some (.x a)=>([],.prim [a])
 |_=>bad
def bg (P:Program) (st:St) (T:TypeId) (a ix:Operand):List Rq×Res:=match st.get a,st.val ix with
 |some (.p b q s _),some j=>match P.underlying T with
  |some (.array len e)=>
   if s≠0\/r9 P e=false then bad else
   match j with
   | .k (.int _ m)=>if 0<=m/\m<len then([],.val (.p b (q+m.toNat*P.cellsOf e) 0 noI))else bad
   |j=>if P.cellsOf e=0 then bad else([.num j,.lt len j],.val (.p b q (P.cellsOf e) j))
  |_=>bad
 |some (.x a),some j=>([],.prim [a,j])
 |_,_=>bad
def oa (P:Program) (st:St) (S:TypeId) (x:Operand) (f:Nat):List Rq×Res:=match st.val x with
 |some x=>match P.underlying S with
  |some (.struct fs)=>match fs[f]? with
   |some fd=>if fd.offset+P.cellsOf fd.type<=P.cellsOf S/\0<P.cellsOf fd.type/\r9 P fd.type=true then([.agg (P.cellsOf S) x],.val (.x (if p8 P fd.type then Mc P st.kn fd.offset (P.cellsOf fd.type) x else Md P st.kn fd.offset x)))else bad
   |none=>bad
  |_=>bad
 |none=>bad
def od (P:Program) (st:St) (T:TypeId) (x ix:Operand):List Rq×Res:=match st.val x,st.val ix with
 |some x,some j=>match P.underlying T with
  |some (.array len e)=>
   if len*P.cellsOf e<=P.cellsOf T/\0<P.cellsOf e/\r9 P e=true then
    match j with
    | .k (.int _ m)=>if 0<=m/\m<len then([.agg (P.cellsOf T) x],.val (.x (if p8 P e then Mc P st.kn (m.toNat*P.cellsOf e) (P.cellsOf e) x else Md P st.kn (m.toNat*P.cellsOf e) x)))else bad
    |j=>([.agg (P.cellsOf T) x,.num j,.lt len j],.val (.x (if p8 P e then .sub x 0 (P.cellsOf e) (P.cellsOf e) j else .cell x 0 (P.cellsOf e) j)))
   else bad
  |some .string=>([],.prim [x,j])
  |_=>bad
 |_,_=>bad
def Wm (st:St):List (Nat×Operand)->Option (List (Nat×SV))
 |[]=>some []
 |(i,x)::r=>match st.val x,Wm st r with|some s,some l=>some ((i,s)::l)|_,_=>none
def Wn (pl:Nat->Option (Nat×Nat)):List (Nat×SV)->Option (List (Nat×Nat×SV))
 |[]=>some []
 |(i,x)::r=>match pl i,Wn pl r with|some (q,n),some l=>some ((q,n,x)::l)|_,_=>none
def og (P:Program) (st:St) (T:TypeId) (parts:List (Nat×Operand)):List Rq×Res:=
 match Wm st parts,ni P T with
 |some ps,some pl=>match Wn pl ps with
  |some l=>if(l.all fun p=>decide (p.1+p.2.1<=P.cellsOf T))&&nj P T&&(P.info? T).any (·.zero.isSome)then(.cells (P.cellsOf T) (.z T)::l.map (fun p=> .cells p.2.1 p.2.2),.val (.x (Pm P (l.foldl (fun acc p=>Pn P st.kn (DL P T) (P.cellsOf T) p.1 p.2.1 p.2.2 acc) (exZ P T)))))else bad
  |none=>bad
 |_,_=>bad
def oh (st:St) (x:Operand) (i:Nat):List Rq×Res:=match st.val x with
 |some x=>([.tup i x],.val (.x (.pj x i)))
 |none=>bad
def ol (op:BinOp):Bool:=op== .shl||op== .shr
def om (op:BinOp):Bool:=op== .quo||op== .rem
def bj (op:BinOp):Bool:=op== .eql||op== .neq
def oo (P:Program) (st:St) (op:BinOp) (T:TypeId) (x y:Operand):List Rq×Res:=match st.val x,st.val y with
 |some x,some y=>match Jp P T with
  |some k=>if ol op then([.int k x,.num y,.nn y],.val (.x (.op2 op k x y)))else([.int k x,.int k y]++(if om op then[.nz y]else[]),.val (.x (.op2 op k x y)))
  |none=>if au P T&&bj op then([.bool x,.bool y],.val (.x (.eqb (op== .neq) x y)))else([],.prim [x,y])
 |_,_=>bad
def ou (x:SV):SV:=match x with| .k (.bool b)=> .k (.bool (!b))|x=> .nt x
def sUn (P:Program) (st:St) (op:UnOp) (T:TypeId) (x:Operand):List Rq×Res:=match st.val x with
 |some x=>match op with
  | .not=>([.bool x],.val (.x (ou x)))
  | .plus=>bad
  |op=>match Jp P T with
   |some k=>([.int k x],.val (.x (.op1 op k x)))
   |none=>bad
 |none=>bad
def ov (P:Program) (st:St) (s d:TypeId) (x:Operand):List Rq×Res:=match st.val x with
 |some x=>match Jp P s,Jp P d with
  |some k,some l=>([.int k x],.val (.x (.cv l x)))
  |_,_=>([],.prim [x])
 |none=>bad
def ow:Builtin->Bool| .len| .min| .max| .unsafeSliceData=>true|_=>false
def ox (P:Program) (st:St) (c:Call):List Rq×Res:=match c.callee with
 | .value (.func f)=>match Jq st c.args.toList with
  |some l=>match(P.funcs[f]?).bind (·.body)with
   |some _=>if((P.funcs[f]?).map (·.name))==some "runtime.NumGoroutine" then bad else([],.call f l)
   |none=>([],.ext f l)
  |none=>bad
 | .builtin b=>match Jq st c.args.toList with
  |some l=>if ow b then([],.prim l)else([],.eff l)
  |none=>bad
 | .value f=>match Jq st (f::c.args.toList)with
  |some l=>([],.eff l)
  |none=>bad
 | .invoke _ _=>bad
def bm:Op->Bool| .lookup _ _ _ _| .slice _ _ _ _ _| .makeInterface _ _| .sliceToArrayPointer _ _| .nilCheck _| .typeAssert _ _ _ _=>true|_=>false
def bn:Op->Bool| .insert _ _ _ _| .mapUpdate _ _ _ _| .mapEntry _ _ _| .entryStore _ _ _ _| .buildSlice _ _ _| .makeSlice _ _ _| .makeMap _ _| .makeFunc _ _ _| .range _ _| .next _ _| .entry _| .panic _=>true|_=>false
def Wp (st:St) (op:Op):List Rq×Res:=match Jq st op.operands.toList with
 |some l=>if bm op then([],.prim l)else if bn op then([],.eff l)else bad
 |none=>bad
def Wq (st:St) (d:Option Tmp):Bool:=match d with|some t=>st.es.contains t|none=>false
def mkB (st:St) (o:Oper):Bool:=match o.op with| .buildSlice _ _ _| .makeSlice _ _ _| .makeMap _ _=>Wq st o.dst|_=>false
def sMk (st:St) (op:Op):List Rq×Res:=match Jq st op.operands.toList with
 |some l=>([],.mk l)
 |none=>bad
def Ak (P:Program) (st:St) (o:Oper):List Rq×Res:=
 match o.op with
 | .move x=>av st x
 | .assign x=>av st x
 | .pick c a b=>nl st c a b
 | .alloc T=>nq P T
 | .box T x=>nr P st T x
 | .load T a=>Jr P st T a
 | .store T a x=>Pq P st T a x
 | .fieldAddr S a f=>bf P st S a f
 | .indexAddr T a ix=>bg P st T a ix
 | .field S x f=>oa P st S x f
 | .index T x ix=>od P st T x ix
 | .build T parts=>og P st T parts.toList
 | .extract x i=>oh st x i
 | .binOp op T x y _=>oo P st op T x y
 | .unOp op T x=>sUn P st op T x
 | .convert s d x=>ov P st s d x
 | .call c=>ox P st c
 |op=>if mkB st o then sMk st op else Wp st op
def Fo (P:Program):List Rq->St->(St->Option Tree)->Option Tree
 |[],st,k=>k st
 |r::rs,st,k=>if ev P st.kn r then Fo P rs st k else(Fo P rs {st with kn:=r::st.kn} k).map (Tree.rq r)
def Au (st:St):Bool:=st.sl.all (·.lt st.n)&&st.bl.all (·.c.lt st.n)&&st.kn.all (·.sv.lt st.n)&&st.kb.all (·.1.lt st.n)
def Do (st:St) (d:Option Tmp):St:=St.set {st with n:=st.n+1} d (.x (.v st.n))
def bp (P:Program) (pf:Bool) (id i:Nat) (o:Oper) (st:St) (k:St->Option Tree):Option Tree:=
 let(rs,r):=Ak P st o
 Fo P rs st fun st=>match r with
  | .val s=>k (st.set o.dst s)
  | .new c T n=>if Wq st o.dst then(if Au st&&c.lt st.n then(k (Do st o.dst)).map (Tree.pub T c)else none)else k (St.set {st with bl:=st.bl++[Blk.mk c T n]} o.dst (.p st.bl.length 0 0 noI))
  | .sto b c=>match st.bl[b]? with
   |some B=>k (St.set {st with bl:=st.bl.set b {B with c:=c}} o.dst (.x (.k undef)))
   |none=>none
  | .call f args=>if Au st&&args.all (·.lt st.n)then(k (Do st o.dst)).map (Tree.call pf f args)else none
  | .prim args=>if Au st&&args.all (·.lt st.n)then(k (Do st o.dst)).map (Tree.prim id i o args)else none
  | .eff args=>if Au st&&args.all (·.lt st.n)then(k (Do st o.dst)).map (Tree.eff pf id i o args)else none
  | .ext f args=>if Au st&&args.all (·.lt st.n)then(k (Do st o.dst)).map (Tree.ext f args)else none
  | .mk args=>if Au st&&args.all (·.lt st.n)then(k (Do st o.dst)).map (Tree.mk id i o args)else none
  | .bad=>some (.dead (777000000+1000*id+i))
def Si (st:St) (x:Operand):Option Nat:=match st.get x with|some (.p b _ _ _)=>some b|_=>none
def Iq (st:St) (o:Oper):Bool:=match o.op with| .fieldAddr _ a _=>(Si st a).isSome| .indexAddr _ a _=>(Si st a).isSome|_=>false
def bq:Res->Bool| .prim _=>true|_=>false
def e1Z:Res->Bool| .sto _ _=>true|_=>false
def frS (tg:Nat):Res->Bool| .sto b _=>tg !=0&&decide (tg<=b)|_=>true
def Bd (P:Program) (st:St) (o:Oper) (k tg:Nat):Bool:=
 match k with
 |0=>n9 P o==0||Iq st o
 |1=>decide (n9 P o<=1)
 |2=>n9 P o==2&& !mkB st o
 |3=>n9 P o==3||mkB st o
 |4=>true
 |5=>match o.op with| .load _ a=>Si st a==some tg|_=>false
 |6=>match o.op with| .store _ a _=>Si st a==some tg|_=>false
 |7=>bq (Ak P st o).2
 |8=>frS tg (Ak P st o).2
 |9=>bq (Ak P st o).2&&af o.op
 |10=>ah P o.op
 |_=>false
def Pv (P:Program) (pf:Bool) (ck:Nat->Oper->St->Bool) (id i:Nat) (o:Oper) (st:St) (k:St->Option Tree):Option Tree:=
 if ck i o st then bp P pf id i o st k else some (.dead (778000000+1000*id+i))
def oy:List (Nat×Bool)->Nat->Option Bool
 |[],_=>none
 |(t,b)::r,u=>if t==u then some b else oy r u
def amO (am:List (Nat×Bool)):Operand->Option Bool
 | .tmp t=>oy am t
 |_=>none
def Aq (P:Program) (pf:Bool) (ck:Nat->Oper->St->Bool) (ops:Array Oper) (id:Nat) (k:St->Option Tree):List Nat->St->Option Tree
 |[],st=>k st
 |i::L,st=>match ops[i]? with
  |none=>none
  |some o=>match o.guard with
   |none=>Pv P pf ck id i o st (Aq P pf ck ops id k L)
   |some (j,want)=>match((ops[j]?).bind (·.dst)).bind (st.sl[·]?)with
    |some (.x c)=>match Me st.kb c with
     | .k (.bool b)=>if b==want then Pv P pf ck id i o st (Aq P pf ck ops id k L)else Aq P pf ck ops id k L (st.set o.dst (.x (.k undef)))
     | .k (.tuple _)=>Aq P pf ck ops id k L (st.set o.dst (.x (.k undef)))
     |c=>match oy st.am (((ops[j]?).bind (·.dst)).getD 0)with
     |some b=>Fo P [.isb b c] st fun st=>if b==want then Pv P pf ck id i o (st.know P c b) (Aq P pf ck ops id k L)else Aq P pf ck ops id k L ((st.know P c b).set o.dst (.x (.k undef)))
     |none=>Fo P [.bool c] st fun st=>
      match Pv P pf ck id i o (st.know P c want) (Aq P pf ck ops id k L),Aq P pf ck ops id k L ((st.know P c (!want)).set o.dst (.x (.k undef)))with
      |some t1,some t2=>some (if want then .br c t1 t2 else .br c t2 t1)
      |_,_=>none
    |_=>none
structure Cd where
 id:Nat
 an:List Nat
 ks:List Nat
 ts:List Nat
 F:List Nat
 T:List Nat
def Ws:List Cd->Nat->Option Cd
 |[],_=>none
 |c::C,id=>if c.id==id then some c else Ws C id
def ckC (P:Program) (c:Cd) (i:Nat) (o:Oper) (st:St):Bool:=Bd P st o (c.ks.getD i 99) (c.ts.getD i 0)
def tgB (n0:Nat) (c:Cd):Bool:=(eT c.ks.length).all fun i=>(!(c.ks.getD i 99==5||c.ks.getD i 99==6)||decide (c.ts.getD i 0<n0))&&(!(c.ks.getD i 99==8)||(c.ts.getD i 0==0||decide (n0<=c.ts.getD i 0)))
def Wt (st:St) (ops:Array Oper) (c:Cd):Bool:=
 c.an==Cc ops.toList []&&tgB st.bl.length c&&Lu ops c.an (fun i=>c.ks.getD i 99) (fun i=>c.ts.getD i 0) c.F c.T
def Na:Code->List Nat
 | .region _ ops _=>ops.toList.filterMap (·.dst)
 | .seq a b=>Na a++Na b
 | .cond _ a b=>Na a++Na b
 | .block _ a=>Na a
 | .loop a=>Na a
 | .scope a=>Na a
 |_=>[]
def Gk:Code->Bool
 | .region _ ops _=>ops.any fun o=>match o.op with| .store .. =>true|_=>false
 | .seq a b=>Gk a||Gk b
 | .cond _ a b=>Gk a||Gk b
 | .block _ a=>Gk a
 | .loop a=>Gk a
 | .scope a=>Gk a
 | .rangeFunc _ _ a c=>Gk a||Gk c
 |_=>false
def oz:SL->Bool| .x (.k (.tuple _))=>false| .x _=>true|_=>false
def Px (sl:List SL) (ws:List Nat):List Nat:=ws.filter fun t=>match sl[t]? with|some s=>oz s|none=>false
def pa (sl:List SL) (ws:List Nat):List Nat:=ws.filter fun t=>match sl[t]? with|some s=> !oz s|none=>false
def Nb (sl:List SL) (ts:List Nat) (s:SL):List SL:=ts.foldl (fun sl t=>sl.set t s) sl
def Js:List Nat->Nat->List SL->List SL
 |[],_,sl=>sl
 |t::ts,n,sl=>Js ts (n+1) (sl.set t (.x (.v n)))
def As (i:Nat):List Nat->Nat->Option Nat
 |[],_=>none
 |x::l,k=>if x==i then some k else As i l (k+1)
def Py (bs:List Nat) (n:Nat):List Blk->Nat->List Blk
 |[],_=>[]
 |b::l,i=>(match As i bs 0 with|some k=>{b with c:= .v (n+k)}|none=>b)::Py bs n l (i+1)
def cAt (bl:List Blk):List Nat->Option (List SV)
 |[]=>some []
 |i::r=>match bl[i]?,cAt bl r with|some B,some l=>some (B.c::l)|_,_=>none
def Wu (bl:List Blk):List Nat->Nat->List Rq
 |[],_=>[]
 |i::r,n=>(match bl[i]? with|some B=>[Rq.cells B.n (.v n)]|none=>[])++Wu bl r (n+1)
def Nc:List Nat->Bool
 |[]=>true
 |x::l=> !l.contains x&&Nc l
def DN (sl:List SL) (t:Nat):Option SV:=match sl[t]? with|some (SL.x s)=>some s|_=>none
def Nh (sl:List SL):List Nat->Option (List SV)
 |[]=>some []
 |t::ts=>match DN sl t,Nh sl ts with|some s,some l=>some (s::l)|_,_=>none
def Ni:List Nat->List Nat
 |[]=>[]
 |x::l=>if l.contains x then Ni l else x::Ni l
def Ci (b:Code):List Nat:=Ni (Na b)
def Nj (bs:List Nat):List Blk->List Blk->Nat->Bool
 |[],_,_=>true
 |x::l,y::r,i=>x.T==y.T&&x.n==y.n&&(bs.contains i||x.c.beq y.c)&&Nj bs l r (i+1)
 |_::_,[],_=>false
def Sj (ws:List Nat):List SL->List SL->Nat->Bool
 |[],[],_=>true
 |x::a,y::b,i=>(x.beq y||ws.contains i)&&Sj ws a b (i+1)
 |[],_::_,_=>false
 |_::_,[],_=>false
def Wv (ws:List Nat) (a b:List SL):Bool:=Sj ws a b 0
def Hk:Code->Option Nat
 | .region id _ _=>some id
 | .seq a b=>match Hk a with|some k=>some k|none=>Hk b
 | .cond _ a b=>match Hk a with|some k=>some k|none=>Hk b
 | .block _ a=>Hk a
 | .loop a=>Hk a
 | .scope a=>Hk a
 | .rangeFunc _ _ a c=>match Hk c with|some k=>some k|none=>Hk a
 |_=>none
def Pz (st:St) (b:Code):List Nat:=
 if Gk b then match Rz st.js 0 ((Hk b).getD 0)with|some j=>j.bs|none=>eT st.bl.length else[]
def Bg (st:St) (lv dd bs:List Nat) (δ:Nat):St:=
 {es:=st.es,am:=st.am,js:=st.js,
  sl:=Nb (Js lv st.n st.sl) dd .u,
  bl:=Py bs (st.n+lv.length) st.bl 0,
  kn:=Wu st.bl bs (st.n+lv.length)++st.kn,
  kb:=st.kb,
  n:=st.n+lv.length+bs.length,
  d:=st.d+δ,
  rd:=st.rd}
def jn (st:St) (b:Code) (ts bs:List Nat) (run:St->(Exit->St->Option Tree)->Option Tree) (k:Exit->St->Option Tree):Option Tree:=
 if Au st&&Nc ts&&Nc bs then
  match run {st with d:=st.d+1} (fun e st2=>match e with
    | .normal=>match Nh st2.sl ts,cAt st2.bl bs with
     |some nv,some nb=>if Wv (Ci b) st.sl st2.sl&&Nj bs st.bl st2.bl 0 then some (.next st.d (nv++nb))else some (.dead 807)
     |_,_=>some (.dead 808)
    |e=>k e st2),k .normal (Bg st ts ((Ci b).filter fun t=> !ts.contains t) bs 0)with
  |some t,some u=>some (.join (ts.length+bs.length) t u)
  |_,_=>none
 else none
def WM:Operand->Nat
 | .tmp t=>t
 |_=>0
def Hl:Code->List Exit
 | .seq a b=>Hl a++Hl b
 | .cond _ a b=>Hl a++Hl b
 | .block id a=>(Hl a).filter fun e=>match e with| .exit j=>j !=id|_=>true
 | .loop a=>Hl a
 | .scope a=>Hl a
 | .exit id=>[.exit id]
 | .ret=>[.ret]
 |_=>[]
def Sm:Exit->List Exit->Bool
 | .ret,.ret::_=>true
 | .exit i,.exit j::_=>i==j
 |_,_=>false
def Nk (st:St) (a b:Code):List Nat:=
 if Gk a||Gk b then match Rz st.js 4 ((Hk b).getD 0)with|some j=>j.bs|none=>eT st.bl.length else[]
def Ww (st:St) (bs:List Nat) (j:Nat) (st2:St):Option Tree:=
 match cAt st2.bl bs with
 |some nb=>if Nj bs st.bl st2.bl 0 then some (.next (st.d+j) nb)else some (.dead 820)
 |none=>some (.dead 820)
def pe (st:St) (ps bs:List Nat):St:={Bg st ps [] bs 2 with rd:=true}
def exR (P:Program) (C:List Cd) (id:Nat) (ops:Array Oper) (draw:Bool) (st:St) (k:Exit->St->Option Tree):Option Tree:=
 match draw with
 |false=>Aq P false (fun _ _ _=>true) ops id (k .normal) (eT ops.size) st
 |true=>match Ws C (2000000+id)with
  |some p=>match p.F,p.T,Ws C id,Ws C (1000000+id)with
   |[x],[y],some c1,some c2=>if x !=y&&(Wt st (Ae ops y x) c1&&Wt st (Ae ops x y) c2)then
     match Aq P true (ckC P c1) ops id (fun st'=>Aq P false (ckC P c1) ops id (k .normal) c1.T st') c1.F st,Aq P true (ckC P c2) ops id (fun st'=>Aq P false (ckC P c2) ops id (k .normal) c2.T st') c2.F st with
     |some t1,some t2=>some (.both t1 t2)
     |_,_=>none
    else some (.dead (806000000+id))
   |_,_,_,_=>some (.dead (806500000+id))
  |none=>match Ws C id with
  |some c=>if Wt st ops c then Aq P true (ckC P c) ops id (fun st'=>Aq P false (ckC P c) ops id (k .normal) c.T st') c.F st else some (.dead (805000000+id))
  |none=>some (.dead (805500000+id))
def ex (P:Program) (C:List Cd):Code->St->(Exit->St->Option Tree)->Option Tree
 | .skip,st,k=>k .normal st
 | .region id ops draw,st,k=>match Rz st.js 3 id with
  |some j=>jn st (.region id ops draw) j.ts j.bs (exR P C id ops draw) k
  |none=>exR P C id ops draw st k
 | .seq a b,st,k=>ex P C a st fun e st=>match e with| .normal=>ex P C b st k|e=>k e st
 | .cond c t e,st,k=>
  let run:St->(Exit->St->Option Tree)->Option Tree:=fun st k=>match(st.val c).map (Me st.kb)with
  |some (.k (.bool true))=>ex P C t st k
  |some (.k (.bool false))=>ex P C e st k
  |some s=>match amO st.am c with
   |some true=>Fo P [.isb true s] st fun st=>ex P C t (st.know P s true) k
   |some false=>Fo P [.isb false s] st fun st=>ex P C e (st.know P s false) k
   |none=>Fo P [.bool s] st fun st=>
    match ex P C t (st.know P s true) k,ex P C e (st.know P s false) k with
    |some t1,some t2=>some (.br s t1 t2)
    |_,_=>none
  |none=>none
  match Rz st.js 2 (WM c)with
  |some j=>jn st (.cond c t e) j.ts j.bs run k
  |none=>run st k
 | .block id b,st,k=>
  let run:St->(Exit->St->Option Tree)->Option Tree:=fun st k=>ex P C b st fun e st=>match e with
   | .exit j=>if j=id then k .normal st else k (.exit j) st
   |e=>k e st
  match Rz st.js 1 id with
  |some j=>jn st (.block id b) j.ts j.bs run k
  |none=>run st k
 | .exit id,st,k=>k (.exit id) st
 | .ret,st,k=>k .ret st
 | .label _,st,k=>k .normal st
 | .scope b,st,k=>ex P C b st fun e st=>match e with| .goto _=>some (.dead 817)|e=>k e st
 | .loop b,st,k=>
  match Nh st.sl (Px st.sl (Ci b)),cAt st.bl (Pz st b)with
  |some iv,some ib=>
   if Au st&&Nc (Pz st b)then
    (ex P C b (Bg st (Px st.sl (Ci b)) (pa st.sl (Ci b)) (Pz st b) 1) fun e st2=>match e with
     | .normal=>
      match Nh st2.sl (Px st.sl (Ci b)),cAt st2.bl (Pz st b)with
      |some nv,some nb=>if Wv (Ci b) st.sl st2.sl&&Nj (Pz st b) st.bl st2.bl 0 then some (.next st.d (nv++nb))else some (.dead 806)
      |_,_=>some (.dead 806)
     |e=>k e st2).map (Tree.loop (iv++ib))
   else none
  |_,_=>none
 | .rangeFunc g ps asg body,st,k=>
  match st.rd,st.val g,cAt st.bl (Nk st asg body)with
  |false,some gv,some ib=>
   if Au st&&Nc (Nk st asg body)&&Nc ps.toList&&ps.toList.all (fun t=>decide (t<st.sl.length))then
    match ex P C asg (pe st ps.toList (Nk st asg body)) (fun e st1=>match e with
      | .normal=>ex P C body st1 fun e st2=>match e with
       | .normal=>Ww st (Nk st asg body) 0 st2
       |e=>if Sm e (Hl body)then Ww st (Nk st asg body) 1 st2 else some (.dead 821)
      |_=>some (.dead 819)),
     k .normal (Bg st [] [] (Nk st asg body) 0),
     (match Hl body with|e0::_=>k e0 (Bg st [] [] (Nk st asg body) 0)|[]=>some (.dead 818))with
    |some tb,some ta,some te=>some (.rf gv ps.size ib tb ta te)
    |_,_,_=>none
   else none
  |_,_,_=>some (.dead 822)
 |_,_,_=>some (.dead 816)
def ldO (T:TypeId) (t:Tmp):Oper:=⟨none,.load T (.tmp t),0, "",#[],none⟩
def Jt (P:Program) (st:St):List ResultVar->List SV->Option Tree
 |[],l=>some (.ret l)
 | .tmp t::r,l=>match st.sl[t]? with
  |some (.x s)=>Jt P st r (l++[s])
  |_=>none
 | .cell t T::r,l=>match Jr P st T (.tmp t)with
  |([],.val (.x s))=>Jt P st r (l++[s])
  |([],.prim [a])=>if Au st&&a.lt st.n&&l.all (·.lt st.n)then(Jt P (Do st none) r (l++[.v st.n])).map (Tree.prim 999999 t (ldO T t) [a])else none
  |_=>none
def g6 (P:Program) (E:List Nat) (A:List (Nat×Bool)) (J:List Jn) (C:List Cd) (f:FuncId):Option Tree:=
 match P.funcs[f]? with
 |some fn=>match fn.body with
  |some c=>
   let n:=fn.params.size+fn.nfree
   ex P C c {es:=E,am:=A,js:=J,sl:=(eT n).map (fun i=> .x (.v i))++List.replicate (fn.ntmps-n) (.x (.k undef)),bl:=[],kn:=[],kb:=[],n,d:=0} fun e st=>match e with
    | .normal| .ret=>Jt P st fn.results.toList []
    |_=>none
  |none=>none
 |none=>none
end Go.RX

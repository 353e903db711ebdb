/- Lemmas of the proof. -/
import Derived.Test.YtcdnhlplkhldbaaGreatDoorRxA
import Derived.Laws.CopyRow
import Derived.Laws.Cells
import Derived.ChangeKeysEq
import Derived.Laws.Small
import Derived.WalkSmall
open Array renaming ext_getElem?->mT,extract_append->iQ,getElem?_append_right->fX,getElem?_eq_none->iJ,getElem?_extract->jN,mem_toList_iff->gZ,size_extract->mU
open Go.Result renaming andThen_ok->eJ
open Go.Sem renaming run_bind->eK,run_pure->eL
open List renaming foldl_cons->gQ,range->eO
open Option renaming isSome_iff_exists->fQ
set_option linter.all false
namespace Go.RX
open RowKit
def Blind {α:Type} (P:Program) (m:Sem α):Prop:=∀(w w':World) (v:α) (w1:World),KeepM w w'->m.run P w= .ok v w1->w1=w/\m.run P w'= .ok v w'
namespace Blind
variable {P:Program} {α β:Type}
def pure' (v:α):Blind P (pure v:Sem α):=fun w w' u w1 _ h=>by
 have h:Result.ok v w=Result.ok u w1:=h;cases h;exact⟨rfl,rfl⟩
def halt (h:Halt):Blind P (.halt h:Sem α):=fun _ _ _ _ _ h=>by cases h
def bind {m:Sem α} {f:α->Sem β} (h1:Blind P m) (h2:∀v,Blind P (f v)):Blind P (m>>=f):=fun w w' v w1 hk h=>by
 rw[eK]at h⊢;cases e:m.run P w with
 |halt x w2=>rw[e]at h;cases h
 |ok u w2=>
  obtain⟨rfl,e'⟩:=h1 w w' u w2 hk e;rw[e]at h;rw[e'];exact h2 u _ _ _ _ hk h
def program:Blind P (Go.program):=fun w w' u w1 _ h=>by
 have h:Result.ok P w=Result.ok u w1:=h;cases h;exact⟨rfl,rfl⟩
def load (a:Addr):Blind P (Go.load a):=fun w w' v w1 hk h=>by
 have e1:∀w,(Go.load a).run P w=(match w.cell? a with
  |some v=> .ok v w
  |none=>match w.farLoad P a false with
   | .ok (v,_)=> .ok v w
   | .error h=> .halt h w):=fun w=>by
  show Sem.run P (.load .plain a .pure) w=_;simp only[Sem.run];rfl
 have hc:w'.cell? a=w.cell? a:=by
  unfold World.cell?;rcases hk a.block with h|⟨⟨_,_,h1⟩,_,_,h2⟩
  ·rw[h]
  ·rw[h1,h2]
 rw[e1]at h⊢;rw[hc];cases e:w.cell? a with
 |some x=>rw[e]at h;cases h;exact⟨rfl,rfl⟩
 |none=>
  rw[e]at h;simp only at h⊢;have hs:∀at_ u,World.viewLoad P w' at_ u a false=World.viewLoad P w at_ u a false:=fun at_ u=>by
   unfold World.viewLoad;have:w'.seen P at_ u a false=w.seen P at_ u a false:=by
    unfold World.seen;rcases hk at_.block with h|⟨⟨_,_,h1⟩,_,_,h2⟩
    ·rw[h]
    ·rw[h1,h2]
   rw[this]
  have hf:(∃v t,w.farLoad P a false= .ok (v,t))->w'.farLoad P a false=w.farLoad P a false:=by
   rintro⟨v,t,hv⟩;unfold World.farLoad at hv⊢;rcases hk a.block with h|⟨⟨_,_,h1⟩,_,_,h2⟩
   ·rw[h];cases eb:w.heap[a.block]? with
    |none=>rw[eb]at hv;simp at hv
    |some ob=>cases ob<;>first|(rw[eb]at hv;simp at hv;done)|(simp only[hs])
   ·rw[h1]at hv;simp at hv
  cases e2:w.farLoad P a false with
  |error x=>rw[e2]at h;cases h
  |ok r=>
   obtain⟨x,t⟩:=r;rw[hf ⟨x,t,e2⟩,e2];rw[e2]at h;cases h;exact⟨rfl,rfl⟩
def typeInfo (t:TypeId):Blind P (Go.typeInfo t):=program.bind fun p=>by
 cases p.info? t with
 |some i=>exact pure' _
 |none=>exact halt _
def underlying (t:TypeId):Blind P (Go.underlying t):=program.bind fun p=>by
 cases p.underlying t with
 |some i=>exact pure' _
 |none=>exact halt _
def sizeOf (t:TypeId):Blind P (Go.sizeOf t):=(typeInfo t).bind fun _=>pure' _
def isAgg (t:TypeId):Blind P (Go.isAgg t):=(underlying t).bind fun d=>by
 cases d<;>exact pure' _
def loadCellsFrom (a:Addr):∀(n i:Nat) (acc:Array Value),Blind P (Go.loadCellsFrom a i n acc)
 |0,_,_=>pure' _
 |n+1,_,_=>(load _).bind fun _=>loadCellsFrom a n _ _
def loadVar (t:TypeId) (a:Addr):Blind P (Go.loadVar t a):=(isAgg t).bind fun b=>by
 cases b
 ·exact load _
 ·exact(sizeOf t).bind fun n=>(loadCellsFrom a n _ _).bind fun _=>pure' _
def sureAddr (v:Value):Blind P (Instr.sureAddr v):=by
 unfold Instr.sureAddr;split
 ·exact pure' _
 ·exact halt _
def loadAt (t:TypeId) (v:Value):Blind P (Instr.loadAt t v):=(sureAddr v).bind fun a=>loadVar t a
def asIntOf (v:Value):Blind P (Go.asIntOf v):=by
 unfold Go.asIntOf;split
 ·exact pure' _
 ·exact halt _
 ·exact halt _
def YP {m:Sem α} (h:∀w v w1,m.run P w≠ .ok v w1):Blind P m:=fun w _ v w1 _ e=>absurd e (h w v w1)
def boundsPanic (k:IntKind) (x y:Int) (code:BoundsCode):Blind P (Go.boundsPanic k x y code:Sem α):=YP fun w v w1 e=>by
 unfold Go.boundsPanic at e
 extract_lets jp at e
 have hj:∀b w,∀v w1,(jp b).run P w≠ .ok v w1:=fun b w v w1 e=>by cases e
 split at e
 ·rw[eK]at e;cases e2:((fun x=>x==1)<$>choose (Question.extern "runtime.boundsError.signed" 2):Sem Bool).run P w with
  |halt _ _=>rw[e2]at e;cases e
  |ok b w2=>rw[e2]at e;exact hj _ _ _ _ e
 ·exact hj _ _ _ _ e
def indexAt (t:TypeId) (x ix:Value):Blind P (Instr.indexAt t x ix):=by
 unfold Instr.indexAt;refine(asIntOf ix).bind fun r=> ?_;obtain⟨k,i⟩:=r;refine Blind.bind (underlying t) fun d=> ?_
 extract_lets jp
 have hj:∀r,Blind P (jp r):=fun r=>by
  obtain⟨base,len,elem⟩:=r;refine(underlying t).bind fun d=> ?_;cases base with
  |none=>exact boundsPanic _ _ _ _
  |some a=>
   simp only;split
   ·exact(sizeOf _).bind fun _=>pure' _
   ·have h2:∀b:Bool,Blind P (if b=true then unsupported (.noEntry "op/indexAddr.an index out of range at an array of length 0 or 1 (ledger 616)")else Go.boundsPanic k i len .index:Sem Value):=fun b=>by
     cases b
     ·exact boundsPanic _ _ _ _
     ·exact halt _
    split
    ·exact h2 _
    ·exact h2 _
 split
 ·exact(sureAddr _).bind fun _=>(pure' _).bind hj
 ·exact(pure' _).bind hj
 ·exact(halt _).bind hj
end Blind
def ek:Op->Bool| .load _ _| .indexAddr _ _ _=>true|_=>false
def YQ {P:Program} {ρ:Operand->Value} {o:Oper} (h:ek o.op=true):Blind P (execOp ρ o):=by
 unfold ek at h;split at h
 ·rename_i e;unfold execOp;rw[e];exact(Blind.loadAt _ _).bind fun _=>Blind.pure' _
 ·rename_i e;unfold execOp;rw[e];exact(Blind.indexAt _ _ _).bind fun _=>Blind.pure' _
 ·cases h
def Calm {α:Type} (P:Program) (m:Sem α):Prop:=∀(w:World) (v:α) (w1:World),m.run P w= .ok v w1->w1.heap=w.heap
namespace Calm
variable {P:Program} {α β:Type}
def Nr {m:Sem α} (h:Blind P m):Calm P m:=fun w v w1 e=>by rw[(h w w v w1 (KeepM.refl w) e).1]
def pure' (v:α):Calm P (pure v:Sem α):=Nr (Blind.pure' v)
def halt (h:Halt):Calm P (.halt h:Sem α):=Nr (Blind.halt h)
def bind {m:Sem α} {f:α->Sem β} (h1:Calm P m) (h2:∀v,Calm P (f v)):Calm P (m>>=f):=fun w v w1 h=>by
 rw[eK]at h;cases e:m.run P w with
 |halt x w2=>rw[e]at h;cases h
 |ok u w2=>rw[e]at h;exact(h2 u _ _ _ h).trans (h1 _ _ _ e)
def choose (q:Question):Calm P (Go.choose q):=fun w v w1 h=>by
 have h:Sem.run P (.choose q .pure) w= .ok v w1:=h;simp only[Sem.run]at h;split at h<;>cases h<;>rfl
def shape (r:Nat):Calm P (Go.shape r):=fun w v w1 h=>by
 have h:Sem.run P (.shape r .pure) w= .ok v w1:=h;simp only[Sem.run]at h;cases h;rfl
def getObj (r:Nat):Calm P (Go.getObj r):=fun w v w1 h=>by
 have h:Sem.run P (.getObj r .pure) w= .ok v w1:=h;simp only[Sem.run]at h;split at h<;>cases h;rfl
def viewAt (r:Nat):Calm P (Go.viewAt r):=(shape r).bind fun o=>by
 cases o with
 |some _=>exact pure' _
 |none=>exact(getObj r).bind fun ob=>by cases ob<;>exact pure' _
def numberAt (r:Nat):Calm P (Go.numberAt r):=(shape r).bind fun o=>by
 cases o with
 |some _=>exact pure' _
 |none=>exact(getObj r).bind fun ob=>by cases ob<;>exact pure' _
def behindNumber (n:Addr):Calm P (Go.behindNumber n):=(numberAt _).bind fun _=>pure' _
def noView (a:Addr):Calm P (Go.noView a):=(viewAt _).bind fun o=>by
 cases o with
 |some _=>exact halt _
 |none=>exact pure' _
def byteOf (a:Addr):Calm P (Go.byteOf a):=by
 unfold Go.byteOf;split
 ·exact pure' _
 ·refine Calm.bind (Nr Blind.program) fun p=>(noView a).bind fun _=>(shape _).bind fun o=> ?_;split
  ·extract_lets s
   split
   ·exact pure' _
   ·split
    ·exact pure' _
    ·exact halt _
  ·exact halt _
def YR {t:TypeId} {k:IntKind} (ht:P.underlying t=some (.int k)) (x y:Value):Calm P (Op.equal t x y):=by
 have hu:∀w,(Go.underlying t).run P w= .ok (.int k) w:=run_underlying ht;unfold Op.equal Op.maxDepth;intro w v w1 h;unfold Op.equalIn at h;rw[eK,hu]at h
 revert h
 simp only[Result.andThen];have go:∀{m:Sem Bool},Calm P m->m.run P w= .ok v w1->w1.heap=w.heap:=fun hm h=>hm _ _ _ h;refine go ?_;clear go;split<;>first|exact pure' _|exact halt _|(rename_i e;cases e;done)|skip
 ·split
  ·exact pure' _
  ·exact halt _
 ·refine(behindNumber _).bind fun a=>(behindNumber _).bind fun b=>(Nr Blind.program).bind fun p=> ?_;split
  ·exact(byteOf _).bind fun _=>(byteOf _).bind fun _=>pure' _
  ·refine(Nr (Blind.typeInfo _)).bind fun i=> ?_;split
   ·split
    ·exact pure' _
    ·exact halt _
   ·exact halt _
def checkInt {t:TypeId} {k:IntKind} (ht:P.underlying t=some (.int k)) (b:Bool) (n:Nat) (x:Value):Calm P (Instr.checkKey b (n+1) t x):=by
 have hu:∀w,(Go.underlying t).run P w= .ok (.int k) w:=run_underlying ht;intro w v w1 h;unfold Instr.checkKey at h;rw[eK,hu]at h;cases h;rfl
def findAsking {t:TypeId} {k:IntKind} (ht:P.underlying t=some (.int k)) (x:Value):∀(es:List MapEntry) (i:Nat),Calm P (Instr.findAsking t x es i)
 |[],_=>pure' _
 |e::es,i=>(YR ht _ _).bind fun b=>by
  cases b
  ·exact findAsking ht x es (i+1)
  ·exact pure' _
def findKey {t:TypeId} {k:IntKind} (ht:P.underlying t=some (.int k)) (x:Value) (es:List MapEntry):Calm P (Instr.findKey t x es):=(Nr (Blind.underlying t)).bind fun d=>by
 cases Instr.findNow d x es 0 with
 |some r=>exact pure' _
 |none=>exact findAsking ht x es 0
def keyThatStays (a b:Value):Calm P (Instr.keyThatStays a b):=by
 unfold Instr.keyThatStays;split
 ·exact pure' _
 ·exact(choose _).bind fun _=>pure' _
def zeroValue (t:TypeId):Calm P (Go.zeroValue t):=(Nr (Blind.typeInfo t)).bind fun i=>by
 cases i.zero with
 |some v=>exact pure' _
 |none=>exact halt _
def asInt (v:Value):Calm P (Go.asInt v):=(Nr (Blind.asIntOf v)).bind fun _=>pure' _
end Calm
def MapsAt {α:Type} (P:Program) (r:Nat) (m:Sem α):Prop:=∀(w:World) (v:α) (w1:World),(∃es c,w.heap[r]? =some (.map es c))->m.run P w= .ok v w1->KeepM w w1
namespace MapsAt
variable {P:Program} {α β:Type} {r:Nat}
def calm {m:Sem α} (h:Calm P m):MapsAt P r m:=fun w v w1 _ e=>fun b=> .inl (by rw[h w v w1 e])
def bind {m:Sem α} {f:α->Sem β} (h1:Calm P m) (h2:∀v,MapsAt P r (f v)):MapsAt P r (m>>=f):=fun w v w1 hr h=>by
 rw[eK]at h;cases e:m.run P w with
 |halt x w2=>rw[e]at h;cases h
 |ok u w2=>
  rw[e]at h;have e1:=h1 _ _ _ e;have:=h2 u w2 v w1 (by rw[e1];exact hr) h;intro b;have:=this b
  rwa[e1]at this
def setObj (es:Array MapEntry) (c:Nat) (v:α):MapsAt P r (Go.setObj r (.map es c)>>=fun _=>pure v):=fun w u w1 ⟨e0,c0,hr⟩ h=>by
 have h:Sem.run P (.setObj r (.map es c) (.pure v)) w= .ok u w1:=h;simp only[Sem.run,hr]at h;cases h;intro b;show(w.heap.setIfInBounds r _)[b]? =_\/_/\∃es' c',(w.heap.setIfInBounds r _)[b]? =_;have qB:r<w.heap.size:=(dX.1 hr).1;by_cases e:r=b
 ·subst e;exact .inr ⟨⟨_,_,hr⟩,es,c,by simp[qB]⟩
 ·exact .inl (by simp[e])
end MapsAt
def eo (P:Program):Op->Bool
 | .mapEntry T _ _=>match P.underlying T with
  |some (.map kt _)=>match P.underlying kt with|some (.int _)=>true|_=>false
  |_=>false
 | .entryStore _ _ _ _=>true
 |_=>false
def GI {P:Program} {α:Type} {r:Nat} {f:Array MapEntry->Nat->Sem α} {m:Sem α} {w w1:World} {v:α} (hf:∀es c,MapsAt P r (f es c))
  (h:(getObj r>>=fun o=>match o with| .map es c=>f es c|_=>m).run P w= .ok v w1) (hm:∀w v w1,m.run P w≠ .ok v w1):KeepM w w1:=by
 have h:Sem.run P (.getObj r fun o=>match o with| .map es c=>f es c|_=>m) w= .ok v w1:=h;simp only[Sem.run]at h;cases e:w.heap[r]? with
 |none=>rw[e]at h;cases h
 |some ob=>
  rw[e]at h;cases ob with
  |map es c=>exact hf es c w v w1 ⟨es,c,e⟩ h
  |cells _ _ _=>cases h
  |_=>exact absurd h (hm _ _ _)
def YS {P:Program} {ρ:Operand->Value} {o:Oper} (h:eo P o.op=true) {w w1:World} {v:Next} (hr:(execOp ρ o).run P w= .ok v w1):KeepM w w1/\((∃x,v= .value x)\/v= .skip):=by
 unfold eo at h;split at h
 ·rename_i T x y e;cases hu:P.underlying T with
  |none=>rw[hu]at h;cases h
  |some d=>
   cases d with
   |map kt et=>
    rw[hu]at h;simp only at h;cases hk:P.underlying kt with
    |none=>rw[hk]at h;cases h
    |some dk=>
     cases dk with
     |int k=>
      unfold execOp at hr;rw[e]at hr;simp only at hr;rw[eK]at hr;cases e2:(Instr.mapEntry T (ρ x) (ρ y)).run P w with
      |halt _ _=>rw[e2]at hr;cases hr
      |ok u w2=>
       rw[e2]at hr;obtain rfl:w2=w1:=by cases hr;rfl
       refine⟨?_,.inl ⟨u,by cases hr;rfl⟩⟩;clear hr;unfold Instr.mapEntry at e2;rw[eK,run_underlying hu]at e2;simp only[Result.andThen]at e2;split at e2
       ·cases e2
       ·rename_i r _;refine GI (P:=P) (r:=r) (fun es c=> ?_) e2 (fun _ _ _=>by intro h;cases h);refine MapsAt.bind (Calm.checkInt hk _ _ _) fun _=>MapsAt.bind (Calm.findKey hk _ _) fun fo=> ?_;cases fo with
        |some iv=>exact MapsAt.bind (Calm.keyThatStays _ _) fun _=>MapsAt.setObj _ _ _
        |none=>exact MapsAt.bind (Calm.zeroValue _) fun _=>MapsAt.setObj _ _ _
       ·cases e2
     |_=>rw[hk]at h;cases h
   |_=>rw[hu]at h;cases h
 ·rename_i T x y z e;unfold execOp at hr;rw[e]at hr;simp only at hr;rw[eK]at hr;cases e2:(Instr.entryStore T (ρ x) (ρ y) (ρ z)).run P w with
  |halt _ _=>rw[e2]at hr;cases hr
  |ok u w2=>
   rw[e2]at hr;obtain rfl:w2=w1:=by cases hr;rfl
   refine⟨?_,.inr (by cases hr;rfl)⟩;clear hr;unfold Instr.entryStore at e2;split at e2
   ·rename_i r _;refine GI (P:=P) (r:=r) (fun es c=> ?_) e2 (fun _ _ _=>by intro h;cases h);refine MapsAt.bind (Calm.asInt _) fun n=> ?_;split
    ·exact MapsAt.setObj _ _ ()
    ·exact MapsAt.calm (Calm.halt _)
   ·cases e2
 ·cases h
inductive SV where
 |v (i:Nat)
 |k (c:Value)
 |z (t:TypeId)
 |ag (x:SV)
 |cell (x:SV) (o s:Nat) (i:SV)
 |sub (x:SV) (o n s:Nat) (i:SV)
 |put (x:SV) (o n:Nat) (y:SV) (s:Nat) (i:SV)
 |cat (x:SV) (n:Nat) (y:SV)
 |pj (x:SV) (i:Nat)
 |op2 (o:BinOp) (k:IntKind) (x y:SV)
 |op1 (o:UnOp) (k:IntKind) (x:SV)
 |nt (x:SV)
 |cv (k:IntKind) (x:SV)
 |ite (c x y:SV)
 |eqb (n:Bool) (x y:SV)
inductive SL where
 |x (s:SV)
 |p (b o s:Nat) (i:SV)
 |u
inductive Rq where
 |int (k:IntKind) (x:SV)
 |num (x:SV)
 |bool (x:SV)
 |cells (n:Nat) (x:SV)
 |agg (n:Nat) (x:SV)
 |tup (n:Nat) (x:SV)
 |nz (x:SV)
 |nn (x:SV)
 |lt (n:Nat) (x:SV)
 |isb (b:Bool) (x:SV)
inductive Tree where
 |ret (l:List SV)
 |rq (r:Rq) (t:Tree)
 |br (c:SV) (t e:Tree)
 |call (pf:Bool) (f:FuncId) (args:List SV) (t:Tree)
 |prim (id i:Nat) (o:Oper) (args:List SV) (t:Tree)
 |eff (pf:Bool) (id i:Nat) (o:Oper) (args:List SV) (t:Tree)
 |ext (f:FuncId) (args:List SV) (t:Tree)
 |pub (T:TypeId) (c:SV) (t:Tree)
 |dead (n:Nat)
 |loop (ini:List SV) (t:Tree)
 |next (d:Nat) (l:List SV)
 |join (n:Nat) (t u:Tree)
 |mk (id i:Nat) (o:Oper) (args:List SV) (t:Tree)
 |rf (g:SV) (np:Nat) (ini:List SV) (tb ta te:Tree)
 |both (t u:Tree)
def y6:Value->Bool| .agg _| .tuple _=>false|_=>true
def Ep:Value->Bool| .bool b=>b|_=>false
def Qs:BinOp->Bool| .eql| .neq| .lss| .leq| .gtr| .geq=>true|_=>false
def w9 (o:BinOp) (k:IntKind) (a b:Int):Value:=
 match o with
 | .add=> .int k (k.wrap (a+b))
 | .sub=> .int k (k.wrap (a-b))
 | .mul=> .int k (k.wrap (a*b))
 | .quo=> .int k (k.wrap (a.tdiv b))
 | .rem=> .int k (a.tmod b)
 | .and=> .int k (k.wrap (BitVec.ofInt k.bits a&&&BitVec.ofInt k.bits b).toNat)
 | .or=> .int k (k.wrap (BitVec.ofInt k.bits a|||BitVec.ofInt k.bits b).toNat)
 | .xor=> .int k (k.wrap (BitVec.ofInt k.bits a^^^BitVec.ofInt k.bits b).toNat)
 | .andNot=> .int k (k.wrap (BitVec.ofInt k.bits a&&& ~~~BitVec.ofInt k.bits b).toNat)
 | .shl=> .int k (k.wrap (a*2^(min b.toNat k.bits)))
 | .shr=> .int k (a.fdiv (2^(min b.toNat k.bits)))
 | .eql=> .bool (a==b)
 | .neq=> .bool (a !=b)
 | .lss=> .bool (a<b)
 | .leq=> .bool (a<=b)
 | .gtr=> .bool (a>b)
 | .geq=> .bool (a≥b)
def unV (o:UnOp) (k:IntKind) (a:Int):Value:=
 match o with
 | .neg=> .int k (k.wrap (0-a))
 |_=> .int k (k.wrap (BitVec.ofInt k.bits (if k.signed then -1 else k.max)^^^BitVec.ofInt k.bits a).toNat)
def Ks (i:Nat):Value->Value| .tuple vs=>vs.getD i undef|_=>undef
def spl:Array Value->Nat->List Value->Array Value
 |cs,_,[]=>cs
 |cs,q,y::ys=>spl (cs.setIfInBounds q y) (q+1) ys
def j3 (P:Program) (t:TypeId):Value:=((P.info? t).bind (·.zero)).getD undef
def t6 (v:Value):Nat:=(intOf v).toNat
def D (P:Program) (ρ:List Value):SV->Value
 | .v i=>ρ.getD i undef
 | .k c=>c
 | .z t=>j3 P t
 | .ag x=> .agg (D P ρ x).cells
 | .cell x o s i=>(D P ρ x).cells.getD (o+s*t6 (D P ρ i)) undef
 | .sub x o n s i=> .agg ((D P ρ x).cells.extract (o+s*t6 (D P ρ i)) (o+s*t6 (D P ρ i)+n))
 | .put x o _ y s i=> .agg (spl (D P ρ x).cells (o+s*t6 (D P ρ i)) (D P ρ y).cells.toList)
 | .cat x _ y=> .agg ((D P ρ x).cells++(D P ρ y).cells)
 | .pj x i=>Ks i (D P ρ x)
 | .op2 o k x y=>w9 o k (intOf (D P ρ x)) (intOf (D P ρ y))
 | .op1 o k x=>unV o k (intOf (D P ρ x))
 | .nt x=> .bool (!Ep (D P ρ x))
 | .cv k x=> .int k (k.wrap (intOf (D P ρ x)))
 | .ite c x y=>if Ep (D P ρ c)then D P ρ x else D P ρ y
 | .eqb n x y=> .bool (n !=(Ep (D P ρ x)==Ep (D P ρ y)))
def j0 (cs:Array Value):Prop:=∀c∈cs.toList,y6 c=true
def Rq.holds (P:Program) (ρ:List Value):Rq->Prop
 | .int k x=>∃n,D P ρ x= .int k n
 | .num x=>∃k n,D P ρ x= .int k n
 | .bool x=>∃b,D P ρ x= .bool b
 | .cells n x=>(D P ρ x).cells.size=n/\j0 (D P ρ x).cells
 | .agg n x=>∃cs,D P ρ x= .agg cs/\cs.size=n
 | .tup n x=>∃vs,D P ρ x= .tuple vs/\n<vs.size
 | .nz x=>intOf (D P ρ x)≠0
 | .nn x=>0<=intOf (D P ρ x)
 | .lt n x=>0<=intOf (D P ρ x)/\intOf (D P ρ x)<n
 | .isb b x=>D P ρ x= .bool b
def ep:Value->Value->Bool
 | .bool a,.bool b=>a==b
 | .int k a,.int l b=>k==l&&a==b
 | .tuple a,.tuple b=>a.size==0&&b.size==0
 | .string a,.string b=>a.data.toList==b.data.toList
 | .func (.func f) a b,.func (.func g) c d=>f==g&&a.size==0&&b.size==0&&c.size==0&&d.size==0
 | .slice none l c,.slice none l' c'=>l==l'&&c==c'
 | .pointer none,.pointer none=>true
 | .map none,.map none=>true
 | .nilIface,.nilIface=>true
 | .nilFunc,.nilFunc=>true
 |_,_=>false
def SV.beq:SV->SV->Bool
 | .v i,.v j=>i==j
 | .k c,.k d=>ep c d
 | .z t,.z u=>t==u
 | .ag x,.ag y=>x.beq y
 | .cell x o s i,.cell y p t j=>x.beq y&&o==p&&s==t&&i.beq j
 | .sub x o n s i,.sub y p m t j=>x.beq y&&o==p&&n==m&&s==t&&i.beq j
 | .put x o n y s i,.put x' o' n' y' s' i'=>x.beq x'&&o==o'&&n==n'&&y.beq y'&&s==s'&&i.beq i'
 | .cat x n y,.cat x' n' y'=>x.beq x'&&n==n'&&y.beq y'
 | .pj x i,.pj y j=>x.beq y&&i==j
 | .op2 o l x y,.op2 o' l' x' y'=>o==o'&&l==l'&&x.beq x'&&y.beq y'
 | .op1 o l x,.op1 o' l' x'=>o==o'&&l==l'&&x.beq x'
 | .nt x,.nt y=>x.beq y
 | .cv l x,.cv l' y=>l==l'&&x.beq y
 | .ite c x y,.ite c' x' y'=>c.beq c'&&x.beq x'&&y.beq y'
 | .eqb n x y,.eqb n' x' y'=>n==n'&&x.beq x'&&y.beq y'
 |_,_=>false
def SL.beq:SL->SL->Bool
 | .x a,.x b=>a.beq b
 | .p b o s i,.p b' o' s' i'=>b==b'&&o==o'&&s==s'&&i.beq i'
 | .u,_=>true
 |_,_=>false
def Rq.beq:Rq->Rq->Bool
 | .int k x,.int l y=>k==l&&x.beq y
 | .num x,.num y=>x.beq y
 | .bool x,.bool y=>x.beq y
 | .cells n x,.cells m y=>n==m&&x.beq y
 | .agg n x,.agg m y=>n==m&&x.beq y
 | .tup n x,.tup m y=>n==m&&x.beq y
 | .nz x,.nz y=>x.beq y
 | .nn x,.nn y=>x.beq y
 | .lt n x,.lt m y=>n==m&&x.beq y
 | .isb b x,.isb c y=>b==c&&x.beq y
 |_,_=>false
def SV.lt (n:Nat):SV->Bool
 | .v i=>decide (i<n)
 | .k _| .z _=>true
 | .ag x| .pj x _| .op1 _ _ x| .nt x| .cv _ x=>x.lt n
 | .cell x _ _ i| .sub x _ _ _ i=>x.lt n&&i.lt n
 | .put x _ _ y _ i=>x.lt n&&y.lt n&&i.lt n
 | .cat x _ y| .op2 _ _ x y| .eqb _ x y=>x.lt n&&y.lt n
 | .ite c x y=>c.lt n&&x.lt n&&y.lt n
def SL.lt (n:Nat):SL->Bool
 | .x s=>s.lt n
 | .p _ _ _ i=>i.lt n
 | .u=>true
def Rq.sv:Rq->SV
 | .int _ x| .num x| .bool x| .cells _ x| .agg _ x| .tup _ x| .nz x| .nn x| .lt _ x| .isb _ x=>x
def noI:SV:= .k undef
def qp (k:IntKind):SV->Bool
 | .k (.int l _)=>k==l
 | .op2 o l _ _=> !Qs o&&k==l
 | .op1 _ l _=>k==l
 | .cv l _=>k==l
 |_=>false
def er:SV->Bool
 | .k (.int _ _)=>true
 | .op2 o _ _ _=> !Qs o
 | .op1 _ _ _| .cv _ _=>true
 |_=>false
def eu:SV->Bool
 | .k (.bool _)=>true
 | .op2 o _ _ _=>Qs o
 | .nt _=>true
 | .eqb _ _ _=>true
 |_=>false
def Qu (x:SV):Bool:=er x||eu x||(match x with| .k (.string _)=>true|_=>false)
def fb:Value->Bool| .agg _=>true|_=>false
def fc (P:Program):SV->Bool
 | .ag _| .sub _ _ _ _ _| .put _ _ _ _ _ _| .cat _ _ _=>true
 | .z t=>fb (j3 P t)
 | .k c=>fb c
 |_=>false
def fe (n:Nat) (v:Value):Bool:=v.cells.size==n&&v.cells.toList.all y6
def has (kn:List Rq) (r:Rq):Bool:=kn.any (·.beq r)
def Qv:List Rq->SV->Option Nat
 |[],_=>none
 | .cells n y::r,x=>if y.beq x then some n else Qv r x
 |_::r,x=>Qv r x
def Ad (P:Program) (kn:List Rq):SV->Nat->Bool
 | .z t,n=>fe n (j3 P t)
 | .ag x,n=>Ad P kn x n
 | .cat x m y,n=>Ad P kn x m&&decide (m<=n)&&Ad P kn y (n-m)||has kn (.cells n (.cat x m y))
 | .put x o m y s i,n=>(Ad P kn x n&&Ad P kn y m)||has kn (.cells n (.put x o m y s i))
 | .k c,n=>fe n c
 | .sub x o m s i,n=>(s==0&&m==n&&(match Qv kn x with|some N=>decide (o+m<=N)|none=>false))||has kn (.cells n (.sub x o m s i))
 |x,n=>(n==1&&Qu x)||has kn (.cells n x)
def ev (P:Program) (kn:List Rq):Rq->Bool
 | .int k x=>qp k x||has kn (.int k x)
 | .num x=>er x||has kn (.num x)
 | .bool x=>eu x||(has kn (.bool x)||(has kn (.isb true x)||has kn (.isb false x)))
 | .cells n x=>Ad P kn x n
 | .agg n x=>(fc P x&&Ad P kn x n)||has kn (.agg n x)
 | .tup n x=>has kn (.tup n x)
 | .nz (.k (.int _ m))=>m !=0
 | .nz x=>has kn (.nz x)
 | .nn (.k (.int _ m))=>decide (0<=m)
 | .nn x=>has kn (.nn x)
 | .lt n (.k (.int _ m))=>decide (0<=m/\m<n)
 | .lt n x=>has kn (.lt n x)
 | .isb b (.k (.bool c))=>b==c
 | .isb b x=>has kn (.isb b x)
def Qw (P:Program) (x:SV):SV:=if fc P x then x else .ag x
def qq (c x y:SV):SV:=match c with| .k (.bool true)=>x| .k (.bool false)=>y|_=> .ite c x y
def Ns (P:Program) (kn:List Rq) (o n:Nat):SV->SV
 | .cat x m y=>if o=0/\n=m/\Ad P kn x m then Qw P x else if m<=o/\Ad P kn x m then Ns P kn (o-m) n y else if o+n<=m/\Ad P kn x m then .sub x o n 0 noI else .sub (.cat x m y) o n 0 noI
 | .ag x=>Ns P kn o n x
 |x=>if o=0/\Ad P kn x n then Qw P x else .sub x o n 0 noI
def Nu (P:Program) (kn:List Rq) (o:Nat):SV->SV
 | .cat x m y=>if m<=o/\Ad P kn x m then Nu P kn (o-m) y else if o=0/\Qu x then x else if o<m/\Ad P kn x m then .cell x o 0 noI else .cell (.cat x m y) o 0 noI
 | .ag x=>Nu P kn o x
 |x=>if o=0/\Qu x then x else .cell x o 0 noI
def Qx (P:Program) (kn:List Rq) (sf:Bool) (N o n:Nat) (y:SV):SV->SV
 | .cat x m r=>if o=0/\n=m/\Ad P kn x m then .cat y n r
   else if m<=o/\Ad P kn x m then .cat x m (Qx P kn sf (N-m) (o-m) n y r)
   else .put (.cat x m r) o n y 0 noI
 | x => if o = 0 /\ n = N then y else if sf then
    (if o=0 then .cat y n (.sub x n (N-n) 0 noI)else if o+n=N then .cat (.sub x 0 o 0 noI) o y else .cat (.sub x 0 o 0 noI) o (.cat y n (.sub x (o+n) (N-(o+n)) 0 noI)))
   else .put x o n y 0 noI
def Us:List Value->List Value->Bool
 |[],[]=>true
 |a::l,b::r=>ep a b&&Us l r
 |_,_=>false
def Qy:List (Nat×SV)->SV
 |[]=> .k (.agg #[])
 |[(_,x)]=>x
 |(n,x)::r=> .cat x n (Qy r)
def exZ (P:Program) (T:TypeId):SV:=
 match P.underlying T with
 |some (.struct fs)=>
  if fs.size≥2/\Us (j3 P T).cells.toList (fs.toList.flatMap fun f=>(j3 P f.type).cells.toList)then Qy (fs.toList.map fun f=>((j3 P f.type).cells.size,.z f.type))else .z T
 |_=> .z T
structure Blk where
 c:SV
 T:TypeId
 n:Nat
structure Jn where
 kd:Nat
 key:Nat
 ts:List Nat
 bs:List Nat
def Ut:List Jn->Nat->Nat->Option Jn
 |[],_,_=>none
 |j::r,kd,key=>if j.kd==kd&&j.key==key then some j else Ut r kd key
structure St where
 es:List Nat
 am:List (Nat×Bool)
 js:List Jn
 sl:List SL
 bl:List Blk
 kn:List Rq
 kb:List (SV×Bool)
 n:Nat
 d:Nat
 rd:Bool:=false
def St.get (st:St):Operand->Option SL
 | .tmp t=>st.sl[t]?
 | .const c=>some (.x (.k c))
 | .func f=>some (.x (.k (.func (.func f) #[] #[])))
 | .global g=>some (.x (.k (.pointer (some ⟨g,0,none⟩))))
def St.val (st:St) (x:Operand):Option SV:=match st.get x with|some (.x s)=>some s|_=>none
def St.set (st:St) (d:Option Tmp) (s:SL):St:=match d with|some t=>{st with sl:=st.sl.set t s}|none=>st
def Nv:List (SV×Bool)->SV->SV
 |[],c=>c
 |(x,b)::r,c=>if x.beq c then .k (.bool b)else Nv r c
def St.know (st:St) (P:Program) (c:SV) (b:Bool):St:={st with kb:=(match c with| .nt x=>if ev P st.kn (.bool x)then[(c,b),(x,!b)]else[(c,b)]|_=>[(c,b)])++st.kb}
inductive Res where
 |val (s:SL)
 |new (c:SV) (T n:Nat)
 |sto (b:Nat) (c:SV)
 |call (f:FuncId) (args:List SV)
 |prim (args:List SV)
 |eff (args:List SV)
 |ext (f:FuncId) (args:List SV)
 |mk (args:List SV)
 |bad
def r9 (P:Program) (t:TypeId):Bool:=(P.info? t).isSome&&(P.underlying t).isSome
def r8 (P:Program) (t:TypeId):Bool:=match P.underlying t with|some (.struct _)|some (.array _ _)=>true|_=>false
def Kt (P:Program) (t:TypeId):Option IntKind:=match P.underlying t with|some (.int k)=>some k|_=>none
def GK (P:Program) (t:TypeId):Bool:=match P.underlying t with|some (.struct _)=>true|_=>false
def fg (P:Program) (t:TypeId):Bool:=match P.underlying t with|some .bool=>true|_=>false
def Ku (st:St):List Operand->Option (List SV)
 |[]=>some []
 |x::r=>match st.val x,Ku st r with|some s,some l=>some (s::l)|_,_=>none
def qs (P:Program) (T:TypeId):Option (Nat->Option (Nat×Nat)):=
 match P.underlying T with
 |some (.struct fs)=>some fun i=>(fs[i]?).map fun f=>(f.offset,P.cellsOf f.type)
 |some (.array _ e)=>some fun i=>some (i*P.cellsOf e,P.cellsOf e)
 |_=>none
def qu (P:Program) (T:TypeId):Bool:=
 match P.underlying T with
 |some (.struct fs)=>fs.all fun f=>r9 P f.type
 |some (.array _ e)=>r9 P e
 |_=>false
def r4 (P:Program) (o:Oper):Nat:=
 match o.op with
 | .move _| .assign _| .pick _ _ _| .build _ _| .unOp _ _ _| .field _ _ _| .extract _ _=>0
 | .index t _ _=>match P.underlying t with|some (.array _ _)=>0|_=>1
 | .binOp op t _ _ _=>if(Kt P t).isSome||(fg P t&&(op== .eql||op== .neq))then 0 else 1
 | .convert s d _=>if(Kt P s).isSome&&(Kt P d).isSome then 0 else 1
 | .load _ _| .fieldAddr _ _ _| .indexAddr _ _ _| .lookup _ _ _ _| .slice _ _ _ _ _| .makeInterface _ _| .sliceToArrayPointer _ _| .nilCheck _| .typeAssert _ _ _ _=>1
 | .alloc _| .box _ _=>3
 | .store _ _ _| .insert _ _ _ _| .mapUpdate _ _ _ _| .panic _=>4
 | .call {callee:= .builtin .len,.. }| .call {callee:= .builtin .min,.. }| .call {callee:= .builtin .max,.. }| .call {callee:= .builtin .unsafeSliceData,.. }=>1
 |_=>2
def bad:List Rq×Res:=([],.bad)
def fh (st:St) (x:Operand):List Rq×Res:=match st.get x with|some s=>([],.val s)|none=>bad
def qw (st:St) (c a b:Operand):List Rq×Res:=match st.val c,st.val a,st.val b with
 |some c,some a,some b=>([.bool c],.val (.x (qq (Nv st.kb c) a b)))
 |_,_,_=>bad
def qz (P:Program) (T:TypeId):List Rq×Res:=match(P.info? T).bind (·.zero)with
 |some z=>([.cells z.cells.size (.z T)],.new (.z T) T z.cells.size)
 |none=>bad
def rh (P:Program) (st:St) (T:TypeId) (x:Operand):List Rq×Res:=match st.val x with
 |some x=>([.cells (P.cellsOf T) x],.new x T (P.cellsOf T))
 |none=>bad
def rj (P:Program) (st:St) (T:TypeId) (B:Blk) (q s:Nat) (i:SV):List Rq×Res:=
 if r9 P T=false then bad else
 if s=0 then
  if r8 P T then
   if q+P.cellsOf T<=B.n then([],.val (.x (if q=0/\P.cellsOf T=B.n then Qw P B.c else Ns P st.kn q (P.cellsOf T) B.c)))else bad
  else if q+P.cellsOf T<=B.n/\q<B.n then([],.val (.x (Nu P st.kn q B.c)))else bad
 else if q+P.cellsOf T<=B.n/\0<P.cellsOf T then
  ([.num i,.lt ((B.n-q-P.cellsOf T)/s+1) i],.val (.x (if r8 P T then .sub B.c q (P.cellsOf T) s i else .cell B.c q s i)))
 else bad
def Kv (P:Program) (st:St) (T:TypeId) (a:Operand):List Rq×Res:=match st.get a with
 |some (.p b q s i)=>match st.bl[b]? with
  |some B=>rj P {st with kn:= .cells B.n B.c::st.kn} T B q s i
  |none=>bad
 |some (.x a)=>([],.prim [a])
 |_=>bad
def rk (P:Program) (st:St) (T:TypeId) (B:Blk) (b q s:Nat) (i x:SV):List Rq×Res:=
 if r9 P T=false then bad else
 if q+P.cellsOf T<=B.n then
  if s=0 then([.cells (P.cellsOf T) x],.sto b (Qx P st.kn (GK P B.T) B.n q (P.cellsOf T) x B.c))
  else([.cells (P.cellsOf T) x,.num i,.lt ((B.n-q-P.cellsOf T)/s+1) i],.sto b (.put B.c q (P.cellsOf T) x s i))
 else bad
def Qz (P:Program) (st:St) (T:TypeId) (a x:Operand):List Rq×Res:=match st.get a,st.val x with
 |some (.p b q s i),some x=>match st.bl[b]? with
  |some B=>rk P {st with kn:= .cells B.n B.c::st.kn} T B b q s i x
  |none=>bad
 |some (.x a),some x=>([],.eff [a,x])
 |_,_=>bad
def fi (P:Program) (st:St) (S:TypeId) (a:Operand) (f:Nat):List Rq×Res:=match st.get a with
 |some (.p b q s i)=>match P.underlying S with
  |some (.struct fs)=>match fs[f]? with
   |some fd=>if P.cellsOf fd.type=0\/r9 P fd.type=false then bad else([],.val (.p b (q+fd.offset) s i))
   |none=>bad
  |_=>bad
 |some (.x a)=>([],.prim [a])
 |_=>bad
def fj (P:Program) (st:St) (T:TypeId) (a ix:Operand):List Rq×Res:=match st.get a,st.val ix with
 |some (.p b q s _),some j=>match P.underlying T with
  |some (.array len e)=>
   if s≠0\/r9 P e=false then bad else
   match j with
   | .k (.int _ m)=>if 0<=m/\m<len then([],.val (.p b (q+m.toNat*P.cellsOf e) 0 noI))else bad
   |j=>if P.cellsOf e=0 then bad else([.num j,.lt len j],.val (.p b q (P.cellsOf e) j))
  |_=>bad
 |some (.x a),some j=>([],.prim [a,j])
 |_,_=>bad
def rl (P:Program) (st:St) (S:TypeId) (x:Operand) (f:Nat):List Rq×Res:=match st.val x with
 |some x=>match P.underlying S with
  |some (.struct fs)=>match fs[f]? with
   |some fd=>if fd.offset+P.cellsOf fd.type<=P.cellsOf S/\0<P.cellsOf fd.type/\r9 P fd.type=true then([.agg (P.cellsOf S) x],.val (.x (if r8 P fd.type then Ns P st.kn fd.offset (P.cellsOf fd.type) x else Nu P st.kn fd.offset x)))else bad
   |none=>bad
  |_=>bad
 |none=>bad
def rn (P:Program) (st:St) (T:TypeId) (x ix:Operand):List Rq×Res:=match st.val x,st.val ix with
 |some x,some j=>match P.underlying T with
  |some (.array len e)=>
   if len*P.cellsOf e<=P.cellsOf T/\0<P.cellsOf e/\r9 P e=true then
    match j with
    | .k (.int _ m)=>if 0<=m/\m<len then([.agg (P.cellsOf T) x],.val (.x (if r8 P e then Ns P st.kn (m.toNat*P.cellsOf e) (P.cellsOf e) x else Nu P st.kn (m.toNat*P.cellsOf e) x)))else bad
    |j=>([.agg (P.cellsOf T) x,.num j,.lt len j],.val (.x (if r8 P e then .sub x 0 (P.cellsOf e) (P.cellsOf e) j else .cell x 0 (P.cellsOf e) j)))
   else bad
  |some .string=>([],.prim [x,j])
  |_=>bad
 |_,_=>bad
def Yg (st:St):List (Nat×Operand)->Option (List (Nat×SV))
 |[]=>some []
 |(i,x)::r=>match st.val x,Yg st r with|some s,some l=>some ((i,s)::l)|_,_=>none
def Yh (pl:Nat->Option (Nat×Nat)):List (Nat×SV)->Option (List (Nat×Nat×SV))
 |[]=>some []
 |(i,x)::r=>match pl i,Yh pl r with|some (q,n),some l=>some ((q,n,x)::l)|_,_=>none
def rx (P:Program) (st:St) (T:TypeId) (parts:List (Nat×Operand)):List Rq×Res:=
 match Yg st parts,qs P T with
 |some ps,some pl=>match Yh pl ps with
  |some l=>if(l.all fun p=>decide (p.1+p.2.1<=P.cellsOf T))&&qu P T&&(P.info? T).any (·.zero.isSome)then(.cells (P.cellsOf T) (.z T)::l.map (fun p=> .cells p.2.1 p.2.2),.val (.x (Qw P (l.foldl (fun acc p=>Qx P st.kn (GK P T) (P.cellsOf T) p.1 p.2.1 p.2.2 acc) (exZ P T)))))else bad
  |none=>bad
 |_,_=>bad
def ry (st:St) (x:Operand) (i:Nat):List Rq×Res:=match st.val x with
 |some x=>([.tup i x],.val (.x (.pj x i)))
 |none=>bad
def sd (op:BinOp):Bool:=op== .shl||op== .shr
def sh (op:BinOp):Bool:=op== .quo||op== .rem
def fk (op:BinOp):Bool:=op== .eql||op== .neq
def si (P:Program) (st:St) (op:BinOp) (T:TypeId) (x y:Operand):List Rq×Res:=match st.val x,st.val y with
 |some x,some y=>match Kt P T with
  |some k=>if sd op then([.int k x,.num y,.nn y],.val (.x (.op2 op k x y)))else([.int k x,.int k y]++(if sh op then[.nz y]else[]),.val (.x (.op2 op k x y)))
  |none=>if fg P T&&fk op then([.bool x,.bool y],.val (.x (.eqb (op== .neq) x y)))else([],.prim [x,y])
 |_,_=>bad
def sj (x:SV):SV:=match x with| .k (.bool b)=> .k (.bool (!b))|x=> .nt x
def sUn (P:Program) (st:St) (op:UnOp) (T:TypeId) (x:Operand):List Rq×Res:=match st.val x with
 |some x=>match op with
  | .not=>([.bool x],.val (.x (sj x)))
  | .plus=>bad
  |op=>match Kt P T with
   |some k=>([.int k x],.val (.x (.op1 op k x)))
   |none=>bad
 |none=>bad
def sk (P:Program) (st:St) (s d:TypeId) (x:Operand):List Rq×Res:=match st.val x with
 |some x=>match Kt P s,Kt P d with
  |some k,some l=>([.int k x],.val (.x (.cv l x)))
  |_,_=>([],.prim [x])
 |none=>bad
def so:Builtin->Bool| .len| .min| .max| .unsafeSliceData=>true|_=>false
def sr (P:Program) (st:St) (c:Call):List Rq×Res:=match c.callee with
 | .value (.func f)=>match Ku st c.args.toList with
  |some l=>match(P.funcs[f]?).bind (·.body)with
   |some _=>if((P.funcs[f]?).map (·.name))==some "runtime.NumGoroutine" then bad else([],.call f l)
   |none=>([],.ext f l)
  |none=>bad
 | .builtin b=>match Ku st c.args.toList with
  |some l=>if so b then([],.prim l)else([],.eff l)
  |none=>bad
 | .value f=>match Ku st (f::c.args.toList)with
  |some l=>([],.eff l)
  |none=>bad
 | .invoke _ _=>bad
def fl:Op->Bool| .lookup _ _ _ _| .slice _ _ _ _ _| .makeInterface _ _| .sliceToArrayPointer _ _| .nilCheck _| .typeAssert _ _ _ _=>true|_=>false
def fm:Op->Bool| .insert _ _ _ _| .mapUpdate _ _ _ _| .mapEntry _ _ _| .entryStore _ _ _ _| .buildSlice _ _ _| .makeSlice _ _ _| .makeMap _ _| .makeFunc _ _ _| .range _ _| .next _ _| .entry _| .panic _=>true|_=>false
def Yi (st:St) (op:Op):List Rq×Res:=match Ku st op.operands.toList with
 |some l=>if fl op then([],.prim l)else if fm op then([],.eff l)else bad
 |none=>bad
def Yj (st:St) (d:Option Tmp):Bool:=match d with|some t=>st.es.contains t|none=>false
def mkB (st:St) (o:Oper):Bool:=match o.op with| .buildSlice _ _ _| .makeSlice _ _ _| .makeMap _ _=>Yj st o.dst|_=>false
def sMk (st:St) (op:Op):List Rq×Res:=match Ku st op.operands.toList with
 |some l=>([],.mk l)
 |none=>bad
def Av (P:Program) (st:St) (o:Oper):List Rq×Res:=
 match o.op with
 | .move x=>fh st x
 | .assign x=>fh st x
 | .pick c a b=>qw st c a b
 | .alloc T=>qz P T
 | .box T x=>rh P st T x
 | .load T a=>Kv P st T a
 | .store T a x=>Qz P st T a x
 | .fieldAddr S a f=>fi P st S a f
 | .indexAddr T a ix=>fj P st T a ix
 | .field S x f=>rl P st S x f
 | .index T x ix=>rn P st T x ix
 | .build T parts=>rx P st T parts.toList
 | .extract x i=>ry st x i
 | .binOp op T x y _=>si P st op T x y
 | .unOp op T x=>sUn P st op T x
 | .convert s d x=>sk P st s d x
 | .call c=>sr P st c
 |op=>if mkB st o then sMk st op else Yi st op
def Ge (P:Program):List Rq->St->(St->Option Tree)->Option Tree
 |[],st,k=>k st
 |r::rs,st,k=>if ev P st.kn r then Ge P rs st k else(Ge P rs {st with kn:=r::st.kn} k).map (Tree.rq r)
def Bh (st:St):Bool:=st.sl.all (·.lt st.n)&&st.bl.all (·.c.lt st.n)&&st.kn.all (·.sv.lt st.n)&&st.kb.all (·.1.lt st.n)
def Eb (st:St) (d:Option Tmp):St:=St.set {st with n:=st.n+1} d (.x (.v st.n))
def fq (P:Program) (pf:Bool) (id i:Nat) (o:Oper) (st:St) (k:St->Option Tree):Option Tree:=
 let(rs,r):=Av P st o
 Ge P rs st fun st=>match r with
  | .val s=>k (st.set o.dst s)
  | .new c T n=>if Yj st o.dst then(if Bh st&&c.lt st.n then(k (Eb st o.dst)).map (Tree.pub T c)else none)else k (St.set {st with bl:=st.bl++[Blk.mk c T n]} o.dst (.p st.bl.length 0 0 noI))
  | .sto b c=>match st.bl[b]? with
   |some B=>k (St.set {st with bl:=st.bl.set b {B with c:=c}} o.dst (.x (.k undef)))
   |none=>none
  | .call f args=>if Bh st&&args.all (·.lt st.n)then(k (Eb st o.dst)).map (Tree.call pf f args)else none
  | .prim args=>if Bh st&&args.all (·.lt st.n)then(k (Eb st o.dst)).map (Tree.prim id i o args)else none
  | .eff args=>if Bh st&&args.all (·.lt st.n)then(k (Eb st o.dst)).map (Tree.eff pf id i o args)else none
  | .ext f args=>if Bh st&&args.all (·.lt st.n)then(k (Eb st o.dst)).map (Tree.ext f args)else none
  | .mk args=>if Bh st&&args.all (·.lt st.n)then(k (Eb st o.dst)).map (Tree.mk id i o args)else none
  | .bad=>some (.dead (777000000+1000*id+i))
def Uu (st:St) (x:Operand):Option Nat:=match st.get x with|some (.p b _ _ _)=>some b|_=>none
def Jf (st:St) (o:Oper):Bool:=match o.op with| .fieldAddr _ a _=>(Uu st a).isSome| .indexAddr _ a _=>(Uu st a).isSome|_=>false
def fu:Res->Bool| .prim _=>true|_=>false
def e4r:Res->Bool| .sto _ _=>true|_=>false
def frS (tg:Nat):Res->Bool| .sto b _=>tg !=0&&decide (tg<=b)|_=>true
def Bo (P:Program) (st:St) (o:Oper) (k tg:Nat):Bool:=
 match k with
 |0=>r4 P o==0||Jf st o
 |1=>decide (r4 P o<=1)
 |2=>r4 P o==2&& !mkB st o
 |3=>r4 P o==3||mkB st o
 |4=>true
 |5=>match o.op with| .load _ a=>Uu st a==some tg|_=>false
 |6=>match o.op with| .store _ a _=>Uu st a==some tg|_=>false
 |7=>fu (Av P st o).2
 |8=>frS tg (Av P st o).2
 |9=>fu (Av P st o).2&&ek o.op
 |10=>eo P o.op
 |_=>false
def Re (P:Program) (pf:Bool) (ck:Nat->Oper->St->Bool) (id i:Nat) (o:Oper) (st:St) (k:St->Option Tree):Option Tree:=
 if ck i o st then fq P pf id i o st k else some (.dead (778000000+1000*id+i))
def su:List (Nat×Bool)->Nat->Option Bool
 |[],_=>none
 |(t,b)::r,u=>if t==u then some b else su r u
def amO (am:List (Nat×Bool)):Operand->Option Bool
 | .tmp t=>su am t
 |_=>none
def Bf (P:Program) (pf:Bool) (ck:Nat->Oper->St->Bool) (ops:Array Oper) (id:Nat) (k:St->Option Tree):List Nat->St->Option Tree
 |[],st=>k st
 |i::L,st=>match ops[i]? with
  |none=>none
  |some o=>match o.guard with
   |none=>Re P pf ck id i o st (Bf P pf ck ops id k L)
   |some (j,want)=>match((ops[j]?).bind (·.dst)).bind (st.sl[·]?)with
    |some (.x c)=>match Nv st.kb c with
     | .k (.bool b)=>if b==want then Re P pf ck id i o st (Bf P pf ck ops id k L)else Bf P pf ck ops id k L (st.set o.dst (.x (.k undef)))
     | .k (.tuple _)=>Bf P pf ck ops id k L (st.set o.dst (.x (.k undef)))
     |c=>match su st.am (((ops[j]?).bind (·.dst)).getD 0)with
     |some b=>Ge P [.isb b c] st fun st=>if b==want then Re P pf ck id i o (st.know P c b) (Bf P pf ck ops id k L)else Bf P pf ck ops id k L ((st.know P c b).set o.dst (.x (.k undef)))
     |none=>Ge P [.bool c] st fun st=>
      match Re P pf ck id i o (st.know P c want) (Bf P pf ck ops id k L),Bf P pf ck ops id k L ((st.know P c (!want)).set o.dst (.x (.k undef)))with
      |some t1,some t2=>some (if want then .br c t1 t2 else .br c t2 t1)
      |_,_=>none
    |_=>none
structure Da where
 id:Nat
 an:List Nat
 ks:List Nat
 ts:List Nat
 F:List Nat
 T:List Nat
def Yk:List Da->Nat->Option Da
 |[],_=>none
 |c::C,id=>if c.id==id then some c else Yk C id
def ckC (P:Program) (c:Da) (i:Nat) (o:Oper) (st:St):Bool:=Bo P st o (c.ks.getD i 99) (c.ts.getD i 0)
def tgB (n0:Nat) (c:Da):Bool:=(eO c.ks.length).all fun i=>(!(c.ks.getD i 99==5||c.ks.getD i 99==6)||decide (c.ts.getD i 0<n0))&&(!(c.ks.getD i 99==8)||(c.ts.getD i 0==0||decide (n0<=c.ts.getD i 0)))
def Yl (st:St) (ops:Array Oper) (c:Da):Bool:=
 c.an==Cm ops.toList []&&tgB st.bl.length c&&Nq ops c.an (fun i=>c.ks.getD i 99) (fun i=>c.ts.getD i 0) c.F c.T
def Nw:Code->List Nat
 | .region _ ops _=>ops.toList.filterMap (·.dst)
 | .seq a b=>Nw a++Nw b
 | .cond _ a b=>Nw a++Nw b
 | .block _ a=>Nw a
 | .loop a=>Nw a
 | .scope a=>Nw a
 |_=>[]
def Gx:Code->Bool
 | .region _ ops _=>ops.any fun o=>match o.op with| .store .. =>true|_=>false
 | .seq a b=>Gx a||Gx b
 | .cond _ a b=>Gx a||Gx b
 | .block _ a=>Gx a
 | .loop a=>Gx a
 | .scope a=>Gx a
 | .rangeFunc _ _ a c=>Gx a||Gx c
 |_=>false
def sw:SL->Bool| .x (.k (.tuple _))=>false| .x _=>true|_=>false
def Rf (sl:List SL) (ws:List Nat):List Nat:=ws.filter fun t=>match sl[t]? with|some s=>sw s|none=>false
def sx (sl:List SL) (ws:List Nat):List Nat:=ws.filter fun t=>match sl[t]? with|some s=> !sw s|none=>false
def Nx (sl:List SL) (ts:List Nat) (s:SL):List SL:=ts.foldl (fun sl t=>sl.set t s) sl
def Kw:List Nat->Nat->List SL->List SL
 |[],_,sl=>sl
 |t::ts,n,sl=>Kw ts (n+1) (sl.set t (.x (.v n)))
def Bg (i:Nat):List Nat->Nat->Option Nat
 |[],_=>none
 |x::l,k=>if x==i then some k else Bg i l (k+1)
def Rh (bs:List Nat) (n:Nat):List Blk->Nat->List Blk
 |[],_=>[]
 |b::l,i=>(match Bg i bs 0 with|some k=>{b with c:= .v (n+k)}|none=>b)::Rh bs n l (i+1)
def cAt (bl:List Blk):List Nat->Option (List SV)
 |[]=>some []
 |i::r=>match bl[i]?,cAt bl r with|some B,some l=>some (B.c::l)|_,_=>none
def Ym (bl:List Blk):List Nat->Nat->List Rq
 |[],_=>[]
 |i::r,n=>(match bl[i]? with|some B=>[Rq.cells B.n (.v n)]|none=>[])++Ym bl r (n+1)
def Ny:List Nat->Bool
 |[]=>true
 |x::l=> !l.contains x&&Ny l
def GL (sl:List SL) (t:Nat):Option SV:=match sl[t]? with|some (SL.x s)=>some s|_=>none
def Nz (sl:List SL):List Nat->Option (List SV)
 |[]=>some []
 |t::ts=>match GL sl t,Nz sl ts with|some s,some l=>some (s::l)|_,_=>none
def Oa:List Nat->List Nat
 |[]=>[]
 |x::l=>if l.contains x then Oa l else x::Oa l
def Dj (b:Code):List Nat:=Oa (Nw b)
def Ob (bs:List Nat):List Blk->List Blk->Nat->Bool
 |[],_,_=>true
 |x::l,y::r,i=>x.T==y.T&&x.n==y.n&&(bs.contains i||x.c.beq y.c)&&Ob bs l r (i+1)
 |_::_,[],_=>false
def Uw (ws:List Nat):List SL->List SL->Nat->Bool
 |[],[],_=>true
 |x::a,y::b,i=>(x.beq y||ws.contains i)&&Uw ws a b (i+1)
 |[],_::_,_=>false
 |_::_,[],_=>false
def Yn (ws:List Nat) (a b:List SL):Bool:=Uw ws a b 0
def Ie:Code->Option Nat
 | .region id _ _=>some id
 | .seq a b=>match Ie a with|some k=>some k|none=>Ie b
 | .cond _ a b=>match Ie a with|some k=>some k|none=>Ie b
 | .block _ a=>Ie a
 | .loop a=>Ie a
 | .scope a=>Ie a
 | .rangeFunc _ _ a c=>match Ie c with|some k=>some k|none=>Ie a
 |_=>none
def Rj (st:St) (b:Code):List Nat:=
 if Gx b then match Ut st.js 0 ((Ie b).getD 0)with|some j=>j.bs|none=>eO st.bl.length else[]
def Bv (st:St) (lv dd bs:List Nat) (δ:Nat):St:=
 {es:=st.es,am:=st.am,js:=st.js,
  sl:=Nx (Kw lv st.n st.sl) dd .u,
  bl:=Rh bs (st.n+lv.length) st.bl 0,
  kn:=Ym st.bl bs (st.n+lv.length)++st.kn,
  kb:=st.kb,
  n:=st.n+lv.length+bs.length,
  d:=st.d+δ,
  rd:=st.rd}
def jn (st:St) (b:Code) (ts bs:List Nat) (run:St->(Exit->St->Option Tree)->Option Tree) (k:Exit->St->Option Tree):Option Tree:=
 if Bh st&&Ny ts&&Ny bs then
  match run {st with d:=st.d+1} (fun e st2=>match e with
    | .normal=>match Nz st2.sl ts,cAt st2.bl bs with
     |some nv,some nb=>if Yn (Dj b) st.sl st2.sl&&Ob bs st.bl st2.bl 0 then some (.next st.d (nv++nb))else some (.dead 807)
     |_,_=>some (.dead 808)
    |e=>k e st2),k .normal (Bv st ts ((Dj b).filter fun t=> !ts.contains t) bs 0)with
  |some t,some u=>some (.join (ts.length+bs.length) t u)
  |_,_=>none
 else none
def YT:Operand->Nat
 | .tmp t=>t
 |_=>0
def If:Code->List Exit
 | .seq a b=>If a++If b
 | .cond _ a b=>If a++If b
 | .block id a=>(If a).filter fun e=>match e with| .exit j=>j !=id|_=>true
 | .loop a=>If a
 | .scope a=>If a
 | .exit id=>[.exit id]
 | .ret=>[.ret]
 |_=>[]
def Ux:Exit->List Exit->Bool
 | .ret,.ret::_=>true
 | .exit i,.exit j::_=>i==j
 |_,_=>false
def Oc (st:St) (a b:Code):List Nat:=
 if Gx a||Gx b then match Ut st.js 4 ((Ie b).getD 0)with|some j=>j.bs|none=>eO st.bl.length else[]
def Yo (st:St) (bs:List Nat) (j:Nat) (st2:St):Option Tree:=
 match cAt st2.bl bs with
 |some nb=>if Ob bs st.bl st2.bl 0 then some (.next (st.d+j) nb)else some (.dead 820)
 |none=>some (.dead 820)
def sy (st:St) (ps bs:List Nat):St:={Bv st ps [] bs 2 with rd:=true}
def exR (P:Program) (C:List Da) (id:Nat) (ops:Array Oper) (draw:Bool) (st:St) (k:Exit->St->Option Tree):Option Tree:=
 match draw with
 |false=>Bf P false (fun _ _ _=>true) ops id (k .normal) (eO ops.size) st
 |true=>match Yk C (2000000+id)with
  |some p=>match p.F,p.T,Yk C id,Yk C (1000000+id)with
   |[x],[y],some c1,some c2=>if x !=y&&(Yl st (Ao ops y x) c1&&Yl st (Ao ops x y) c2)then
     match Bf P true (ckC P c1) ops id (fun st'=>Bf P false (ckC P c1) ops id (k .normal) c1.T st') c1.F st,Bf P true (ckC P c2) ops id (fun st'=>Bf P false (ckC P c2) ops id (k .normal) c2.T st') c2.F st with
     |some t1,some t2=>some (.both t1 t2)
     |_,_=>none
    else some (.dead (806000000+id))
   |_,_,_,_=>some (.dead (806500000+id))
  |none=>match Yk C id with
  |some c=>if Yl st ops c then Bf P true (ckC P c) ops id (fun st'=>Bf P false (ckC P c) ops id (k .normal) c.T st') c.F st else some (.dead (805000000+id))
  |none=>some (.dead (805500000+id))
def ex (P:Program) (C:List Da):Code->St->(Exit->St->Option Tree)->Option Tree
 | .skip,st,k=>k .normal st
 | .region id ops draw,st,k=>match Ut st.js 3 id with
  |some j=>jn st (.region id ops draw) j.ts j.bs (exR P C id ops draw) k
  |none=>exR P C id ops draw st k
 | .seq a b,st,k=>ex P C a st fun e st=>match e with| .normal=>ex P C b st k|e=>k e st
 | .cond c t e,st,k=>
  let run:St->(Exit->St->Option Tree)->Option Tree:=fun st k=>match(st.val c).map (Nv st.kb)with
  |some (.k (.bool true))=>ex P C t st k
  |some (.k (.bool false))=>ex P C e st k
  |some s=>match amO st.am c with
   |some true=>Ge P [.isb true s] st fun st=>ex P C t (st.know P s true) k
   |some false=>Ge P [.isb false s] st fun st=>ex P C e (st.know P s false) k
   |none=>Ge P [.bool s] st fun st=>
    match ex P C t (st.know P s true) k,ex P C e (st.know P s false) k with
    |some t1,some t2=>some (.br s t1 t2)
    |_,_=>none
  |none=>none
  match Ut st.js 2 (YT c)with
  |some j=>jn st (.cond c t e) j.ts j.bs run k
  |none=>run st k
 | .block id b,st,k=>
  let run:St->(Exit->St->Option Tree)->Option Tree:=fun st k=>ex P C b st fun e st=>match e with
   | .exit j=>if j=id then k .normal st else k (.exit j) st
   |e=>k e st
  match Ut st.js 1 id with
  |some j=>jn st (.block id b) j.ts j.bs run k
  |none=>run st k
 | .exit id,st,k=>k (.exit id) st
 | .ret,st,k=>k .ret st
 | .label _,st,k=>k .normal st
 | .scope b,st,k=>ex P C b st fun e st=>match e with| .goto _=>some (.dead 817)|e=>k e st
 | .loop b,st,k=>
  match Nz st.sl (Rf st.sl (Dj b)),cAt st.bl (Rj st b)with
  |some iv,some ib=>
   if Bh st&&Ny (Rj st b)then
    (ex P C b (Bv st (Rf st.sl (Dj b)) (sx st.sl (Dj b)) (Rj st b) 1) fun e st2=>match e with
     | .normal=>
      match Nz st2.sl (Rf st.sl (Dj b)),cAt st2.bl (Rj st b)with
      |some nv,some nb=>if Yn (Dj b) st.sl st2.sl&&Ob (Rj st b) st.bl st2.bl 0 then some (.next st.d (nv++nb))else some (.dead 806)
      |_,_=>some (.dead 806)
     |e=>k e st2).map (Tree.loop (iv++ib))
   else none
  |_,_=>none
 | .rangeFunc g ps asg body,st,k=>
  match st.rd,st.val g,cAt st.bl (Oc st asg body)with
  |false,some gv,some ib=>
   if Bh st&&Ny (Oc st asg body)&&Ny ps.toList&&ps.toList.all (fun t=>decide (t<st.sl.length))then
    match ex P C asg (sy st ps.toList (Oc st asg body)) (fun e st1=>match e with
      | .normal=>ex P C body st1 fun e st2=>match e with
       | .normal=>Yo st (Oc st asg body) 0 st2
       |e=>if Ux e (If body)then Yo st (Oc st asg body) 1 st2 else some (.dead 821)
      |_=>some (.dead 819)),
     k .normal (Bv st [] [] (Oc st asg body) 0),
     (match If body with|e0::_=>k e0 (Bv st [] [] (Oc st asg body) 0)|[]=>some (.dead 818))with
    |some tb,some ta,some te=>some (.rf gv ps.size ib tb ta te)
    |_,_,_=>none
   else none
  |_,_,_=>some (.dead 822)
 |_,_,_=>some (.dead 816)
def ldO (T:TypeId) (t:Tmp):Oper:=⟨none,.load T (.tmp t),0, "",#[],none⟩
def Kx (P:Program) (st:St):List ResultVar->List SV->Option Tree
 |[],l=>some (.ret l)
 | .tmp t::r,l=>match st.sl[t]? with
  |some (.x s)=>Kx P st r (l++[s])
  |_=>none
 | .cell t T::r,l=>match Kv P st T (.tmp t)with
  |([],.val (.x s))=>Kx P st r (l++[s])
  |([],.prim [a])=>if Bh st&&a.lt st.n&&l.all (·.lt st.n)then(Kx P (Eb st none) r (l++[.v st.n])).map (Tree.prim 999999 t (ldO T t) [a])else none
  |_=>none
def d9 (P:Program) (E:List Nat) (A:List (Nat×Bool)) (J:List Jn) (C:List Da) (f:FuncId):Option Tree:=
 match P.funcs[f]? with
 |some fn=>match fn.body with
  |some c=>
   let n:=fn.params.size+fn.nfree
   ex P C c {es:=E,am:=A,js:=J,sl:=(eO n).map (fun i=> .x (.v i))++List.replicate (fn.ntmps-n) (.x (.k undef)),bl:=[],kn:=[],kb:=[],n,d:=0} fun e st=>match e with
    | .normal| .ret=>Kx P st fn.results.toList []
    |_=>none
  |none=>none
 |none=>none
def YU {ρ r:List Value} {i:Nat} (h:i<ρ.length):(ρ++r).getD i undef=ρ.getD i undef:=by
 simp[aJ,aM h]
def Fg (P:Program) (ρ r:List Value):∀x:SV,x.lt ρ.length=true->D P (ρ++r) x=D P ρ x:=by
 intro x;induction x with
 |v i=>intro h;simp only[SV.lt,decide_eq_true_eq]at h;exact YU h
 |k c=>intro _;rfl
 |z t=>intro _;rfl
 |ag x ih=>intro h;simp only[SV.lt]at h;simp only[D,ih h]
 |cell x o s i ih1 ih2=>intro h;simp only[SV.lt,aQ]at h;simp only[D,ih1 h.1,ih2 h.2]
 |sub x o n s i ih1 ih2=>intro h;simp only[SV.lt,aQ]at h;simp only[D,ih1 h.1,ih2 h.2]
 |put x o n y s i ih1 ih2 ih3=>intro h;simp only[SV.lt,aQ]at h;simp only[D,ih1 h.1.1,ih2 h.1.2,ih3 h.2]
 |cat x n y ih1 ih2=>intro h;simp only[SV.lt,aQ]at h;simp only[D,ih1 h.1,ih2 h.2]
 |pj x i ih=>intro h;simp only[SV.lt]at h;simp only[D,ih h]
 |op2 o k x y ih1 ih2=>intro h;simp only[SV.lt,aQ]at h;simp only[D,ih1 h.1,ih2 h.2]
 |op1 o k x ih=>intro h;simp only[SV.lt]at h;simp only[D,ih h]
 |nt x ih=>intro h;simp only[SV.lt]at h;simp only[D,ih h]
 |cv k x ih=>intro h;simp only[SV.lt]at h;simp only[D,ih h]
 |ite c x y ih1 ih2 ih3=>intro h;simp only[SV.lt,aQ]at h;simp only[D,ih1 h.1.1,ih2 h.1.2,ih3 h.2]
 |eqb n x y ih1 ih2=>intro h;simp only[SV.lt,aQ]at h;simp only[D,ih1 h.1,ih2 h.2]
def GM (P:Program) (ρ r:List Value) (q:Rq) (h:q.sv.lt ρ.length=true):q.holds P (ρ++r)↔q.holds P ρ:=by
 cases q<;>simp only[Rq.sv]at h<;>simp only[Rq.holds,Fg P ρ r _ h]
def GN {a b:Value} (h:ep a b=true):a=b:=by
 unfold ep at h;split at h<;>first|rfl|(exfalso;cases h;done)|skip
 ·simp at h;rw[h]
 ·simp at h;rw[h.1,h.2]
 ·simp at h;rw[h.1,h.2]
 ·rename_i a b;simp at h;congr 1;cases a;cases b;simp at h;rw[h]
 ·simp at h;rw[h.1.1.1.1,h.1.1.1.2,h.1.1.2,h.1.2,h.2]
 ·simp at h;rw[h.1,h.2]
def SV.beq_sound:∀{x y:SV},x.beq y=true->x=y:=by
 intro x;induction x with
 |v i=>intro y h;cases y<;>simp[SV.beq]at h;rw[h]
 |k c=>intro y h;cases y<;>simp[SV.beq]at h;rw[GN h]
 |z t=>intro y h;cases y<;>simp[SV.beq]at h;rw[h]
 |ag x ih=>intro y h;cases y<;>simp[SV.beq]at h;rw[ih h]
 |cell x o s i ih1 ih2=>intro y h;cases y<;>simp[SV.beq]at h;rw[ih1 h.1.1.1,h.1.1.2,h.1.2,ih2 h.2]
 |sub x o n s i ih1 ih2=>intro y h;cases y<;>simp[SV.beq]at h;rw[ih1 h.1.1.1.1,h.1.1.1.2,h.1.1.2,h.1.2,ih2 h.2]
 |put x o n y s i ih1 ih2 ih3=>intro y h;cases y<;>simp[SV.beq]at h;rw[ih1 h.1.1.1.1.1,h.1.1.1.1.2,h.1.1.1.2,ih2 h.1.1.2,h.1.2,ih3 h.2]
 |cat x n y ih1 ih2=>intro y h;cases y<;>simp[SV.beq]at h;rw[ih1 h.1.1,h.1.2,ih2 h.2]
 |pj x i ih=>intro y h;cases y<;>simp[SV.beq]at h;rw[ih h.1,h.2]
 |op2 o k x y ih1 ih2=>intro y h;cases y<;>simp[SV.beq]at h;rw[h.1.1.1,h.1.1.2,ih1 h.1.2,ih2 h.2]
 |op1 o k x ih=>intro y h;cases y<;>simp[SV.beq]at h;rw[h.1.1,h.1.2,ih h.2]
 |nt x ih=>intro y h;cases y<;>simp[SV.beq]at h;rw[ih h]
 |cv k x ih=>intro y h;cases y<;>simp[SV.beq]at h;rw[h.1,ih h.2]
 |ite c x y ih1 ih2 ih3=>intro y h;cases y<;>simp[SV.beq]at h;rw[ih1 h.1.1,ih2 h.1.2,ih3 h.2]
 |eqb n x y ih1 ih2=>intro y h;cases y<;>simp[SV.beq]at h;rw[h.1.1,ih1 h.1.2,ih2 h.2]
def SL.beq_sound {x y:SL} (h:x.beq y=true):x=y\/x= .u:=by
 cases x<;>cases y<;>simp[SL.beq]at h
 ·exact .inl (by rw[SV.beq_sound h])
 ·exact .inl (by rw[h.1.1.1,h.1.1.2,h.1.2,SV.beq_sound h.2])
 all_goals exact .inr rfl
def Rq.beq_sound {x y:Rq} (h:x.beq y=true):x=y:=by
 cases x<;>cases y<;>simp[Rq.beq]at h<;>first
  |rw[SV.beq_sound h]
  |rw[h.1,SV.beq_sound h.2]
section
variable {P:Program} {ρ:List Value} {kn:List Rq}
def Et (hk:∀r∈kn,r.holds P ρ) {r:Rq} (h:has kn r=true):r.holds P ρ:=by
 unfold has at h;rw[List.any_eq_true]at h;obtain⟨r',hm,hb⟩:=h;rw[<-Rq.beq_sound hb];exact hk r' hm
def GO {o:BinOp} (h:Qs o=false) (k:IntKind) (a b:Int):∃n,w9 o k a b= .int k n:=by
 cases o<;>simp[Qs]at h<;>exact⟨_,rfl⟩
def YV {o:BinOp} (h:Qs o=true) (k:IntKind) (a b:Int):∃n,w9 o k a b= .bool n:=by
 cases o<;>simp[Qs]at h<;>exact⟨_,rfl⟩
def GP (o:UnOp) (k:IntKind) (a:Int):∃n,unV o k a= .int k n:=by
 cases o<;>exact⟨_,rfl⟩
def YW {k:IntKind} {x:SV} (h:qp k x=true):∃n,D P ρ x= .int k n:=by
 unfold qp at h;split at h
 ·simp at h;subst h;exact⟨_,rfl⟩
 ·simp at h;obtain⟨h1,rfl⟩:=h;exact GO h1 _ _ _
 ·simp at h;subst h;exact GP _ _ _
 ·simp at h;subst h;exact⟨_,rfl⟩
 ·cases h
def GQ {x:SV} (h:er x=true):∃k n,D P ρ x= .int k n:=by
 unfold er at h;split at h
 ·exact⟨_,_,rfl⟩
 ·simp at h;obtain⟨n,hn⟩:=GO h _ _ _;exact⟨_,n,hn⟩
 ·obtain⟨n,hn⟩:=GP _ _ _;exact⟨_,n,hn⟩
 ·exact⟨_,_,rfl⟩
 ·cases h
def GR {x:SV} (h:eu x=true):∃b,D P ρ x= .bool b:=by
 unfold eu at h;split at h
 ·exact⟨_,rfl⟩
 ·exact YV h _ _ _
 ·exact⟨_,rfl⟩
 ·exact⟨_,rfl⟩
 ·cases h
def tc {x:SV} (h:Qu x=true):(D P ρ x).cells= #[D P ρ x]/\y6 (D P ρ x)=true:=by
 unfold Qu at h;simp only[cO]at h;rcases h with(h|h)|h
 ·obtain⟨k,n,hn⟩:=GQ (P:=P) (ρ:=ρ) h;rw[hn];exact⟨rfl,rfl⟩
 ·obtain⟨b,hb⟩:=GR (P:=P) (ρ:=ρ) h;rw[hb];exact⟨rfl,rfl⟩
 ·split at h
  ·exact⟨rfl,rfl⟩
  ·cases h
def GT {v:Value} (h:fb v=true):v= .agg v.cells:=by
 cases v<;>simp[fb]at h;rfl
def GU {x:SV} (h:fc P x=true):D P ρ x= .agg (D P ρ x).cells:=by
 unfold fc at h;split at h
 ·rfl
 ·rfl
 ·rfl
 ·rfl
 ·exact GT h
 ·exact GT h
 ·cases h
def GW {n:Nat} {v:Value} (h:fe n v=true):v.cells.size=n/\j0 v.cells:=by
 unfold fe at h;rw[aQ,beq_iff_eq,cH]at h;exact⟨h.1,h.2⟩
def fw (x:SV):D P ρ (Qw P x)= .agg (D P ρ x).cells:=by
 unfold Qw;split
 ·rename_i h;exact GU h
 ·rfl
def Yp:∀(ys:List Value) (cs:Array Value) (q:Nat),(spl cs q ys).size=cs.size:=by
 intro ys;induction ys with
 |nil=>intro cs q;rfl
 |cons y ys ih=>intro cs q;simp only[spl,ih];simp
def fx:∀(ys:List Value) (cs:Array Value) (q j:Nat),(spl cs q ys)[j]? =if j<cs.size then(if q<=j/\j<q+ys.length then ys[j-q]? else cs[j]?)else none:=by
 intro ys;induction ys with
 | nil => intro cs q j; simp only [spl, bX, cJ]; split
          · rw[if_neg aA]
          · rw[iJ aA]
 |cons y ys ih=>
  intro cs q j;simp only[spl,ih,Array.size_setIfInBounds,aP];split
  ·rename_i hj;by_cases h1:q+1<=j/\j<q+1+ys.length
   ·rw[if_pos h1,if_pos aA,show j-q=(j-(q+1))+1 from aA];simp
   ·rw[if_neg h1];by_cases h2:q=j
    ·subst h2;rw[if_pos aA];simp[hj]
    ·rw[if_neg aA,cZ h2]
  ·rfl
def YX {c:Value}:∀(ys:List Value) (cs:Array Value) (q:Nat),c∈(spl cs q ys).toList->c∈cs.toList\/c∈ys:=by
 intro ys;induction ys with
 |nil=>intro cs q h;exact .inl h
 |cons y ys ih=>
  intro cs q h;rcases ih _ _ h with h|h
  ·have:=gZ.1 h;rcases Array.mem_or_eq_of_mem_setIfInBounds this with h|h
   ·exact .inl (gZ.2 h)
   ·exact .inr (by simp[h])
  ·exact .inr (by simp[h])
def GX {cs:Array Value} {q:Nat} {ys:List Value} (h1:j0 cs) (h2:∀c∈ys,y6 c=true):j0 (spl cs q ys):=fun c hc=>(YX _ _ _ hc).elim (h1 c) (h2 c)
def YY {cs:Array Value} {a b:Nat} (h:j0 cs):j0 (cs.extract a b):=fun c hc=>h c (by
 have:=gZ.1 hc;rw[gZ];obtain⟨i,hi,rfl⟩:=Array.mem_iff_getElem.1 this;simp)
def fy {a b:Array Value} (h1:j0 a) (h2:j0 b):j0 (a++b):=fun c hc=>by
 simp at hc;rcases hc with h|h
 ·exact h1 c (by simpa using h)
 ·exact h2 c (by simpa using h)
def YZ (hk:∀r∈kn,r.holds P ρ):∀{l:List Rq} {x:SV} {n:Nat},(∀r∈l,r∈kn)->Qv l x=some n->(D P ρ x).cells.size=n/\j0 (D P ρ x).cells:=by
 intro l;induction l with
 |nil=>intro x n _ h;simp[Qv]at h
 |cons r l ih=>
  intro x n hl h;cases r with
  |cells m y=>
   simp only[Qv]at h;split at h
   ·rename_i hb;simp at h;subst h;have:=hk (.cells m y) (hl (.cells m y) aD);rw[<-SV.beq_sound hb];exact this
   ·exact ih (fun r hr=>hl r (by simp[hr])) h
  |_=>exact ih (fun r hr=>hl r (by simp[hr])) (by simpa[Qv]using h)
def Jg (hk:∀r∈kn,r.holds P ρ):∀{x:SV} {n:Nat},Ad P kn x n=true->(D P ρ x).cells.size=n/\j0 (D P ρ x).cells:=by
 intro x;have dflt:∀(x:SV) (n:Nat),((n==1&&Qu x)||has kn (.cells n x))=true->(D P ρ x).cells.size=n/\j0 (D P ρ x).cells:=fun x n h=>by
  simp only[cO,aQ,beq_iff_eq]at h;rcases h with⟨rfl,h⟩|h
  ·obtain⟨h1,h2⟩:=tc (P:=P) (ρ:=ρ) h;rw[h1];exact⟨rfl,fun c hc=>by simp at hc;rw[hc];exact h2⟩
  ·exact Et hk h
 induction x with
 |z t=>intro n h;simp only[Ad]at h;exact GW h
 |k c=>intro n h;simp only[Ad]at h;exact GW h
 |ag x ih=>intro n h;simp only[Ad]at h;exact ih h
 |cat x m y ih1 ih2=>
  intro n h;simp only[Ad,cO,aQ,decide_eq_true_eq]at h;rcases h with⟨⟨h1,h2⟩,h3⟩|h
  ·obtain⟨a1,b1⟩:=ih1 h1;obtain⟨a2,b2⟩:=ih2 h3;refine⟨?_,fy b1 b2⟩;show((D P ρ x).cells++(D P ρ y).cells).size=n;simp;omega
  ·exact Et hk h
 |put x o m y s i ih1 ih2 ih3=>
  intro n h;simp only[Ad,cO,aQ]at h;rcases h with⟨h1,h2⟩|h
  ·obtain⟨a1,b1⟩:=ih1 h1;obtain⟨a2,b2⟩:=ih2 h2;refine⟨?_,GX b1 b2⟩;show(spl _ _ _).size=n;rw[Yp];exact a1
  ·exact Et hk h
 |sub x o m s i ih1 ih2=>
  intro n h;simp only[Ad,cO,aQ,beq_iff_eq]at h;rcases h with⟨⟨rfl,rfl⟩,h⟩|h
  ·split at h
   ·rename_i N hN;simp at h;obtain⟨a1,b1⟩:=YZ hk (fun r hr=>hr) hN;refine⟨?_,YY b1⟩;show((D P ρ x).cells.extract _ _).size=m;simp;omega
   ·cases h
  ·exact Et hk h
 |v i=>intro n h;exact dflt _ _ (by simpa only[Ad]using h)
 |cell x o s i _ _=>intro n h;exact dflt _ _ (by simpa only[Ad]using h)
 |pj x i _=>intro n h;exact dflt _ _ (by simpa only[Ad]using h)
 |op2 o k x y _ _=>intro n h;exact dflt _ _ (by simpa only[Ad]using h)
 |op1 o k x _=>intro n h;exact dflt _ _ (by simpa only[Ad]using h)
 |nt x _=>intro n h;exact dflt _ _ (by simpa only[Ad]using h)
 |cv k x _=>intro n h;exact dflt _ _ (by simpa only[Ad]using h)
 |ite c x y _ _ _=>intro n h;exact dflt _ _ (by simpa only[Ad]using h)
 |eqb b x y _ _=>intro n h;exact dflt _ _ (by simpa only[Ad]using h)
def GY (hk:∀r∈kn,r.holds P ρ) {r:Rq} (h:ev P kn r=true):r.holds P ρ:=by
 unfold ev at h;split at h
 ·simp only[cO]at h;exact h.elim YW (Et hk)
 ·simp only[cO]at h;exact h.elim GQ (Et hk)
 ·simp only[cO]at h;rcases h with h|h|h|h
  ·exact GR h
  ·exact Et hk h
  ·exact⟨true,Et hk h⟩
  ·exact⟨false,Et hk h⟩
 ·exact Jg hk h
 ·simp only[cO,aQ]at h;refine h.elim (fun⟨h1,h2⟩=> ?_) (Et hk);exact⟨_,GU h1,(Jg hk h2).1⟩
 ·exact Et hk h
 ·simpa[Rq.holds,D,intOf]using h
 ·exact Et hk h
 ·simpa[Rq.holds,D,intOf]using h
 ·exact Et hk h
 ·simpa[Rq.holds,D,intOf]using h
 ·exact Et hk h
 ·rw[beq_iff_eq]at h;rw[h];rfl
 ·exact Et hk h
def ZA (c x y:SV):D P ρ (qq c x y)=if Ep (D P ρ c)then D P ρ x else D P ρ y:=by
 unfold qq;split<;>simp[D,Ep]
def ga (o:Nat):o+0*t6 (D P ρ noI)=o:=aD
def td (hk:∀r∈kn,r.holds P ρ) (n:Nat):∀(x:SV) (o:Nat),D P ρ (Ns P kn o n x)= .agg ((D P ρ x).cells.extract o (o+n)):=by
 have dflt:∀(x:SV) (o:Nat),D P ρ (if o=0/\Ad P kn x n=true then Qw P x else .sub x o n 0 noI)= .agg ((D P ρ x).cells.extract o (o+n)):=fun x o=>by
  split
  ·rename_i h;obtain⟨rfl,h⟩:=h;rw[fw,bJ];have:=(Jg hk h).1;rw[<-this];simp
  ·simp[D]
 intro x;induction x with
 |cat x m y ih1 ih2=>
  intro o;simp only[Ns];split
  ·rename_i h;obtain⟨rfl,rfl,h⟩:=h;have hs:=(Jg hk h).1;rw[fw];show _=Value.agg (((D P ρ x).cells++(D P ρ y).cells).extract 0 (0+n));congr 1;rw[bJ,iQ,hs];simp[<-hs]
  ·split
   ·rename_i h;have hs:=(Jg hk h.2).1;rw[ih2];show _=Value.agg (((D P ρ x).cells++(D P ρ y).cells).extract o (o+n));congr 1;have e:(D P ρ x).cells.extract o (o+n)= #[]:=Array.extract_eq_empty_iff.2 aA;rw[iQ,hs,e,Array.empty_append,show o-m+n=o+n-m from aA]
   ·split
    ·rename_i h;have hs:=(Jg hk h.2).1;simp only[D,ga];congr 1;rw[show Value.cells (Value.agg ((D P ρ x).cells++(D P ρ y).cells))=(D P ρ x).cells++(D P ρ y).cells from rfl];rw[iQ,hs,show o+n-m=0 from aA];simp
    ·simp only[D,ga]
 |ag x ih=>intro o;simp only[Ns,ih];rfl
 |v i=>intro o;exact dflt _ o
 |k c=>intro o;exact dflt _ o
 |z t=>intro o;exact dflt _ o
 |cell x o' s i _ _=>intro o;exact dflt _ o
 |sub x o' n' s i _ _=>intro o;exact dflt _ o
 |put x o' n' y s i _ _ _=>intro o;exact dflt _ o
 |pj x i _=>intro o;exact dflt _ o
 |op2 o' k x y _ _=>intro o;exact dflt _ o
 |op1 o' k x _=>intro o;exact dflt _ o
 |nt x _=>intro o;exact dflt _ o
 |cv k x _=>intro o;exact dflt _ o
 |ite c x y _ _ _=>intro o;exact dflt _ o
 |eqb b x y _ _=>intro o;exact dflt _ o
def tn (hk:∀r∈kn,r.holds P ρ):∀(x:SV) (o:Nat),D P ρ (Nu P kn o x)=(D P ρ x).cells.getD o undef:=by
 have dflt:∀(x:SV) (o:Nat),D P ρ (if o=0/\Qu x=true then x else .cell x o 0 noI)=(D P ρ x).cells.getD o undef:=fun x o=>by
  split
  ·rename_i h;obtain⟨rfl,h⟩:=h;have:=(tc (P:=P) (ρ:=ρ) h).1;rw[this];rfl
  ·simp[D]
 intro x;induction x with
 |cat x m y ih1 ih2=>
  intro o;have hc:(D P ρ (.cat x m y)).cells=(D P ρ x).cells++(D P ρ y).cells:=rfl;simp only[Nu];split
  ·rename_i h;have hs:=(Jg hk h.2).1;rw[ih2,hc];simp only[bD];rw[fX aA,hs]
  ·split
   ·rename_i h;obtain⟨rfl,h⟩:=h;have:=(tc (P:=P) (ρ:=ρ) h).1;rw[hc,this];simp only[bD];rw[dW aD];rfl
   ·split
    ·rename_i h;have hs:=(Jg hk h.2).1;rw[hc];simp only[D,ga,bD];rw[dW aA]
    ·simp only[D,ga]
 |ag x ih=>intro o;simp only[Nu,ih];rfl
 |v i=>intro o;exact dflt _ o
 |k c=>intro o;exact dflt _ o
 |z t=>intro o;exact dflt _ o
 |cell x o' s i _ _=>intro o;exact dflt _ o
 |sub x o' n' s i _ _=>intro o;exact dflt _ o
 |put x o' n' y s i _ _ _=>intro o;exact dflt _ o
 |pj x i _=>intro o;exact dflt _ o
 |op2 o' k x y _ _=>intro o;exact dflt _ o
 |op1 o' k x _=>intro o;exact dflt _ o
 |nt x _=>intro o;exact dflt _ o
 |cv k x _=>intro o;exact dflt _ o
 |ite c x y _ _ _=>intro o;exact dflt _ o
 |eqb b x y _ _=>intro o;exact dflt _ o
def Yq {xs:Array Value} {o:Nat} {ys:List Value} (h:o+ys.length<=xs.size):spl xs o ys=xs.extract 0 o++ys.toArray++xs.extract (o+ys.length) xs.size:=by
 apply mT;intro j;rw[fx];by_cases hj:j<xs.size
 ·rw[if_pos hj];by_cases h1:j<o
  ·rw[if_neg aA,dW (by simp;omega),dW (by simp;omega),jN,if_pos aA,bJ]
  ·by_cases h2:j<o+ys.length
   ·rw[if_pos aA,dW (by simp;omega),fX (by simp;omega)];simp only[mU,List.getElem?_toArray];congr 1;omega
   ·rw[if_neg aA,fX (by simp;omega),jN];simp only[dN,mU,List.size_toArray];rw[if_pos aA];congr 1;omega
 ·rw[if_neg hj,iJ (by simp;omega)]
def gd {xs:Array Value} {ys:List Value} (h:ys.length=xs.size):spl xs 0 ys=ys.toArray:=by
 rw[Yq aA,bJ,h];simp
def ZB {xs r:Array Value} {ys:List Value} (h:ys.length=xs.size):spl (xs++r) 0 ys=ys.toArray++r:=by
 rw[Yq (by simp;omega)];simp only[bJ,dN,iQ,h];simp
def ZC {xs r:Array Value} {o:Nat} {ys:List Value} (h:xs.size<=o):spl (xs++r) o ys=xs++spl r (o-xs.size) ys:=by
 apply mT;intro j;rw[fx];by_cases h1:j<xs.size
 ·rw[dW h1,if_pos (by simp;omega),if_neg aA,dW h1]
 ·have e1:(xs++spl r (o-xs.size) ys)[j]? =(spl r (o-xs.size) ys)[j-xs.size]?:=fX aA;rw[e1,fx];simp only[dN];by_cases h2:j<xs.size+r.size
  ·have h4:j-xs.size<r.size:=aA;by_cases h3:o<=j/\j<o+ys.length
   ·have h5:o-xs.size<=j-xs.size/\j-xs.size<o-xs.size+ys.length:=aA;simp only[h2,h3,h4,h5,and_self,if_true];congr 1;omega
   ·have h5:¬(o-xs.size<=j-xs.size/\j-xs.size<o-xs.size+ys.length):=aA;simp only[h2,h3,h4,h5,if_true,if_false];exact fX aA
  ·have h4:¬(j-xs.size<r.size):=aA;simp only[h2,h4,if_false]
def GZ (hk:∀r∈kn,r.holds P ρ) (sf:Bool) (n:Nat) (y:SV) (hy:(D P ρ y).cells.size=n):∀(x:SV) (N o:Nat),(D P ρ x).cells.size=N->o+n<=N->
  (D P ρ (Qx P kn sf N o n y x)).cells=spl (D P ρ x).cells o (D P ρ y).cells.toList:=by
 have hl:(D P ρ y).cells.toList.length=n:=by simpa using hy
 have dflt:∀(x:SV) (N o:Nat),(D P ρ x).cells.size=N->o+n<=N->
   (D P ρ (if o=0/\n=N then y else if sf=true then
    (if o=0 then .cat y n (.sub x n (N-n) 0 noI)else if o+n=N then .cat (.sub x 0 o 0 noI) o y else .cat (.sub x 0 o 0 noI) o (.cat y n (.sub x (o+n) (N-(o+n)) 0 noI)))
   else .put x o n y 0 noI)).cells=spl (D P ρ x).cells o (D P ρ y).cells.toList:=fun x N o hN ho=>by
  split
  ·rename_i h;obtain⟨rfl,rfl⟩:=h;rw[gd aA]
  ·split
   ·rw[Yq aA];split
    ·rename_i h0;subst h0;show(D P ρ y).cells++(D P ρ x).cells.extract (n+0*_) (n+0*_+(N-n))=_;simp only[bV,cJ,bJ,hl];rw[show n+(N-n)=(D P ρ x).cells.size from aA];simp
    ·split
     ·rename_i h1;show(D P ρ x).cells.extract (0+0*_) (0+0*_+o)++(D P ρ y).cells=_;simp only[bV,cJ,bJ,hl];rw[show o+n=(D P ρ x).cells.size from aA];simp
     ·show(D P ρ x).cells.extract (0+0*_) (0+0*_+o)++((D P ρ y).cells++(D P ρ x).cells.extract (o+n+0*_) (o+n+0*_+(N-(o+n))))=_;simp only[bV,cJ,bJ,hl];rw[show o+n+(N-(o+n))=(D P ρ x).cells.size from aA];simp
   ·show spl (D P ρ x).cells (o+0*_) _=_;simp
 intro x;induction x with
 |cat x m r ih1 ih2=>
  intro N o hN ho;have hc:(D P ρ (.cat x m r)).cells=(D P ρ x).cells++(D P ρ r).cells:=rfl;rw[hc]at hN⊢;simp only[dN]at hN;simp only[Qx];split
  ·rename_i h;obtain⟨rfl,rfl,h⟩:=h;have hs:=(Jg hk h).1;rw[ZB aA];show(D P ρ y).cells++(D P ρ r).cells=_;simp
  ·split
   ·rename_i h;have hs:=(Jg hk h.2).1;rw[ZC aA,hs];show(D P ρ x).cells++(D P ρ (Qx P kn sf (N-m) (o-m) n y r)).cells=_;rw[ih2 (N-m) (o-m) aA aA]
   ·show spl (D P ρ (.cat x m r)).cells (o+0*_) _=_;simp[hc]
 |v i=>intro N o h1 h2;exact dflt _ N o h1 h2
 |k c=>intro N o h1 h2;exact dflt _ N o h1 h2
 |z t=>intro N o h1 h2;exact dflt _ N o h1 h2
 |ag x _=>intro N o h1 h2;exact dflt _ N o h1 h2
 |cell x o' s i _ _=>intro N o h1 h2;exact dflt _ N o h1 h2
 |sub x o' n' s i _ _=>intro N o h1 h2;exact dflt _ N o h1 h2
 |put x o' n' y s i _ _ _=>intro N o h1 h2;exact dflt _ N o h1 h2
 |pj x i _=>intro N o h1 h2;exact dflt _ N o h1 h2
 |op2 o' k x y _ _=>intro N o h1 h2;exact dflt _ N o h1 h2
 |op1 o' k x _=>intro N o h1 h2;exact dflt _ N o h1 h2
 |nt x _=>intro N o h1 h2;exact dflt _ N o h1 h2
 |cv k x _=>intro N o h1 h2;exact dflt _ N o h1 h2
 |ite c x y _ _ _=>intro N o h1 h2;exact dflt _ N o h1 h2
 |eqb b x y _ _=>intro N o h1 h2;exact dflt _ N o h1 h2
def ZD:∀{a b:List Value},Us a b=true->a=b:=by
 intro a;induction a with
 |nil=>intro b h;cases b<;>simp[Us]at h;rfl
 |cons x a ih=>
  intro b h;cases b with
  |nil=>simp[Us]at h
  |cons y b=>simp[Us]at h;rw[GN h.1,ih h.2]
def ZE:∀(l:List (Nat×SV)),(D P ρ (Qy l)).cells.toList=l.flatMap fun p=>(D P ρ p.2).cells.toList:=by
 intro l;induction l with
 |nil=>rfl
 |cons p r ih=>
  obtain⟨n,x⟩:=p;cases r with
  |nil=>simp[Qy]
  |cons q r=>
   have:Qy ((n,x)::q::r)= .cat x n (Qy (q::r)):=rfl;rw[this];show((D P ρ x).cells++(D P ρ (Qy (q::r))).cells).toList=_;rw[eG,ih];simp
def HA (T:TypeId):(D P ρ (exZ P T)).cells=(j3 P T).cells:=by
 unfold exZ;split
 ·rename_i fs _;split
  ·rename_i h;have h2:=ZD h.2;have h3:=ZE (P:=P) (ρ:=ρ) (fs.toList.map fun f=>((j3 P f.type).cells.size,SV.z f.type));apply bS.1;rw[h3,h2];simp[List.flatMap_map,D]
  ·rfl
 ·rfl
def tu:∀{kb:List (SV×Bool)},(∀p∈kb,D P ρ p.1= .bool p.2)->∀c,D P ρ (Nv kb c)=D P ρ c:=by
 intro kb;induction kb with
 |nil=>intro _ c;rfl
 |cons p r ih=>
  intro h c;obtain⟨x,b⟩:=p;simp only[Nv];split
  ·rename_i hb;have:=h (x,b) aD;rw[<-SV.beq_sound hb,this];rfl
  ·exact ih (fun p hp=>h p (by simp[hp])) c
end
open Go.RowKit
section
variable {P:Program}
def tw (v:Value):v.oneCell'=y6 v:=by cases v<;>rfl
def Fh {t:TypeId} (h:r9 P t=true):(∃i,P.info? t=some i)/\∃d,P.underlying t=some d:=by
 unfold r9 at h;rw[aQ,fQ,fQ]at h;exact h
def ua {t:TypeId} {d:TypeDesc} (h:P.underlying t=some d) (w:World):(isAgg t).run P w= .ok (r8 P t) w:=by
 unfold isAgg r8;simp only[eK,run_underlying h,eJ,h];cases d<;>rfl
def Gy {t:TypeId} {i:TypeInfo} (h:P.info? t=some i) (w:World):(sizeOf t).run P w= .ok (P.cellsOf t) w:=run_sizeOf w h
def HB {w:World} {b:Nat} {cs:Array Value} {T:TypeId} {fz:Nat×Nat} (h:w.heap[b]? =some (.cells cs T fz)) (q:Nat):w.cell? ⟨b,q,none⟩=cs[q]?:=by
 simp[World.cell?,h]
def Ky (b q i:Nat):(⟨b,q,none⟩:Addr).add i=⟨b,q+i,none⟩:=by
 unfold Addr.add;split
 ·simp_all
 ·rfl
def Yr {w:World} {b q:Nat} {cs:Array Value} {T t:TypeId} {fz:Nat×Nat} (hT:r9 P t=true) (h:w.heap[b]? =some (.cells cs T fz)) (hq:q+P.cellsOf t<=cs.size) (h0:r8 P t=false->q<cs.size):
  (Instr.loadAt t (.pointer (some ⟨b,q,none⟩))).run P w= .ok (if r8 P t then .agg (cs.extract q (q+P.cellsOf t))else cs.getD q undef) w:=by
 obtain⟨⟨i,hi⟩,⟨d,hd⟩⟩:=Fh hT;unfold Instr.loadAt Instr.sureAddr loadVar;simp only[eK,eL,eJ,ua hd];cases tM:r8 P t with
 |true=>
  simp only[if_true,eK,Gy hi,eJ];have hl:(cs.extract q (q+P.cellsOf t)).toList.length=P.cellsOf t:=by simp;omega
  have:=run_loadCells_list (P:=P) w ⟨b,q,none⟩ (cs.extract q (q+P.cellsOf t)).toList (fun j v hj=>by
   rw[Ky,HB h];simp only[cY,jN]at hj;split at hj
   ·exact hj
   ·cases hj)
  rw[hl]at this;rw[this];simp only[eJ,eL,Array.toArray_toList]
 |false=>
  simp only[aY,if_false,run_load,HB h];have qB:=h0 tM;rw[cG qB];simp[qB]
def ub {w:World} {b q:Nat} {cs:Array Value} {T t:TypeId} {v:Value} (hT:r9 P t=true) (h:w.heap[b]? =some (.cells cs T (0,0))) (hq:q+P.cellsOf t<=cs.size) (hv:v.cells.size=P.cellsOf t) (h1:j0 v.cells):
  (Instr.storeAt t (.pointer (some ⟨b,q,none⟩)) v).run P w= .ok () (w.setRow b (spl cs q v.cells.toList)):=by
 obtain⟨⟨i,hi⟩,⟨d,hd⟩⟩:=Fh hT;unfold Instr.storeAt Instr.sureAddr storeVar;simp only[eK,eL,eJ,Gy hi,hv,ne_eq,not_true_eq_false,if_false];have hl:v.cells.toList.length=P.cellsOf t:=by simpa using hv
 rw[run_storeCells_at P b q T v.cells.toList 0 cs w h aA (fun x hx=>by rw[tw];exact h1 x hx)];congr 2;apply bS.1;rw[Yq aA,cJ];simp only[eG,Array.toList_extract,List.extract];simp;rw[aI aD]
def HC {S f:Nat} {fs:Array Field} {fd:Field} (hS:P.underlying S=some (.struct fs)) (hf:fs[f]? =some fd) (hT:r9 P fd.type=true) (hn:P.cellsOf fd.type≠0) (b q:Nat) (w:World):
  (Instr.fieldAt S (.pointer (some ⟨b,q,none⟩)) f).run P w= .ok (.pointer (some ⟨b,q+fd.offset,none⟩)) w:=by
 obtain⟨⟨i,hi⟩,_⟩:=Fh hT;unfold Instr.fieldAt;simp only[eK,run_underlying hS,eJ,hf];simp only[Instr.sureAddr,eK,eL,eJ,fieldPlace,Gy hi,hn,if_false,Ky]
def ud {T len e:Nat} (hT:P.underlying T=some (.array len e)) (he:r9 P e=true) (b q:Nat) (k:IntKind) (m:Int) (h0:0<=m) (h1:m<len) (w:World):
  (Instr.indexAt T (.pointer (some ⟨b,q,none⟩)) (.int k m)).run P w= .ok (.pointer (some ⟨b,q+m.toNat*P.cellsOf e,none⟩)) w:=by
 obtain⟨⟨i,hi⟩,_⟩:=Fh he;unfold Instr.indexAt;simp only[asIntOf,eK,eL,eJ,run_underlying hT,Instr.sureAddr];simp[h0,h1,Gy hi,Ky]
def Rk {t:TypeId} {cs:Array Value} {q:Nat} (hT:r9 P t=true) (hq:q+P.cellsOf t<=cs.size) (h0:0<P.cellsOf t) (w:World):
  (part t cs q).run P w= .ok (if r8 P t then .agg (cs.extract q (q+P.cellsOf t))else cs.getD q undef) w:=by
 obtain⟨⟨i,hi⟩,⟨d,hd⟩⟩:=Fh hT;unfold part;simp only[eK,eJ,ua hd];cases tM:r8 P t with
 |true=>simp[Gy hi]
 |false=>
  have qB:q<cs.size:=aA;simp[qB]
def ZF {S f:Nat} {fs:Array Field} {fd:Field} {cs:Array Value} (hS:P.underlying S=some (.struct fs)) (hf:fs[f]? =some fd) (hT:r9 P fd.type=true) (hq:fd.offset+P.cellsOf fd.type<=cs.size) (h0:0<P.cellsOf fd.type) (w:World):
  (Instr.field S (.agg cs) f).run P w= .ok (if r8 P fd.type then .agg (cs.extract fd.offset (fd.offset+P.cellsOf fd.type))else cs.getD fd.offset undef) w:=by
 unfold Instr.field;simp only[eK,run_underlying hS,eJ,hf,asAgg,eL];exact Rk hT hq h0 w
def HD {T len e:Nat} {cs:Array Value} (hT:P.underlying T=some (.array len e)) (he:r9 P e=true) (k:IntKind) (m:Int) (h0:0<=m) (h1:m<len) (hq:len*P.cellsOf e<=cs.size) (hn:0<P.cellsOf e) (w:World):
  (Instr.index T (.agg cs) (.int k m)).run P w= .ok (if r8 P e then .agg (cs.extract (m.toNat*P.cellsOf e) (m.toNat*P.cellsOf e+P.cellsOf e))else cs.getD (m.toNat*P.cellsOf e) undef) w:=by
 obtain⟨⟨i,hi⟩,_⟩:=Fh he;unfold Instr.index;simp only[asIntOf,eK,eL,eJ,run_underlying hT];rw[if_pos ⟨h0,h1⟩];simp only[eK,Gy hi,eJ];refine Rk he ?_ hn w;have h2:m.toNat+1<=len:=aA;have h3:(m.toNat+1)*P.cellsOf e<=len*P.cellsOf e:=bC _ h2;rw[dC,cQ]at h3;omega
def ZG {op:BinOp} {k:IntKind} {a b:Int} {T:TypeId} {x y:Operand} (hs:op≠ .shl/\op≠ .shr) (hz:(op= .quo\/op= .rem)->b≠0) (w:World):
  (do eqGuard op T x y (.int k a) (.int k b);binOp op T (.int k a) (.int k b):Sem Value).run P w= .ok (w9 op k a b) w:=by
 have hg:(eqGuard op T x y (.int k a) (.int k b)).run P w= .ok () w:=by
  unfold eqGuard;cases op<;>rfl
 simp only[eK,hg,eJ];cases op<;>simp_all[binOp,Op.intArith,Op.intDiv,Op.intBits,Op.intCmp,w9]
def ZH {op:BinOp} {k l:IntKind} {a b:Int} {T:TypeId} {x y:Operand} (hs:op= .shl\/op= .shr) (hz:0<=b) (w:World):
  (do eqGuard op T x y (.int k a) (.int l b);binOp op T (.int k a) (.int l b):Sem Value).run P w= .ok (w9 op k a b) w:=by
 have hg:(eqGuard op T x y (.int k a) (.int l b)).run P w= .ok () w:=by
  unfold eqGuard;rcases hs with rfl|rfl<;>rfl
 simp only[eK,hg,eJ];have:¬b<0:=aA;rcases hs with rfl|rfl<;>simp[binOp,Op.shift,w9,this]
def ZI {op:BinOp} {a b:Bool} {T:TypeId} {x y:Operand} (hT:P.underlying T=some .bool) (ho:op= .eql\/op= .neq) (w:World):
  (do eqGuard op T x y (.bool a) (.bool b);binOp op T (.bool a) (.bool b):Sem Value).run P w= .ok (.bool ((op== .neq) !=(a==b))) w:=by
 have hg:(eqGuard op T x y (.bool a) (.bool b)).run P w= .ok () w:=by
  unfold eqGuard;rcases ho with rfl|rfl<;>rfl
 simp only[eK,hg,eJ];rcases ho with rfl|rfl<;>simp only[binOp,eK,run_equal_bool _ T a b hT,eJ,eL]<;>cases a<;>cases b<;>rfl
def ZJ (off:Nat):∀(ys:List Value) (k:Nat) (cs:Array Value),(ys.zipIdx k).foldl (fun cs (p:Value×Nat)=>cs.setIfInBounds (off+p.2) p.1) cs=spl cs (off+k) ys:=by
 intro ys;induction ys with
 |nil=>intro k cs;rfl
 |cons y ys ih=>intro k cs;simp only[List.zipIdx_cons,gQ,spl];rw[ih];rfl
def gh (place:Nat->Option (Nat×Nat)):∀(ps:List (Nat×Value)) (cells:Array Value),(∀p∈ps,∃q n,place p.1=some (q,n)/\p.2.cells.size=n/\q+n<=cells.size)->
  Instr.fill place cells ps=some (ps.foldl (fun acc p=>spl acc ((place p.1).getD (0,0)).1 p.2.cells.toList) cells):=by
 intro ps;induction ps with
 |nil=>intro cells _;rfl
 |cons p ps ih=>
  intro cells h;obtain⟨i,v⟩:=p;obtain⟨q,n,hp,hn,hq⟩:=h (i,v) aD;simp only[Instr.fill,hp];simp only at hn;rw[if_neg (by simp[hn];omega)];have e:v.cells.zipIdx.foldl (fun cs (p:Value×Nat)=>cs.setIfInBounds (q+p.2) p.1) cells=spl cells q v.cells.toList:=by
   rw[<-Array.foldl_toList,Array.toList_zipIdx];exact ZJ q _ 0 _
  simp only[gQ,hp,Option.getD_some];rw[<-e];refine ih _ fun p hp=> ?_;rw[e,Yp];exact h p (by simp[hp])
def ZK {T:TypeId} {pl:Nat->Option (Nat×Nat)} {it:TypeInfo} {z:Value} (tQ:qs P T=some pl) (hpt:qu P T=true) (hit:P.info? T=some it) (hz:it.zero=some z) (parts:Array (Nat×Value))
  (h:∀p∈parts.toList,∃q n,pl p.1=some (q,n)/\p.2.cells.size=n/\q+n<=z.cells.size) (w:World):
  (Instr.build T parts).run P w= .ok (.agg (parts.toList.foldl (fun acc p=>spl acc ((pl p.1).getD (0,0)).1 p.2.cells.toList) z.cells)) w:=by
 refine run_build w T parts _ ?_;unfold Program.built;unfold qs at tQ;unfold qu at hpt;cases hu:P.underlying T with
 |none=>simp[hu]at tQ
 |some d=>
  cases d<;>simp only[hu]at tQ hpt<;>try (cases tQ;done)
  case array n e=>
   obtain⟨⟨i,hi⟩,_⟩:=Fh hpt;have hs:P.cellsOf e=i.size:=by simp[Program.cellsOf,hi]
   simp only[cN]at tQ;subst tQ;simp only[hit,hz,hi];rw[<-hs];exact gh _ _ _ h
  case struct fs=>
   simp only[cN]at tQ;subst tQ;have hm:fs.toList.mapM (fun f=>(P.info? f.type).map fun i=>(f.offset,i.size))=some (fs.toList.map fun f=>(f.offset,P.cellsOf f.type)):=by
    have rK:∀f∈fs.toList,(P.info? f.type).map (fun i=>(f.offset,i.size))=some (f.offset,P.cellsOf f.type):=fun f hf=>by
     rw[Array.all_eq_true_iff_forall_mem]at hpt;obtain⟨⟨i,hi⟩,_⟩:=Fh (hpt f (by simpa using hf));simp[hi,Program.cellsOf]
    have go:∀l:List Field,(∀f∈l,(P.info? f.type).map (fun i=>(f.offset,i.size))=some (f.offset,P.cellsOf f.type))->l.mapM (fun f=>(P.info? f.type).map fun i=>(f.offset,i.size))=some (l.map fun f=>(f.offset,P.cellsOf f.type)):=by
     intro l;induction l with
     |nil=>intro _;rfl
     |cons f l ih=>
      intro hl;rw[List.mapM_cons,hl f aD,ih (fun g hg=>hl g (by simp[hg]))];rfl
    exact go _ rK
   simp only[hit,hz,hm];have hp:(fun i:Nat=>(fs.toList.map fun f=>(f.offset,P.cellsOf f.type)).toArray[i]?)=fun i:Nat=>(fs[i]?).map fun f:Field=>(f.offset,P.cellsOf f.type):=by
    funext i;simp
   rw[hp];exact gh _ _ _ h
end
end Go.RX

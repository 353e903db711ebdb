/- What reads and what changes of maps do. -/
import Derived.Test.YtlmgkkjgdapnpaaGreatDoorRxA
namespace Go.RX
open Go.RowKit
def Blind {α:Type} (P:Program) (m:Sem α):Prop:=∀(w w':World) (v:α) (w1:World),KeepM w w'->m.run P w= .ok v w1->w1=w/\m.run P w'= .ok v w'
namespace Blind
variable {P:Program} {α β:Type}
theorem pure' (v:α):Blind P (pure v:Sem α):=fun w w' u w1 _ h=>by
 have h:Result.ok v w=Result.ok u w1:=h
 cases h;exact⟨rfl,rfl⟩
theorem halt (h:Halt):Blind P (.halt h:Sem α):=fun _ _ _ _ _ h=>by cases h
theorem bind {m:Sem α} {f:α->Sem β} (h1:Blind P m) (h2:∀v,Blind P (f v)):Blind P (m>>=f):=fun w w' v w1 hk h=>by
 rw[Sem.run_bind]at h⊢
 cases e:m.run P w with
 |halt x w2=>rw[e]at h;cases h
 |ok u w2=>
  obtain⟨rfl,e'⟩:=h1 w w' u w2 hk e
  rw[e]at h;rw[e']
  exact h2 u _ _ _ _ hk h
theorem program:Blind P (Go.program):=fun w w' u w1 _ h=>by
 have h:Result.ok P w=Result.ok u w1:=h
 cases h;exact⟨rfl,rfl⟩
theorem load (a:Addr):Blind P (Go.load a):=fun w w' v w1 hk h=>by
 have e1:∀w,(Go.load a).run P w=(match w.cell? a with
  |some v=> .ok v w
  |none=>match w.farLoad P a false with
   | .ok (v,_)=> .ok v w
   | .error h=> .halt h w):=fun w=>by
  show Sem.run P (.load .plain a .pure) w=_
  simp only[Sem.run];rfl
 have hc:w'.cell? a=w.cell? a:=by
  unfold World.cell?
  rcases hk a.block with h|⟨⟨_,_,h1⟩,_,_,h2⟩
  ·rw[h]
  ·rw[h1,h2]
 rw[e1]at h⊢
 rw[hc]
 cases e:w.cell? a with
 |some x=>rw[e]at h;cases h;exact⟨rfl,rfl⟩
 |none=>
  rw[e]at h
  simp only at h⊢
  have hs:∀at_ u,World.viewLoad P w' at_ u a false=World.viewLoad P w at_ u a false:=fun at_ u=>by
   unfold World.viewLoad
   have:w'.seen P at_ u a false=w.seen P at_ u a false:=by
    unfold World.seen
    rcases hk at_.block with h|⟨⟨_,_,h1⟩,_,_,h2⟩
    ·rw[h]
    ·rw[h1,h2]
   rw[this]
  have hf:(∃v t,w.farLoad P a false= .ok (v,t))->w'.farLoad P a false=w.farLoad P a false:=by
   rintro⟨v,t,hv⟩
   unfold World.farLoad at hv⊢
   rcases hk a.block with h|⟨⟨_,_,h1⟩,_,_,h2⟩
   ·rw[h]
    cases eb:w.heap[a.block]? with
    |none=>rw[eb]at hv;simp at hv
    |some ob=>cases ob<;>first|(rw[eb]at hv;simp at hv;done)|(simp only[hs])
   ·rw[h1]at hv;simp at hv
  cases e2:w.farLoad P a false with
  |error x=>rw[e2]at h;cases h
  |ok r=>
   obtain⟨x,t⟩:=r
   rw[hf ⟨x,t,e2⟩,e2]
   rw[e2]at h;cases h;exact⟨rfl,rfl⟩
theorem typeInfo (t:TypeId):Blind P (Go.typeInfo t):=program.bind fun p=>by
 cases p.info? t with
 |some i=>exact pure' _
 |none=>exact halt _
theorem underlying (t:TypeId):Blind P (Go.underlying t):=program.bind fun p=>by
 cases p.underlying t with
 |some i=>exact pure' _
 |none=>exact halt _
theorem sizeOf (t:TypeId):Blind P (Go.sizeOf t):=(typeInfo t).bind fun _=>pure' _
theorem isAgg (t:TypeId):Blind P (Go.isAgg t):=(underlying t).bind fun d=>by
 cases d<;>exact pure' _
theorem loadCellsFrom (a:Addr):∀(n i:Nat) (acc:Array Value),Blind P (Go.loadCellsFrom a i n acc)
 |0,_,_=>pure' _
 |n+1,_,_=>(load _).bind fun _=>loadCellsFrom a n _ _
theorem loadVar (t:TypeId) (a:Addr):Blind P (Go.loadVar t a):=(isAgg t).bind fun b=>by
 cases b
 ·exact load _
 ·exact(sizeOf t).bind fun n=>(loadCellsFrom a n _ _).bind fun _=>pure' _
theorem sureAddr (v:Value):Blind P (Instr.sureAddr v):=by
 unfold Instr.sureAddr
 split
 ·exact pure' _
 ·exact halt _
theorem loadAt (t:TypeId) (v:Value):Blind P (Instr.loadAt t v):=(sureAddr v).bind fun a=>loadVar t a
theorem asIntOf (v:Value):Blind P (Go.asIntOf v):=by
 unfold Go.asIntOf
 split
 ·exact pure' _
 ·exact halt _
 ·exact halt _
theorem d6p {m:Sem α} (h:∀w v w1,m.run P w≠ .ok v w1):Blind P m:=fun w _ v w1 _ e=>absurd e (h w v w1)
theorem boundsPanic (k:IntKind) (x y:Int) (code:BoundsCode):Blind P (Go.boundsPanic k x y code:Sem α):=d6p fun w v w1 e=>by
 unfold Go.boundsPanic at e
 extract_lets jp at e
 have hj:∀b w,∀v w1,(jp b).run P w≠ .ok v w1:=fun b w v w1 e=>by cases e
 split at e
 ·rw[Sem.run_bind]at e
  cases e2:((fun x=>x==1)<$>choose (Question.extern "runtime.boundsError.signed" 2):Sem Bool).run P w with
  |halt _ _=>rw[e2]at e;cases e
  |ok b w2=>rw[e2]at e;exact hj _ _ _ _ e
 ·exact hj _ _ _ _ e
theorem indexAt (t:TypeId) (x ix:Value):Blind P (Instr.indexAt t x ix):=by
 unfold Instr.indexAt
 refine(asIntOf ix).bind fun r=> ?_
 obtain⟨k,i⟩:=r
 refine Blind.bind (underlying t) fun d=> ?_
 extract_lets jp
 have hj:∀r,Blind P (jp r):=fun r=>by
  obtain⟨base,len,elem⟩:=r
  refine(underlying t).bind fun d=> ?_
  cases base with
  |none=>exact boundsPanic _ _ _ _
  |some a=>
   simp only
   split
   ·exact(sizeOf _).bind fun _=>pure' _
   ·have h2:∀b:Bool,Blind P (if b=true then unsupported (.noEntry "op/indexAddr.an index out of range at an array of length 0 or 1 (ledger 616)")else Go.boundsPanic k i len .index:Sem Value):=fun b=>by
     cases b
     ·exact boundsPanic _ _ _ _
     ·exact halt _
    split
    ·exact h2 _
    ·exact h2 _
 split
 ·exact(sureAddr _).bind fun _=>(pure' _).bind hj
 ·exact(pure' _).bind hj
 ·exact(halt _).bind hj
end Blind
def a9u:Op->Bool| .load _ _| .indexAddr _ _ _=>true|_=>false
theorem c3B {P:Program} {ρ:Operand->Value} {o:Oper} (h:a9u o.op=true):Blind P (execOp ρ o):=by
 unfold a9u at h
 split at h
 ·rename_i e;unfold execOp;rw[e];exact(Blind.loadAt _ _).bind fun _=>Blind.pure' _
 ·rename_i e;unfold execOp;rw[e];exact(Blind.indexAt _ _ _).bind fun _=>Blind.pure' _
 ·cases h
def Calm {α:Type} (P:Program) (m:Sem α):Prop:=∀(w:World) (v:α) (w1:World),m.run P w= .ok v w1->w1.heap=w.heap
namespace Calm
variable {P:Program} {α β:Type}
theorem b0R {m:Sem α} (h:Blind P m):Calm P m:=fun w v w1 e=>by rw[(h w w v w1 (KeepM.refl w) e).1]
theorem pure' (v:α):Calm P (pure v:Sem α):=b0R (Blind.pure' v)
theorem halt (h:Halt):Calm P (.halt h:Sem α):=b0R (Blind.halt h)
theorem bind {m:Sem α} {f:α->Sem β} (h1:Calm P m) (h2:∀v,Calm P (f v)):Calm P (m>>=f):=fun w v w1 h=>by
 rw[Sem.run_bind]at h
 cases e:m.run P w with
 |halt x w2=>rw[e]at h;cases h
 |ok u w2=>rw[e]at h;exact(h2 u _ _ _ h).trans (h1 _ _ _ e)
theorem choose (q:Question):Calm P (Go.choose q):=fun w v w1 h=>by
 have h:Sem.run P (.choose q .pure) w= .ok v w1:=h
 simp only[Sem.run]at h
 split at h<;>cases h<;>rfl
theorem shape (r:Nat):Calm P (Go.shape r):=fun w v w1 h=>by
 have h:Sem.run P (.shape r .pure) w= .ok v w1:=h
 simp only[Sem.run]at h
 cases h;rfl
theorem getObj (r:Nat):Calm P (Go.getObj r):=fun w v w1 h=>by
 have h:Sem.run P (.getObj r .pure) w= .ok v w1:=h
 simp only[Sem.run]at h
 split at h<;>cases h;rfl
theorem viewAt (r:Nat):Calm P (Go.viewAt r):=(shape r).bind fun o=>by
 cases o with
 |some _=>exact pure' _
 |none=>exact(getObj r).bind fun ob=>by cases ob<;>exact pure' _
theorem numberAt (r:Nat):Calm P (Go.numberAt r):=(shape r).bind fun o=>by
 cases o with
 |some _=>exact pure' _
 |none=>exact(getObj r).bind fun ob=>by cases ob<;>exact pure' _
theorem behindNumber (n:Addr):Calm P (Go.behindNumber n):=(numberAt _).bind fun _=>pure' _
theorem noView (a:Addr):Calm P (Go.noView a):=(viewAt _).bind fun o=>by
 cases o with
 |some _=>exact halt _
 |none=>exact pure' _
theorem byteOf (a:Addr):Calm P (Go.byteOf a):=by
 unfold Go.byteOf
 split
 ·exact pure' _
 ·refine Calm.bind (b0R Blind.program) fun p=>(noView a).bind fun _=>(shape _).bind fun o=> ?_
  split
  ·extract_lets s
   split
   ·exact pure' _
   ·split
    ·exact pure' _
    ·exact halt _
  ·exact halt _
theorem c3C {t:TypeId} {k:IntKind} (ht:P.underlying t=some (.int k)) (x y:Value):Calm P (Op.equal t x y):=by
 have hu:∀w,(Go.underlying t).run P w= .ok (.int k) w:=run_underlying ht
 unfold Op.equal Op.maxDepth
 intro w v w1 h
 unfold Op.equalIn at h
 rw[Sem.run_bind,hu]at h
 revert h
 simp only[Result.andThen]
 have go:∀{m:Sem Bool},Calm P m->m.run P w= .ok v w1->w1.heap=w.heap:=fun hm h=>hm _ _ _ h
 refine go ?_
 clear go
 split<;>first|exact pure' _|exact halt _|(rename_i e;cases e;done)|skip
 ·split
  ·exact pure' _
  ·exact halt _
 ·refine(behindNumber _).bind fun a=>(behindNumber _).bind fun b=>(b0R Blind.program).bind fun p=> ?_
  split
  ·exact(byteOf _).bind fun _=>(byteOf _).bind fun _=>pure' _
  ·refine(b0R (Blind.typeInfo _)).bind fun i=> ?_
   split
   ·split
    ·exact pure' _
    ·exact halt _
   ·exact halt _
theorem checkInt {t:TypeId} {k:IntKind} (ht:P.underlying t=some (.int k)) (b:Bool) (n:Nat) (x:Value):Calm P (Instr.checkKey b (n+1) t x):=by
 have hu:∀w,(Go.underlying t).run P w= .ok (.int k) w:=run_underlying ht
 intro w v w1 h
 unfold Instr.checkKey at h
 rw[Sem.run_bind,hu]at h
 cases h;rfl
theorem findAsking {t:TypeId} {k:IntKind} (ht:P.underlying t=some (.int k)) (x:Value):∀(es:List MapEntry) (i:Nat),Calm P (Instr.findAsking t x es i)
 |[],_=>pure' _
 |e::es,i=>(c3C ht _ _).bind fun b=>by
  cases b
  ·exact findAsking ht x es (i+1)
  ·exact pure' _
theorem findKey {t:TypeId} {k:IntKind} (ht:P.underlying t=some (.int k)) (x:Value) (es:List MapEntry):Calm P (Instr.findKey t x es):=(b0R (Blind.underlying t)).bind fun d=>by
 cases Instr.findNow d x es 0 with
 |some r=>exact pure' _
 |none=>exact findAsking ht x es 0
theorem keyThatStays (a b:Value):Calm P (Instr.keyThatStays a b):=by
 unfold Instr.keyThatStays
 split
 ·exact pure' _
 ·exact(choose _).bind fun _=>pure' _
theorem zeroValue (t:TypeId):Calm P (Go.zeroValue t):=(b0R (Blind.typeInfo t)).bind fun i=>by
 cases i.zero with
 |some v=>exact pure' _
 |none=>exact halt _
theorem asInt (v:Value):Calm P (Go.asInt v):=(b0R (Blind.asIntOf v)).bind fun _=>pure' _
end Calm
def MapsAt {α:Type} (P:Program) (r:Nat) (m:Sem α):Prop:=∀(w:World) (v:α) (w1:World),(∃es c,w.heap[r]? =some (.map es c))->m.run P w= .ok v w1->KeepM w w1
namespace MapsAt
variable {P:Program} {α β:Type} {r:Nat}
theorem calm {m:Sem α} (h:Calm P m):MapsAt P r m:=fun w v w1 _ e=>fun b=> .inl (by rw[h w v w1 e])
theorem bind {m:Sem α} {f:α->Sem β} (h1:Calm P m) (h2:∀v,MapsAt P r (f v)):MapsAt P r (m>>=f):=fun w v w1 hr h=>by
 rw[Sem.run_bind]at h
 cases e:m.run P w with
 |halt x w2=>rw[e]at h;cases h
 |ok u w2=>
  rw[e]at h
  have e1:=h1 _ _ _ e
  have:=h2 u w2 v w1 (by rw[e1];exact hr) h
  intro b
  have:=this b
  rwa[e1]at this
theorem setObj (es:Array MapEntry) (c:Nat) (v:α):MapsAt P r (Go.setObj r (.map es c)>>=fun _=>pure v):=fun w u w1 ⟨e0,c0,hr⟩ h=>by
 have h:Sem.run P (.setObj r (.map es c) (.pure v)) w= .ok u w1:=h
 simp only[Sem.run,hr]at h
 cases h
 intro b
 show(w.heap.setIfInBounds r _)[b]? =_\/_/\∃es' c',(w.heap.setIfInBounds r _)[b]? =_
 have hlt:r<w.heap.size:=(Array.getElem?_eq_some_iff.1 hr).1
 by_cases e:r=b
 ·subst e
  exact .inr ⟨⟨_,_,hr⟩,es,c,by simp[hlt]⟩
 ·exact .inl (by simp[e])
end MapsAt
def c3D (P:Program):Op->Bool
 | .mapEntry T _ _=>match P.underlying T with
  |some (.map kt _)=>match P.underlying kt with|some (.int _)=>true|_=>false
  |_=>false
 | .entryStore _ _ _ _=>true
 |_=>false
theorem c7v {P:Program} {α:Type} {r:Nat} {f:Array MapEntry->Nat->Sem α} {m:Sem α} {w w1:World} {v:α} (hf:∀es c,MapsAt P r (f es c))
  (h:(getObj r>>=fun o=>match o with| .map es c=>f es c|_=>m).run P w= .ok v w1) (hm:∀w v w1,m.run P w≠ .ok v w1):KeepM w w1:=by
 have h:Sem.run P (.getObj r fun o=>match o with| .map es c=>f es c|_=>m) w= .ok v w1:=h
 simp only[Sem.run]at h
 cases e:w.heap[r]? with
 |none=>rw[e]at h;cases h
 |some ob=>
  rw[e]at h
  cases ob with
  |map es c=>exact hf es c w v w1 ⟨es,c,e⟩ h
  |cells _ _ _=>cases h
  |_=>exact absurd h (hm _ _ _)
theorem d3G {P:Program} {ρ:Operand->Value} {o:Oper} (h:c3D P o.op=true) {w w1:World} {v:Next} (hr:(execOp ρ o).run P w= .ok v w1):KeepM w w1/\((∃x,v= .value x)\/v= .skip):=by
 unfold c3D at h
 split at h
 ·rename_i T x y e
  cases hu:P.underlying T with
  |none=>rw[hu]at h;cases h
  |some d=>
   cases d with
   |map kt et=>
    rw[hu]at h
    simp only at h
    cases hk:P.underlying kt with
    |none=>rw[hk]at h;cases h
    |some dk=>
     cases dk with
     |int k=>
      unfold execOp at hr
      rw[e]at hr
      simp only at hr
      rw[Sem.run_bind]at hr
      cases e2:(Instr.mapEntry T (ρ x) (ρ y)).run P w with
      |halt _ _=>rw[e2]at hr;cases hr
      |ok u w2=>
       rw[e2]at hr
       obtain rfl:w2=w1:=by cases hr;rfl
       refine⟨?_,.inl ⟨u,by cases hr;rfl⟩⟩
       clear hr
       unfold Instr.mapEntry at e2
       rw[Sem.run_bind,run_underlying hu]at e2
       simp only[Result.andThen]at e2
       split at e2
       ·cases e2
       ·rename_i r _
        refine c7v (P:=P) (r:=r) (fun es c=> ?_) e2 (fun _ _ _=>by intro h;cases h)
        refine MapsAt.bind (Calm.checkInt hk _ _ _) fun _=>MapsAt.bind (Calm.findKey hk _ _) fun fo=> ?_
        cases fo with
        |some iv=>exact MapsAt.bind (Calm.keyThatStays _ _) fun _=>MapsAt.setObj _ _ _
        |none=>exact MapsAt.bind (Calm.zeroValue _) fun _=>MapsAt.setObj _ _ _
       ·cases e2
     |_=>rw[hk]at h;cases h
   |_=>rw[hu]at h;cases h
 ·rename_i T x y z e
  unfold execOp at hr
  rw[e]at hr
  simp only at hr
  rw[Sem.run_bind]at hr
  cases e2:(Instr.entryStore T (ρ x) (ρ y) (ρ z)).run P w with
  |halt _ _=>rw[e2]at hr;cases hr
  |ok u w2=>
   rw[e2]at hr
   obtain rfl:w2=w1:=by cases hr;rfl
   refine⟨?_,.inr (by cases hr;rfl)⟩
   clear hr
   unfold Instr.entryStore at e2
   split at e2
   ·rename_i r _
    refine c7v (P:=P) (r:=r) (fun es c=> ?_) e2 (fun _ _ _=>by intro h;cases h)
    refine MapsAt.bind (Calm.asInt _) fun n=> ?_
    split
    ·exact MapsAt.setObj _ _ ()
    ·exact MapsAt.calm (Calm.halt _)
   ·cases e2
 ·cases h
end Go.RX

/- Lemmas of the proof. -/
import Derived.Orders
import Derived.Below
import Derived.Tactics
import Derived.OrdersIn
import Derived.OwnWalkIn
import Derived.RangeFuncRecord
open Array renaming getD_eq_getD_getElem?->dD,getElem?_eq_getElem->fQ,getElem?_eq_none->iW,getElem?_eq_some_iff->dP,replicate->kD
open Bool renaming and_eq_true->aF,or_eq_true->bW
open List renaming all_eq_true->dJ,append_assoc->bG,eq_nil_of_length_eq_zero->aZ,getD_eq_getElem?_getD->aB,length_nil->dM,mem_append->aV,mem_cons->aL,pairwise_append->jI,pairwise_cons->gG
open List.Pairwise renaming nil->iF
open Nat renaming le_refl->aN,le_trans->aS,lt_irrefl->lE,lt_of_lt_of_le->bK,lt_or_ge->eV,zero_add->bM
open Option renaming some->bZ
namespace Go
theorem oDt {p:Prop} [Decidable p] (h:decide p=true):p:=of_decide_eq_true h
theorem oDi {p:Prop} [Decidable p]:decide p=true↔p:=decide_eq_true_iff
theorem oDd {p:Prop} [Decidable p] (h:p):decide p=true:=decide_eq_true h
theorem oDf {p:Prop} [Decidable p] (h:decide p=false):¬p:=of_decide_eq_false h
end Go
namespace Go.RX
open Go.RowKit
theorem nmI {a b:Prop} (h:b):(false=true->a)/\b:=⟨fun h=>(nomatch h),h⟩
structure Ext (w w':World):Prop where
 os:w'.os=w.os
 tape:w'.tape=w.tape
 output:w'.output=w.output
 size:w.heap.size<=w'.heap.size
 blk:∀k,k<w.heap.size->w'.heap[k]? =w.heap[k]?
 dr:w.drawn<=w'.drawn
theorem Ext.refl (w:World):Ext w w:=⟨rfl,rfl,rfl,aN _,fun _ _=>rfl,aN _⟩
theorem Ext.trans {a b c:World} (h:Ext a b) (k:Ext b c):Ext a c:=⟨k.os.trans h.os,k.tape.trans h.tape,k.output.trans h.output,aS h.size k.size,fun i hi=>(k.blk i (bK hi h.size)).trans (h.blk i hi),aS h.dr k.dr⟩
theorem Dk {w:World} {k:Nat} {o:Obj} (h:w.heap[k]? =some o):k<w.heap.size:=(dP.1 h).1
theorem Ext.block {a b:World} (h:Ext a b) {k:Nat} {o:Obj} (hk:a.heap[k]? =some o):b.heap[k]? =some o:=by
 rw[h.blk k (Dk hk),hk]
theorem Ext.block' {a b:World} (h:Ext a b) {k:Nat} (hk:k<a.heap.size):b.heap[k]? =a.heap[k]?:=h.blk k hk
theorem Ext.alloc (w:World) (o:Obj):Ext w (w.alloc o):=
 have h:=(Below.refl w.heap.size w).alloc (aN _) o
 ⟨h.os,h.tape,h.output,h.size,h.block,aN _⟩
theorem Ext.drawn (w:World):Ext w {w with drawn:=w.drawn+1}:=⟨rfl,rfl,rfl,aN _,fun _ _=>rfl,Nat.le_succ _⟩
@[irreducible] def Stp (P:Program) (o:Oper) (ev:Operand->Value) (w:World) (K:Value->World->Prop):Prop:=
 match(execOp ev o).run P w with
 | .ok (.value v) w'=>K v w'
 | .ok .skip w'=>K undef w'
 | .ok (.enter f args) w'=>Calls P f args w' fun e w''=>∃v,e= .returned v/\K v w''
 | .ok (.row r args) w'=>Rows P r args w' K
 | .ok (.round l f tmps asg body) w'=>RoundIn Fence.wide 0 P l f tmps asg body w' fun e w''=>∃v,e= .returned v/\K v w''
 |_=>False
theorem Stp.cg {P:Program} {o:Oper} {ev ev':Operand->Value} {w:World} {K:Value->World->Prop} (h:execOp ev' o=execOp ev o) (k:Stp P o ev w K):Stp P o ev' w K:=by
 unfold Stp at k⊢;rw[h];exact k
theorem Stp.mono {P:Program} {o:Oper} {ev:Operand->Value} {w:World} {K K':Value->World->Prop} (h:Stp P o ev w K) (hk:∀v w',K v w'->K' v w'):Stp P o ev w K':=by
 unfold Stp at*;split at h
 ·exact hk _ _ h
 ·exact hk _ _ h
 ·exact h.mono fun e w' ⟨v,he,hv⟩=>⟨v,he,hk _ _ hv⟩
 ·exact h.mono fun v w' hv=>hk _ _ hv
 ·exact h.mono fun e w' ⟨v,he,hv⟩=>⟨v,he,hk _ _ hv⟩
 ·exact h.elim
theorem Stp.some {P:Program} {o:Oper} {ev:Operand->Value} {w:World} {K:Value->World->Prop} (h:Stp P o ev w K):∃v w',K v w':=by
 unfold Stp at h;split at h
 ·exact⟨_,_,h⟩
 ·exact⟨_,_,h⟩
 ·obtain⟨e,w',fr,⟨v,_,hv⟩,_⟩:=h [];exact⟨v,w',hv⟩
 ·obtain⟨v,w',hv,_⟩:=h default [];exact⟨v,w',hv⟩
 ·obtain⟨e,w',⟨v,_,hv⟩,_⟩:=h.2 default [] (room_wide _);exact⟨v,w',hv⟩
 ·exact h.elim
def OpS (P:Program) (ops:Array Oper) (o:Oper) (a:Act) (w:World) (K:Value->World->Prop):Prop:=
 if Region.wanted o (yielded ops a.tmps)then Stp P o a.eval w K else K undef w
theorem OpS.mono {P:Program} {ops:Array Oper} {o:Oper} {a:Act} {w:World} {K K':Value->World->Prop} (h:OpS P ops o a w K) (hk:∀v w',K v w'->K' v w'):OpS P ops o a w K':=by
 unfold OpS at*;split
 ·rename_i hw;rw[if_pos hw]at h;exact h.mono hk
 ·rename_i hw;rw[if_neg hw]at h;exact hk _ _ h
def Fr (ro:Option Nat):Fence:={Fence.wide with round:=ro}
theorem CW {ro:Option Nat} {n:Nat} {P:Program} {f:FuncId} {args:Array Value} {w:World} {R:Ending->World->Prop} (h:Calls P f args w R):CallsIn (Fr ro) n P f args w R:=
 (callsIn_wide (n:=n)).2 h
theorem VE {ro:Option Nat} {n m:Nat} {P:Program} {l f:Nat} {tmps:Array Value} {asg body:Code} {w:World} {R:Ending->World->Prop} (h:RoundIn Fence.wide n P l f tmps asg body w R):RoundIn (Fr ro) m P l f tmps asg body w R:=
 ⟨trivial,fun c cs _=>h.2 c cs (room_wide _)⟩
theorem Stp.noDefer {P:Program} {o:Oper} {ev:Operand->Value} {w:World} {K:Value->World->Prop} (h:Stp P o ev w K):∀c,o.op≠ .defer c:=by
 intro c e;unfold Stp at h;have he:execOp ev o=(do pure (.defer (<-resolve ev c o.type))):=by unfold execOp;rw[e]
 rw[he]at h;generalize resolve ev c o.type=s at h;cases hr:s.run P w with
 |ok d w'=>
  have:(do pure (Next.defer (<-s)):Sem Next).run P w= .ok (.defer d) w':=by simp[go_sem,hr]
  rw[this]at h;exact h
 |halt x w'=>
  have:(do pure (Next.defer (<-s)):Sem Next).run P w= .halt x w':=by simp[go_sem,hr]
  rw[this]at h;exact h
theorem Stp.wpIn {ro:Option Nat} {rm:Nat} {P:Program} {o:Oper} {a:Act} {w:World} {K:Value->World->Prop} {K':Act->World->Prop} {Q:Exit->Act->World->Prop} (h:Stp P o a.eval w K) (hk:∀v w',K v w'->K' (a.put o.dst v) w'):o.wpIn (Fr ro) rm P a w K' Q:=by
 have hd:=h.noDefer;unfold Stp at h;unfold Oper.wpIn;refine⟨fun _ _=>trivial,?_⟩;rw[Oper.semAt_eq _ _ _ hd];split at h
 ·rename_i hr;rw[hr];exact hk _ _ h
 ·rename_i hr;rw[hr];exact hk _ _ h
 ·rename_i hr;rw[hr];exact⟨fun e=>by simp[Fr,Fence.wide]at e,CW (Calls.mono h fun e w' ⟨v,he,hv⟩=>by subst he;exact hk _ _ hv)⟩
 ·rename_i hr;rw[hr];refine⟨fun e=>by simp[Fr,Fence.wide]at e,fun c cs _=> ?_⟩;obtain⟨v,w',hv,hs⟩:=h c cs;exact⟨v,w',hk _ _ hv,stepsIn_wide.2 hs⟩
 ·rename_i hr;rw[hr];refine⟨fun e=>by simp[Fr,Fence.wide]at e,RoundIn.mono (VE h) fun e w' ⟨v,he,hv⟩=>by subst he;exact hk _ _ hv⟩
 ·exact h.elim
theorem OpS.wpOpIn {ro:Option Nat} {rm:Nat} {P:Program} {ops:Array Oper} {Q:Exit->Act->World->Prop} {o:Oper} {i:Nat} (hi:ops[i]? =some o) {a:Act} {w:World} {K:Value->World->Prop} {K':Act->World->Prop} (h:OpS P ops o a w K) (hk:∀v w',K v w'->K' (a.put o.dst v) w'):Go.wpOpIn (Fr ro) rm P ops Q i K' a w:=by
 unfold OpS at h;unfold Go.wpOpIn;simp only[hi];split
 ·rename_i hw;rw[if_pos hw]at h;exact h.wpIn hk
 ·rename_i hw;rw[if_neg hw]at h;exact⟨fun _ _=>trivial,hk _ _ h⟩
theorem OpS.put {P:Program} {ops:Array Oper} {oi oj:Oper} (qX:oi.apart ops oj=true) (hsj:∀cs b,oj.op≠ .select cs b) {a:Act} {w:World} {v:Value} {K:Value->World->Prop}:
  OpS P ops oj (a.put oi.dst v) w K↔OpS P ops oj a w K:=by
 obtain⟨h1,_,_⟩:=Oper.apart_spec qX;unfold OpS Stp;rw[wanted_put oj a oi.dst v h1,execOp_put oj hsj a oi.dst v h1]
def KeepM (w w':World):Prop:=∀b:Nat,w'.heap[b]? =w.heap[b]?\/((∃es c,w.heap[b]? =some (.map es c))/\∃es c,w'.heap[b]? =some (.map es c))
theorem KeepM.refl (w:World):KeepM w w:=fun _=> .inl rfl
theorem KeepM.trans {a b c:World} (h:KeepM a b) (k:KeepM b c):KeepM a c:=fun x=>by
 rcases h x with h|⟨h1,h2⟩<;>rcases k x with k|⟨k1,k2⟩
 ·exact .inl (k.trans h)
 ·exact .inr ⟨by rwa[h]at k1,k2⟩
 ·exact .inr ⟨h1,by rwa[k]⟩
 ·exact .inr ⟨h1,k2⟩
def wpF (P:Program) (ops:Array Oper) (kd ta:Nat->Nat) (B:Nat) (T:Act->World->Prop):List Nat->List Nat->Act->World->Prop
 |[],_,a,W=>∀w,Ext W w->T a w
 |i::L,bs,a,W=>∃o,ops[i]? =some o/\
   ((Region.wanted o (yielded ops a.tmps)=false/\wpF P ops kd ta B T L bs (a.put o.dst undef) W)\/
    (Region.wanted o (yielded ops a.tmps)=true/\
     ((kd i=0/\∃v,(∀w,(execOp a.eval o).run P w= .ok (.value v) w)/\wpF P ops kd ta B T L bs (a.put o.dst v) W)\/
      (kd i=1/\∃v,(∀w,Ext W w->(execOp a.eval o).run P w= .ok (.value v) w)/\wpF P ops kd ta B T L bs (a.put o.dst v) W)\/
      (kd i = 2 /\ ∃ V : Value -> List Nat -> World -> Prop,(∀ w,Ext W w -> Stp P o a.eval w fun v w' => Ext w w' /\ ∃ cs,(∀ c ∈ cs,w.heap.size <= c /\ c < w'.heap.size) /\ V v cs w') /\
         ∀v cs W',Ext W W'->V v cs W'->(∀c∈cs,B<=c/\c∉bs)->wpF P ops kd ta B T L (cs++bs) (a.put o.dst v) W')\/
      (kd i = 3 /\ ∃ (mk : Nat -> Value) (ob : Obj),(∀ w,(execOp a.eval o).run P w = .ok (.value (mk w.heap.size)) (w.alloc ob)) /\
         ∀b W',Ext W W'->W'.heap[b]? =some ob->b∉bs->B<=b->wpF P ops kd ta B T L (b::bs) (a.put o.dst (mk b)) W')\/
      (kd i=5/\∃v ob,W.heap[ta i]? =some ob/\(∀w,w.heap[ta i]? =some ob->(execOp a.eval o).run P w= .ok (.value v) w)/\wpF P ops kd ta B T L bs (a.put o.dst v) W))))
def wpT (P:Program) (ops:Array Oper) (kd ta:Nat->Nat) (Q:Act->World->Prop):List Nat->Act->World->Prop
 |[],a,w=>Q a w
 |i::L,a,w=>∃o,ops[i]? =some o/\
   ((Region.wanted o (yielded ops a.tmps)=false/\wpT P ops kd ta Q L (a.put o.dst undef) w)\/
    (Region.wanted o (yielded ops a.tmps)=true/\
     ((kd i=0/\∃v,(∀w',(execOp a.eval o).run P w'= .ok (.value v) w')/\wpT P ops kd ta Q L (a.put o.dst v) w)\/
      (kd i=5/\∃v ob,w.heap[ta i]? =some ob/\(∀w',w'.heap[ta i]? =some ob->(execOp a.eval o).run P w'= .ok (.value v) w')/\wpT P ops kd ta Q L (a.put o.dst v) w)\/
      (kd i=6/\∃ob cs,w.heap[ta i]? =some ob/\(∀w',w'.heap[ta i]? =some ob->(execOp a.eval o).run P w'= .ok .skip (w'.setRow (ta i) cs))/\wpT P ops kd ta Q L (a.put o.dst undef) (w.setRow (ta i) cs))\/
      (kd i=7/\∃(v:Value) (R:World->Prop),(∀w',R w'->(execOp a.eval o).run P w'= .ok (.value v) w')/\R w/\(∀m c w',kd m=6->(R (w'.setRow (ta m) c)↔R w'))/\wpT P ops kd ta Q L (a.put o.dst v) w)\/
      (kd i=8/\Stp P o a.eval w fun v w'=>(∀m,kd m=5->w'.heap[ta m]? =w.heap[ta m]?)/\wpT P ops kd ta Q L (a.put o.dst v) w')\/
      (kd i=9/\∃(v:Value) (R:World->Prop),(∀w',R w'->(execOp a.eval o).run P w'= .ok (.value v) w')/\R w/\(∀w1 w2,KeepM w1 w2->R w1->R w2)/\wpT P ops kd ta Q L (a.put o.dst v) w)\/
      (kd i=10/\Stp P o a.eval w fun v w'=>KeepM w w'/\wpT P ops kd ta Q L (a.put o.dst v) w')\/
      (kd i≠0/\kd i≠5/\kd i≠6/\kd i≠7/\kd i≠8/\kd i≠9/\kd i≠10/\Stp P o a.eval w fun v w'=>wpT P ops kd ta Q L (a.put o.dst v) w'))))
section
variable {P:Program} {ops:Array Oper} {kd ta:Nat->Nat} {B:Nat} {T:Act->World->Prop}
theorem CX:∀(L bs bs':List Nat) (a:Act) (W:World),(∀x,x∈bs->x∈bs')->wpF P ops kd ta B T L bs a W->wpF P ops kd ta B T L bs' a W:=by
 intro L;induction L with
 |nil=>intro bs bs' a W _ h;exact h
 |cons i L ih=>
  intro bs bs' a W hb h;obtain⟨o,ho,h⟩:=h;refine⟨o,ho,?_⟩;rcases h with⟨hn,h⟩|⟨hn,h⟩
  ·exact .inl ⟨hn,ih _ _ _ _ hb h⟩
  ·refine .inr ⟨hn,?_⟩;rcases h with⟨h0,v,hv,h⟩|⟨h0,v,hv,h⟩|⟨h0,V,hc,h⟩|⟨h0,mk,ob,hr,h⟩|⟨h0,v,ob,sC,hv,h⟩
   ·exact .inl ⟨h0,v,hv,ih _ _ _ _ hb h⟩
   ·exact .inr (.inl ⟨h0,v,hv,ih _ _ _ _ hb h⟩)
   ·exact .inr (.inr (.inl ⟨h0,V,hc,fun v cs W2 uX hV qI=>ih _ _ _ _ (by intro x hx;simp only[aV]at hx⊢;exact hx.imp id (hb x)) (h v cs W2 uX hV (fun c hc=>⟨(qI c hc).1,fun hm=>(qI c hc).2 (hb _ hm)⟩))⟩))
   ·exact .inr (.inr (.inr (.inl ⟨h0,mk,ob,hr,fun b W2 uX sC rY hB=>ih _ _ _ _ (by intro x hx;simp only[aL]at hx⊢;exact hx.imp id (hb x)) (h b W2 uX sC (fun hm=>rY (hb _ hm)) hB)⟩)))
   ·exact .inr (.inr (.inr (.inr ⟨h0,v,ob,sC,hv,ih _ _ _ _ hb h⟩)))
theorem VF {j:Nat} {oj:Oper} (hj:ops[j]? =some oj) (qD:∀(i:Nat) (o:Oper) cs b,ops[i]? =some o->o.op≠ .select cs b) (vV:kd j≠3):∀(pre post bs:List Nat) (a:Act) (w:World),B<=w.heap.size->(∀b∈bs,b<w.heap.size)->
  (∀i∈pre,(kd i<=1\/kd i=5)/\∀oi,ops[i]? =some oi->oi.apart ops oj=true)->wpF P ops kd ta B T (pre++j::post) bs a w->
  OpS P ops oj a w fun u w'=>Ext w w'/\∃cs,(∀c∈cs,w.heap.size<=c/\c<w'.heap.size)/\wpF P ops kd ta B T (pre++post) (cs++bs) (a.put oj.dst u) w':=by
 intro pre;induction pre with
 |nil=>
  intro post bs a w hB qY _ h;obtain⟨o,ho,h⟩:=h;obtain rfl:o=oj:=bZ.inj (ho.symm.trans hj);unfold OpS;rcases h with⟨hn,h⟩|⟨hn,h⟩
  ·rw[if_neg (by simp[hn])];exact⟨Ext.refl _,[],by simp,h⟩
  ·rw[if_pos hn];rcases h with⟨h0,v,hv,h⟩|⟨h0,v,hv,h⟩|⟨h0,V,hc,h⟩|⟨h0,mk,ob,hr,h⟩|⟨h0,v,ob,hb,hv,h⟩
   ·unfold Stp;rw[hv w];exact⟨Ext.refl _,[],by simp,h⟩
   ·unfold Stp;rw[hv w (Ext.refl _)];exact⟨Ext.refl _,[],by simp,h⟩
   ·exact(hc w (Ext.refl _)).mono fun v w' ⟨hx,cs,qI,hV⟩=>⟨hx,cs,qI,h v cs w' hx hV fun c hc=>⟨aS hB (qI c hc).1,fun hm=>by have:=qY c hm;have:=(qI c hc).1;omega⟩⟩
   ·exact absurd h0 vV
   ·unfold Stp;rw[hv w hb];exact⟨Ext.refl _,[],by simp,h⟩
 |cons i pre ih=>
  intro post bs a w hB qY pV h;obtain⟨o,ho,h⟩:=h;obtain⟨hk,qX⟩:=pV i (by simp);have qX:=qX o ho;obtain⟨h1,h2,h3⟩:=Oper.apart_spec qX;have rH:∀i∈pre,(kd i<=1\/kd i=5)/\∀oi,ops[i]? =some oi->oi.apart ops oj=true:=fun x hx=>pV x (by simp[hx]);have back:∀v,wpF P ops kd ta B T (pre++j::post) bs (a.put o.dst v) w->OpS P ops oj a w fun u w'=>Ext w w'/\∃cs,(∀c∈cs,w.heap.size<=c/\c<w'.heap.size)/\wpF P ops kd ta B T (pre++post) (cs++bs) ((a.put oj.dst u).put o.dst v) w':=fun v hv=>by
   have:=(OpS.put (P:=P) qX (fun cs b=>qD j oj cs b hj)).1 (ih post bs _ w hB qY rH hv);exact this.mono fun u w' ⟨hx,cs,qI,hh⟩=>⟨hx,cs,qI,by rw[Act.put_comm a v u h2]at hh;exact hh⟩
  rcases h with⟨hn,h⟩|⟨hn,h⟩
  ·exact(back _ h).mono fun u w' ⟨hx,cs,qI,hh⟩=>⟨hx,cs,qI,o,ho,.inl ⟨by rw[wanted_put o a oj.dst u h3];exact hn,hh⟩⟩
  ·have hw:∀u,Region.wanted o (yielded ops (a.put oj.dst u).tmps)=true:=fun u=>by rw[wanted_put o a oj.dst u h3];exact hn
   have he:∀u,execOp (a.put oj.dst u).eval o=execOp a.eval o:=fun u=>execOp_put o (fun cs b=>qD i o cs b ho) a oj.dst u h3;rcases h with⟨h0,v,hv,h⟩|⟨h0,v,hv,h⟩|⟨h0,V,hc,h⟩|⟨h0,mk,ob,hr,h⟩|⟨h0,v,ob,hb,hv,h⟩
   ·exact(back _ h).mono fun u w' ⟨hx,cs,qI,hh⟩=>⟨hx,cs,qI,o,ho,.inr ⟨hw u,.inl ⟨h0,v,by rw[he u];exact hv,hh⟩⟩⟩
   ·exact(back _ h).mono fun u w' ⟨hx,cs,qI,hh⟩=>⟨hx,cs,qI,o,ho,.inr ⟨hw u,.inr (.inl ⟨h0,v,by rw[he u];exact fun w2 hw2=>hv w2 (hx.trans hw2),hh⟩)⟩⟩
   ·omega
   ·omega
   ·exact(back _ h).mono fun u w' ⟨hx,cs,qI,hh⟩=>⟨hx,cs,qI,o,ho,.inr ⟨hw u,.inr (.inr (.inr (.inr ⟨h0,v,ob,hx.block hb,by rw[he u];exact hv,hh⟩)))⟩⟩
theorem VG {j:Nat} {oj:Oper} (hj:ops[j]? =some oj) (qD:∀(i:Nat) (o:Oper) cs b,ops[i]? =some o->o.op≠ .select cs b) (vV:kd j=3):∀(pre post bs:List Nat) (a:Act) (W:World),
  (∀i∈pre,∀oi,ops[i]? =some oi->oi.apart ops oj=true)->B<=W.heap.size->(∀b∈bs,b<W.heap.size)->Region.wanted oj (yielded ops a.tmps)=true->wpF P ops kd ta B T (pre++j::post) bs a W->
  ∃(mk:Nat->Value) (ob:Obj),∀w,(execOp a.eval oj).run P w= .ok (.value (mk w.heap.size)) (w.alloc ob):=by
 intro pre;induction pre with
 |nil=>
  intro post bs a W _ _ _ pX h;obtain⟨o,ho,h⟩:=h;obtain rfl:o=oj:=bZ.inj (ho.symm.trans hj);rcases h with⟨hn,_⟩|⟨_,h⟩
  ·rw[hn]at pX;cases pX
  ·rcases h with⟨h0,_⟩|⟨h0,_⟩|⟨h0,_⟩|⟨h0,mk,ob,hr,h⟩|⟨h0,_⟩
   ·omega
   ·omega
   ·omega
   ·exact⟨mk,ob,hr⟩
   ·omega
 |cons i pre ih=>
  intro post bs a W pV hB qY pX h;obtain⟨o,ho,h⟩:=h;have qX:=pV i (by simp) o ho;obtain⟨h1,h2,h3⟩:=Oper.apart_spec qX;have rH:∀i∈pre,∀oi,ops[i]? =some oi->oi.apart ops oj=true:=fun x hx=>pV x (by simp[hx]);have go:∀v bs' W',B<=W'.heap.size->(∀b∈bs',b<W'.heap.size)->wpF P ops kd ta B T (pre++j::post) bs' (a.put o.dst v) W'->∃(mk:Nat->Value) (ob:Obj),∀w,(execOp a.eval oj).run P w= .ok (.value (mk w.heap.size)) (w.alloc ob):=fun v bs' W' tM tO hh=>by
   obtain⟨mk,ob,hr⟩:=ih post bs' (a.put o.dst v) W' rH tM tO (by rw[wanted_put oj a o.dst v h1];exact pX) hh;exact⟨mk,ob,fun w=>by rw[<-hr w,execOp_put oj (fun cs b=>qD j oj cs b hj) a o.dst v h1]⟩
  rcases h with⟨hn,h⟩|⟨hn,h⟩
  ·exact go _ _ _ hB qY h
  ·rcases h with⟨h0,v,hv,h⟩|⟨h0,v,hv,h⟩|⟨h0,V,hc,h⟩|⟨h0,mk,ob,hr,h⟩|⟨h0,v,ob,hb,hv,h⟩
   ·exact go _ _ _ hB qY h
   ·exact go _ _ _ hB qY h
   ·obtain⟨v,w',hx,cs,qI,hV⟩:=(hc W (Ext.refl _)).some;refine go v _ w' (aS hB hx.size) (fun b hb=> ?_) (h v cs w' hx hV fun c hc=>⟨aS hB (qI c hc).1,fun hm=>by have:=qY c hm;have:=(qI c hc).1;omega⟩);rcases aV.1 hb with hb|hb
    ·exact(qI b hb).2
    ·exact bK (qY b hb) hx.size
   ·refine go (mk W.heap.size) (W.heap.size::bs) (W.alloc ob) (aS hB (Ext.alloc W ob).size) ?_ (h _ _ (Ext.alloc W ob) ?_ (fun hm=>lE _ (qY _ hm)) hB)
    ·intro b hb;simp only[aL]at hb;have rP:(W.alloc ob).heap.size=W.heap.size+1:=by show(W.heap.push ob).size=_;simp
     rcases hb with rfl|hb
     ·omega
     ·have:=qY b hb;omega
    ·show(W.heap.push ob)[W.heap.size]? =_;simp
   ·exact go _ _ _ hB qY h
theorem VH {j:Nat} {oj:Oper} (hj:ops[j]? =some oj) (qD:∀(i:Nat) (o:Oper) cs b,ops[i]? =some o->o.op≠ .select cs b) (vV:kd j=0):∀(pre post bs:List Nat) (a:Act) (W:World),
  (∀i∈pre,∀oi,ops[i]? =some oi->oi.apart ops oj=true)->B<=W.heap.size->(∀b∈bs,b<W.heap.size)->Region.wanted oj (yielded ops a.tmps)=true->wpF P ops kd ta B T (pre++j::post) bs a W->
  ∃v:Value,∀w,(execOp a.eval oj).run P w= .ok (.value v) w:=by
 intro pre;induction pre with
 |nil=>
  intro post bs a W _ _ _ pX h;obtain⟨o,ho,h⟩:=h;obtain rfl:o=oj:=bZ.inj (ho.symm.trans hj);rcases h with⟨hn,_⟩|⟨_,h⟩
  ·rw[hn]at pX;cases pX
  ·rcases h with⟨h0,v,hv,h⟩|⟨h0,_⟩|⟨h0,_⟩|⟨h0,_⟩|⟨h0,_⟩
   ·exact⟨v,hv⟩
   ·omega
   ·omega
   ·omega
   ·omega
 |cons i pre ih=>
  intro post bs a W pV hB qY pX h;obtain⟨o,ho,h⟩:=h;have qX:=pV i (by simp) o ho;obtain⟨h1,h2,h3⟩:=Oper.apart_spec qX;have rH:∀i∈pre,∀oi,ops[i]? =some oi->oi.apart ops oj=true:=fun x hx=>pV x (by simp[hx]);have go:∀v bs' W',B<=W'.heap.size->(∀b∈bs',b<W'.heap.size)->wpF P ops kd ta B T (pre++j::post) bs' (a.put o.dst v) W'->∃v:Value,∀w,(execOp a.eval oj).run P w= .ok (.value v) w:=fun v bs' W' tM tO hh=>by
   obtain⟨u,hr⟩:=ih post bs' (a.put o.dst v) W' rH tM tO (by rw[wanted_put oj a o.dst v h1];exact pX) hh;exact⟨u,fun w=>by rw[<-hr w,execOp_put oj (fun cs b=>qD j oj cs b hj) a o.dst v h1]⟩
  rcases h with⟨hn,h⟩|⟨hn,h⟩
  ·exact go _ _ _ hB qY h
  ·rcases h with⟨h0,v,hv,h⟩|⟨h0,v,hv,h⟩|⟨h0,V,hc,h⟩|⟨h0,mk,ob,hr,h⟩|⟨h0,v,ob,hb,hv,h⟩
   ·exact go _ _ _ hB qY h
   ·exact go _ _ _ hB qY h
   ·obtain⟨v,w',hx,cs,qI,hV⟩:=(hc W (Ext.refl _)).some;refine go v _ w' (aS hB hx.size) (fun b hb=> ?_) (h v cs w' hx hV fun c hc=>⟨aS hB (qI c hc).1,fun hm=>by have:=qY c hm;have:=(qI c hc).1;omega⟩);rcases aV.1 hb with hb|hb
    ·exact(qI b hb).2
    ·exact bK (qY b hb) hx.size
   ·refine go (mk W.heap.size) (W.heap.size::bs) (W.alloc ob) (aS hB (Ext.alloc W ob).size) ?_ (h _ _ (Ext.alloc W ob) ?_ (fun hm=>lE _ (qY _ hm)) hB)
    ·intro b hb;simp only[aL]at hb;have rP:(W.alloc ob).heap.size=W.heap.size+1:=by show(W.heap.push ob).size=_;simp
     rcases hb with rfl|hb
     ·omega
     ·have:=qY b hb;omega
    ·show(W.heap.push ob)[W.heap.size]? =_;simp
   ·exact go _ _ _ hB qY h
theorem VI {j:Nat} {oj:Oper} {v:Value} (hj:ops[j]? =some oj) (qD:∀(i:Nat) (o:Oper) cs b,ops[i]? =some o->o.op≠ .select cs b) (vV:kd j=0):∀(pre post bs:List Nat) (a:Act) (W:World),
  (∀i∈pre,∀oi,ops[i]? =some oi->oi.apart ops oj=true)->(∀w,(execOp a.eval oj).run P w= .ok (.value v) w)->Region.wanted oj (yielded ops a.tmps)=true->wpF P ops kd ta B T (pre++j::post) bs a W->wpF P ops kd ta B T (pre++post) bs (a.put oj.dst v) W:=by
 intro pre;induction pre with
 |nil=>
  intro post bs a W _ hv hn h;obtain⟨o,ho,h⟩:=h;obtain rfl:o=oj:=bZ.inj (ho.symm.trans hj);rcases h with⟨sE,_⟩|⟨_,h⟩
  ·rw[hn]at sE;cases sE
  ·rcases h with⟨h0,v',zX,h⟩|⟨h0,_⟩|⟨h0,_⟩|⟨h0,_⟩|⟨h0,_⟩
   ·have e:=(zX W).symm.trans (hv W);simp only[Result.ok.injEq,Next.value.injEq,and_true]at e;subst e;exact h
   ·omega
   ·omega
   ·omega
   ·omega
 |cons i pre ih2=>
  intro post bs a W qX hv hn h;obtain⟨o,ho,h⟩:=h;have yN:=qX i (by simp) o ho;obtain⟨h1,h2,h3⟩:=Oper.apart_spec yN;have yO:∀i∈pre,∀oi,ops[i]? =some oi->oi.apart ops oj=true:=fun x hx=>qX x (by simp[hx]);have go:∀v' bs' W',wpF P ops kd ta B T (pre++j::post) bs' (a.put o.dst v') W'->wpF P ops kd ta B T (pre++post) bs' ((a.put oj.dst v).put o.dst v') W':=fun v' bs' W' hh=>by
   have:=ih2 post bs' (a.put o.dst v') W' yO (fun w=>by rw[execOp_put oj (fun cs b=>qD j oj cs b hj) a o.dst v' h1];exact hv w) (by rw[wanted_put oj a o.dst v' h1];exact hn) hh
   rwa[Act.put_comm a v' v h2]at this
  refine⟨o,ho,?_⟩;have he:execOp (a.put oj.dst v).eval o=execOp a.eval o:=execOp_put o (fun cs b=>qD i o cs b ho) a oj.dst v h3;rw[wanted_put o a oj.dst v h3,he];rcases h with⟨hn,h⟩|⟨hn,h⟩
  ·exact .inl ⟨hn,go _ _ _ h⟩
  ·refine .inr ⟨hn,?_⟩;rcases h with⟨h0,v,hv,h⟩|⟨h0,v,hv,h⟩|⟨h0,V,hc,h⟩|⟨h0,mk',ob',hr,h⟩|⟨h0,v,ob,hb,hv,h⟩
   ·exact .inl ⟨h0,v,hv,go _ _ _ h⟩
   ·exact .inr (.inl ⟨h0,v,hv,go _ _ _ h⟩)
   ·exact .inr (.inr (.inl ⟨h0,V,fun w hw=>by have:=hc w hw;unfold Stp at this⊢;rw[he];exact this,fun v cs W2 uX hV qI=>go _ _ _ (h v cs W2 uX hV qI)⟩))
   ·exact .inr (.inr (.inr (.inl ⟨h0,mk',ob',hr,fun b W2 uX sC rY hB=>go _ _ _ (h b W2 uX sC rY hB)⟩)))
   ·exact .inr (.inr (.inr (.inr ⟨h0,v,ob,hb,hv,go _ _ _ h⟩)))
theorem VJ (b:Nat) (W:World):∃w:World,w.heap.size=b:=⟨{W with heap:=kD b default},by simp⟩
theorem VK {w:World} {o o':Obj} (h:w.alloc o=w.alloc o'):o=o':=by
 have:(w.heap.push o)=(w.heap.push o'):=congrArg World.heap h;exact(Array.push_eq_push.1 this).1
theorem VL {j:Nat} {oj:Oper} (hj:ops[j]? =some oj) (qD:∀(i:Nat) (o:Oper) cs b,ops[i]? =some o->o.op≠ .select cs b) (vV:kd j=3) (mk:Nat->Value) (ob:Obj) (b:Nat):∀(pre post bs:List Nat) (a:Act) (W W':World),
  (∀i∈pre,∀oi,ops[i]? =some oi->oi.apart ops oj=true)->(∀w,(execOp a.eval oj).run P w= .ok (.value (mk w.heap.size)) (w.alloc ob))->Region.wanted oj (yielded ops a.tmps)=true->
  Ext W W'->W'.heap[b]? =some ob->b∉bs->B<=b->wpF P ops kd ta B T (pre++j::post) bs a W->
  wpF P ops kd ta B T (pre++post) (b::bs) (a.put oj.dst (mk b)) W':=by
 intro pre;induction pre with
 |nil=>
  intro post bs a W W' _ pQ pX hx sC rY hB h;obtain⟨o,ho,h⟩:=h;obtain rfl:o=oj:=bZ.inj (ho.symm.trans hj);rcases h with⟨hn,_⟩|⟨_,h⟩
  ·rw[hn]at pX;cases pX
  ·rcases h with⟨h0,_⟩|⟨h0,_⟩|⟨h0,_⟩|⟨h0,mk',ob',hr,h⟩|⟨h0,_⟩
   ·omega
   ·omega
   ·omega
   ·obtain⟨w,hw⟩:=VJ b W;have e:=(pQ w).symm.trans (hr w);simp only[Result.ok.injEq,Next.value.injEq,hw]at e;obtain⟨e1,e2⟩:=e;have e3:=VK e2;subst e3;rw[e1];exact h b W' hx sC rY hB
   ·omega
 |cons i pre ih=>
  intro post bs a W W' pV pQ pX hx sC rY hB h;obtain⟨o,ho,h⟩:=h;have qX:=pV i (by simp) o ho;obtain⟨h1,h2,h3⟩:=Oper.apart_spec qX;have rH:∀i∈pre,∀oi,ops[i]? =some oi->oi.apart ops oj=true:=fun x hx=>pV x (by simp[hx]);have hw:Region.wanted o (yielded ops (a.put oj.dst (mk b)).tmps)=Region.wanted o (yielded ops a.tmps):=wanted_put o a oj.dst (mk b) h3;have he:execOp (a.put oj.dst (mk b)).eval o=execOp a.eval o:=execOp_put o (fun cs b=>qD i o cs b ho) a oj.dst (mk b) h3;have go:∀v bs' W1 W2,Ext W1 W2->W2.heap[b]? =some ob->b∉bs'->wpF P ops kd ta B T (pre++j::post) bs' (a.put o.dst v) W1->wpF P ops kd ta B T (pre++post) (b::bs') ((a.put oj.dst (mk b)).put o.dst v) W2:=fun v bs' W1 W2 rZ a0u yP hh=>by
   have:=ih post bs' (a.put o.dst v) W1 W2 rH (fun w=>by rw[execOp_put oj (fun cs b=>qD j oj cs b hj) a o.dst v h1];exact pQ w) (by rw[wanted_put oj a o.dst v h1];exact pX) rZ a0u yP hB hh
   rwa[Act.put_comm a v (mk b) h2]at this
  refine⟨o,ho,?_⟩;rw[hw,he];rcases h with⟨hn,h⟩|⟨hn,h⟩
  ·exact .inl ⟨hn,go _ _ _ _ hx sC rY h⟩
  ·refine .inr ⟨hn,?_⟩;rcases h with⟨h0,v,hv,h⟩|⟨h0,v,hv,h⟩|⟨h0,V,hc,h⟩|⟨h0,mk',ob',hr,h⟩|⟨h0,v,ob',rI,hv,h⟩
   ·exact .inl ⟨h0,v,hv,go _ _ _ _ hx sC rY h⟩
   ·exact .inr (.inl ⟨h0,v,fun w hw=>hv w (hx.trans hw),go _ _ _ _ hx sC rY h⟩)
   ·refine .inr (.inr (.inl ⟨h0,V,fun w hw=>by have:=hc w (hx.trans hw);unfold Stp at this⊢;rw[he];exact this,fun v cs W2 uX hV qI=> ?_⟩));have hn:b∉cs++bs:=fun hm=>by
     rcases aV.1 hm with hm|hm
     ·exact(qI b hm).2 (by simp)
     ·exact rY hm
    have:=go v (cs++bs) W2 W2 (Ext.refl _) (uX.block sC) hn (h v cs W2 (hx.trans uX) hV fun c hc=>⟨(qI c hc).1,fun hm=>(qI c hc).2 (by simp[hm])⟩);exact CX _ _ _ _ _ (by intro x hx;simp only[aL,aV]at hx⊢;rcases hx with h|h|h<;>simp[h]) this
   ·refine .inr (.inr (.inr (.inl ⟨h0,mk',ob',hr,fun b' W2 uX a0u yP tM=> ?_⟩)));simp only[aL,not_or]at yP;have:=go (mk' b') (b'::bs) W2 W2 (Ext.refl _) (uX.block sC) (by simp only[aL,not_or];exact⟨fun e=>yP.1 e.symm,rY⟩) (h b' W2 (hx.trans uX) a0u yP.2 tM);exact CX _ _ _ _ _ (by intro x hx;simp only[aL]at hx⊢;rcases hx with h|h|h<;>simp[h]) this
   ·exact .inr (.inr (.inr (.inr ⟨h0,v,ob',hx.block rI,hv,go _ _ _ _ hx sC rY h⟩)))
end
open Go.RowKit
def Xe (acc:List Nat) (o:Oper):Nat:=o.after.toList.foldl (fun s e=>if Region.binds .any e then s|||(1<<<e.on)|||acc.getD e.on 0 else s) 0
def Gk:List Oper->List Nat->List Nat
 |[],acc=>acc
 |o::l,acc=>Gk l (acc++[Xe acc o])
theorem VM:∀(l:List Oper) (acc:List Nat),(∃r,Gk l acc=acc++r)/\∀m o,l[m]? =some o->(Gk l acc).getD (acc.length+m) 0=Xe ((Gk l acc).take (acc.length+m)) o:=by
 intro l;induction l with
 |nil=>intro acc;exact⟨⟨[],by simp[Gk]⟩,fun m o h=>by simp at h⟩
 |cons x l ih=>
  intro acc;obtain⟨⟨r,hr⟩,ih2⟩:=ih (acc++[Xe acc x]);refine⟨⟨Xe acc x::r,by simp only[Gk];rw[hr];simp⟩,?_⟩;intro m o hm;simp only[Gk];cases m with
  |zero=>
   simp at hm;subst hm;rw[hr];simp[aB]
  |succ m=>
   simp at hm;have:=ih2 m o hm;simp only[List.length_append,List.length_cons,dM,bM]at this;rw[show acc.length+(m+1)=acc.length+1+m from by omega];exact this
theorem VN (i:Nat) (acc:List Nat):∀(es:List Edge) (s:Nat),(es.foldl (fun s e=>if Region.binds .any e then s|||(1<<<e.on)|||acc.getD e.on 0 else s) s).testBit i=true->
  s.testBit i=true\/∃e∈es,Region.binds .any e=true/\(e.on=i\/(acc.getD e.on 0).testBit i=true):=by
 intro es;induction es with
 |nil=>intro s h;exact .inl h
 |cons e es ih=>
  intro s h;simp only[List.foldl_cons]at h;rcases ih _ h with h'|⟨e',yQ,h'⟩
  ·by_cases hb:Region.binds .any e=true
   ·simp only[hb,if_true,Nat.testBit_or,bW,Nat.one_shiftLeft,Nat.testBit_two_pow,decide_eq_true_eq]at h';rcases h' with(h'|h')|h'
    ·exact .inl h'
    ·exact .inr ⟨e,by simp,hb,.inl h'⟩
    ·exact .inr ⟨e,by simp,hb,.inr h'⟩
   ·simp only[hb]at h';exact .inl (by simpa using h')
  ·exact .inr ⟨e',by simp[yQ],h'⟩
theorem VO (ops:Array Oper) {i j:Nat} {o:Oper} (hj:ops[j]? =some o) (h:((Gk ops.toList []).getD j 0).testBit i=true):
  ∃e∈o.after,Region.binds .any e=true/\(e.on=i\/(e.on<j/\((Gk ops.toList []).getD e.on 0).testBit i=true)):=by
 have h2:=(VM ops.toList []).2 j o (by simpa using hj);simp only[dM,bM]at h2;rw[h2]at h;unfold Xe at h;rcases VN i _ _ _ h with h'|⟨e,he,hb,h'⟩
 ·simp at h'
 ·refine⟨e,by simpa using he,hb,?_⟩;rcases h' with h'|h'
  ·exact .inl h'
  ·right;by_cases pO:e.on<j
   ·refine⟨pO,?_⟩;rw[aB,List.getElem?_take_of_lt pO,<-aB]at h';exact h'
   ·rw[aB,List.getElem?_eq_none (by simp;omega)]at h';simp at h'
def CY (ops:Array Oper) (listed:Array Bool):Prop:=
 ∀k o,ops[k]? =some o->listed.getD k false=true->∀e∈o.after,Region.binds .any e=true->listed.getD e.on false=true
theorem CZ {ops:Array Oper} {listed:Array Bool} (hd:CY ops listed) {i:Nat} (hi:listed.getD i false=false):
  ∀(n j:Nat),j<n->∀o,ops[j]? =some o->((Gk ops.toList []).getD j 0).testBit i=true->∃e∈o.after,Region.binds .any e=true/\listed.getD e.on false=false:=by
 intro n;induction n with
 |zero=>intro j hj;omega
 |succ n ih=>
  intro j hj o ho hb;obtain⟨e,he,hbe,h⟩:=VO ops ho hb;rcases h with rfl|⟨pO,h⟩
  ·exact⟨e,he,hbe,hi⟩
  ·refine⟨e,he,hbe,?_⟩;cases hoe:ops[e.on]? with
   |none=>
    have:¬e.on<ops.size:=fun h'=>by simp[fQ h']at hoe
    have:j<ops.size:=(dP.1 ho).1;omega
   |some oe=>
    obtain⟨e',yQ,a4c,h'⟩:=ih e.on (by omega) oe hoe h;cases hl:listed.getD e.on false with
    |false=>rfl
    |true=>rw[hd _ _ hoe hl e' yQ a4c]at h';cases h'
def bn (ops:Array Oper) (i j:Nat):Bool:=match ops[i]?,ops[j]? with|some a,some b=>a.apart ops b|_,_=>false
def frK (k:Nat):Bool:=decide (k<=3)||k==5
def okK (kd tg:Nat->Nat) (i j:Nat):Bool:=
 kd i==0||(kd j==3&&frK (kd i))||((kd i==1||kd i==5)&&frK (kd j))||(kd i==5&&kd j==6&&tg i !=tg j)||(kd i==6&&(kd j==5||kd j==6)&&tg i !=tg j)||(kd i==5&&(kd j==7||kd j==8))||(kd i==6&&kd j==7)||(kd i==7&&(kd j==0||kd j==5||kd j==6||kd j==7))||(kd j==0&&frK (kd i))||(kd i==9&&(kd j==0||kd j==9||kd j==10))
def okP (ops:Array Oper) (A:List Nat) (kd tg:Nat->Nat) (i j:Nat):Bool:=
 (A.getD j 0).testBit i||(bn ops i j&&okK kd tg i j)
def okL (ops:Array Oper) (A:List Nat) (kd tg:Nat->Nat):List Nat->Bool
 |[]=>true
 |i::L=>(L.all fun j=>okP ops A kd tg i j)&&okL ops A kd tg L
def Lin (ops:Array Oper):Array Bool->List Nat->Prop
 |_,[]=>True
 |listed,i::L=>i∈Region.ready .any ops listed/\Lin ops (listed.setIfInBounds i true) L
def Xf (ops:Array Oper):Array Bool->List Nat->Bool
 |listed,[]=>listed.all id
 |listed,i::L=>(!listed.getD i true)&&((ops[i]?).map (fun o=>o.after.all fun e=> !Region.binds .any e||listed.getD e.on false)).getD false&&Xf ops (listed.setIfInBounds i true) L
theorem VP (ops:Array Oper):∀(L:List Nat) (listed:Array Bool),listed.size=ops.size->Xf ops listed L=true->Lin ops listed L/\∀i,i<ops.size->listed.getD i true=false->i∈L:=by
 intro L;induction L with
 |nil=>
  intro listed hs h;refine⟨trivial,fun i hi hl=> ?_⟩;simp only[Xf,Array.all_eq_true]at h;have h1:=h i (by omega);rw[dD,fQ (by omega)]at hl;simp at hl h1;rw[hl]at h1;cases h1
 |cons i L ih=>
  intro listed hs h;simp only[Xf,aF]at h;obtain⟨⟨h1,h2⟩,h3⟩:=h;obtain⟨ih1,ih2⟩:=ih (listed.setIfInBounds i true) (by simpa using hs) h3;refine⟨⟨?_,ih1⟩,fun k hk hl=> ?_⟩
  ·unfold Region.ready;rw[List.mem_filter,List.mem_range];cases ho:ops[i]? with
   |none=>simp[ho]at h2
   |some o=>
    refine⟨(dP.1 ho).1,?_⟩;simp only[ho]at h2;simp only[aF];exact⟨h1,by simpa using h2⟩
  ·by_cases zY:i=k
   ·simp[zY]
   ·exact List.mem_cons_of_mem _ (ih2 k hk (by rw[getD_set_ne true zY];exact hl))
theorem Lin.unlisted {ops:Array Oper}:∀{L:List Nat} {listed:Array Bool},Lin ops listed L->∀x∈L,listed.getD x true=false:=by
 intro L;induction L with
 |nil=>intro listed _ x hx;cases hx
 |cons i L ih=>
  intro listed h x hx;obtain⟨h1,h2⟩:=h;have hi:=(mem_ready.1 h1).1;rcases aL.1 hx with rfl|hx
  ·exact hi
  ·have:=ih h2 x hx;by_cases zZ:i=x
   ·subst zZ;exact hi
   ·rwa[getD_set_ne true zZ]at this
theorem DC {listed:Array Bool} {i:Nat} (h:listed.getD i true=false):(listed.setIfInBounds i true).getD i true=true:=by
 have pO:i<listed.size:=by
  rcases eV i listed.size with h'|h'
  ·exact h'
  ·simp[iW h']at h
 simp[pO]
theorem Lin.remove {ops:Array Oper} {j:Nat}:∀{pre post:List Nat} {listed:Array Bool},Lin ops listed (pre++j::post)->j∈Region.ready .any ops listed->Lin ops (listed.setIfInBounds j true) (pre++post):=by
 intro pre;induction pre with
 |nil=>intro post listed h _;exact h.2
 |cons i pre ih=>
  intro post listed h hj;obtain⟨h1,h2⟩:=h;have pT:i≠j:=fun e=>by
   subst e;have:=h2.unlisted i (by simp);rw[DC (mem_ready.1 h1).1]at this;cases this
  have h3:=ih h2 (ready_mono hj (Ne.symm pT));refine⟨ready_mono h1 pT,?_⟩;rw[Array.setIfInBounds_comm _ _ (Ne.symm pT)];exact h3
structure Good (ops:Array Oper) (kd tg:Nat->Nat) (listed:Array Bool) (L:List Nat):Prop where
 size:listed.size=ops.size
 lin:Lin ops listed L
 cover:∀i,i<ops.size->listed.getD i true=false->i∈L
 down:CY ops listed
 pw:L.Pairwise fun i j=>okP ops (Gk ops.toList []) kd tg i j=true
theorem DD {listed:Array Bool} {i:Nat} (h:listed.getD i true=false):listed.getD i false=false:=by
 rcases eV i listed.size with h'|h'
 ·simp[h']at h⊢;exact h
 ·simp[iW h']at h
theorem Good.remove {ops:Array Oper} {kd tg:Nat->Nat} {listed:Array Bool} {pre post:List Nat} {j:Nat} (g:Good ops kd tg listed (pre++j::post)) (hj:j∈Region.ready .any ops listed):Good ops kd tg (listed.setIfInBounds j true) (pre++post):=by
 refine⟨by simpa using g.size,g.lin.remove hj,fun i hi hl=> ?_,fun k o hk hl e he hb=> ?_,?_⟩
 ·by_cases sA:j=i
  ·subst sA;rw[DC (mem_ready.1 hj).1]at hl;cases hl
  ·rw[getD_set_ne true sA]at hl;have:=g.cover i hi hl;simp only[aV,aL]at this⊢;rcases this with h|h|h
   ·exact .inl h
   ·exact absurd h.symm sA
   ·exact .inr h
 ·by_cases vV:j=k
  ·subst vV;obtain⟨_,o',ho',qG⟩:=mem_ready.1 hj;obtain rfl:o'=o:=bZ.inj (ho'.symm.trans hk);exact getD_set_true (qG e he hb)
  ·rw[getD_set_ne false vV]at hl;exact getD_set_true (g.down k o hk hl e he hb)
 ·have:=g.pw;rw[jI]at this⊢;obtain⟨h1,h2,h3⟩:=this;exact⟨h1,(gG.1 h2).2,fun a ha b hb=>h3 a ha b (by simp[hb])⟩
theorem Good.ahead {ops:Array Oper} {kd tg:Nat->Nat} {listed:Array Bool} {pre post:List Nat} {j:Nat} (g:Good ops kd tg listed (pre++j::post)) (hj:j∈Region.ready .any ops listed):
  ∀i∈pre,bn ops i j=true/\okK kd tg i j=true:=by
 intro i hi;have h:=(jI.1 g.pw).2.2 i hi j (by simp);obtain⟨wM,oj,rM,qG⟩:=mem_ready.1 hj;unfold okP at h;rw[bW]at h;rcases h with h|h
 ·exfalso;have hiu:=DD (g.lin.unlisted i (by simp[hi]));obtain⟨e,he,hb,hf⟩:=CZ g.down hiu (j+1) j (by omega) oj rM h;rw[qG e he hb]at hf;cases hf
 ·exact Bool.and_eq_true_iff.1 h
theorem bq {kd tg:Nat->Nat} {i j:Nat} (h:okK kd tg i j=true):kd i=0\/(kd j=3/\(kd i<=3\/kd i=5))\/((kd i=1\/kd i=5)/\(kd j<=3\/kd j=5))\/(kd i=5/\kd j=6/\tg i≠tg j)\/(kd i=6/\(kd j=5\/kd j=6)/\tg i≠tg j)\/(kd i=5/\(kd j=7\/kd j=8))\/(kd i=6/\kd j=7)\/(kd i=7/\(kd j=0\/kd j=5\/kd j=6\/kd j=7))\/(kd j=0/\(kd i<=3\/kd i=5))\/(kd i=9/\(kd j=0\/kd j=9\/kd j=10)):=by
 simp only[okK,frK,aF,bW,beq_iff_eq,decide_eq_true_eq,bne_iff_ne]at h;rcases h with((((((((h|h)|h)|h)|h)|h)|h)|h)|h)|h
 ·exact .inl h
 ·exact .inr (.inl h)
 ·exact .inr (.inr (.inl h))
 ·exact .inr (.inr (.inr (.inl ⟨h.1.1,h.1.2,h.2⟩)))
 ·exact .inr (.inr (.inr (.inr (.inl ⟨h.1.1,h.1.2,h.2⟩))))
 ·exact .inr (.inr (.inr (.inr (.inr (.inl h)))))
 ·exact .inr (.inr (.inr (.inr (.inr (.inr (.inl h))))))
 ·exact .inr (.inr (.inr (.inr (.inr (.inr (.inr (.inl ⟨h.1,by omega⟩)))))))
 ·exact .inr (.inr (.inr (.inr (.inr (.inr (.inr (.inr (.inl h))))))))
 ·exact .inr (.inr (.inr (.inr (.inr (.inr (.inr (.inr (.inr ⟨h.1,by omega⟩))))))))
theorem Xg {ops:Array Oper} {i j:Nat} {oj:Oper} (hj:ops[j]? =some oj) (h:bn ops i j=true):∀oi,ops[i]? =some oi->oi.apart ops oj=true:=by
 intro oi hi;unfold bn at h;simpa[hi,hj]using h
section
variable {ro:Option Nat} {rm:Nat} {P:Program} {ops:Array Oper} {kd tg ta:Nat->Nat} {B:Nat} {Q:Exit->Act->World->Prop}
theorem VQ (w:World) {g k:Nat} (a b:Array Value) (h:g≠k):(w.setRow g a).setRow k b=(w.setRow k b).setRow g a:=by
 unfold World.setRow;congr 1;apply Array.ext
 ·simp
 ·intro i h1 h2;simp only[Array.getElem_modify];by_cases e1:k=i
  ·subst e1;simp[h]
  ·simp[e1]
theorem VR {Q:Act->World->Prop} {j:Nat} {oj:Oper} (hj:ops[j]? =some oj) (qD:∀(i:Nat) (o:Oper) cs b,ops[i]? =some o->o.op≠ .select cs b) (vV:kd j=4\/kd j=8\/kd j=10):∀(pre post:List Nat) (a:Act) (w:World),
  (∀i∈pre,(kd i=0\/(kd i=5/\kd j=8)\/(kd i=9/\kd j=10))/\∀oi,ops[i]? =some oi->oi.apart ops oj=true)->wpT P ops kd ta Q (pre++j::post) a w->
  OpS P ops oj a w fun u w'=>(kd j=8->∀m,kd m=5->w'.heap[ta m]? =w.heap[ta m]?)/\(kd j=10->KeepM w w')/\wpT P ops kd ta Q (pre++post) (a.put oj.dst u) w':=by
 intro pre;induction pre with
 |nil=>
  intro post a w _ h;obtain⟨o,ho,h⟩:=h;obtain rfl:o=oj:=bZ.inj (ho.symm.trans hj);unfold OpS;rcases h with⟨hn,h⟩|⟨hn,h⟩
  ·rw[if_neg (by simp[hn])];exact⟨fun _ _ _=>rfl,fun _=>KeepM.refl _,h⟩
  ·rw[if_pos hn];rcases h with⟨h0,_⟩|⟨h0,_⟩|⟨h0,_⟩|⟨h0,_⟩|⟨h0,h⟩|⟨h0,_⟩|⟨h0,h⟩|⟨_,_,_,_,h8,_,vL,h⟩
   ·omega
   ·omega
   ·omega
   ·omega
   ·exact h.mono fun v w' ⟨h1,h2⟩=>⟨fun _=>h1,fun e=>by omega,h2⟩
   ·omega
   ·exact h.mono fun v w' ⟨h1,h2⟩=>⟨fun e=>by omega,fun _=>h1,h2⟩
   ·exact h.mono fun v w' h2=>⟨fun e=>absurd e h8,fun e=>absurd e vL,h2⟩
 |cons i pre ih=>
  intro post a w pV h;obtain⟨o,ho,h⟩:=h;obtain⟨hk,qX⟩:=pV i (by simp);have qX:=qX o ho;obtain⟨h1,h2,h3⟩:=Oper.apart_spec qX;have rH:∀i∈pre,(kd i=0\/(kd i=5/\kd j=8)\/(kd i=9/\kd j=10))/\∀oi,ops[i]? =some oi->oi.apart ops oj=true:=fun x hx=>pV x (by simp[hx]);have back:∀v,wpT P ops kd ta Q (pre++j::post) (a.put o.dst v) w->OpS P ops oj a w fun u w'=>(kd j=8->∀m,kd m=5->w'.heap[ta m]? =w.heap[ta m]?)/\(kd j=10->KeepM w w')/\wpT P ops kd ta Q (pre++post) ((a.put oj.dst u).put o.dst v) w':=fun v hv=>by
   have:=(OpS.put (P:=P) qX (fun cs b=>qD j oj cs b hj)).1 (ih post _ w rH hv);exact this.mono fun u w' hh=>by rw[Act.put_comm a v u h2]at hh;exact hh
  have he:∀u,execOp (a.put oj.dst u).eval o=execOp a.eval o:=fun u=>execOp_put o (fun cs b=>qD i o cs b ho) a oj.dst u h3;rcases h with⟨hn,h⟩|⟨hn,h⟩
  ·exact(back _ h).mono fun u w' hh=>⟨hh.1,hh.2.1,o,ho,.inl ⟨by rw[wanted_put o a oj.dst u h3];exact hn,hh.2.2⟩⟩
  ·have hw:∀u,Region.wanted o (yielded ops (a.put oj.dst u).tmps)=true:=fun u=>by rw[wanted_put o a oj.dst u h3];exact hn
   rcases h with⟨h0,v,hv,h⟩|⟨h0,v,ob,hb,hv,h⟩|⟨h0,_⟩|⟨h0,_⟩|⟨h0,_⟩|⟨h0,v,R,hv,hR,hs,h⟩|⟨h0,_⟩|⟨_,_,_,_,_,_,_,_⟩
   ·exact(back _ h).mono fun u w' hh=>⟨hh.1,hh.2.1,o,ho,.inr ⟨hw u,.inl ⟨h0,v,by rw[he u];exact hv,hh.2.2⟩⟩⟩
   ·have h8:kd j=8:=by omega
    exact(back _ h).mono fun u w' hh=>⟨hh.1,hh.2.1,o,ho,.inr ⟨hw u,.inr (.inl ⟨h0,v,ob,by rw[hh.1 h8 i h0];exact hb,by rw[he u];exact hv,hh.2.2⟩)⟩⟩
   ·omega
   ·omega
   ·omega
   ·have vL:kd j=10:=by omega
    exact(back _ h).mono fun u w' hh=>⟨hh.1,hh.2.1,o,ho,.inr ⟨hw u,.inr (.inr (.inr (.inr (.inr (.inl ⟨h0,v,R,by rw[he u];exact hv,hs w w' (hh.2.1 vL) hR,hs,hh.2.2⟩)))))⟩⟩
   ·omega
   ·omega
theorem VS {Q:Act->World->Prop} {j:Nat} {oj:Oper} (hj:ops[j]? =some oj) (qD:∀(i:Nat) (o:Oper) cs b,ops[i]? =some o->o.op≠ .select cs b):∀(pre post:List Nat) (a:Act) (w:World),
  (∀i∈pre,∀oi,ops[i]? =some oi->oi.apart ops oj=true)->Region.wanted oj (yielded ops a.tmps)=false->wpT P ops kd ta Q (pre++j::post) a w->wpT P ops kd ta Q (pre++post) (a.put oj.dst undef) w:=by
 intro pre;induction pre with
 |nil=>
  intro post a w _ hn h;obtain⟨o,ho,h⟩:=h;obtain rfl:o=oj:=bZ.inj (ho.symm.trans hj);rcases h with⟨_,h⟩|⟨sE,_⟩
  ·exact h
  ·rw[hn]at sE;cases sE
 |cons i pre ih=>
  intro post a w qX hn h;obtain⟨o,ho,h⟩:=h;have yN:=qX i (by simp) o ho;obtain⟨h1,h2,h3⟩:=Oper.apart_spec yN;have yO:∀i∈pre,∀oi,ops[i]? =some oi->oi.apart ops oj=true:=fun x hx=>qX x (by simp[hx]);have go:∀v w',wpT P ops kd ta Q (pre++j::post) (a.put o.dst v) w'->wpT P ops kd ta Q (pre++post) ((a.put oj.dst undef).put o.dst v) w':=fun v w' hh=>by
   have:=ih post (a.put o.dst v) w' yO (by rw[wanted_put oj a o.dst v h1];exact hn) hh
   rwa[Act.put_comm a v undef h2]at this
  refine⟨o,ho,?_⟩;have he:execOp (a.put oj.dst undef).eval o=execOp a.eval o:=execOp_put o (fun cs b=>qD i o cs b ho) a oj.dst undef h3;rw[wanted_put o a oj.dst undef h3,he];rcases h with⟨hn,h⟩|⟨hn,h⟩
  ·exact .inl ⟨hn,go _ _ h⟩
  ·refine .inr ⟨hn,?_⟩;rcases h with⟨h0,v,hv,h⟩|⟨h0,v,ob,hb,hv,h⟩|⟨h0,ob,cs,hb,hv,h⟩|⟨h0,v,R,hv,hR,hs,h⟩|⟨h0,h⟩|⟨h0,v,R,hv,hR,hs,h⟩|⟨h0,h⟩|⟨h0,h5,h6,h7,h8,h9,vL,h⟩
   ·exact .inl ⟨h0,v,hv,go _ _ h⟩
   ·exact .inr (.inl ⟨h0,v,ob,hb,hv,go _ _ h⟩)
   ·exact .inr (.inr (.inl ⟨h0,ob,cs,hb,hv,go _ _ h⟩))
   ·exact .inr (.inr (.inr (.inl ⟨h0,v,R,hv,hR,hs,go _ _ h⟩)))
   ·refine .inr (.inr (.inr (.inr (.inl ⟨h0,?_⟩))));have:=h.mono fun v w' (hh:_/\_)=>And.intro hh.1 (go v w' hh.2);unfold Stp at this⊢;rw[he];exact this
   ·exact .inr (.inr (.inr (.inr (.inr (.inl ⟨h0,v,R,hv,hR,hs,go _ _ h⟩)))))
   ·refine .inr (.inr (.inr (.inr (.inr (.inr (.inl ⟨h0,?_⟩))))));have:=h.mono fun v w' (hh:_/\_)=>And.intro hh.1 (go v w' hh.2);unfold Stp at this⊢;rw[he];exact this
   ·refine .inr (.inr (.inr (.inr (.inr (.inr (.inr ⟨h0,h5,h6,h7,h8,h9,vL,?_⟩))))));have:=h.mono fun v w' hh=>go v w' hh;unfold Stp at this⊢;rw[he];exact this
structure DF (kd ta:Nat->Nat) (kj tj:Nat) (run:World->Result Next) (u:Value) (R:World->Prop) (E:World->World):Prop where
 run:∀w,R w->(run w= .ok (.value u) (E w)\/(run w= .ok .skip (E w)/\u=undef))
 id:kj≠6->∀w,E w=w
 all:kj=0->∀w,R w
 rs:∀w m c,kd m=6->(kj=7\/ta m≠tj)->R (w.setRow (ta m) c)->R w
 es:∀w t c,t≠tj->E (w.setRow t c)=(E w).setRow t c
 ot:∀w t,t≠tj->(E w).heap[t]? =w.heap[t]?
 ef:∀w,E w=w\/(kj=6/\∃c,E w=w.setRow tj c)
theorem VT {Q:Act->World->Prop} {j:Nat} {oj:Oper} (hj:ops[j]? =some oj) (qD:∀(i:Nat) (o:Oper) cs b,ops[i]? =some o->o.op≠ .select cs b) (vV:kd j=0\/kd j=5\/kd j=6\/kd j=7):∀(pre post:List Nat) (a:Act) (w:World),
  (∀i∈pre,(kd i=0\/(kd i=5/\(kd j=6->ta i≠ta j))\/(kd i=6/\kd j≠0/\(kd j=7\/ta i≠ta j))\/kd i=7\/(kd i=9/\kd j=0))/\∀oi,ops[i]? =some oi->oi.apart ops oj=true)->Region.wanted oj (yielded ops a.tmps)=true->wpT P ops kd ta Q (pre++j::post) a w->
  ∃u R E,DF kd ta (kd j) (ta j) (fun w=>(execOp a.eval oj).run P w) u R E/\R w/\wpT P ops kd ta Q (pre++post) (a.put oj.dst u) (E w):=by
 intro pre;induction pre with
 |nil=>
  intro post a w _ hn h;obtain⟨o,ho,h⟩:=h;obtain rfl:o=oj:=bZ.inj (ho.symm.trans hj);rcases h with⟨sE,_⟩|⟨_,h⟩
  ·rw[hn]at sE;cases sE
  ·rcases h with⟨h0,v,hv,h⟩|⟨h0,v,ob,hb,hv,h⟩|⟨h0,ob,cs,hb,hv,h⟩|⟨h0,v,R,hv,hR,hs,h⟩|⟨h0,_⟩|⟨h0,_⟩|⟨h0,_⟩|⟨h0,h5,h6,h7,_⟩
   ·exact⟨v,fun _=>True,fun w=>w,⟨fun w _=> .inl (hv w),fun _ _=>rfl,fun _ _=>trivial,fun _ _ _ _ _ _=>trivial,fun _ _ _ _=>rfl,fun _ _ _=>rfl,fun _=> .inl rfl⟩,trivial,h⟩
   ·exact⟨v,fun w=>w.heap[ta j]? =some ob,fun w=>w,⟨fun w hw=> .inl (hv w hw),fun _ _=>rfl,fun h=>by omega,fun w m c _ pT hw=>by rw[setRow_other _ _ _ _ (Ne.symm (pT.resolve_left (by omega)))]at hw;exact hw,fun _ _ _ _=>rfl,fun _ _ _=>rfl,fun _=> .inl rfl⟩,hb,h⟩
   ·exact⟨undef,fun w=>w.heap[ta j]? =some ob,fun w=>w.setRow (ta j) cs,⟨fun w hw=> .inr ⟨hv w hw,rfl⟩,fun h=>absurd h0 h,fun h=>by omega,fun w m c _ pT hw=>by rw[setRow_other _ _ _ _ (Ne.symm (pT.resolve_left (by omega)))]at hw;exact hw,fun w t c pT=>VQ w c cs pT,fun w t pT=>setRow_other _ _ _ _ pT,fun _=> .inr ⟨h0,cs,rfl⟩⟩,hb,h⟩
   ·exact⟨v,R,fun w=>w,⟨fun w hw=> .inl (hv w hw),fun _ _=>rfl,fun h=>by omega,fun w m c hm _ hw=>(hs m c w hm).1 hw,fun _ _ _ _=>rfl,fun _ _ _=>rfl,fun _=> .inl rfl⟩,hR,h⟩
   ·omega
   ·omega
   ·omega
   ·omega
 |cons i pre ih=>
  intro post a w pV hn h;obtain⟨o,ho,h⟩:=h;obtain⟨hk,qX⟩:=pV i (by simp);have qX:=qX o ho;obtain⟨h1,h2,h3⟩:=Oper.apart_spec qX;have rH:=fun x (hx:x∈pre)=>pV x (by simp[hx]);have hw:∀u,Region.wanted o (yielded ops (a.put oj.dst u).tmps)=Region.wanted o (yielded ops a.tmps):=fun u=>wanted_put o a oj.dst u h3;have he:∀u,execOp (a.put oj.dst u).eval o=execOp a.eval o:=fun u=>execOp_put o (fun cs b=>qD i o cs b ho) a oj.dst u h3;have back:∀v w',wpT P ops kd ta Q (pre++j::post) (a.put o.dst v) w'->∃u R E,DF kd ta (kd j) (ta j) (fun w=>(execOp a.eval oj).run P w) u R E/\R w'/\wpT P ops kd ta Q (pre++post) ((a.put oj.dst u).put o.dst v) (E w'):=fun v w' hh=>by
   obtain⟨u,R,E,hA,hR,sE⟩:=ih post _ w' rH (by rw[wanted_put oj a o.dst v h1];exact hn) hh;rw[execOp_put oj (fun cs b=>qD j oj cs b hj) a o.dst v h1]at hA;rw[Act.put_comm a v u h2]at sE;exact⟨u,R,E,hA,hR,sE⟩
  rcases h with⟨xZ,h⟩|⟨xZ,h⟩
  ·obtain⟨u,R,E,hA,hR,hh⟩:=back _ _ h;exact⟨u,R,E,hA,hR,o,ho,.inl ⟨by rw[hw];exact xZ,hh⟩⟩
  ·rcases h with⟨h0,v,hv,h⟩|⟨h0,v,ob,hb,hv,h⟩|⟨h0,ob,cs,hb,hv,h⟩|⟨h0,v,Ri,hv,hRi,hs,h⟩|⟨h0,_⟩|⟨h0,v,Ri,hv,hRi,hs,h⟩|⟨h0,_⟩|⟨h0,h5,h6,h7,h8,h9,vL,_⟩
   ·obtain⟨u,R,E,hA,hR,hh⟩:=back _ _ h;exact⟨u,R,E,hA,hR,o,ho,.inr ⟨by rw[hw];exact xZ,.inl ⟨h0,v,by rw[he u];exact hv,hh⟩⟩⟩
   ·obtain⟨u,R,E,hA,hR,hh⟩:=back _ _ h;have rI:(E w).heap[ta i]? =some ob:=by
     by_cases h6:kd j=6
     ·have pT:ta i≠ta j:=by
       rcases hk with hk|⟨_,hk⟩|⟨hk,_⟩|hk|⟨hk,_⟩
       ·omega
       ·exact hk h6
       ·omega
       ·omega
       ·omega
      rw[hA.ot w _ pT];exact hb
     ·rw[hA.id h6];exact hb
    exact⟨u,R,E,hA,hR,o,ho,.inr ⟨by rw[hw];exact xZ,.inr (.inl ⟨h0,v,ob,rI,by rw[he u];exact hv,hh⟩)⟩⟩
   ·obtain⟨u,R,E,hA,hR,hh⟩:=back _ _ h;have sV:kd j=7\/ta i≠ta j:=by
     rcases hk with hk|⟨hk,_⟩|⟨_,_,hk⟩|hk|⟨hk,_⟩
     ·omega
     ·omega
     ·exact hk
     ·omega
     ·omega
    refine⟨u,R,E,hA,hA.rs w i cs h0 sV hR,o,ho,.inr ⟨by rw[hw];exact xZ,.inr (.inr (.inl ⟨h0,ob,cs,?_,by rw[he u];exact hv,?_⟩))⟩⟩
    ·rcases sV with h7|pT
     ·rw[hA.id (by omega)];exact hb
     ·rw[hA.ot w _ pT];exact hb
    ·rcases sV with h7|pT
     ·rw[hA.id (by omega)]at hh⊢;exact hh
     ·rw[<-hA.es w _ cs pT];exact hh
   ·obtain⟨u,R,E,hA,hR,hh⟩:=back _ _ h;have a4d:Ri (E w):=by
     rcases hA.ef w with e|⟨h6,c,e⟩
     ·rw[e];exact hRi
     ·rw[e];exact(hs j c w h6).2 hRi
    exact⟨u,R,E,hA,hR,o,ho,.inr ⟨by rw[hw];exact xZ,.inr (.inr (.inr (.inl ⟨h0,v,Ri,by rw[he u];exact hv,a4d,hs,hh⟩)))⟩⟩
   ·omega
   ·obtain⟨u,R,E,hA,hR,hh⟩:=back _ _ h;exact⟨u,R,E,hA,hR,o,ho,.inr ⟨by rw[hw];exact xZ,.inr (.inr (.inr (.inr (.inr (.inl ⟨h0,v,Ri,by rw[he u];exact hv,by rw[hA.id (by omega)];exact hRi,hs,hh⟩)))))⟩⟩
   ·omega
   ·omega
theorem VU {Q:Act->World->Prop} {j:Nat} {oj:Oper} (hj:ops[j]? =some oj) (qD:∀(i:Nat) (o:Oper) cs b,ops[i]? =some o->o.op≠ .select cs b) (vV:kd j=9):∀(pre post:List Nat) (a:Act) (w:World),
  (∀i∈pre,(kd i=0\/kd i=9)/\∀oi,ops[i]? =some oi->oi.apart ops oj=true)->Region.wanted oj (yielded ops a.tmps)=true->wpT P ops kd ta Q (pre++j::post) a w->
  ∃u,(execOp a.eval oj).run P w= .ok (.value u) w/\wpT P ops kd ta Q (pre++post) (a.put oj.dst u) w:=by
 intro pre;induction pre with
 |nil=>
  intro post a w _ hn h;obtain⟨o,ho,h⟩:=h;obtain rfl:o=oj:=bZ.inj (ho.symm.trans hj);rcases h with⟨sE,_⟩|⟨_,h⟩
  ·rw[hn]at sE;cases sE
  ·rcases h with⟨h0,_⟩|⟨h0,_⟩|⟨h0,_⟩|⟨h0,_⟩|⟨h0,_⟩|⟨h0,v,R,hv,hR,hs,h⟩|⟨h0,_⟩|⟨_,_,_,_,_,h9,_⟩
   ·omega
   ·omega
   ·omega
   ·omega
   ·omega
   ·exact⟨v,hv w hR,h⟩
   ·omega
   ·omega
 |cons i pre ih=>
  intro post a w pV hn h;obtain⟨o,ho,h⟩:=h;obtain⟨hk,qX⟩:=pV i (by simp);have qX:=qX o ho;obtain⟨h1,h2,h3⟩:=Oper.apart_spec qX;have rH:=fun x (hx:x∈pre)=>pV x (by simp[hx]);have hw:∀u,Region.wanted o (yielded ops (a.put oj.dst u).tmps)=Region.wanted o (yielded ops a.tmps):=fun u=>wanted_put o a oj.dst u h3;have he:∀u,execOp (a.put oj.dst u).eval o=execOp a.eval o:=fun u=>execOp_put o (fun cs b=>qD i o cs b ho) a oj.dst u h3;have back:∀v,wpT P ops kd ta Q (pre++j::post) (a.put o.dst v) w->∃u,(execOp a.eval oj).run P w= .ok (.value u) w/\wpT P ops kd ta Q (pre++post) ((a.put oj.dst u).put o.dst v) w:=fun v hh=>by
   obtain⟨u,hA,sE⟩:=ih post _ w rH (by rw[wanted_put oj a o.dst v h1];exact hn) hh;rw[execOp_put oj (fun cs b=>qD j oj cs b hj) a o.dst v h1]at hA;rw[Act.put_comm a v u h2]at sE;exact⟨u,hA,sE⟩
  rcases h with⟨xZ,h⟩|⟨xZ,h⟩
  ·obtain⟨u,hA,hh⟩:=back _ h;exact⟨u,hA,o,ho,.inl ⟨by rw[hw];exact xZ,hh⟩⟩
  ·rcases h with⟨h0,v,hv,h⟩|⟨h0,_⟩|⟨h0,_⟩|⟨h0,_⟩|⟨h0,_⟩|⟨h0,v,R,hv,hR,hs,h⟩|⟨h0,_⟩|⟨h0,_,_,_,_,h9,_⟩
   ·obtain⟨u,hA,hh⟩:=back _ h;exact⟨u,hA,o,ho,.inr ⟨by rw[hw];exact xZ,.inl ⟨h0,v,by rw[he u];exact hv,hh⟩⟩⟩
   ·omega
   ·omega
   ·omega
   ·omega
   ·obtain⟨u,hA,hh⟩:=back _ h;exact⟨u,hA,o,ho,.inr ⟨by rw[hw];exact xZ,.inr (.inr (.inr (.inr (.inr (.inl ⟨h0,v,R,by rw[he u];exact hv,hR,hs,hh⟩)))))⟩⟩
   ·omega
   ·omega
theorem VV {Q:Act->World->Prop} {T:List Nat}:∀(F bs:List Nat) (a:Act) (w:World),(∀i∈F,kd i=0\/kd i=5)->wpF P ops kd ta B (wpT P ops kd ta Q T) F bs a w->wpT P ops kd ta Q (F++T) a w:=by
 intro F;induction F with
 |nil=>intro bs a w _ h;exact h w (Ext.refl _)
 |cons i F ih=>
  intro bs a w hk h;obtain⟨o,ho,h⟩:=h;have h0:=hk i (by simp);have qO:∀i∈F,kd i=0\/kd i=5:=fun x hx=>hk x (by simp[hx]);refine⟨o,ho,?_⟩;rcases h with⟨hn,h⟩|⟨hn,h⟩
  ·exact .inl ⟨hn,ih _ _ _ qO h⟩
  ·refine .inr ⟨hn,?_⟩;rcases h with⟨h0',v,hv,h⟩|⟨h0',_⟩|⟨h0',_⟩|⟨h0',_⟩|⟨h0',v,ob,hb,hv,h⟩
   ·exact .inl ⟨h0',v,hv,ih _ _ _ qO h⟩
   ·omega
   ·omega
   ·omega
   ·exact .inr (.inl ⟨h0',v,ob,hb,hv,ih _ _ _ qO h⟩)
theorem oo {j:Nat} {L:List Nat} (h:j∈L):∃pre post,L=pre++j::post:=List.append_of_mem h
theorem DG {listed:Array Bool} {i:Nat} {L:List Nat} (h:Lin ops listed (i::L)):Region.ready .any ops listed≠[]:=fun e=>by
 have:=h.1;rw[e]at this;cases this
theorem DI (uY:∀i j,(kd i=5\/kd i=6)->(kd j=5\/kd j=6)->tg i≠tg j->ta i≠ta j) (qD:∀(i:Nat) (o:Oper) cs b,ops[i]? =some o->o.op≠ .select cs b):∀(n:Nat) (T:List Nat) (listed:Array Bool) (a:Act) (w:World),T.length=n->Good ops kd tg listed T->(∀i∈T,kd i=0\/kd i=4\/kd i=5\/kd i=6\/kd i=7\/kd i=8\/kd i=9\/kd i=10)->
  wpT P ops kd ta (Q .normal) T a w->wpAnyIn (Fr ro) rm P .any ops Q n listed a w:=by
 intro n;induction n with
 |zero=>
  intro T listed a w hn g hk h;obtain rfl:T=[]:=aZ hn;refine⟨?_,h⟩;cases hr:Region.ready .any ops listed with
  |nil=>rfl
  |cons x xs=>
   exfalso;have hx:x∈Region.ready .any ops listed:=by rw[hr];simp
   obtain⟨wM,o,ho,_⟩:=mem_ready.1 hx;have:=g.cover x (dP.1 ho).1 wM;cases this
 |succ n ih=>
  intro T listed a w hn g hk h;refine⟨fun hr=> ?_,fun j hj=> ?_⟩
  ·cases T with
   |nil=>simp at hn
   |cons i L=>exact absurd hr (DG g.lin)
  ·obtain⟨wM,oj,rM,_⟩:=mem_ready.1 hj;obtain⟨pre,post,rfl⟩:=oo (g.cover j (dP.1 rM).1 wM);have hah:=g.ahead hj;have qX:∀i∈pre,∀oi,ops[i]? =some oi->oi.apart ops oj=true:=fun i hi=>Xg rM (hah i hi).1;have vV:=hk j (by simp);have next:∀u w',wpT P ops kd ta (Q .normal) (pre++post) (a.put oj.dst u) w'->wpAnyIn (Fr ro) rm P .any ops Q n (listed.setIfInBounds j true) (a.put oj.dst u) w':=fun u w' hh=>ih (pre++post) _ _ _ (by simp at hn⊢;omega) (g.remove hj) (fun i hi=>hk i (by simp at hi⊢;rcases hi with h|h<;>simp[h])) hh;by_cases h4:kd j=4\/kd j=8\/kd j=10
   ·have pV:∀i∈pre,(kd i=0\/(kd i=5/\kd j=8)\/(kd i=9/\kd j=10))/\∀oi,ops[i]? =some oi->oi.apart ops oj=true:=fun i hi=>by
     have h2:=bq (hah i hi).2;have zY:=hk i (by simp[hi]);exact⟨by omega,qX i hi⟩
    exact(VR rM qD h4 pre post a w pV h).wpOpIn rM fun u w' hh=>next u w' hh.2.2
   ·by_cases pX:Region.wanted oj (yielded ops a.tmps)=true
    ·by_cases h9:kd j=9
     ·have pV:∀i∈pre,(kd i=0\/kd i=9)/\∀oi,ops[i]? =some oi->oi.apart ops oj=true:=fun i hi=>by
       have h2:=bq (hah i hi).2;have zY:=hk i (by simp[hi]);exact⟨by omega,qX i hi⟩
      obtain⟨u,hA,hh⟩:=VU rM qD h9 pre post a w pV pX h;have hS:OpS P ops oj a w fun u' w'=>u'=u/\w'=w:=by
       unfold OpS;rw[if_pos pX];unfold Stp;rw[hA];exact⟨rfl,rfl⟩
      refine hS.wpOpIn rM ?_;rintro u' w' ⟨rfl,rfl⟩;exact next _ _ hh
     have pV:∀i∈pre,(kd i=0\/(kd i=5/\(kd j=6->ta i≠ta j))\/(kd i=6/\kd j≠0/\(kd j=7\/ta i≠ta j))\/kd i=7\/(kd i=9/\kd j=0))/\∀oi,ops[i]? =some oi->oi.apart ops oj=true:=fun i hi=>by
      refine⟨?_,qX i hi⟩;have zY:=hk i (by simp[hi]);rcases bq (hah i hi).2 with h|⟨h,_⟩|⟨h,h'⟩|⟨h,h',pT⟩|⟨h,h',pT⟩|⟨h,h'⟩|⟨h,h'⟩|⟨h,h'⟩|⟨h,h'⟩|⟨h,h'⟩
      ·exact .inl h
      ·omega
      ·exact .inr (.inl ⟨by omega,fun e=>by omega⟩)
      ·exact .inr (.inl ⟨h,fun _=>uY i j (.inl h) (.inr h') pT⟩)
      ·exact .inr (.inr (.inl ⟨h,by omega,.inr (uY i j (.inr h) h' pT)⟩))
      ·exact .inr (.inl ⟨h,fun e=>by omega⟩)
      ·exact .inr (.inr (.inl ⟨h,by omega,.inl h'⟩))
      ·exact .inr (.inr (.inr (.inl h)))
      ·by_cases h0:kd i=0
       ·exact .inl h0
       ·exact .inr (.inl ⟨by omega,fun e=>by omega⟩)
      ·exact .inr (.inr (.inr (.inr ⟨h,by omega⟩)))
     obtain⟨u,R,E,hA,hR,hh⟩:=VT rM qD (by omega) pre post a w pV pX h;have hS:OpS P ops oj a w fun u' w'=>u'=u/\w'=E w:=by
      unfold OpS;rw[if_pos pX];unfold Stp;rcases hA.run w hR with e|⟨e,e'⟩
      ·rw[show(execOp a.eval oj).run P w=_ from e];exact⟨rfl,rfl⟩
      ·rw[show(execOp a.eval oj).run P w=_ from e];exact⟨e'.symm,rfl⟩
     refine hS.wpOpIn rM ?_;rintro u' w' ⟨rfl,rfl⟩;exact next _ _ hh
    ·have hS:OpS P ops oj a w fun u w'=>u=undef/\w'=w:=by
      unfold OpS;rw[if_neg pX];exact⟨rfl,rfl⟩
     refine hS.wpOpIn rM ?_;rintro u w' ⟨rfl,rfl⟩;exact next _ _ (VS rM qD pre post a _ qX (by simpa using pX) h)
theorem DJ {T:Act->World->Prop} {j:Nat} {oj:Oper} (rM:ops[j]? =some oj) (qD:∀(i:Nat) (o:Oper) cs b,ops[i]? =some o->o.op≠ .select cs b):∀(pre post bs:List Nat) (a:Act) (w:World),(∀i∈pre,∀oi,ops[i]? =some oi->oi.apart ops oj=true)->Region.wanted oj (yielded ops a.tmps)=false->wpF P ops kd ta B T (pre++j::post) bs a w->wpF P ops kd ta B T (pre++post) bs (a.put oj.dst undef) w:=by
 intro pre;induction pre with
 |nil=>
  intro post bs a w _ hn h;obtain⟨o,ho,h⟩:=h;obtain rfl:o=oj:=bZ.inj (ho.symm.trans rM);rcases h with⟨_,h⟩|⟨sE,_⟩
  ·exact h
  ·rw[hn]at sE;cases sE
 |cons i pre ih2=>
  intro post bs a w qX hn h;obtain⟨o,ho,h⟩:=h;have yN:=qX i (by simp) o ho;obtain⟨h1,h2,h3⟩:=Oper.apart_spec yN;have yO:∀i∈pre,∀oi,ops[i]? =some oi->oi.apart ops oj=true:=fun x hx=>qX x (by simp[hx]);have go:∀v bs' W',wpF P ops kd ta B T (pre++j::post) bs' (a.put o.dst v) W'->wpF P ops kd ta B T (pre++post) bs' ((a.put oj.dst undef).put o.dst v) W':=fun v bs' W' hh=>by
   have:=ih2 post bs' (a.put o.dst v) W' yO (by rw[wanted_put oj a o.dst v h1];exact hn) hh
   rwa[Act.put_comm a v undef h2]at this
  refine⟨o,ho,?_⟩;have he:execOp (a.put oj.dst undef).eval o=execOp a.eval o:=execOp_put o (fun cs b=>qD i o cs b ho) a oj.dst undef h3;rw[wanted_put o a oj.dst undef h3,he];rcases h with⟨hn,h⟩|⟨hn,h⟩
  ·exact .inl ⟨hn,go _ _ _ h⟩
  ·refine .inr ⟨hn,?_⟩;rcases h with⟨h0,v,hv,h⟩|⟨h0,v,hv,h⟩|⟨h0,V,hc,h⟩|⟨h0,mk',ob',hr,h⟩|⟨h0,v,ob,hb,hv,h⟩
   ·exact .inl ⟨h0,v,hv,go _ _ _ h⟩
   ·exact .inr (.inl ⟨h0,v,hv,go _ _ _ h⟩)
   ·exact .inr (.inr (.inl ⟨h0,V,fun w hw=>by have:=hc w hw;unfold Stp at this⊢;rw[he];exact this,fun v cs W2 uX hV qI=>go _ _ _ (h v cs W2 uX hV qI)⟩))
   ·exact .inr (.inr (.inr (.inl ⟨h0,mk',ob',hr,fun b W2 uX sC rY hB=>go _ _ _ (h b W2 uX sC rY hB)⟩)))
   ·exact .inr (.inr (.inr (.inr ⟨h0,v,ob,hb,hv,go _ _ _ h⟩)))
theorem VW (uY:∀i j,(kd i=5\/kd i=6)->(kd j=5\/kd j=6)->tg i≠tg j->ta i≠ta j) (qD:∀(i:Nat) (o:Oper) cs b,ops[i]? =some o->o.op≠ .select cs b):∀(n:Nat) (F T bs:List Nat) (listed:Array Bool) (a:Act) (w:World),F.length+T.length=n->Good ops kd tg listed (F++T)->(∀i∈F,kd i<=3\/kd i=5)->(∀i∈T,kd i=0\/kd i=4\/kd i=5\/kd i=6\/kd i=7\/kd i=8\/kd i=9\/kd i=10)->(∀i∈F,∀j∈T,((Gk ops.toList []).getD j 0).testBit i=true\/kd i=0\/kd i=5)->
  B<=w.heap.size->(∀b∈bs,b<w.heap.size)->wpF P ops kd ta B (wpT P ops kd ta (Q .normal) T) F bs a w->wpAnyIn (Fr ro) rm P .any ops Q n listed a w:=by
 intro n;induction n with
 |zero=>
  intro F T bs listed a w hn g hkF hkT hFT hB qY h;have hF:F=[]:=aZ (by omega);have hT:T=[]:=aZ (by omega);subst hF;subst hT;exact DI uY qD 0 [] listed a w rfl g (by simp) (h w (Ext.refl _))
 |succ n ih=>
  intro F T bs listed a w hn g hkF hkT hFT hB qY h;refine⟨fun hr=> ?_,fun j hj=> ?_⟩
  ·cases hFT:F++T with
   |nil=>simp at hFT;obtain⟨h1,h2⟩:=hFT;subst h1;subst h2;simp at hn
   |cons i L=>exact absurd hr (DG (by rw[<-hFT];exact g.lin))
  ·obtain⟨wM,oj,rM,_⟩:=mem_ready.1 hj;have qS:=g.cover j (dP.1 rM).1 wM;rcases aV.1 qS with hmF|hmT
   ·obtain⟨pre,post,rfl⟩:=oo hmF;rw[bG,List.cons_append]at g;have hah:=g.ahead hj;have vV:=hkF j (by simp);have xA:=g.remove hj;rw[<-bG]at xA;have yR:∀i∈pre++post,kd i<=3\/kd i=5:=fun i hi=>hkF i (by simp at hi⊢;rcases hi with h|h<;>simp[h]);have yS:∀i∈pre++post,∀j∈T,((Gk ops.toList []).getD j 0).testBit i=true\/kd i=0\/kd i=5:=fun i hi=>hFT i (by simp at hi⊢;rcases hi with h|h<;>simp[h]);have pR:(pre++post).length+T.length=n:=by simp at hn⊢;omega
    by_cases h3:kd j=3
    ·--a new block
     have qX:∀i∈pre,∀oi,ops[i]? =some oi->oi.apart ops oj=true:=fun i hi=>Xg rM (hah i hi).1;by_cases pX:Region.wanted oj (yielded ops a.tmps)=true
     ·obtain⟨mk,ob,hr⟩:=VG rM qD h3 pre post bs a w qX hB qY pX h;have hS:OpS P ops oj a w fun u w'=>u=mk w.heap.size/\w'=w.alloc ob:=by
       unfold OpS;rw[if_pos pX];unfold Stp;rw[hr w];exact⟨rfl,rfl⟩
      refine hS.wpOpIn rM ?_;rintro u w' ⟨rfl,rfl⟩;have rP:(w.alloc ob).heap.size=w.heap.size+1:=by show(w.heap.push ob).size=_;simp
      refine ih (pre++post) T (w.heap.size::bs) _ _ _ pR xA yR hkT yS (by omega) ?_ (VL rM qD h3 mk ob w.heap.size pre post bs a w _ qX hr pX (Ext.alloc w ob) (by show(w.heap.push ob)[w.heap.size]? =_;simp) (fun hm=>lE _ (qY _ hm)) hB h);intro b hb;simp only[aL]at hb;rcases hb with rfl|hb
      ·omega
      ·have:=qY b hb;omega
     ·--not wanted: 'undef'
      have sW:Region.wanted oj (yielded ops a.tmps)=false:=by simpa using pX
      have hS:OpS P ops oj a w fun u w'=>u=undef/\w'=w:=by
       unfold OpS;rw[if_neg pX];exact⟨rfl,rfl⟩
      refine hS.wpOpIn rM ?_;rintro u w' ⟨rfl,rfl⟩;refine ih (pre++post) T bs _ _ _ pR xA yR hkT yS hB qY ?_;exact DJ rM qD pre post bs a _ qX sW h
    ·by_cases hj0:kd j=0/\Region.wanted oj (yielded ops a.tmps)=true
     ·obtain⟨hj0,pX⟩:=hj0;have qX:∀i∈pre,∀oi,ops[i]? =some oi->oi.apart ops oj=true:=fun i hi=>Xg rM (hah i hi).1;obtain⟨v,hv⟩:=VH rM qD hj0 pre post bs a w qX hB qY pX h;have hS:OpS P ops oj a w fun u w'=>u=v/\w'=w:=by
       unfold OpS;rw[if_pos pX];unfold Stp;rw[hv w];exact⟨rfl,rfl⟩
      refine hS.wpOpIn rM ?_;rintro u w' ⟨rfl,rfl⟩;exact ih (pre++post) T bs _ _ _ pR xA yR hkT yS hB qY (VI rM qD hj0 pre post bs a _ qX hv pX h)
     by_cases pX:Region.wanted oj (yielded ops a.tmps)=false
     ·have qX:∀i∈pre,∀oi,ops[i]? =some oi->oi.apart ops oj=true:=fun i hi=>Xg rM (hah i hi).1;have hS:OpS P ops oj a w fun u w'=>u=undef/\w'=w:=by
       unfold OpS;rw[if_neg (by simp[pX])];exact⟨rfl,rfl⟩
      refine hS.wpOpIn rM ?_;rintro u w' ⟨rfl,rfl⟩;exact ih (pre++post) T bs _ _ _ pR xA yR hkT yS hB qY (DJ rM qD pre post bs a _ qX pX h)
     have hj0:kd j≠0:=fun e=>hj0 ⟨e,by simpa using pX⟩;have pV:∀i∈pre,(kd i<=1\/kd i=5)/\∀oi,ops[i]? =some oi->oi.apart ops oj=true:=fun i hi=>by
      obtain⟨h1,h2⟩:=hah i hi;have h2:=bq h2;have zY:=hkF i (by simp[hi]);exact⟨by omega,Xg rM h1⟩
     refine(VF rM qD (by omega) pre post bs a w hB qY pV h).wpOpIn rM fun u w' ⟨hx,cs,qI,hh⟩=>ih (pre++post) T (cs++bs) _ _ _ pR xA yR hkT yS (aS hB hx.size) (fun b hb=> ?_) hh;rcases aV.1 hb with hb|hb
     ·exact(qI b hb).2
     ·exact bK (qY b hb) hx.size
   ·obtain⟨pre,post,rfl⟩:=oo hmT;rw[<-bG]at g;have hF0:∀i∈F,kd i=0\/kd i=5:=fun i hi=>by
     rcases hFT i hi j (by simp)with hb|h0
     ·exfalso;obtain⟨_,oj',a4e,qG⟩:=mem_ready.1 hj;obtain⟨e,he,hbe,hf⟩:=CZ g.down (DD (g.lin.unlisted i (by simp[hi]))) (j+1) j (by omega) oj' a4e hb;rw[qG e he hbe]at hf;cases hf
     ·exact h0
    have:=VV F bs a w hF0 h;exact((DI (P:=P) (Q:=Q) (ro:=ro) (rm:=rm) uY qD (n+1) (F++(pre++j::post)) listed a w (by simp at hn⊢;omega) (by rw[<-bG];exact g) (fun i hi=>by
     rcases aV.1 hi with h|h
     ·have:=hF0 i h;omega
     ·exact hkT i h) this).2 j hj)
def bu (ops:Array Oper) (A:List Nat) (kd tg:Nat->Nat) (F T:List Nat):Bool:=
 Region.noSelect ops&&Xf ops (kD ops.size false) (F++T)&&okL ops A kd tg (F++T)&&(F.all fun i=>frK (kd i))&&(T.all fun i=>kd i==0||kd i==4||kd i==5||kd i==6||kd i==7||kd i==8||kd i==9||kd i==10)&&
  (F.all fun i=>kd i==0||kd i==5||T.all fun j=>(A.getD j 0).testBit i)&&F.length+T.length==ops.size
theorem VX {A:List Nat}:∀{L:List Nat},okL ops A kd tg L=true->L.Pairwise fun i j=>okP ops A kd tg i j=true:=by
 intro L;induction L with
 |nil=>intro _;exact iF
 |cons i L ih=>
  intro h;simp only[okL,aF,dJ]at h;exact gG.2 ⟨h.1,ih h.2⟩
theorem VY {id:Nat} {F T:List Nat} {a:Act} {w:World} (hm:P.follows .mixedOrders=true) (hB:bu ops (Gk ops.toList []) kd tg F T=true) (uY:∀i j,(kd i=5\/kd i=6)->(kd j=5\/kd j=6)->tg i≠tg j->ta i≠ta j)
  (h:wpF P ops kd ta w.heap.size (wpT P ops kd ta (Q .normal) T) F [] a {w with drawn:=w.drawn+1}):(Code.region id ops true).wpIn (Fr ro) rm P Q a w:=by
 simp only[bu,frK,aF,dJ,bW,beq_iff_eq,decide_eq_true_eq]at hB;obtain⟨⟨⟨⟨⟨⟨h1,h2⟩,h3⟩,h4⟩,h5⟩,h6⟩,pR⟩:=hB;obtain⟨hl,hc⟩:=VP ops (F++T) _ (by simp) h2;refine wpIn_region_any hm ?_;refine VW uY (Region.noSelect_spec h1) ops.size F T [] _ a _ pR ⟨by simp,hl,hc,fun k o hk hl=> ?_,VX h3⟩ h4 (fun i hi=>by have:=h5 i hi;omega) (fun i hi j hj=> ?_) (aN _) (by simp) h
 ·have:(kD ops.size false).getD k false=false:=by
   rw[dD,Array.getElem?_replicate];split<;>rfl
  rw[this]at hl;cases hl
 ·rcases h6 i hi with(h|h)|h
  ·exact .inr (.inl h)
  ·exact .inr (.inr h)
  ·exact .inl (h j hj)
theorem VZ:∀(T:List Nat) (a:Act) (w:World),wpT P ops kd ta (Q .normal) T a w->wpOpsIn (Fr ro) rm P ops Q T a w:=by
 intro T;induction T with
 |nil=>intro a w h;exact h
 |cons i T ih=>
  intro a w h;obtain⟨o,ho,h⟩:=h;rw[wpOpsIn_cons];have hS:OpS P ops o a w fun u w'=>wpT P ops kd ta (Q .normal) T (a.put o.dst u) w':=by
   unfold OpS;rcases h with⟨hn,h⟩|⟨hn,h⟩
   ·rw[if_neg (by simp[hn])];exact h
   ·rw[if_pos hn];rcases h with⟨h0,v,hv,h⟩|⟨h0,v,ob,hb,hv,h⟩|⟨h0,ob,cs,hb,hv,h⟩|⟨h0,v,R,hv,hR,hs,h⟩|⟨h0,h⟩|⟨h0,v,R,hv,hR,hs,h⟩|⟨h0,h⟩|⟨_,_,_,_,_,_,_,h⟩
    ·unfold Stp;rw[hv w];exact h
    ·unfold Stp;rw[hv w hb];exact h
    ·unfold Stp;rw[hv w hb];exact h
    ·unfold Stp;rw[hv w hR];exact h
    ·exact h.mono fun v w' hh=>hh.2
    ·unfold Stp;rw[hv w hR];exact h
    ·exact h.mono fun v w' hh=>hh.2
    ·exact h
  exact hS.wpOpIn ho fun u w' hh=>ih _ _ hh
theorem WA {id:Nat} {a:Act} {w:World} (h:wpT P ops kd ta (Q .normal) (List.range ops.size) a w):(Code.region id ops false).wpIn (Fr ro) rm P Q a w:=by
 refine wpIn_region ?_;exact VZ _ a w h
end
end Go.RX

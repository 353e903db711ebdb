/- Lemmas of the proof. -/
import Derived.Test.YtmannekkmdockaaGreatDoorA0
import Derived.Orders
import Derived.Below
import Derived.Tactics
import Derived.OrdersIn
import Derived.OwnWalkIn
import Derived.RangeFuncRecord
open Array renaming getElem?_eq_none->iM,getElem?_eq_some_iff->fR,replicate->gQ
open List renaming pairwise_cons->fG
open List.Pairwise renaming nil->gV
open Nat renaming lt_irrefl->lT
open Option renaming some->fC
namespace Go
theorem oDt {p:Prop} [Decidable p] (h:decide p=true):p:=of_decide_eq_true h
theorem oDi {p:Prop} [Decidable p]:decide p=true↔p:=decide_eq_true_iff
theorem oDd {p:Prop} [Decidable p] (h:p):decide p=true:=decide_eq_true h
theorem oDf {p:Prop} [Decidable p] (h:decide p=false):¬p:=of_decide_eq_false h
end Go
namespace Go.RX
open RowKit
theorem nmI {a b:Prop} (h:b):(false=true->a)/\b:=⟨fun h=>(nomatch h),h⟩
structure Ext (w w':World):Prop where
 os:w'.os=w.os
 tape:w'.tape=w.tape
 output:w'.output=w.output
 size:w.heap.size<=w'.heap.size
 blk:∀k,k<w.heap.size->w'.heap[k]? =w.heap[k]?
 dr:w.drawn<=w'.drawn
theorem Ext.refl (w:World):Ext w w:=⟨rfl,rfl,rfl,aS _,fun _ _=>rfl,aS _⟩
theorem Ext.trans {a b c:World} (h:Ext a b) (k:Ext b c):Ext a c:=⟨k.os.trans h.os,k.tape.trans h.tape,k.output.trans h.output,bD h.size k.size,fun i hi=>(k.blk i (aU hi h.size)).trans (h.blk i hi),bD h.dr k.dr⟩
theorem Di {w:World} {k:Nat} {o:Obj} (h:w.heap[k]? =some o):k<w.heap.size:=(fR.1 h).1
theorem Ext.block {a b:World} (h:Ext a b) {k:Nat} {o:Obj} (hk:a.heap[k]? =some o):b.heap[k]? =some o:=by
 rw[h.blk k (Di hk),hk]
theorem Ext.block' {a b:World} (h:Ext a b) {k:Nat} (hk:k<a.heap.size):b.heap[k]? =a.heap[k]?:=h.blk k hk
theorem Ext.alloc (w:World) (o:Obj):Ext w (w.alloc o):=
 have h:=(Below.refl w.heap.size w).alloc (aS _) o
 ⟨h.os,h.tape,h.output,h.size,h.block,aS _⟩
theorem Ext.drawn (w:World):Ext w {w with drawn:=w.drawn+1}:=⟨rfl,rfl,rfl,aS _,fun _ _=>rfl,Nat.le_succ _⟩
@[irreducible] def Stp (P:Program) (o:Oper) (ev:Operand->Value) (w:World) (K:Value->World->Prop):Prop:=
 match(execOp ev o).run P w with
 | .ok (.value v) w'=>K v w'
 | .ok .skip w'=>K undef w'
 | .ok (.enter f args) w'=>Calls P f args w' fun e w''=>∃v,e= .returned v/\K v w''
 | .ok (.row r args) w'=>Rows P r args w' K
 | .ok (.round l f tmps asg body) w'=>RoundIn Fence.wide 0 P l f tmps asg body w' fun e w''=>∃v,e= .returned v/\K v w''
 |_=>False
theorem Stp.cg {P:Program} {o:Oper} {ev ev':Operand->Value} {w:World} {K:Value->World->Prop} (h:execOp ev' o=execOp ev o) (k:Stp P o ev w K):Stp P o ev' w K:=by
 unfold Stp at k⊢;rw[h];exact k
theorem Stp.mono {P:Program} {o:Oper} {ev:Operand->Value} {w:World} {K K':Value->World->Prop} (h:Stp P o ev w K) (hk:∀v w',K v w'->K' v w'):Stp P o ev w K':=by
 unfold Stp at*;split at h
 ·exact hk _ _ h
 ·exact hk _ _ h
 ·exact h.mono fun e w' ⟨v,he,hv⟩=>⟨v,he,hk _ _ hv⟩
 ·exact h.mono fun v w' hv=>hk _ _ hv
 ·exact h.mono fun e w' ⟨v,he,hv⟩=>⟨v,he,hk _ _ hv⟩
 ·exact h.elim
theorem Stp.some {P:Program} {o:Oper} {ev:Operand->Value} {w:World} {K:Value->World->Prop} (h:Stp P o ev w K):∃v w',K v w':=by
 unfold Stp at h;split at h
 ·exact⟨_,_,h⟩
 ·exact⟨_,_,h⟩
 ·obtain⟨e,w',fr,⟨v,_,hv⟩,_⟩:=h [];exact⟨v,w',hv⟩
 ·obtain⟨v,w',hv,_⟩:=h default [];exact⟨v,w',hv⟩
 ·obtain⟨e,w',⟨v,_,hv⟩,_⟩:=h.2 default [] (room_wide _);exact⟨v,w',hv⟩
 ·exact h.elim
def OpS (P:Program) (ops:Array Oper) (o:Oper) (a:Act) (w:World) (K:Value->World->Prop):Prop:=
 if Region.wanted o (yielded ops a.tmps)then Stp P o a.eval w K else K undef w
theorem OpS.mono {P:Program} {ops:Array Oper} {o:Oper} {a:Act} {w:World} {K K':Value->World->Prop} (h:OpS P ops o a w K) (hk:∀v w',K v w'->K' v w'):OpS P ops o a w K':=by
 unfold OpS at*;split
 ·rename_i hw;rw[if_pos hw]at h;exact h.mono hk
 ·rename_i hw;rw[if_neg hw]at h;exact hk _ _ h
def Fr (ro:Option Nat):Fence:={Fence.wide with round:=ro}
theorem EJ {ro:Option Nat} {n:Nat} {P:Program} {f:FuncId} {args:Array Value} {w:World} {R:Ending->World->Prop} (h:Calls P f args w R):CallsIn (Fr ro) n P f args w R:=
 (callsIn_wide (n:=n)).2 h
theorem WT {ro:Option Nat} {n m:Nat} {P:Program} {l f:Nat} {tmps:Array Value} {asg body:Code} {w:World} {R:Ending->World->Prop} (h:RoundIn Fence.wide n P l f tmps asg body w R):RoundIn (Fr ro) m P l f tmps asg body w R:=
 ⟨trivial,fun c cs _=>h.2 c cs (room_wide _)⟩
theorem Stp.noDefer {P:Program} {o:Oper} {ev:Operand->Value} {w:World} {K:Value->World->Prop} (h:Stp P o ev w K):∀c,o.op≠ .defer c:=by
 intro c e;unfold Stp at h;have he:execOp ev o=(do pure (.defer (<-resolve ev c o.type))):=by unfold execOp;rw[e]
 rw[he]at h;generalize resolve ev c o.type=s at h;cases hr:s.run P w with
 |ok d w'=>
  have:(do pure (Next.defer (<-s)):Sem Next).run P w= .ok (.defer d) w':=by simp[go_sem,hr]
  rw[this]at h;exact h
 |halt x w'=>
  have:(do pure (Next.defer (<-s)):Sem Next).run P w= .halt x w':=by simp[go_sem,hr]
  rw[this]at h;exact h
theorem Stp.wpIn {ro:Option Nat} {rm:Nat} {P:Program} {o:Oper} {a:Act} {w:World} {K:Value->World->Prop} {K':Act->World->Prop} {Q:Exit->Act->World->Prop} (h:Stp P o a.eval w K) (hk:∀v w',K v w'->K' (a.put o.dst v) w'):o.wpIn (Fr ro) rm P a w K' Q:=by
 have hd:=h.noDefer;unfold Stp at h;unfold Oper.wpIn;refine⟨fun _ _=>trivial,?_⟩;rw[Oper.semAt_eq _ _ _ hd];split at h
 ·rename_i hr;rw[hr];exact hk _ _ h
 ·rename_i hr;rw[hr];exact hk _ _ h
 ·rename_i hr;rw[hr];exact⟨fun e=>by simp[Fr,Fence.wide]at e,EJ (Calls.mono h fun e w' ⟨v,he,hv⟩=>by subst he;exact hk _ _ hv)⟩
 ·rename_i hr;rw[hr];refine⟨fun e=>by simp[Fr,Fence.wide]at e,fun c cs _=> ?_⟩;obtain⟨v,w',hv,hs⟩:=h c cs;exact⟨v,w',hk _ _ hv,stepsIn_wide.2 hs⟩
 ·rename_i hr;rw[hr];refine⟨fun e=>by simp[Fr,Fence.wide]at e,RoundIn.mono (WT h) fun e w' ⟨v,he,hv⟩=>by subst he;exact hk _ _ hv⟩
 ·exact h.elim
theorem OpS.wpOpIn {ro:Option Nat} {rm:Nat} {P:Program} {ops:Array Oper} {Q:Exit->Act->World->Prop} {o:Oper} {i:Nat} (hi:ops[i]? =some o) {a:Act} {w:World} {K:Value->World->Prop} {K':Act->World->Prop} (h:OpS P ops o a w K) (hk:∀v w',K v w'->K' (a.put o.dst v) w'):Go.wpOpIn (Fr ro) rm P ops Q i K' a w:=by
 unfold OpS at h;unfold Go.wpOpIn;simp only[hi];split
 ·rename_i hw;rw[if_pos hw]at h;exact h.wpIn hk
 ·rename_i hw;rw[if_neg hw]at h;exact⟨fun _ _=>trivial,hk _ _ h⟩
theorem OpS.put {P:Program} {ops:Array Oper} {oi oj:Oper} (rK:oi.apart ops oj=true) (hsj:∀cs b,oj.op≠ .select cs b) {a:Act} {w:World} {v:Value} {K:Value->World->Prop}:
  OpS P ops oj (a.put oi.dst v) w K↔OpS P ops oj a w K:=by
 obtain⟨h1,_,_⟩:=Oper.apart_spec rK;unfold OpS Stp;rw[wanted_put oj a oi.dst v h1,execOp_put oj hsj a oi.dst v h1]
def KeepM (w w':World):Prop:=∀b:Nat,w'.heap[b]? =w.heap[b]?\/((∃es c,w.heap[b]? =some (.map es c))/\∃es c,w'.heap[b]? =some (.map es c))
theorem KeepM.refl (w:World):KeepM w w:=fun _=> .inl rfl
theorem KeepM.trans {a b c:World} (h:KeepM a b) (k:KeepM b c):KeepM a c:=fun x=>by
 rcases h x with h|⟨h1,h2⟩<;>rcases k x with k|⟨k1,k2⟩
 ·exact .inl (k.trans h)
 ·exact .inr ⟨by rwa[h]at k1,k2⟩
 ·exact .inr ⟨h1,by rwa[k]⟩
 ·exact .inr ⟨h1,k2⟩
def wpF (P:Program) (ops:Array Oper) (kd ta:Nat->Nat) (B:Nat) (T:Act->World->Prop):List Nat->List Nat->Act->World->Prop
 |[],_,a,W=>∀w,Ext W w->T a w
 |i::L,bs,a,W=>∃o,ops[i]? =some o/\
   ((Region.wanted o (yielded ops a.tmps)=false/\wpF P ops kd ta B T L bs (a.put o.dst undef) W)\/
    (Region.wanted o (yielded ops a.tmps)=true/\
     ((kd i=0/\∃v,(∀w,(execOp a.eval o).run P w= .ok (.value v) w)/\wpF P ops kd ta B T L bs (a.put o.dst v) W)\/
      (kd i=1/\∃v,(∀w,Ext W w->(execOp a.eval o).run P w= .ok (.value v) w)/\wpF P ops kd ta B T L bs (a.put o.dst v) W)\/
      (kd i = 2 /\ ∃ V : Value -> List Nat -> World -> Prop,(∀ w,Ext W w -> Stp P o a.eval w fun v w' => Ext w w' /\ ∃ cs,(∀ c ∈ cs,w.heap.size <= c /\ c < w'.heap.size) /\ V v cs w') /\
         ∀v cs W',Ext W W'->V v cs W'->(∀c∈cs,B<=c/\c∉bs)->wpF P ops kd ta B T L (cs++bs) (a.put o.dst v) W')\/
      (kd i = 3 /\ ∃ (mk : Nat -> Value) (ob : Obj),(∀ w,(execOp a.eval o).run P w = .ok (.value (mk w.heap.size)) (w.alloc ob)) /\
         ∀b W',Ext W W'->W'.heap[b]? =some ob->b∉bs->B<=b->wpF P ops kd ta B T L (b::bs) (a.put o.dst (mk b)) W')\/
      (kd i=5/\∃v ob,W.heap[ta i]? =some ob/\(∀w,w.heap[ta i]? =some ob->(execOp a.eval o).run P w= .ok (.value v) w)/\wpF P ops kd ta B T L bs (a.put o.dst v) W))))
def wpT (P:Program) (ops:Array Oper) (kd ta:Nat->Nat) (Q:Act->World->Prop):List Nat->Act->World->Prop
 |[],a,w=>Q a w
 |i::L,a,w=>∃o,ops[i]? =some o/\
   ((Region.wanted o (yielded ops a.tmps)=false/\wpT P ops kd ta Q L (a.put o.dst undef) w)\/
    (Region.wanted o (yielded ops a.tmps)=true/\
     ((kd i=0/\∃v,(∀w',(execOp a.eval o).run P w'= .ok (.value v) w')/\wpT P ops kd ta Q L (a.put o.dst v) w)\/
      (kd i=5/\∃v ob,w.heap[ta i]? =some ob/\(∀w',w'.heap[ta i]? =some ob->(execOp a.eval o).run P w'= .ok (.value v) w')/\wpT P ops kd ta Q L (a.put o.dst v) w)\/
      (kd i=6/\∃ob cs,w.heap[ta i]? =some ob/\(∀w',w'.heap[ta i]? =some ob->(execOp a.eval o).run P w'= .ok .skip (w'.setRow (ta i) cs))/\wpT P ops kd ta Q L (a.put o.dst undef) (w.setRow (ta i) cs))\/
      (kd i=7/\∃(v:Value) (R:World->Prop),(∀w',R w'->(execOp a.eval o).run P w'= .ok (.value v) w')/\R w/\(∀m c w',kd m=6->(R (w'.setRow (ta m) c)↔R w'))/\wpT P ops kd ta Q L (a.put o.dst v) w)\/
      (kd i=8/\Stp P o a.eval w fun v w'=>(∀m,kd m=5->w'.heap[ta m]? =w.heap[ta m]?)/\wpT P ops kd ta Q L (a.put o.dst v) w')\/
      (kd i=9/\∃(v:Value) (R:World->Prop),(∀w',R w'->(execOp a.eval o).run P w'= .ok (.value v) w')/\R w/\(∀w1 w2,KeepM w1 w2->R w1->R w2)/\wpT P ops kd ta Q L (a.put o.dst v) w)\/
      (kd i=10/\Stp P o a.eval w fun v w'=>KeepM w w'/\wpT P ops kd ta Q L (a.put o.dst v) w')\/
      (kd i≠0/\kd i≠5/\kd i≠6/\kd i≠7/\kd i≠8/\kd i≠9/\kd i≠10/\Stp P o a.eval w fun v w'=>wpT P ops kd ta Q L (a.put o.dst v) w'))))
section
variable {P:Program} {ops:Array Oper} {kd ta:Nat->Nat} {B:Nat} {T:Act->World->Prop}
theorem EK:∀(L bs bs':List Nat) (a:Act) (W:World),(∀x,x∈bs->x∈bs')->wpF P ops kd ta B T L bs a W->wpF P ops kd ta B T L bs' a W:=by
 intro L;induction L with
 |nil=>intro bs bs' a W _ h;exact h
 |cons i L ih=>
  intro bs bs' a W hb h;obtain⟨o,ho,h⟩:=h;refine⟨o,ho,?_⟩;rcases h with⟨hn,h⟩|⟨hn,h⟩
  ·exact .inl ⟨hn,ih _ _ _ _ hb h⟩
  ·refine .inr ⟨hn,?_⟩;rcases h with⟨h0,v,hv,h⟩|⟨h0,v,hv,h⟩|⟨h0,V,hc,h⟩|⟨h0,mk,ob,hr,h⟩|⟨h0,v,ob,sV,hv,h⟩
   ·exact .inl ⟨h0,v,hv,ih _ _ _ _ hb h⟩
   ·exact .inr (.inl ⟨h0,v,hv,ih _ _ _ _ hb h⟩)
   ·exact .inr (.inr (.inl ⟨h0,V,hc,fun v cs W2 vS hV qM=>ih _ _ _ _ (by intro x hx;simp only[aQ]at hx⊢;exact hx.imp id (hb x)) (h v cs W2 vS hV (fun c hc=>⟨(qM c hc).1,fun hm=>(qM c hc).2 (hb _ hm)⟩))⟩))
   ·exact .inr (.inr (.inr (.inl ⟨h0,mk,ob,hr,fun b W2 vS sV sG hB=>ih _ _ _ _ (by intro x hx;simp only[aP]at hx⊢;exact hx.imp id (hb x)) (h b W2 vS sV (fun hm=>sG (hb _ hm)) hB)⟩)))
   ·exact .inr (.inr (.inr (.inr ⟨h0,v,ob,sV,hv,ih _ _ _ _ hb h⟩)))
theorem WU {j:Nat} {oj:Oper} (hj:ops[j]? =some oj) (qJ:∀(i:Nat) (o:Oper) cs b,ops[i]? =some o->o.op≠ .select cs b) (xF:kd j≠3):∀(pre post bs:List Nat) (a:Act) (w:World),B<=w.heap.size->(∀b∈bs,b<w.heap.size)->
  (∀i∈pre,(kd i<=1\/kd i=5)/\∀oi,ops[i]? =some oi->oi.apart ops oj=true)->wpF P ops kd ta B T (pre++j::post) bs a w->
  OpS P ops oj a w fun u w'=>Ext w w'/\∃cs,(∀c∈cs,w.heap.size<=c/\c<w'.heap.size)/\wpF P ops kd ta B T (pre++post) (cs++bs) (a.put oj.dst u) w':=by
 intro pre;induction pre with
 |nil=>
  intro post bs a w hB rL _ h;obtain⟨o,ho,h⟩:=h;obtain rfl:o=oj:=fC.inj (ho.symm.trans hj);unfold OpS;rcases h with⟨hn,h⟩|⟨hn,h⟩
  ·rw[if_neg (by simp[hn])];exact⟨Ext.refl _,[],aD,h⟩
  ·rw[if_pos hn];rcases h with⟨h0,v,hv,h⟩|⟨h0,v,hv,h⟩|⟨h0,V,hc,h⟩|⟨h0,mk,ob,hr,h⟩|⟨h0,v,ob,hb,hv,h⟩
   ·unfold Stp;rw[hv w];exact⟨Ext.refl _,[],aD,h⟩
   ·unfold Stp;rw[hv w (Ext.refl _)];exact⟨Ext.refl _,[],aD,h⟩
   ·exact(hc w (Ext.refl _)).mono fun v w' ⟨hx,cs,qM,hV⟩=>⟨hx,cs,qM,h v cs w' hx hV fun c hc=>⟨bD hB (qM c hc).1,fun hm=>by have:=rL c hm;have:=(qM c hc).1;omega⟩⟩
   ·exact absurd h0 xF
   ·unfold Stp;rw[hv w hb];exact⟨Ext.refl _,[],aD,h⟩
 |cons i pre ih=>
  intro post bs a w hB rL qG h;obtain⟨o,ho,h⟩:=h;obtain⟨hk,rK⟩:=qG i aD;have rK:=rK o ho;obtain⟨h1,h2,h3⟩:=Oper.apart_spec rK;have rW:∀i∈pre,(kd i<=1\/kd i=5)/\∀oi,ops[i]? =some oi->oi.apart ops oj=true:=fun x hx=>qG x (by simp[hx]);have back:∀v,wpF P ops kd ta B T (pre++j::post) bs (a.put o.dst v) w->OpS P ops oj a w fun u w'=>Ext w w'/\∃cs,(∀c∈cs,w.heap.size<=c/\c<w'.heap.size)/\wpF P ops kd ta B T (pre++post) (cs++bs) ((a.put oj.dst u).put o.dst v) w':=fun v hv=>by
   have:=(OpS.put (P:=P) rK (fun cs b=>qJ j oj cs b hj)).1 (ih post bs _ w hB rL rW hv);exact this.mono fun u w' ⟨hx,cs,qM,hh⟩=>⟨hx,cs,qM,by rw[Act.put_comm a v u h2]at hh;exact hh⟩
  rcases h with⟨hn,h⟩|⟨hn,h⟩
  ·exact(back _ h).mono fun u w' ⟨hx,cs,qM,hh⟩=>⟨hx,cs,qM,o,ho,.inl ⟨by rw[wanted_put o a oj.dst u h3];exact hn,hh⟩⟩
  ·have hw:∀u,Region.wanted o (yielded ops (a.put oj.dst u).tmps)=true:=fun u=>by rw[wanted_put o a oj.dst u h3];exact hn
   have he:∀u,execOp (a.put oj.dst u).eval o=execOp a.eval o:=fun u=>execOp_put o (fun cs b=>qJ i o cs b ho) a oj.dst u h3;rcases h with⟨h0,v,hv,h⟩|⟨h0,v,hv,h⟩|⟨h0,V,hc,h⟩|⟨h0,mk,ob,hr,h⟩|⟨h0,v,ob,hb,hv,h⟩
   ·exact(back _ h).mono fun u w' ⟨hx,cs,qM,hh⟩=>⟨hx,cs,qM,o,ho,.inr ⟨hw u,.inl ⟨h0,v,by rw[he u];exact hv,hh⟩⟩⟩
   ·exact(back _ h).mono fun u w' ⟨hx,cs,qM,hh⟩=>⟨hx,cs,qM,o,ho,.inr ⟨hw u,.inr (.inl ⟨h0,v,by rw[he u];exact fun w2 zS=>hv w2 (hx.trans zS),hh⟩)⟩⟩
   ·omega
   ·omega
   ·exact(back _ h).mono fun u w' ⟨hx,cs,qM,hh⟩=>⟨hx,cs,qM,o,ho,.inr ⟨hw u,.inr (.inr (.inr (.inr ⟨h0,v,ob,hx.block hb,by rw[he u];exact hv,hh⟩)))⟩⟩
theorem WV {j:Nat} {oj:Oper} (hj:ops[j]? =some oj) (qJ:∀(i:Nat) (o:Oper) cs b,ops[i]? =some o->o.op≠ .select cs b) (xF:kd j=3):∀(pre post bs:List Nat) (a:Act) (W:World),
  (∀i∈pre,∀oi,ops[i]? =some oi->oi.apart ops oj=true)->B<=W.heap.size->(∀b∈bs,b<W.heap.size)->Region.wanted oj (yielded ops a.tmps)=true->wpF P ops kd ta B T (pre++j::post) bs a W->
  ∃(mk:Nat->Value) (ob:Obj),∀w,(execOp a.eval oj).run P w= .ok (.value (mk w.heap.size)) (w.alloc ob):=by
 intro pre;induction pre with
 |nil=>
  intro post bs a W _ _ _ qE h;obtain⟨o,ho,h⟩:=h;obtain rfl:o=oj:=fC.inj (ho.symm.trans hj);rcases h with⟨hn,_⟩|⟨_,h⟩
  ·rw[hn]at qE;cases qE
  ·rcases h with⟨h0,_⟩|⟨h0,_⟩|⟨h0,_⟩|⟨h0,mk,ob,hr,h⟩|⟨h0,_⟩
   ·omega
   ·omega
   ·omega
   ·exact⟨mk,ob,hr⟩
   ·omega
 |cons i pre ih=>
  intro post bs a W qG hB rL qE h;obtain⟨o,ho,h⟩:=h;have rK:=qG i aD o ho;obtain⟨h1,h2,h3⟩:=Oper.apart_spec rK;have rW:∀i∈pre,∀oi,ops[i]? =some oi->oi.apart ops oj=true:=fun x hx=>qG x (by simp[hx]);have go:∀v bs' W',B<=W'.heap.size->(∀b∈bs',b<W'.heap.size)->wpF P ops kd ta B T (pre++j::post) bs' (a.put o.dst v) W'->∃(mk:Nat->Value) (ob:Obj),∀w,(execOp a.eval oj).run P w= .ok (.value (mk w.heap.size)) (w.alloc ob):=fun v bs' W' uN uO hh=>by
   obtain⟨mk,ob,hr⟩:=ih post bs' (a.put o.dst v) W' rW uN uO (by rw[wanted_put oj a o.dst v h1];exact qE) hh;exact⟨mk,ob,fun w=>by rw[<-hr w,execOp_put oj (fun cs b=>qJ j oj cs b hj) a o.dst v h1]⟩
  rcases h with⟨hn,h⟩|⟨hn,h⟩
  ·exact go _ _ _ hB rL h
  ·rcases h with⟨h0,v,hv,h⟩|⟨h0,v,hv,h⟩|⟨h0,V,hc,h⟩|⟨h0,mk,ob,hr,h⟩|⟨h0,v,ob,hb,hv,h⟩
   ·exact go _ _ _ hB rL h
   ·exact go _ _ _ hB rL h
   ·obtain⟨v,w',hx,cs,qM,hV⟩:=(hc W (Ext.refl _)).some;refine go v _ w' (bD hB hx.size) (fun b hb=> ?_) (h v cs w' hx hV fun c hc=>⟨bD hB (qM c hc).1,fun hm=>by have:=rL c hm;have:=(qM c hc).1;omega⟩);rcases aQ.1 hb with hb|hb
    ·exact(qM b hb).2
    ·exact aU (rL b hb) hx.size
   ·refine go (mk W.heap.size) (W.heap.size::bs) (W.alloc ob) (bD hB (Ext.alloc W ob).size) ?_ (h _ _ (Ext.alloc W ob) ?_ (fun hm=>lT _ (rL _ hm)) hB)
    ·intro b hb;simp only[aP]at hb;have rR:(W.alloc ob).heap.size=W.heap.size+1:=by show(W.heap.push ob).size=_;simp
     rcases hb with rfl|hb
     ·omega
     ·have:=rL b hb;omega
    ·show(W.heap.push ob)[W.heap.size]? =_;simp
   ·exact go _ _ _ hB rL h
theorem WW {j:Nat} {oj:Oper} (hj:ops[j]? =some oj) (qJ:∀(i:Nat) (o:Oper) cs b,ops[i]? =some o->o.op≠ .select cs b) (xF:kd j=0):∀(pre post bs:List Nat) (a:Act) (W:World),
  (∀i∈pre,∀oi,ops[i]? =some oi->oi.apart ops oj=true)->B<=W.heap.size->(∀b∈bs,b<W.heap.size)->Region.wanted oj (yielded ops a.tmps)=true->wpF P ops kd ta B T (pre++j::post) bs a W->
  ∃v:Value,∀w,(execOp a.eval oj).run P w= .ok (.value v) w:=by
 intro pre;induction pre with
 |nil=>
  intro post bs a W _ _ _ qE h;obtain⟨o,ho,h⟩:=h;obtain rfl:o=oj:=fC.inj (ho.symm.trans hj);rcases h with⟨hn,_⟩|⟨_,h⟩
  ·rw[hn]at qE;cases qE
  ·rcases h with⟨h0,v,hv,h⟩|⟨h0,_⟩|⟨h0,_⟩|⟨h0,_⟩|⟨h0,_⟩
   ·exact⟨v,hv⟩
   ·omega
   ·omega
   ·omega
   ·omega
 |cons i pre ih=>
  intro post bs a W qG hB rL qE h;obtain⟨o,ho,h⟩:=h;have rK:=qG i aD o ho;obtain⟨h1,h2,h3⟩:=Oper.apart_spec rK;have rW:∀i∈pre,∀oi,ops[i]? =some oi->oi.apart ops oj=true:=fun x hx=>qG x (by simp[hx]);have go:∀v bs' W',B<=W'.heap.size->(∀b∈bs',b<W'.heap.size)->wpF P ops kd ta B T (pre++j::post) bs' (a.put o.dst v) W'->∃v:Value,∀w,(execOp a.eval oj).run P w= .ok (.value v) w:=fun v bs' W' uN uO hh=>by
   obtain⟨u,hr⟩:=ih post bs' (a.put o.dst v) W' rW uN uO (by rw[wanted_put oj a o.dst v h1];exact qE) hh;exact⟨u,fun w=>by rw[<-hr w,execOp_put oj (fun cs b=>qJ j oj cs b hj) a o.dst v h1]⟩
  rcases h with⟨hn,h⟩|⟨hn,h⟩
  ·exact go _ _ _ hB rL h
  ·rcases h with⟨h0,v,hv,h⟩|⟨h0,v,hv,h⟩|⟨h0,V,hc,h⟩|⟨h0,mk,ob,hr,h⟩|⟨h0,v,ob,hb,hv,h⟩
   ·exact go _ _ _ hB rL h
   ·exact go _ _ _ hB rL h
   ·obtain⟨v,w',hx,cs,qM,hV⟩:=(hc W (Ext.refl _)).some;refine go v _ w' (bD hB hx.size) (fun b hb=> ?_) (h v cs w' hx hV fun c hc=>⟨bD hB (qM c hc).1,fun hm=>by have:=rL c hm;have:=(qM c hc).1;omega⟩);rcases aQ.1 hb with hb|hb
    ·exact(qM b hb).2
    ·exact aU (rL b hb) hx.size
   ·refine go (mk W.heap.size) (W.heap.size::bs) (W.alloc ob) (bD hB (Ext.alloc W ob).size) ?_ (h _ _ (Ext.alloc W ob) ?_ (fun hm=>lT _ (rL _ hm)) hB)
    ·intro b hb;simp only[aP]at hb;have rR:(W.alloc ob).heap.size=W.heap.size+1:=by show(W.heap.push ob).size=_;simp
     rcases hb with rfl|hb
     ·omega
     ·have:=rL b hb;omega
    ·show(W.heap.push ob)[W.heap.size]? =_;simp
   ·exact go _ _ _ hB rL h
theorem WX {j:Nat} {oj:Oper} {v:Value} (hj:ops[j]? =some oj) (qJ:∀(i:Nat) (o:Oper) cs b,ops[i]? =some o->o.op≠ .select cs b) (xF:kd j=0):∀(pre post bs:List Nat) (a:Act) (W:World),
  (∀i∈pre,∀oi,ops[i]? =some oi->oi.apart ops oj=true)->(∀w,(execOp a.eval oj).run P w= .ok (.value v) w)->Region.wanted oj (yielded ops a.tmps)=true->wpF P ops kd ta B T (pre++j::post) bs a W->wpF P ops kd ta B T (pre++post) bs (a.put oj.dst v) W:=by
 intro pre;induction pre with
 |nil=>
  intro post bs a W _ hv hn h;obtain⟨o,ho,h⟩:=h;obtain rfl:o=oj:=fC.inj (ho.symm.trans hj);rcases h with⟨sP,_⟩|⟨_,h⟩
  ·rw[hn]at sP;cases sP
  ·rcases h with⟨h0,v',hv',h⟩|⟨h0,_⟩|⟨h0,_⟩|⟨h0,_⟩|⟨h0,_⟩
   ·have e:=(hv' W).symm.trans (hv W);simp only[Result.ok.injEq,Next.value.injEq,and_true]at e;subst e;exact h
   ·omega
   ·omega
   ·omega
   ·omega
 |cons i pre ih2=>
  intro post bs a W rK hv hn h;obtain⟨o,ho,h⟩:=h;have zT:=rK i aD o ho;obtain⟨h1,h2,h3⟩:=Oper.apart_spec zT;have zU:∀i∈pre,∀oi,ops[i]? =some oi->oi.apart ops oj=true:=fun x hx=>rK x (by simp[hx]);have go:∀v' bs' W',wpF P ops kd ta B T (pre++j::post) bs' (a.put o.dst v') W'->wpF P ops kd ta B T (pre++post) bs' ((a.put oj.dst v).put o.dst v') W':=fun v' bs' W' hh=>by
   have:=ih2 post bs' (a.put o.dst v') W' zU (fun w=>by rw[execOp_put oj (fun cs b=>qJ j oj cs b hj) a o.dst v' h1];exact hv w) (by rw[wanted_put oj a o.dst v' h1];exact hn) hh
   rwa[Act.put_comm a v' v h2]at this
  refine⟨o,ho,?_⟩;have he:execOp (a.put oj.dst v).eval o=execOp a.eval o:=execOp_put o (fun cs b=>qJ i o cs b ho) a oj.dst v h3;rw[wanted_put o a oj.dst v h3,he];rcases h with⟨hn,h⟩|⟨hn,h⟩
  ·exact .inl ⟨hn,go _ _ _ h⟩
  ·refine .inr ⟨hn,?_⟩;rcases h with⟨h0,v,hv,h⟩|⟨h0,v,hv,h⟩|⟨h0,V,hc,h⟩|⟨h0,mk',ob',hr,h⟩|⟨h0,v,ob,hb,hv,h⟩
   ·exact .inl ⟨h0,v,hv,go _ _ _ h⟩
   ·exact .inr (.inl ⟨h0,v,hv,go _ _ _ h⟩)
   ·exact .inr (.inr (.inl ⟨h0,V,fun w hw=>by have:=hc w hw;unfold Stp at this⊢;rw[he];exact this,fun v cs W2 vS hV qM=>go _ _ _ (h v cs W2 vS hV qM)⟩))
   ·exact .inr (.inr (.inr (.inl ⟨h0,mk',ob',hr,fun b W2 vS sV sG hB=>go _ _ _ (h b W2 vS sV sG hB)⟩)))
   ·exact .inr (.inr (.inr (.inr ⟨h0,v,ob,hb,hv,go _ _ _ h⟩)))
theorem WY (b:Nat) (W:World):∃w:World,w.heap.size=b:=⟨{W with heap:=gQ b default},aD⟩
theorem WZ {w:World} {o o':Obj} (h:w.alloc o=w.alloc o'):o=o':=by
 have:(w.heap.push o)=(w.heap.push o'):=congrArg World.heap h;exact(Array.push_eq_push.1 this).1
theorem XA {j:Nat} {oj:Oper} (hj:ops[j]? =some oj) (qJ:∀(i:Nat) (o:Oper) cs b,ops[i]? =some o->o.op≠ .select cs b) (xF:kd j=3) (mk:Nat->Value) (ob:Obj) (b:Nat):∀(pre post bs:List Nat) (a:Act) (W W':World),
  (∀i∈pre,∀oi,ops[i]? =some oi->oi.apart ops oj=true)->(∀w,(execOp a.eval oj).run P w= .ok (.value (mk w.heap.size)) (w.alloc ob))->Region.wanted oj (yielded ops a.tmps)=true->
  Ext W W'->W'.heap[b]? =some ob->b∉bs->B<=b->wpF P ops kd ta B T (pre++j::post) bs a W->
  wpF P ops kd ta B T (pre++post) (b::bs) (a.put oj.dst (mk b)) W':=by
 intro pre;induction pre with
 |nil=>
  intro post bs a W W' _ pZ qE hx sV sG hB h;obtain⟨o,ho,h⟩:=h;obtain rfl:o=oj:=fC.inj (ho.symm.trans hj);rcases h with⟨hn,_⟩|⟨_,h⟩
  ·rw[hn]at qE;cases qE
  ·rcases h with⟨h0,_⟩|⟨h0,_⟩|⟨h0,_⟩|⟨h0,mk',ob',hr,h⟩|⟨h0,_⟩
   ·omega
   ·omega
   ·omega
   ·obtain⟨w,hw⟩:=WY b W;have e:=(pZ w).symm.trans (hr w);simp only[Result.ok.injEq,Next.value.injEq,hw]at e;obtain⟨e1,e2⟩:=e;have e3:=WZ e2;subst e3;rw[e1];exact h b W' hx sV sG hB
   ·omega
 |cons i pre ih=>
  intro post bs a W W' qG pZ qE hx sV sG hB h;obtain⟨o,ho,h⟩:=h;have rK:=qG i aD o ho;obtain⟨h1,h2,h3⟩:=Oper.apart_spec rK;have rW:∀i∈pre,∀oi,ops[i]? =some oi->oi.apart ops oj=true:=fun x hx=>qG x (by simp[hx]);have hw:Region.wanted o (yielded ops (a.put oj.dst (mk b)).tmps)=Region.wanted o (yielded ops a.tmps):=wanted_put o a oj.dst (mk b) h3;have he:execOp (a.put oj.dst (mk b)).eval o=execOp a.eval o:=execOp_put o (fun cs b=>qJ i o cs b ho) a oj.dst (mk b) h3;have go:∀v bs' W1 W2,Ext W1 W2->W2.heap[b]? =some ob->b∉bs'->wpF P ops kd ta B T (pre++j::post) bs' (a.put o.dst v) W1->wpF P ops kd ta B T (pre++post) (b::bs') ((a.put oj.dst (mk b)).put o.dst v) W2:=fun v bs' W1 W2 sH a1e zV hh=>by
   have:=ih post bs' (a.put o.dst v) W1 W2 rW (fun w=>by rw[execOp_put oj (fun cs b=>qJ j oj cs b hj) a o.dst v h1];exact pZ w) (by rw[wanted_put oj a o.dst v h1];exact qE) sH a1e zV hB hh
   rwa[Act.put_comm a v (mk b) h2]at this
  refine⟨o,ho,?_⟩;rw[hw,he];rcases h with⟨hn,h⟩|⟨hn,h⟩
  ·exact .inl ⟨hn,go _ _ _ _ hx sV sG h⟩
  ·refine .inr ⟨hn,?_⟩;rcases h with⟨h0,v,hv,h⟩|⟨h0,v,hv,h⟩|⟨h0,V,hc,h⟩|⟨h0,mk',ob',hr,h⟩|⟨h0,v,ob',rJ,hv,h⟩
   ·exact .inl ⟨h0,v,hv,go _ _ _ _ hx sV sG h⟩
   ·exact .inr (.inl ⟨h0,v,fun w hw=>hv w (hx.trans hw),go _ _ _ _ hx sV sG h⟩)
   ·refine .inr (.inr (.inl ⟨h0,V,fun w hw=>by have:=hc w (hx.trans hw);unfold Stp at this⊢;rw[he];exact this,fun v cs W2 vS hV qM=> ?_⟩));have hn:b∉cs++bs:=fun hm=>by
     rcases aQ.1 hm with hm|hm
     ·exact(qM b hm).2 aD
     ·exact sG hm
    have:=go v (cs++bs) W2 W2 (Ext.refl _) (vS.block sV) hn (h v cs W2 (hx.trans vS) hV fun c hc=>⟨(qM c hc).1,fun hm=>(qM c hc).2 (by simp[hm])⟩);exact EK _ _ _ _ _ (by intro x hx;simp only[aP,aQ]at hx⊢;rcases hx with h|h|h<;>simp[h]) this
   ·refine .inr (.inr (.inr (.inl ⟨h0,mk',ob',hr,fun b' W2 vS a1e zV uN=> ?_⟩)));simp only[aP,not_or]at zV;have:=go (mk' b') (b'::bs) W2 W2 (Ext.refl _) (vS.block sV) (by simp only[aP,not_or];exact⟨fun e=>zV.1 e.symm,sG⟩) (h b' W2 (hx.trans vS) a1e zV.2 uN);exact EK _ _ _ _ _ (by intro x hx;simp only[aP]at hx⊢;rcases hx with h|h|h<;>simp[h]) this
   ·exact .inr (.inr (.inr (.inr ⟨h0,v,ob',hx.block rJ,hv,go _ _ _ _ hx sV sG h⟩)))
end
open Go.RowKit
def Wz (acc:List Nat) (o:Oper):Nat:=o.after.toList.foldl (fun s e=>if Region.binds .any e then s|||(1<<<e.on)|||acc.getD e.on 0 else s) 0
def Ek:List Oper->List Nat->List Nat
 |[],acc=>acc
 |o::l,acc=>Ek l (acc++[Wz acc o])
theorem XB:∀(l:List Oper) (acc:List Nat),(∃r,Ek l acc=acc++r)/\∀m o,l[m]? =some o->(Ek l acc).getD (acc.length+m) 0=Wz ((Ek l acc).take (acc.length+m)) o:=by
 intro l;induction l with
 |nil=>intro acc;exact⟨⟨[],by simp[Ek]⟩,fun m o h=>by simp at h⟩
 |cons x l ih=>
  intro acc;obtain⟨⟨r,hr⟩,ih2⟩:=ih (acc++[Wz acc x]);refine⟨⟨Wz acc x::r,by simp only[Ek];rw[hr];simp⟩,?_⟩;intro m o hm;simp only[Ek];cases m with
  |zero=>
   simp at hm;subst hm;rw[hr];simp[aK]
  |succ m=>
   simp at hm;have:=ih2 m o hm;simp only[aM,aO,bX,bK]at this;rw[show acc.length+(m+1)=acc.length+1+m from aA];exact this
theorem XC (i:Nat) (acc:List Nat):∀(es:List Edge) (s:Nat),(es.foldl (fun s e=>if Region.binds .any e then s|||(1<<<e.on)|||acc.getD e.on 0 else s) s).testBit i=true->
  s.testBit i=true\/∃e∈es,Region.binds .any e=true/\(e.on=i\/(acc.getD e.on 0).testBit i=true):=by
 intro es;induction es with
 |nil=>intro s h;exact .inl h
 |cons e es ih=>
  intro s h;simp only[List.foldl_cons]at h;rcases ih _ h with h'|⟨e',he',h'⟩
  ·by_cases hb:Region.binds .any e=true
   ·simp only[hb,if_true,Nat.testBit_or,dB,Nat.one_shiftLeft,Nat.testBit_two_pow,decide_eq_true_eq]at h';rcases h' with(h'|h')|h'
    ·exact .inl h'
    ·exact .inr ⟨e,aD,hb,.inl h'⟩
    ·exact .inr ⟨e,aD,hb,.inr h'⟩
   ·simp only[hb]at h';exact .inl (by simpa using h')
  ·exact .inr ⟨e',by simp[he'],h'⟩
theorem XD (ops:Array Oper) {i j:Nat} {o:Oper} (hj:ops[j]? =some o) (h:((Ek ops.toList []).getD j 0).testBit i=true):
  ∃e∈o.after,Region.binds .any e=true/\(e.on=i\/(e.on<j/\((Ek ops.toList []).getD e.on 0).testBit i=true)):=by
 have h2:=(XB ops.toList []).2 j o (by simpa using hj);simp only[bX,bK]at h2;rw[h2]at h;unfold Wz at h;rcases XC i _ _ _ h with h'|⟨e,he,hb,h'⟩
 ·simp at h'
 ·refine⟨e,by simpa using he,hb,?_⟩;rcases h' with h'|h'
  ·exact .inl h'
  ·right;by_cases pX:e.on<j
   ·refine⟨pX,?_⟩;rw[aK,dO pX,<-aK]at h';exact h'
   ·rw[aK,aW (by simp;omega)]at h';simp at h'
def EL (ops:Array Oper) (listed:Array Bool):Prop:=
 ∀k o,ops[k]? =some o->listed.getD k false=true->∀e∈o.after,Region.binds .any e=true->listed.getD e.on false=true
theorem EM {ops:Array Oper} {listed:Array Bool} (hd:EL ops listed) {i:Nat} (hi:listed.getD i false=false):
  ∀(n j:Nat),j<n->∀o,ops[j]? =some o->((Ek ops.toList []).getD j 0).testBit i=true->∃e∈o.after,Region.binds .any e=true/\listed.getD e.on false=false:=by
 intro n;induction n with
 |zero=>intro j hj;omega
 |succ n ih=>
  intro j hj o ho hb;obtain⟨e,he,hbe,h⟩:=XD ops ho hb;rcases h with rfl|⟨pX,h⟩
  ·exact⟨e,he,hbe,hi⟩
  ·refine⟨e,he,hbe,?_⟩;cases hoe:ops[e.on]? with
   |none=>
    have:¬e.on<ops.size:=fun h'=>by simp[dU h']at hoe
    have:j<ops.size:=(fR.1 ho).1;omega
   |some oe=>
    obtain⟨e',he',a3z,h'⟩:=ih e.on aA oe hoe h;cases hl:listed.getD e.on false with
    |false=>rfl
    |true=>rw[hd _ _ hoe hl e' he' a3z]at h';cases h'
def cz (ops:Array Oper) (i j:Nat):Bool:=match ops[i]?,ops[j]? with|some a,some b=>a.apart ops b|_,_=>false
def frK (k:Nat):Bool:=decide (k<=3)||k==5
def okK (kd tg:Nat->Nat) (i j:Nat):Bool:=
 kd i==0||(kd j==3&&frK (kd i))||((kd i==1||kd i==5)&&frK (kd j))||(kd i==5&&kd j==6&&tg i !=tg j)||(kd i==6&&(kd j==5||kd j==6)&&tg i !=tg j)||(kd i==5&&(kd j==7||kd j==8))||(kd i==6&&kd j==7)||(kd i==7&&(kd j==0||kd j==5||kd j==6||kd j==7))||(kd j==0&&frK (kd i))||(kd i==9&&(kd j==0||kd j==9||kd j==10))
def okP (ops:Array Oper) (A:List Nat) (kd tg:Nat->Nat) (i j:Nat):Bool:=
 (A.getD j 0).testBit i||(cz ops i j&&okK kd tg i j)
def okL (ops:Array Oper) (A:List Nat) (kd tg:Nat->Nat):List Nat->Bool
 |[]=>true
 |i::L=>(L.all fun j=>okP ops A kd tg i j)&&okL ops A kd tg L
def Lin (ops:Array Oper):Array Bool->List Nat->Prop
 |_,[]=>True
 |listed,i::L=>i∈Region.ready .any ops listed/\Lin ops (listed.setIfInBounds i true) L
def Xd (ops:Array Oper):Array Bool->List Nat->Bool
 |listed,[]=>listed.all id
 |listed,i::L=>(!listed.getD i true)&&((ops[i]?).map (fun o=>o.after.all fun e=> !Region.binds .any e||listed.getD e.on false)).getD false&&Xd ops (listed.setIfInBounds i true) L
theorem XE (ops:Array Oper):∀(L:List Nat) (listed:Array Bool),listed.size=ops.size->Xd ops listed L=true->Lin ops listed L/\∀i,i<ops.size->listed.getD i true=false->i∈L:=by
 intro L;induction L with
 |nil=>
  intro listed hs h;refine⟨trivial,fun i hi hl=> ?_⟩;simp only[Xd,Array.all_eq_true]at h;have h1:=h i aA;rw[cR,dU aA]at hl;simp at hl h1;rw[hl]at h1;cases h1
 |cons i L ih=>
  intro listed hs h;simp only[Xd,bA]at h;obtain⟨⟨h1,h2⟩,h3⟩:=h;obtain⟨ih1,ih2⟩:=ih (listed.setIfInBounds i true) (by simpa using hs) h3;refine⟨⟨?_,ih1⟩,fun k hk hl=> ?_⟩
  ·unfold Region.ready;rw[bT,bR];cases ho:ops[i]? with
   |none=>simp[ho]at h2
   |some o=>
    refine⟨(fR.1 ho).1,?_⟩;simp only[ho]at h2;simp only[bA];exact⟨h1,by simpa using h2⟩
  ·by_cases hki:i=k
   ·simp[hki]
   ·exact cF _ (ih2 k hk (by rw[getD_set_ne true hki];exact hl))
theorem Lin.unlisted {ops:Array Oper}:∀{L:List Nat} {listed:Array Bool},Lin ops listed L->∀x∈L,listed.getD x true=false:=by
 intro L;induction L with
 |nil=>intro listed _ x hx;cases hx
 |cons i L ih=>
  intro listed h x hx;obtain⟨h1,h2⟩:=h;have hi:=(mem_ready.1 h1).1;rcases aP.1 hx with rfl|hx
  ·exact hi
  ·have:=ih h2 x hx;by_cases xY:i=x
   ·subst xY;exact hi
   ·rwa[getD_set_ne true xY]at this
theorem EN {listed:Array Bool} {i:Nat} (h:listed.getD i true=false):(listed.setIfInBounds i true).getD i true=true:=by
 have pX:i<listed.size:=by
  rcases dV i listed.size with h'|h'
  ·exact h'
  ·simp[iM h']at h
 simp[pX]
theorem Lin.remove {ops:Array Oper} {j:Nat}:∀{pre post:List Nat} {listed:Array Bool},Lin ops listed (pre++j::post)->j∈Region.ready .any ops listed->Lin ops (listed.setIfInBounds j true) (pre++post):=by
 intro pre;induction pre with
 |nil=>intro post listed h _;exact h.2
 |cons i pre ih=>
  intro post listed h hj;obtain⟨h1,h2⟩:=h;have qC:i≠j:=fun e=>by
   subst e;have:=h2.unlisted i aD;rw[EN (mem_ready.1 h1).1]at this;cases this
  have h3:=ih h2 (ready_mono hj (Ne.symm qC));refine⟨ready_mono h1 qC,?_⟩;rw[Array.setIfInBounds_comm _ _ (Ne.symm qC)];exact h3
structure Good (ops:Array Oper) (kd tg:Nat->Nat) (listed:Array Bool) (L:List Nat):Prop where
 size:listed.size=ops.size
 lin:Lin ops listed L
 cover:∀i,i<ops.size->listed.getD i true=false->i∈L
 down:EL ops listed
 pw:L.Pairwise fun i j=>okP ops (Ek ops.toList []) kd tg i j=true
theorem EO {listed:Array Bool} {i:Nat} (h:listed.getD i true=false):listed.getD i false=false:=by
 rcases dV i listed.size with h'|h'
 ·simp[h']at h⊢;exact h
 ·simp[iM h']at h
theorem Good.remove {ops:Array Oper} {kd tg:Nat->Nat} {listed:Array Bool} {pre post:List Nat} {j:Nat} (g:Good ops kd tg listed (pre++j::post)) (hj:j∈Region.ready .any ops listed):Good ops kd tg (listed.setIfInBounds j true) (pre++post):=by
 refine⟨by simpa using g.size,g.lin.remove hj,fun i hi hl=> ?_,fun k o hk hl e he hb=> ?_,?_⟩
 ·by_cases tG:j=i
  ·subst tG;rw[EN (mem_ready.1 hj).1]at hl;cases hl
  ·rw[getD_set_ne true tG]at hl;have:=g.cover i hi hl;simp only[aQ,aP]at this⊢;rcases this with h|h|h
   ·exact .inl h
   ·exact absurd h.symm tG
   ·exact .inr h
 ·by_cases xF:j=k
  ·subst xF;obtain⟨_,o',yM,rC⟩:=mem_ready.1 hj;obtain rfl:o'=o:=fC.inj (yM.symm.trans hk);exact getD_set_true (rC e he hb)
  ·rw[getD_set_ne false xF]at hl;exact getD_set_true (g.down k o hk hl e he hb)
 ·have:=g.pw;rw[dW]at this⊢;obtain⟨h1,h2,h3⟩:=this;exact⟨h1,(fG.1 h2).2,fun a ha b hb=>h3 a ha b (by simp[hb])⟩
theorem Good.ahead {ops:Array Oper} {kd tg:Nat->Nat} {listed:Array Bool} {pre post:List Nat} {j:Nat} (g:Good ops kd tg listed (pre++j::post)) (hj:j∈Region.ready .any ops listed):
  ∀i∈pre,cz ops i j=true/\okK kd tg i j=true:=by
 intro i hi;have h:=(dW.1 g.pw).2.2 i hi j aD;obtain⟨hun,oj,sA,rC⟩:=mem_ready.1 hj;unfold okP at h;rw[dB]at h;rcases h with h|h
 ·exfalso;have hiu:=EO (g.lin.unlisted i (by simp[hi]));obtain⟨e,he,hb,hf⟩:=EM g.down hiu (j+1) j aA oj sA h;rw[rC e he hb]at hf;cases hf
 ·exact Bool.and_eq_true_iff.1 h
theorem de {kd tg:Nat->Nat} {i j:Nat} (h:okK kd tg i j=true):kd i=0\/(kd j=3/\(kd i<=3\/kd i=5))\/((kd i=1\/kd i=5)/\(kd j<=3\/kd j=5))\/(kd i=5/\kd j=6/\tg i≠tg j)\/(kd i=6/\(kd j=5\/kd j=6)/\tg i≠tg j)\/(kd i=5/\(kd j=7\/kd j=8))\/(kd i=6/\kd j=7)\/(kd i=7/\(kd j=0\/kd j=5\/kd j=6\/kd j=7))\/(kd j=0/\(kd i<=3\/kd i=5))\/(kd i=9/\(kd j=0\/kd j=9\/kd j=10)):=by
 simp only[okK,frK,bA,dB,beq_iff_eq,decide_eq_true_eq,bne_iff_ne]at h;rcases h with((((((((h|h)|h)|h)|h)|h)|h)|h)|h)|h
 ·exact .inl h
 ·exact .inr (.inl h)
 ·exact .inr (.inr (.inl h))
 ·exact .inr (.inr (.inr (.inl ⟨h.1.1,h.1.2,h.2⟩)))
 ·exact .inr (.inr (.inr (.inr (.inl ⟨h.1.1,h.1.2,h.2⟩))))
 ·exact .inr (.inr (.inr (.inr (.inr (.inl h)))))
 ·exact .inr (.inr (.inr (.inr (.inr (.inr (.inl h))))))
 ·exact .inr (.inr (.inr (.inr (.inr (.inr (.inr (.inl ⟨h.1,aA⟩)))))))
 ·exact .inr (.inr (.inr (.inr (.inr (.inr (.inr (.inr (.inl h))))))))
 ·exact .inr (.inr (.inr (.inr (.inr (.inr (.inr (.inr (.inr ⟨h.1,aA⟩))))))))
theorem Xe {ops:Array Oper} {i j:Nat} {oj:Oper} (hj:ops[j]? =some oj) (h:cz ops i j=true):∀oi,ops[i]? =some oi->oi.apart ops oj=true:=by
 intro oi hi;unfold cz at h;simpa[hi,hj]using h
section
variable {ro:Option Nat} {rm:Nat} {P:Program} {ops:Array Oper} {kd tg ta:Nat->Nat} {B:Nat} {Q:Exit->Act->World->Prop}
theorem XF (w:World) {g k:Nat} (a b:Array Value) (h:g≠k):(w.setRow g a).setRow k b=(w.setRow k b).setRow g a:=by
 unfold World.setRow;congr 1;apply Array.ext
 ·simp
 ·intro i h1 h2;simp only[Array.getElem_modify];by_cases e1:k=i
  ·subst e1;simp[h]
  ·simp[e1]
theorem XG {Q:Act->World->Prop} {j:Nat} {oj:Oper} (hj:ops[j]? =some oj) (qJ:∀(i:Nat) (o:Oper) cs b,ops[i]? =some o->o.op≠ .select cs b) (xF:kd j=4\/kd j=8\/kd j=10):∀(pre post:List Nat) (a:Act) (w:World),
  (∀i∈pre,(kd i=0\/(kd i=5/\kd j=8)\/(kd i=9/\kd j=10))/\∀oi,ops[i]? =some oi->oi.apart ops oj=true)->wpT P ops kd ta Q (pre++j::post) a w->
  OpS P ops oj a w fun u w'=>(kd j=8->∀m,kd m=5->w'.heap[ta m]? =w.heap[ta m]?)/\(kd j=10->KeepM w w')/\wpT P ops kd ta Q (pre++post) (a.put oj.dst u) w':=by
 intro pre;induction pre with
 |nil=>
  intro post a w _ h;obtain⟨o,ho,h⟩:=h;obtain rfl:o=oj:=fC.inj (ho.symm.trans hj);unfold OpS;rcases h with⟨hn,h⟩|⟨hn,h⟩
  ·rw[if_neg (by simp[hn])];exact⟨fun _ _ _=>rfl,fun _=>KeepM.refl _,h⟩
  ·rw[if_pos hn];rcases h with⟨h0,_⟩|⟨h0,_⟩|⟨h0,_⟩|⟨h0,_⟩|⟨h0,h⟩|⟨h0,_⟩|⟨h0,h⟩|⟨_,_,_,_,h8,_,vT,h⟩
   ·omega
   ·omega
   ·omega
   ·omega
   ·exact h.mono fun v w' ⟨h1,h2⟩=>⟨fun _=>h1,fun e=>aA,h2⟩
   ·omega
   ·exact h.mono fun v w' ⟨h1,h2⟩=>⟨fun e=>aA,fun _=>h1,h2⟩
   ·exact h.mono fun v w' h2=>⟨fun e=>absurd e h8,fun e=>absurd e vT,h2⟩
 |cons i pre ih=>
  intro post a w qG h;obtain⟨o,ho,h⟩:=h;obtain⟨hk,rK⟩:=qG i aD;have rK:=rK o ho;obtain⟨h1,h2,h3⟩:=Oper.apart_spec rK;have rW:∀i∈pre,(kd i=0\/(kd i=5/\kd j=8)\/(kd i=9/\kd j=10))/\∀oi,ops[i]? =some oi->oi.apart ops oj=true:=fun x hx=>qG x (by simp[hx]);have back:∀v,wpT P ops kd ta Q (pre++j::post) (a.put o.dst v) w->OpS P ops oj a w fun u w'=>(kd j=8->∀m,kd m=5->w'.heap[ta m]? =w.heap[ta m]?)/\(kd j=10->KeepM w w')/\wpT P ops kd ta Q (pre++post) ((a.put oj.dst u).put o.dst v) w':=fun v hv=>by
   have:=(OpS.put (P:=P) rK (fun cs b=>qJ j oj cs b hj)).1 (ih post _ w rW hv);exact this.mono fun u w' hh=>by rw[Act.put_comm a v u h2]at hh;exact hh
  have he:∀u,execOp (a.put oj.dst u).eval o=execOp a.eval o:=fun u=>execOp_put o (fun cs b=>qJ i o cs b ho) a oj.dst u h3;rcases h with⟨hn,h⟩|⟨hn,h⟩
  ·exact(back _ h).mono fun u w' hh=>⟨hh.1,hh.2.1,o,ho,.inl ⟨by rw[wanted_put o a oj.dst u h3];exact hn,hh.2.2⟩⟩
  ·have hw:∀u,Region.wanted o (yielded ops (a.put oj.dst u).tmps)=true:=fun u=>by rw[wanted_put o a oj.dst u h3];exact hn
   rcases h with⟨h0,v,hv,h⟩|⟨h0,v,ob,hb,hv,h⟩|⟨h0,_⟩|⟨h0,_⟩|⟨h0,_⟩|⟨h0,v,R,hv,hR,hs,h⟩|⟨h0,_⟩|⟨_,_,_,_,_,_,_,_⟩
   ·exact(back _ h).mono fun u w' hh=>⟨hh.1,hh.2.1,o,ho,.inr ⟨hw u,.inl ⟨h0,v,by rw[he u];exact hv,hh.2.2⟩⟩⟩
   ·have h8:kd j=8:=aA;exact(back _ h).mono fun u w' hh=>⟨hh.1,hh.2.1,o,ho,.inr ⟨hw u,.inr (.inl ⟨h0,v,ob,by rw[hh.1 h8 i h0];exact hb,by rw[he u];exact hv,hh.2.2⟩)⟩⟩
   ·omega
   ·omega
   ·omega
   ·have vT:kd j=10:=aA;exact(back _ h).mono fun u w' hh=>⟨hh.1,hh.2.1,o,ho,.inr ⟨hw u,.inr (.inr (.inr (.inr (.inr (.inl ⟨h0,v,R,by rw[he u];exact hv,hs w w' (hh.2.1 vT) hR,hs,hh.2.2⟩)))))⟩⟩
   ·omega
   ·omega
theorem XH {Q:Act->World->Prop} {j:Nat} {oj:Oper} (hj:ops[j]? =some oj) (qJ:∀(i:Nat) (o:Oper) cs b,ops[i]? =some o->o.op≠ .select cs b):∀(pre post:List Nat) (a:Act) (w:World),
  (∀i∈pre,∀oi,ops[i]? =some oi->oi.apart ops oj=true)->Region.wanted oj (yielded ops a.tmps)=false->wpT P ops kd ta Q (pre++j::post) a w->wpT P ops kd ta Q (pre++post) (a.put oj.dst undef) w:=by
 intro pre;induction pre with
 |nil=>
  intro post a w _ hn h;obtain⟨o,ho,h⟩:=h;obtain rfl:o=oj:=fC.inj (ho.symm.trans hj);rcases h with⟨_,h⟩|⟨sP,_⟩
  ·exact h
  ·rw[hn]at sP;cases sP
 |cons i pre ih=>
  intro post a w rK hn h;obtain⟨o,ho,h⟩:=h;have zT:=rK i aD o ho;obtain⟨h1,h2,h3⟩:=Oper.apart_spec zT;have zU:∀i∈pre,∀oi,ops[i]? =some oi->oi.apart ops oj=true:=fun x hx=>rK x (by simp[hx]);have go:∀v w',wpT P ops kd ta Q (pre++j::post) (a.put o.dst v) w'->wpT P ops kd ta Q (pre++post) ((a.put oj.dst undef).put o.dst v) w':=fun v w' hh=>by
   have:=ih post (a.put o.dst v) w' zU (by rw[wanted_put oj a o.dst v h1];exact hn) hh
   rwa[Act.put_comm a v undef h2]at this
  refine⟨o,ho,?_⟩;have he:execOp (a.put oj.dst undef).eval o=execOp a.eval o:=execOp_put o (fun cs b=>qJ i o cs b ho) a oj.dst undef h3;rw[wanted_put o a oj.dst undef h3,he];rcases h with⟨hn,h⟩|⟨hn,h⟩
  ·exact .inl ⟨hn,go _ _ h⟩
  ·refine .inr ⟨hn,?_⟩;rcases h with⟨h0,v,hv,h⟩|⟨h0,v,ob,hb,hv,h⟩|⟨h0,ob,cs,hb,hv,h⟩|⟨h0,v,R,hv,hR,hs,h⟩|⟨h0,h⟩|⟨h0,v,R,hv,hR,hs,h⟩|⟨h0,h⟩|⟨h0,h5,h6,h7,h8,h9,vT,h⟩
   ·exact .inl ⟨h0,v,hv,go _ _ h⟩
   ·exact .inr (.inl ⟨h0,v,ob,hb,hv,go _ _ h⟩)
   ·exact .inr (.inr (.inl ⟨h0,ob,cs,hb,hv,go _ _ h⟩))
   ·exact .inr (.inr (.inr (.inl ⟨h0,v,R,hv,hR,hs,go _ _ h⟩)))
   ·refine .inr (.inr (.inr (.inr (.inl ⟨h0,?_⟩))));have:=h.mono fun v w' (hh:_/\_)=>And.intro hh.1 (go v w' hh.2);unfold Stp at this⊢;rw[he];exact this
   ·exact .inr (.inr (.inr (.inr (.inr (.inl ⟨h0,v,R,hv,hR,hs,go _ _ h⟩)))))
   ·refine .inr (.inr (.inr (.inr (.inr (.inr (.inl ⟨h0,?_⟩))))));have:=h.mono fun v w' (hh:_/\_)=>And.intro hh.1 (go v w' hh.2);unfold Stp at this⊢;rw[he];exact this
   ·refine .inr (.inr (.inr (.inr (.inr (.inr (.inr ⟨h0,h5,h6,h7,h8,h9,vT,?_⟩))))));have:=h.mono fun v w' hh=>go v w' hh;unfold Stp at this⊢;rw[he];exact this
structure EP (kd ta:Nat->Nat) (kj tj:Nat) (run:World->Result Next) (u:Value) (R:World->Prop) (E:World->World):Prop where
 run:∀w,R w->(run w= .ok (.value u) (E w)\/(run w= .ok .skip (E w)/\u=undef))
 id:kj≠6->∀w,E w=w
 all:kj=0->∀w,R w
 rs:∀w m c,kd m=6->(kj=7\/ta m≠tj)->R (w.setRow (ta m) c)->R w
 es:∀w t c,t≠tj->E (w.setRow t c)=(E w).setRow t c
 ot:∀w t,t≠tj->(E w).heap[t]? =w.heap[t]?
 ef:∀w,E w=w\/(kj=6/\∃c,E w=w.setRow tj c)
theorem XI {Q:Act->World->Prop} {j:Nat} {oj:Oper} (hj:ops[j]? =some oj) (qJ:∀(i:Nat) (o:Oper) cs b,ops[i]? =some o->o.op≠ .select cs b) (xF:kd j=0\/kd j=5\/kd j=6\/kd j=7):∀(pre post:List Nat) (a:Act) (w:World),
  (∀i∈pre,(kd i=0\/(kd i=5/\(kd j=6->ta i≠ta j))\/(kd i=6/\kd j≠0/\(kd j=7\/ta i≠ta j))\/kd i=7\/(kd i=9/\kd j=0))/\∀oi,ops[i]? =some oi->oi.apart ops oj=true)->Region.wanted oj (yielded ops a.tmps)=true->wpT P ops kd ta Q (pre++j::post) a w->
  ∃u R E,EP kd ta (kd j) (ta j) (fun w=>(execOp a.eval oj).run P w) u R E/\R w/\wpT P ops kd ta Q (pre++post) (a.put oj.dst u) (E w):=by
 intro pre;induction pre with
 |nil=>
  intro post a w _ hn h;obtain⟨o,ho,h⟩:=h;obtain rfl:o=oj:=fC.inj (ho.symm.trans hj);rcases h with⟨sP,_⟩|⟨_,h⟩
  ·rw[hn]at sP;cases sP
  ·rcases h with⟨h0,v,hv,h⟩|⟨h0,v,ob,hb,hv,h⟩|⟨h0,ob,cs,hb,hv,h⟩|⟨h0,v,R,hv,hR,hs,h⟩|⟨h0,_⟩|⟨h0,_⟩|⟨h0,_⟩|⟨h0,h5,h6,h7,_⟩
   ·exact⟨v,fun _=>True,fun w=>w,⟨fun w _=> .inl (hv w),fun _ _=>rfl,fun _ _=>trivial,fun _ _ _ _ _ _=>trivial,fun _ _ _ _=>rfl,fun _ _ _=>rfl,fun _=> .inl rfl⟩,trivial,h⟩
   ·exact⟨v,fun w=>w.heap[ta j]? =some ob,fun w=>w,⟨fun w hw=> .inl (hv w hw),fun _ _=>rfl,fun h=>aA,fun w m c _ qC hw=>by rw[setRow_other _ _ _ _ (Ne.symm (qC.resolve_left aA))]at hw;exact hw,fun _ _ _ _=>rfl,fun _ _ _=>rfl,fun _=> .inl rfl⟩,hb,h⟩
   ·exact⟨undef,fun w=>w.heap[ta j]? =some ob,fun w=>w.setRow (ta j) cs,⟨fun w hw=> .inr ⟨hv w hw,rfl⟩,fun h=>absurd h0 h,fun h=>aA,fun w m c _ qC hw=>by rw[setRow_other _ _ _ _ (Ne.symm (qC.resolve_left aA))]at hw;exact hw,fun w t c qC=>XF w c cs qC,fun w t qC=>setRow_other _ _ _ _ qC,fun _=> .inr ⟨h0,cs,rfl⟩⟩,hb,h⟩
   ·exact⟨v,R,fun w=>w,⟨fun w hw=> .inl (hv w hw),fun _ _=>rfl,fun h=>aA,fun w m c hm _ hw=>(hs m c w hm).1 hw,fun _ _ _ _=>rfl,fun _ _ _=>rfl,fun _=> .inl rfl⟩,hR,h⟩
   ·omega
   ·omega
   ·omega
   ·omega
 |cons i pre ih=>
  intro post a w qG hn h;obtain⟨o,ho,h⟩:=h;obtain⟨hk,rK⟩:=qG i aD;have rK:=rK o ho;obtain⟨h1,h2,h3⟩:=Oper.apart_spec rK;have rW:=fun x (hx:x∈pre)=>qG x (by simp[hx]);have hw:∀u,Region.wanted o (yielded ops (a.put oj.dst u).tmps)=Region.wanted o (yielded ops a.tmps):=fun u=>wanted_put o a oj.dst u h3;have he:∀u,execOp (a.put oj.dst u).eval o=execOp a.eval o:=fun u=>execOp_put o (fun cs b=>qJ i o cs b ho) a oj.dst u h3;have back:∀v w',wpT P ops kd ta Q (pre++j::post) (a.put o.dst v) w'->∃u R E,EP kd ta (kd j) (ta j) (fun w=>(execOp a.eval oj).run P w) u R E/\R w'/\wpT P ops kd ta Q (pre++post) ((a.put oj.dst u).put o.dst v) (E w'):=fun v w' hh=>by
   obtain⟨u,R,E,hA,hR,sP⟩:=ih post _ w' rW (by rw[wanted_put oj a o.dst v h1];exact hn) hh;rw[execOp_put oj (fun cs b=>qJ j oj cs b hj) a o.dst v h1]at hA;rw[Act.put_comm a v u h2]at sP;exact⟨u,R,E,hA,hR,sP⟩
  rcases h with⟨zG,h⟩|⟨zG,h⟩
  ·obtain⟨u,R,E,hA,hR,hh⟩:=back _ _ h;exact⟨u,R,E,hA,hR,o,ho,.inl ⟨by rw[hw];exact zG,hh⟩⟩
  ·rcases h with⟨h0,v,hv,h⟩|⟨h0,v,ob,hb,hv,h⟩|⟨h0,ob,cs,hb,hv,h⟩|⟨h0,v,Ri,hv,hRi,hs,h⟩|⟨h0,_⟩|⟨h0,v,Ri,hv,hRi,hs,h⟩|⟨h0,_⟩|⟨h0,h5,h6,h7,h8,h9,vT,_⟩
   ·obtain⟨u,R,E,hA,hR,hh⟩:=back _ _ h;exact⟨u,R,E,hA,hR,o,ho,.inr ⟨by rw[hw];exact zG,.inl ⟨h0,v,by rw[he u];exact hv,hh⟩⟩⟩
   ·obtain⟨u,R,E,hA,hR,hh⟩:=back _ _ h;have rJ:(E w).heap[ta i]? =some ob:=by
     by_cases h6:kd j=6
     ·have qC:ta i≠ta j:=by
       rcases hk with hk|⟨_,hk⟩|⟨hk,_⟩|hk|⟨hk,_⟩
       ·omega
       ·exact hk h6
       ·omega
       ·omega
       ·omega
      rw[hA.ot w _ qC];exact hb
     ·rw[hA.id h6];exact hb
    exact⟨u,R,E,hA,hR,o,ho,.inr ⟨by rw[hw];exact zG,.inr (.inl ⟨h0,v,ob,rJ,by rw[he u];exact hv,hh⟩)⟩⟩
   ·obtain⟨u,R,E,hA,hR,hh⟩:=back _ _ h;have uA:kd j=7\/ta i≠ta j:=by
     rcases hk with hk|⟨hk,_⟩|⟨_,_,hk⟩|hk|⟨hk,_⟩
     ·omega
     ·omega
     ·exact hk
     ·omega
     ·omega
    refine⟨u,R,E,hA,hA.rs w i cs h0 uA hR,o,ho,.inr ⟨by rw[hw];exact zG,.inr (.inr (.inl ⟨h0,ob,cs,?_,by rw[he u];exact hv,?_⟩))⟩⟩
    ·rcases uA with h7|qC
     ·rw[hA.id aA];exact hb
     ·rw[hA.ot w _ qC];exact hb
    ·rcases uA with h7|qC
     ·rw[hA.id aA]at hh⊢;exact hh
     ·rw[<-hA.es w _ cs qC];exact hh
   ·obtain⟨u,R,E,hA,hR,hh⟩:=back _ _ h;have a4a:Ri (E w):=by
     rcases hA.ef w with e|⟨h6,c,e⟩
     ·rw[e];exact hRi
     ·rw[e];exact(hs j c w h6).2 hRi
    exact⟨u,R,E,hA,hR,o,ho,.inr ⟨by rw[hw];exact zG,.inr (.inr (.inr (.inl ⟨h0,v,Ri,by rw[he u];exact hv,a4a,hs,hh⟩)))⟩⟩
   ·omega
   ·obtain⟨u,R,E,hA,hR,hh⟩:=back _ _ h;exact⟨u,R,E,hA,hR,o,ho,.inr ⟨by rw[hw];exact zG,.inr (.inr (.inr (.inr (.inr (.inl ⟨h0,v,Ri,by rw[he u];exact hv,by rw[hA.id aA];exact hRi,hs,hh⟩)))))⟩⟩
   ·omega
   ·omega
theorem XJ {Q:Act->World->Prop} {j:Nat} {oj:Oper} (hj:ops[j]? =some oj) (qJ:∀(i:Nat) (o:Oper) cs b,ops[i]? =some o->o.op≠ .select cs b) (xF:kd j=9):∀(pre post:List Nat) (a:Act) (w:World),
  (∀i∈pre,(kd i=0\/kd i=9)/\∀oi,ops[i]? =some oi->oi.apart ops oj=true)->Region.wanted oj (yielded ops a.tmps)=true->wpT P ops kd ta Q (pre++j::post) a w->
  ∃u,(execOp a.eval oj).run P w= .ok (.value u) w/\wpT P ops kd ta Q (pre++post) (a.put oj.dst u) w:=by
 intro pre;induction pre with
 |nil=>
  intro post a w _ hn h;obtain⟨o,ho,h⟩:=h;obtain rfl:o=oj:=fC.inj (ho.symm.trans hj);rcases h with⟨sP,_⟩|⟨_,h⟩
  ·rw[hn]at sP;cases sP
  ·rcases h with⟨h0,_⟩|⟨h0,_⟩|⟨h0,_⟩|⟨h0,_⟩|⟨h0,_⟩|⟨h0,v,R,hv,hR,hs,h⟩|⟨h0,_⟩|⟨_,_,_,_,_,h9,_⟩
   ·omega
   ·omega
   ·omega
   ·omega
   ·omega
   ·exact⟨v,hv w hR,h⟩
   ·omega
   ·omega
 |cons i pre ih=>
  intro post a w qG hn h;obtain⟨o,ho,h⟩:=h;obtain⟨hk,rK⟩:=qG i aD;have rK:=rK o ho;obtain⟨h1,h2,h3⟩:=Oper.apart_spec rK;have rW:=fun x (hx:x∈pre)=>qG x (by simp[hx]);have hw:∀u,Region.wanted o (yielded ops (a.put oj.dst u).tmps)=Region.wanted o (yielded ops a.tmps):=fun u=>wanted_put o a oj.dst u h3;have he:∀u,execOp (a.put oj.dst u).eval o=execOp a.eval o:=fun u=>execOp_put o (fun cs b=>qJ i o cs b ho) a oj.dst u h3;have back:∀v,wpT P ops kd ta Q (pre++j::post) (a.put o.dst v) w->∃u,(execOp a.eval oj).run P w= .ok (.value u) w/\wpT P ops kd ta Q (pre++post) ((a.put oj.dst u).put o.dst v) w:=fun v hh=>by
   obtain⟨u,hA,sP⟩:=ih post _ w rW (by rw[wanted_put oj a o.dst v h1];exact hn) hh;rw[execOp_put oj (fun cs b=>qJ j oj cs b hj) a o.dst v h1]at hA;rw[Act.put_comm a v u h2]at sP;exact⟨u,hA,sP⟩
  rcases h with⟨zG,h⟩|⟨zG,h⟩
  ·obtain⟨u,hA,hh⟩:=back _ h;exact⟨u,hA,o,ho,.inl ⟨by rw[hw];exact zG,hh⟩⟩
  ·rcases h with⟨h0,v,hv,h⟩|⟨h0,_⟩|⟨h0,_⟩|⟨h0,_⟩|⟨h0,_⟩|⟨h0,v,R,hv,hR,hs,h⟩|⟨h0,_⟩|⟨h0,_,_,_,_,h9,_⟩
   ·obtain⟨u,hA,hh⟩:=back _ h;exact⟨u,hA,o,ho,.inr ⟨by rw[hw];exact zG,.inl ⟨h0,v,by rw[he u];exact hv,hh⟩⟩⟩
   ·omega
   ·omega
   ·omega
   ·omega
   ·obtain⟨u,hA,hh⟩:=back _ h;exact⟨u,hA,o,ho,.inr ⟨by rw[hw];exact zG,.inr (.inr (.inr (.inr (.inr (.inl ⟨h0,v,R,by rw[he u];exact hv,hR,hs,hh⟩)))))⟩⟩
   ·omega
   ·omega
theorem XK {Q:Act->World->Prop} {T:List Nat}:∀(F bs:List Nat) (a:Act) (w:World),(∀i∈F,kd i=0\/kd i=5)->wpF P ops kd ta B (wpT P ops kd ta Q T) F bs a w->wpT P ops kd ta Q (F++T) a w:=by
 intro F;induction F with
 |nil=>intro bs a w _ h;exact h w (Ext.refl _)
 |cons i F ih=>
  intro bs a w hk h;obtain⟨o,ho,h⟩:=h;have h0:=hk i aD;have qY:∀i∈F,kd i=0\/kd i=5:=fun x hx=>hk x (by simp[hx]);refine⟨o,ho,?_⟩;rcases h with⟨hn,h⟩|⟨hn,h⟩
  ·exact .inl ⟨hn,ih _ _ _ qY h⟩
  ·refine .inr ⟨hn,?_⟩;rcases h with⟨h0',v,hv,h⟩|⟨h0',_⟩|⟨h0',_⟩|⟨h0',_⟩|⟨h0',v,ob,hb,hv,h⟩
   ·exact .inl ⟨h0',v,hv,ih _ _ _ qY h⟩
   ·omega
   ·omega
   ·omega
   ·exact .inr (.inl ⟨h0',v,ob,hb,hv,ih _ _ _ qY h⟩)
theorem qw {j:Nat} {L:List Nat} (h:j∈L):∃pre post,L=pre++j::post:=List.append_of_mem h
theorem EQ {listed:Array Bool} {i:Nat} {L:List Nat} (h:Lin ops listed (i::L)):Region.ready .any ops listed≠[]:=fun e=>by
 have:=h.1;rw[e]at this;cases this
theorem ER (vD:∀i j,(kd i=5\/kd i=6)->(kd j=5\/kd j=6)->tg i≠tg j->ta i≠ta j) (qJ:∀(i:Nat) (o:Oper) cs b,ops[i]? =some o->o.op≠ .select cs b):∀(n:Nat) (T:List Nat) (listed:Array Bool) (a:Act) (w:World),T.length=n->Good ops kd tg listed T->(∀i∈T,kd i=0\/kd i=4\/kd i=5\/kd i=6\/kd i=7\/kd i=8\/kd i=9\/kd i=10)->
  wpT P ops kd ta (Q .normal) T a w->wpAnyIn (Fr ro) rm P .any ops Q n listed a w:=by
 intro n;induction n with
 |zero=>
  intro T listed a w hn g hk h;obtain rfl:T=[]:=aI hn;refine⟨?_,h⟩;cases hr:Region.ready .any ops listed with
  |nil=>rfl
  |cons x xs=>
   exfalso;have hx:x∈Region.ready .any ops listed:=by rw[hr];simp
   obtain⟨hun,o,ho,_⟩:=mem_ready.1 hx;have:=g.cover x (fR.1 ho).1 hun;cases this
 |succ n ih=>
  intro T listed a w hn g hk h;refine⟨fun hr=> ?_,fun j hj=> ?_⟩
  ·cases T with
   |nil=>simp at hn
   |cons i L=>exact absurd hr (EQ g.lin)
  ·obtain⟨hun,oj,sA,_⟩:=mem_ready.1 hj;obtain⟨pre,post,rfl⟩:=qw (g.cover j (fR.1 sA).1 hun);have hah:=g.ahead hj;have rK:∀i∈pre,∀oi,ops[i]? =some oi->oi.apart ops oj=true:=fun i hi=>Xe sA (hah i hi).1;have xF:=hk j aD;have next:∀u w',wpT P ops kd ta (Q .normal) (pre++post) (a.put oj.dst u) w'->wpAnyIn (Fr ro) rm P .any ops Q n (listed.setIfInBounds j true) (a.put oj.dst u) w':=fun u w' hh=>ih (pre++post) _ _ _ (by simp at hn⊢;omega) (g.remove hj) (fun i hi=>hk i (by simp at hi⊢;rcases hi with h|h<;>simp[h])) hh;by_cases h4:kd j=4\/kd j=8\/kd j=10
   ·have qG:∀i∈pre,(kd i=0\/(kd i=5/\kd j=8)\/(kd i=9/\kd j=10))/\∀oi,ops[i]? =some oi->oi.apart ops oj=true:=fun i hi=>by
     have h2:=de (hah i hi).2;have hki:=hk i (by simp[hi]);exact⟨aA,rK i hi⟩
    exact(XG sA qJ h4 pre post a w qG h).wpOpIn sA fun u w' hh=>next u w' hh.2.2
   ·by_cases qE:Region.wanted oj (yielded ops a.tmps)=true
    ·by_cases h9:kd j=9
     ·have qG:∀i∈pre,(kd i=0\/kd i=9)/\∀oi,ops[i]? =some oi->oi.apart ops oj=true:=fun i hi=>by
       have h2:=de (hah i hi).2;have hki:=hk i (by simp[hi]);exact⟨aA,rK i hi⟩
      obtain⟨u,hA,hh⟩:=XJ sA qJ h9 pre post a w qG qE h;have hS:OpS P ops oj a w fun u' w'=>u'=u/\w'=w:=by
       unfold OpS;rw[if_pos qE];unfold Stp;rw[hA];exact⟨rfl,rfl⟩
      refine hS.wpOpIn sA ?_;rintro u' w' ⟨rfl,rfl⟩;exact next _ _ hh
     have qG:∀i∈pre,(kd i=0\/(kd i=5/\(kd j=6->ta i≠ta j))\/(kd i=6/\kd j≠0/\(kd j=7\/ta i≠ta j))\/kd i=7\/(kd i=9/\kd j=0))/\∀oi,ops[i]? =some oi->oi.apart ops oj=true:=fun i hi=>by
      refine⟨?_,rK i hi⟩;have hki:=hk i (by simp[hi]);rcases de (hah i hi).2 with h|⟨h,_⟩|⟨h,h'⟩|⟨h,h',qC⟩|⟨h,h',qC⟩|⟨h,h'⟩|⟨h,h'⟩|⟨h,h'⟩|⟨h,h'⟩|⟨h,h'⟩
      ·exact .inl h
      ·omega
      ·exact .inr (.inl ⟨aA,fun e=>aA⟩)
      ·exact .inr (.inl ⟨h,fun _=>vD i j (.inl h) (.inr h') qC⟩)
      ·exact .inr (.inr (.inl ⟨h,aA,.inr (vD i j (.inr h) h' qC)⟩))
      ·exact .inr (.inl ⟨h,fun e=>aA⟩)
      ·exact .inr (.inr (.inl ⟨h,aA,.inl h'⟩))
      ·exact .inr (.inr (.inr (.inl h)))
      ·by_cases h0:kd i=0
       ·exact .inl h0
       ·exact .inr (.inl ⟨aA,fun e=>aA⟩)
      ·exact .inr (.inr (.inr (.inr ⟨h,aA⟩)))
     obtain⟨u,R,E,hA,hR,hh⟩:=XI sA qJ aA pre post a w qG qE h;have hS:OpS P ops oj a w fun u' w'=>u'=u/\w'=E w:=by
      unfold OpS;rw[if_pos qE];unfold Stp;rcases hA.run w hR with e|⟨e,e'⟩
      ·rw[show(execOp a.eval oj).run P w=_ from e];exact⟨rfl,rfl⟩
      ·rw[show(execOp a.eval oj).run P w=_ from e];exact⟨e'.symm,rfl⟩
     refine hS.wpOpIn sA ?_;rintro u' w' ⟨rfl,rfl⟩;exact next _ _ hh
    ·have hS:OpS P ops oj a w fun u w'=>u=undef/\w'=w:=by
      unfold OpS;rw[if_neg qE];exact⟨rfl,rfl⟩
     refine hS.wpOpIn sA ?_;rintro u w' ⟨rfl,rfl⟩;exact next _ _ (XH sA qJ pre post a _ rK (by simpa using qE) h)
theorem ES {T:Act->World->Prop} {j:Nat} {oj:Oper} (sA:ops[j]? =some oj) (qJ:∀(i:Nat) (o:Oper) cs b,ops[i]? =some o->o.op≠ .select cs b):∀(pre post bs:List Nat) (a:Act) (w:World),(∀i∈pre,∀oi,ops[i]? =some oi->oi.apart ops oj=true)->Region.wanted oj (yielded ops a.tmps)=false->wpF P ops kd ta B T (pre++j::post) bs a w->wpF P ops kd ta B T (pre++post) bs (a.put oj.dst undef) w:=by
 intro pre;induction pre with
 |nil=>
  intro post bs a w _ hn h;obtain⟨o,ho,h⟩:=h;obtain rfl:o=oj:=fC.inj (ho.symm.trans sA);rcases h with⟨_,h⟩|⟨sP,_⟩
  ·exact h
  ·rw[hn]at sP;cases sP
 |cons i pre ih2=>
  intro post bs a w rK hn h;obtain⟨o,ho,h⟩:=h;have zT:=rK i aD o ho;obtain⟨h1,h2,h3⟩:=Oper.apart_spec zT;have zU:∀i∈pre,∀oi,ops[i]? =some oi->oi.apart ops oj=true:=fun x hx=>rK x (by simp[hx]);have go:∀v bs' W',wpF P ops kd ta B T (pre++j::post) bs' (a.put o.dst v) W'->wpF P ops kd ta B T (pre++post) bs' ((a.put oj.dst undef).put o.dst v) W':=fun v bs' W' hh=>by
   have:=ih2 post bs' (a.put o.dst v) W' zU (by rw[wanted_put oj a o.dst v h1];exact hn) hh
   rwa[Act.put_comm a v undef h2]at this
  refine⟨o,ho,?_⟩;have he:execOp (a.put oj.dst undef).eval o=execOp a.eval o:=execOp_put o (fun cs b=>qJ i o cs b ho) a oj.dst undef h3;rw[wanted_put o a oj.dst undef h3,he];rcases h with⟨hn,h⟩|⟨hn,h⟩
  ·exact .inl ⟨hn,go _ _ _ h⟩
  ·refine .inr ⟨hn,?_⟩;rcases h with⟨h0,v,hv,h⟩|⟨h0,v,hv,h⟩|⟨h0,V,hc,h⟩|⟨h0,mk',ob',hr,h⟩|⟨h0,v,ob,hb,hv,h⟩
   ·exact .inl ⟨h0,v,hv,go _ _ _ h⟩
   ·exact .inr (.inl ⟨h0,v,hv,go _ _ _ h⟩)
   ·exact .inr (.inr (.inl ⟨h0,V,fun w hw=>by have:=hc w hw;unfold Stp at this⊢;rw[he];exact this,fun v cs W2 vS hV qM=>go _ _ _ (h v cs W2 vS hV qM)⟩))
   ·exact .inr (.inr (.inr (.inl ⟨h0,mk',ob',hr,fun b W2 vS sV sG hB=>go _ _ _ (h b W2 vS sV sG hB)⟩)))
   ·exact .inr (.inr (.inr (.inr ⟨h0,v,ob,hb,hv,go _ _ _ h⟩)))
theorem XL (vD:∀i j,(kd i=5\/kd i=6)->(kd j=5\/kd j=6)->tg i≠tg j->ta i≠ta j) (qJ:∀(i:Nat) (o:Oper) cs b,ops[i]? =some o->o.op≠ .select cs b):∀(n:Nat) (F T bs:List Nat) (listed:Array Bool) (a:Act) (w:World),F.length+T.length=n->Good ops kd tg listed (F++T)->(∀i∈F,kd i<=3\/kd i=5)->(∀i∈T,kd i=0\/kd i=4\/kd i=5\/kd i=6\/kd i=7\/kd i=8\/kd i=9\/kd i=10)->(∀i∈F,∀j∈T,((Ek ops.toList []).getD j 0).testBit i=true\/kd i=0\/kd i=5)->
  B<=w.heap.size->(∀b∈bs,b<w.heap.size)->wpF P ops kd ta B (wpT P ops kd ta (Q .normal) T) F bs a w->wpAnyIn (Fr ro) rm P .any ops Q n listed a w:=by
 intro n;induction n with
 |zero=>
  intro F T bs listed a w hn g hkF hkT hFT hB rL h;have hF:F=[]:=aI aA;have hT:T=[]:=aI aA;subst hF;subst hT;exact ER vD qJ 0 [] listed a w rfl g aD (h w (Ext.refl _))
 |succ n ih=>
  intro F T bs listed a w hn g hkF hkT hFT hB rL h;refine⟨fun hr=> ?_,fun j hj=> ?_⟩
  ·cases hFT:F++T with
   |nil=>simp at hFT;obtain⟨h1,h2⟩:=hFT;subst h1;subst h2;simp at hn
   |cons i L=>exact absurd hr (EQ (by rw[<-hFT];exact g.lin))
  ·obtain⟨hun,oj,sA,_⟩:=mem_ready.1 hj;have sB:=g.cover j (fR.1 sA).1 hun;rcases aQ.1 sB with hmF|hmT
   ·obtain⟨pre,post,rfl⟩:=qw hmF;rw[bH,cL]at g;have hah:=g.ahead hj;have xF:=hkF j aD;have yN:=g.remove hj;rw[<-bH]at yN;have zW:∀i∈pre++post,kd i<=3\/kd i=5:=fun i hi=>hkF i (by simp at hi⊢;rcases hi with h|h<;>simp[h]);have zX:∀i∈pre++post,∀j∈T,((Ek ops.toList []).getD j 0).testBit i=true\/kd i=0\/kd i=5:=fun i hi=>hFT i (by simp at hi⊢;rcases hi with h|h<;>simp[h]);have qD:(pre++post).length+T.length=n:=by simp at hn⊢;omega
    by_cases h3:kd j=3
    ·--a new block
     have rK:∀i∈pre,∀oi,ops[i]? =some oi->oi.apart ops oj=true:=fun i hi=>Xe sA (hah i hi).1;by_cases qE:Region.wanted oj (yielded ops a.tmps)=true
     ·obtain⟨mk,ob,hr⟩:=WV sA qJ h3 pre post bs a w rK hB rL qE h;have hS:OpS P ops oj a w fun u w'=>u=mk w.heap.size/\w'=w.alloc ob:=by
       unfold OpS;rw[if_pos qE];unfold Stp;rw[hr w];exact⟨rfl,rfl⟩
      refine hS.wpOpIn sA ?_;rintro u w' ⟨rfl,rfl⟩;have rR:(w.alloc ob).heap.size=w.heap.size+1:=by show(w.heap.push ob).size=_;simp
      refine ih (pre++post) T (w.heap.size::bs) _ _ _ qD yN zW hkT zX aA ?_ (XA sA qJ h3 mk ob w.heap.size pre post bs a w _ rK hr qE (Ext.alloc w ob) (by show(w.heap.push ob)[w.heap.size]? =_;simp) (fun hm=>lT _ (rL _ hm)) hB h);intro b hb;simp only[aP]at hb;rcases hb with rfl|hb
      ·omega
      ·have:=rL b hb;omega
     ·--not wanted: 'undef'
      have rP:Region.wanted oj (yielded ops a.tmps)=false:=by simpa using qE
      have hS:OpS P ops oj a w fun u w'=>u=undef/\w'=w:=by
       unfold OpS;rw[if_neg qE];exact⟨rfl,rfl⟩
      refine hS.wpOpIn sA ?_;rintro u w' ⟨rfl,rfl⟩;refine ih (pre++post) T bs _ _ _ qD yN zW hkT zX hB rL ?_;exact ES sA qJ pre post bs a _ rK rP h
    ·by_cases xZ:kd j=0/\Region.wanted oj (yielded ops a.tmps)=true
     ·obtain⟨xZ,qE⟩:=xZ;have rK:∀i∈pre,∀oi,ops[i]? =some oi->oi.apart ops oj=true:=fun i hi=>Xe sA (hah i hi).1;obtain⟨v,hv⟩:=WW sA qJ xZ pre post bs a w rK hB rL qE h;have hS:OpS P ops oj a w fun u w'=>u=v/\w'=w:=by
       unfold OpS;rw[if_pos qE];unfold Stp;rw[hv w];exact⟨rfl,rfl⟩
      refine hS.wpOpIn sA ?_;rintro u w' ⟨rfl,rfl⟩;exact ih (pre++post) T bs _ _ _ qD yN zW hkT zX hB rL (WX sA qJ xZ pre post bs a _ rK hv qE h)
     by_cases qE:Region.wanted oj (yielded ops a.tmps)=false
     ·have rK:∀i∈pre,∀oi,ops[i]? =some oi->oi.apart ops oj=true:=fun i hi=>Xe sA (hah i hi).1;have hS:OpS P ops oj a w fun u w'=>u=undef/\w'=w:=by
       unfold OpS;rw[if_neg (by simp[qE])];exact⟨rfl,rfl⟩
      refine hS.wpOpIn sA ?_;rintro u w' ⟨rfl,rfl⟩;exact ih (pre++post) T bs _ _ _ qD yN zW hkT zX hB rL (ES sA qJ pre post bs a _ rK qE h)
     have xZ:kd j≠0:=fun e=>xZ ⟨e,by simpa using qE⟩;have qG:∀i∈pre,(kd i<=1\/kd i=5)/\∀oi,ops[i]? =some oi->oi.apart ops oj=true:=fun i hi=>by
      obtain⟨h1,h2⟩:=hah i hi;have h2:=de h2;have hki:=hkF i (by simp[hi]);exact⟨aA,Xe sA h1⟩
     refine(WU sA qJ aA pre post bs a w hB rL qG h).wpOpIn sA fun u w' ⟨hx,cs,qM,hh⟩=>ih (pre++post) T (cs++bs) _ _ _ qD yN zW hkT zX (bD hB hx.size) (fun b hb=> ?_) hh;rcases aQ.1 hb with hb|hb
     ·exact(qM b hb).2
     ·exact aU (rL b hb) hx.size
   ·obtain⟨pre,post,rfl⟩:=qw hmT;rw[<-bH]at g;have hF0:∀i∈F,kd i=0\/kd i=5:=fun i hi=>by
     rcases hFT i hi j aD with hb|h0
     ·exfalso;obtain⟨_,oj',a4b,rC⟩:=mem_ready.1 hj;obtain⟨e,he,hbe,hf⟩:=EM g.down (EO (g.lin.unlisted i (by simp[hi]))) (j+1) j aA oj' a4b hb;rw[rC e he hbe]at hf;cases hf
     ·exact h0
    have:=XK F bs a w hF0 h;exact((ER (P:=P) (Q:=Q) (ro:=ro) (rm:=rm) vD qJ (n+1) (F++(pre++j::post)) listed a w (by simp at hn⊢;omega) (by rw[<-bH];exact g) (fun i hi=>by
     rcases aQ.1 hi with h|h
     ·have:=hF0 i h;omega
     ·exact hkT i h) this).2 j hj)
def Qk (ops:Array Oper) (A:List Nat) (kd tg:Nat->Nat) (F T:List Nat):Bool:=
 Region.noSelect ops&&Xd ops (gQ ops.size false) (F++T)&&okL ops A kd tg (F++T)&&(F.all fun i=>frK (kd i))&&(T.all fun i=>kd i==0||kd i==4||kd i==5||kd i==6||kd i==7||kd i==8||kd i==9||kd i==10)&&
  (F.all fun i=>kd i==0||kd i==5||T.all fun j=>(A.getD j 0).testBit i)&&F.length+T.length==ops.size
theorem XM {A:List Nat}:∀{L:List Nat},okL ops A kd tg L=true->L.Pairwise fun i j=>okP ops A kd tg i j=true:=by
 intro L;induction L with
 |nil=>intro _;exact gV
 |cons i L ih=>
  intro h;simp only[okL,bA,dE]at h;exact fG.2 ⟨h.1,ih h.2⟩
theorem ET {F T:List Nat} {a:Act} {w:World} (hB:Qk ops (Ek ops.toList []) kd tg F T=true) (vD:∀i j,(kd i=5\/kd i=6)->(kd j=5\/kd j=6)->tg i≠tg j->ta i≠ta j)
  (h:wpF P ops kd ta w.heap.size (wpT P ops kd ta (Q .normal) T) F [] a {w with drawn:=w.drawn+1}):wpAnyIn (Fr ro) rm P .any ops Q ops.size (gQ ops.size false) a {w with drawn:=w.drawn+1}:=by
 simp only[Qk,frK,bA,dE,dB,beq_iff_eq,decide_eq_true_eq]at hB;obtain⟨⟨⟨⟨⟨⟨h1,h2⟩,h3⟩,h4⟩,h5⟩,h6⟩,qD⟩:=hB;obtain⟨hl,hc⟩:=XE ops (F++T) _ aD h2;refine XL vD (Region.noSelect_spec h1) ops.size F T [] _ a _ qD ⟨aD,hl,hc,fun k o hk hl=> ?_,XM h3⟩ h4 (fun i hi=>by have:=h5 i hi;omega) (fun i hi j hj=> ?_) (aS _) aD h
 ·have:(gQ ops.size false).getD k false=false:=by
   rw[cR,Array.getElem?_replicate];split<;>rfl
  rw[this]at hl;cases hl
 ·rcases h6 i hi with(h|h)|h
  ·exact .inr (.inl h)
  ·exact .inr (.inr h)
  ·exact .inl (h j hj)
theorem XN {id:Nat} {F T:List Nat} {a:Act} {w:World} (hm:P.follows .mixedOrders=true) (hB:Qk ops (Ek ops.toList []) kd tg F T=true) (vD:∀i j,(kd i=5\/kd i=6)->(kd j=5\/kd j=6)->tg i≠tg j->ta i≠ta j)
  (h:wpF P ops kd ta w.heap.size (wpT P ops kd ta (Q .normal) T) F [] a {w with drawn:=w.drawn+1}):(Code.region id ops true).wpIn (Fr ro) rm P Q a w:=wpIn_region_any hm (ET hB vD h)
def adE (o:Oper) (x:Nat):Oper:={o with after:=o.after.push ⟨x,.data⟩}
def Bl (ops:Array Oper) (y x:Nat):Array Oper:=ops.mapIdx fun i o=>if i=y then adE o x else o
theorem Ql (ops:Array Oper) (y x i:Nat):(Bl ops y x)[i]? =(ops[i]?).map fun o=>if i=y then adE o x else o:=by unfold Bl;rw[Array.getElem?_mapIdx]
theorem XO (ops:Array Oper) (y x:Nat):(Bl ops y x).size=ops.size:=by unfold Bl;simp
theorem qx (ops:Array Oper) (y x:Nat) (t:Array Value):yielded (Bl ops y x) t=yielded ops t:=by
 funext j;unfold yielded;rw[Ql];cases ops[j]? with
 |none=>rfl
 |some o=>
  simp only[dF,Option.bind_some];by_cases h:j=y
  ·rw[if_pos h];rfl
  ·rw[if_neg h]
theorem addE_ready {y x i:Nat} {listed:Array Bool}:i∈Region.ready .any (Bl ops y x) listed↔i∈Region.ready .any ops listed/\(i=y->listed.getD x false=true):=by
 rw[mem_ready,mem_ready,Ql];constructor
 ·rintro⟨h1,o',h2,h3⟩;cases ho:ops[i]? with
  |none=>rw[ho]at h2;cases h2
  |some o=>
   rw[ho,dF,dM]at h2;subst h2;by_cases h:i=y
   ·rw[if_pos h]at h3;exact⟨⟨h1,o,rfl,fun e he=>h3 e (by unfold adE;exact Array.mem_push_of_mem _ he)⟩,fun _=>h3 ⟨x,.data⟩ (by unfold adE;exact Array.mem_push_self) rfl⟩
   ·rw[if_neg h]at h3;exact⟨⟨h1,o,rfl,h3⟩,fun e=>absurd e h⟩
 ·rintro⟨⟨h1,o,h2,h3⟩,h4⟩;refine⟨h1,_,by rw[h2];rfl,fun e he hb=> ?_⟩;by_cases h:i=y
  ·simp only[if_pos h]at he;unfold adE at he;rcases Array.mem_push.1 he with he|rfl
   ·exact h3 e he hb
   ·exact h4 h
  ·simp only[if_neg h]at he;exact h3 e he hb
def Iz (ops:Array Oper):Nat->Array Bool->List Nat->Prop
 |0,_,L=>L=[]
 |n+1,listed,[]=>Region.ready .any ops listed=[]
 |n+1,listed,i::L=>i∈Region.ready .any ops listed/\Iz ops n (listed.setIfInBounds i true) L
theorem XP:∀(fuel t:Nat) (listed:Array Bool),Iz ops fuel listed (Region.linearise.go .any ops fuel t listed []):=by
 intro fuel;induction fuel with
 |zero=>intro t listed;simp[Region.linearise.go,Iz]
 |succ fuel ih=>
  intro t listed;simp only[Region.linearise.go];change Iz ops (fuel+1) listed (match(Region.ready .any ops listed)[t%(Region.ready .any ops listed).length]? with
   |some i=>Region.linearise.go .any ops fuel (t/(Region.ready .any ops listed).length) (listed.setIfInBounds i true) [i]
   |none=>[].reverse)
  cases hi:(Region.ready .any ops listed)[t%(Region.ready .any ops listed).length]? with
  |none=>
   show Region.ready .any ops listed=[];cases hr:Region.ready .any ops listed with
   |nil=>rfl
   |cons x xs=>
    rw[hr]at hi;have pX:t%(x::xs).length<(x::xs).length:=cO _ aD;simp at hi;simp at pX;omega
  |some i=>
   simp only[];rw[linearise_go_acc,List.reverse_singleton,List.singleton_append];exact⟨aG hi,ih _ _⟩
theorem EU {F:Fence}:∀(fuel:Nat) (L:List Nat) (listed:Array Bool) (a:Act) (w:World),wpAnyIn F rm P .any ops Q fuel listed a w->Iz ops fuel listed L->wpOpsIn F rm P ops Q L a w:=by
 intro fuel;induction fuel with
 |zero=>intro L listed a w h hL;unfold Iz at hL;subst hL;exact h.2
 |succ fuel ih=>
  intro L listed a w h hL;cases L with
  |nil=>exact h.1 hL
  |cons i L=>
   rw[wpOpsIn_cons];exact wpOpIn_mono (fun a w hh=>ih L _ a w hh hL.2) (h.2 i hL.1)
theorem EV {y x:Nat} {listed:Array Bool} (h:Region.ready .any ops listed=[]):Region.ready .any (Bl ops y x) listed=[]:=
 List.eq_nil_iff_forall_not_mem.2 fun i hi=>by
  have:=(addE_ready.1 hi).1;rw[h]at this;cases this
theorem EW {y x:Nat}:∀(fuel:Nat) (L:List Nat) (listed:Array Bool),listed.getD x false=true->Iz ops fuel listed L->Iz (Bl ops y x) fuel listed L:=by
 intro fuel;induction fuel with
 |zero=>intro L listed _ h;exact h
 |succ fuel ih=>
  intro L listed hx h;cases L with
  |nil=>exact EV h
  |cons i L=>exact⟨addE_ready.2 ⟨h.1,fun _=>hx⟩,ih L _ (getD_set_true hx) h.2⟩
theorem EX {listed:Array Bool} {i:Nat} (h:listed.getD i true=false):(listed.setIfInBounds i true).getD i false=true:=by
 have pX:i<listed.size:=by
  rcases dV i listed.size with h'|h'
  ·exact h'
  ·simp[iM h']at h
 simp[pX]
theorem XQ {y x:Nat} (uB:x≠y):∀(fuel:Nat) (L:List Nat) (listed:Array Bool),Iz ops fuel listed L->Iz (Bl ops y x) fuel listed L\/Iz (Bl ops x y) fuel listed L:=by
 intro fuel;induction fuel with
 |zero=>intro L listed h;exact .inl h
 |succ fuel ih=>
  intro L listed h;cases L with
  |nil=>exact .inl (EV h)
  |cons i L=>
   have hun:=(mem_ready.1 h.1).1;by_cases h1:i=x
   ·subst h1;exact .inl ⟨addE_ready.2 ⟨h.1,fun e=>absurd e uB⟩,EW _ _ _ (EX hun) h.2⟩
   ·by_cases h2:i=y
    ·subst h2;exact .inr ⟨addE_ready.2 ⟨h.1,fun e=>absurd e h1⟩,EW _ _ _ (EX hun) h.2⟩
    ·rcases ih L _ h.2 with h3|h3
     ·exact .inl ⟨addE_ready.2 ⟨h.1,fun e=>absurd e h2⟩,h3⟩
     ·exact .inr ⟨addE_ready.2 ⟨h.1,fun e=>absurd e h1⟩,h3⟩
theorem EY {F:Fence} {y x:Nat}:∀(L:List Nat) (a:Act) (w:World),wpOpsIn F rm P (Bl ops y x) Q L a w->wpOpsIn F rm P ops Q L a w:=by
 intro L;induction L with
 |nil=>intro a w h;exact h
 |cons i L ih=>
  intro a w h;rw[wpOpsIn_cons]at h⊢;have h:=wpOpIn_mono ih h;unfold Go.wpOpIn at h⊢;rw[Ql,qx]at h;cases ho:ops[i]? with
  |none=>rw[ho]at h;exact h
  |some o=>
   rw[ho,dF]at h;by_cases hi:i=y
   ·simp only[if_pos hi]at h;exact h
   ·simp only[if_neg hi]at h;exact h
theorem XR {y x:Nat} {Q':Act->World->Prop}:∀(L:List Nat) (a:Act) (w:World),wpT P ops kd ta Q' L a w->wpT P (Bl ops y x) kd ta Q' L a w:=by
 intro L;induction L with
 |nil=>intro a w h;exact h
 |cons i L ih=>
  intro a w h;obtain⟨o,ho,h⟩:=h;have key:∀o',(o'=o\/o'=adE o x)->(Bl ops y x)[i]? =some o'->wpT P (Bl ops y x) kd ta Q' (i::L) a w:=fun o' yM hat=>by
   refine⟨o',hat,?_⟩;rw[qx];have e1:Region.wanted o' (yielded ops a.tmps)=Region.wanted o (yielded ops a.tmps):=by rcases yM with rfl|rfl<;>rfl
   have e2:execOp a.eval o'=execOp a.eval o:=by rcases yM with rfl|rfl<;>rfl
   have e3:o'.dst=o.dst:=by rcases yM with rfl|rfl<;>rfl
   have e4:∀K,Stp P o' a.eval w K↔Stp P o a.eval w K:=fun K=>by unfold Stp;rw[e2]
   rw[e1,e2,e3];rcases h with⟨hn,h⟩|⟨hn,h⟩
   ·exact .inl ⟨hn,ih _ _ h⟩
   ·refine .inr ⟨hn,?_⟩;rcases h with⟨h0,v,hv,h⟩|⟨h0,v,ob,hb,hv,h⟩|⟨h0,ob,cs,hb,hv,h⟩|⟨h0,v,R,hv,hR,hs,h⟩|⟨h0,h⟩|⟨h0,v,R,hv,hR,hs,h⟩|⟨h0,h⟩|⟨h0,h5,h6,h7,h8,h9,vT,h⟩
    ·exact .inl ⟨h0,v,hv,ih _ _ h⟩
    ·exact .inr (.inl ⟨h0,v,ob,hb,hv,ih _ _ h⟩)
    ·exact .inr (.inr (.inl ⟨h0,ob,cs,hb,hv,ih _ _ h⟩))
    ·exact .inr (.inr (.inr (.inl ⟨h0,v,R,hv,hR,hs,ih _ _ h⟩)))
    ·exact .inr (.inr (.inr (.inr (.inl ⟨h0,(e4 _).2 (h.mono fun v w' hh=>⟨hh.1,ih _ _ hh.2⟩)⟩))))
    ·exact .inr (.inr (.inr (.inr (.inr (.inl ⟨h0,v,R,hv,hR,hs,ih _ _ h⟩)))))
    ·exact .inr (.inr (.inr (.inr (.inr (.inr (.inl ⟨h0,(e4 _).2 (h.mono fun v w' hh=>⟨hh.1,ih _ _ hh.2⟩)⟩))))))
    ·exact .inr (.inr (.inr (.inr (.inr (.inr (.inr ⟨h0,h5,h6,h7,h8,h9,vT,(e4 _).2 (h.mono fun v w' hh=>ih _ _ hh)⟩))))))
  by_cases hi:i=y
  ·exact key _ (.inr rfl) (by rw[Ql,ho,dF,if_pos hi])
  ·exact key _ (.inl rfl) (by rw[Ql,ho,dF,if_neg hi])
theorem XS {y x:Nat} {T T':Act->World->Prop} (hT:∀a w,T a w->T' a w):∀(L bs:List Nat) (a:Act) (w:World),wpF P ops kd ta B T L bs a w->wpF P (Bl ops y x) kd ta B T' L bs a w:=by
 intro L;induction L with
 |nil=>intro bs a w h w' hw;exact hT _ _ (h w' hw)
 |cons i L ih=>
  intro bs a w h;obtain⟨o,ho,h⟩:=h;have key:∀o',(o'=o\/o'=adE o x)->(Bl ops y x)[i]? =some o'->wpF P (Bl ops y x) kd ta B T' (i::L) bs a w:=fun o' yM hat=>by
   refine⟨o',hat,?_⟩;rw[qx];have e1:Region.wanted o' (yielded ops a.tmps)=Region.wanted o (yielded ops a.tmps):=by rcases yM with rfl|rfl<;>rfl
   have e2:execOp a.eval o'=execOp a.eval o:=by rcases yM with rfl|rfl<;>rfl
   have e3:o'.dst=o.dst:=by rcases yM with rfl|rfl<;>rfl
   have e4:∀w K,Stp P o' a.eval w K↔Stp P o a.eval w K:=fun w K=>by unfold Stp;rw[e2]
   rw[e1,e2,e3];rcases h with⟨hn,h⟩|⟨hn,h⟩
   ·exact .inl ⟨hn,ih _ _ _ h⟩
   ·refine .inr ⟨hn,?_⟩;rcases h with⟨h0,v,hv,h⟩|⟨h0,v,hv,h⟩|⟨h0,V,hv,h⟩|⟨h0,mk,ob,hv,h⟩|⟨h0,v,ob,hb,hv,h⟩
    ·exact .inl ⟨h0,v,hv,ih _ _ _ h⟩
    ·exact .inr (.inl ⟨h0,v,hv,ih _ _ _ h⟩)
    ·exact .inr (.inr (.inl ⟨h0,V,(fun w hw=>(e4 _ _).2 (hv w hw)),fun v cs W' h1 h2 h3=>ih _ _ _ (h v cs W' h1 h2 h3)⟩))
    ·exact .inr (.inr (.inr (.inl ⟨h0,mk,ob,hv,fun b W' h1 h2 h3 h4=>ih _ _ _ (h b W' h1 h2 h3 h4)⟩)))
    ·exact .inr (.inr (.inr (.inr ⟨h0,v,ob,hb,hv,ih _ _ _ h⟩)))
  by_cases hi:i=y
  ·exact key _ (.inr rfl) (by rw[Ql,ho,dF,if_pos hi])
  ·exact key _ (.inl rfl) (by rw[Ql,ho,dF,if_neg hi])
theorem EZ {y x:Nat} {F T:List Nat} {a:Act} {w:World} (hB:Qk (Bl ops y x) (Ek (Bl ops y x).toList []) kd tg F T=true) (vD:∀i j,(kd i=5\/kd i=6)->(kd j=5\/kd j=6)->tg i≠tg j->ta i≠ta j)
  (h:wpF P ops kd ta w.heap.size (wpT P ops kd ta (Q .normal) T) F [] a {w with drawn:=w.drawn+1}):wpAnyIn (Fr ro) rm P .any (Bl ops y x) Q (Bl ops y x).size (gQ (Bl ops y x).size false) a {w with drawn:=w.drawn+1}:=
 ET hB vD (XS (fun a w hh=>XR T a w hh) F [] a _ h)
theorem XT {id x y:Nat} {a:Act} {w:World} (hm:P.follows .mixedOrders=true) (uB:x≠y)
  (h1:wpAnyIn (Fr ro) rm P .any (Bl ops y x) Q (Bl ops y x).size (gQ (Bl ops y x).size false) a {w with drawn:=w.drawn+1})
  (h2:wpAnyIn (Fr ro) rm P .any (Bl ops x y) Q (Bl ops x y).size (gQ (Bl ops x y).size false) a {w with drawn:=w.drawn+1}):(Code.region id ops true).wpIn (Fr ro) rm P Q a w:=
 wpIn_region_draw fun t=>by
  simp only[Region.schedule,hm,Bool.true_or,if_true];rw[XO]at h1 h2;rcases XQ uB _ _ _ (XP (ops:=ops) ops.size t (gQ ops.size false))with h|h
  ·exact EY _ _ _ (EU _ _ _ _ _ h1 h)
  ·exact EY _ _ _ (EU _ _ _ _ _ h2 h)
theorem XU:∀(T:List Nat) (a:Act) (w:World),wpT P ops kd ta (Q .normal) T a w->wpOpsIn (Fr ro) rm P ops Q T a w:=by
 intro T;induction T with
 |nil=>intro a w h;exact h
 |cons i T ih=>
  intro a w h;obtain⟨o,ho,h⟩:=h;rw[wpOpsIn_cons];have hS:OpS P ops o a w fun u w'=>wpT P ops kd ta (Q .normal) T (a.put o.dst u) w':=by
   unfold OpS;rcases h with⟨hn,h⟩|⟨hn,h⟩
   ·rw[if_neg (by simp[hn])];exact h
   ·rw[if_pos hn];rcases h with⟨h0,v,hv,h⟩|⟨h0,v,ob,hb,hv,h⟩|⟨h0,ob,cs,hb,hv,h⟩|⟨h0,v,R,hv,hR,hs,h⟩|⟨h0,h⟩|⟨h0,v,R,hv,hR,hs,h⟩|⟨h0,h⟩|⟨_,_,_,_,_,_,_,h⟩
    ·unfold Stp;rw[hv w];exact h
    ·unfold Stp;rw[hv w hb];exact h
    ·unfold Stp;rw[hv w hb];exact h
    ·unfold Stp;rw[hv w hR];exact h
    ·exact h.mono fun v w' hh=>hh.2
    ·unfold Stp;rw[hv w hR];exact h
    ·exact h.mono fun v w' hh=>hh.2
    ·exact h
  exact hS.wpOpIn ho fun u w' hh=>ih _ _ hh
theorem XV {id:Nat} {a:Act} {w:World} (h:wpT P ops kd ta (Q .normal) (List.range ops.size) a w):(Code.region id ops false).wpIn (Fr ro) rm P Q a w:=by
 refine wpIn_region ?_;exact XU _ a w h
end
end Go.RX

/- Regions whose order is drawn: one canonical order serves every order. Worlds only grow while a region's front runs; stores stand at its end. -/
import Derived.Orders
import Derived.Below
import Derived.Tactics
import Derived.OrdersIn
import Derived.OwnWalkIn
import Derived.RangeFuncRecord
namespace Go.RX
open Go.RowKit
structure Ext (w w':World):Prop where
 os:w'.os=w.os
 tape:w'.tape=w.tape
 output:w'.output=w.output
 size:w.heap.size<=w'.heap.size
 blk:∀k,k<w.heap.size->w'.heap[k]? =w.heap[k]?
 dr:w.drawn<=w'.drawn
theorem Ext.refl (w:World):Ext w w:=⟨rfl,rfl,rfl,Nat.le_refl _,fun _ _=>rfl,Nat.le_refl _⟩
theorem Ext.trans {a b c:World} (h:Ext a b) (k:Ext b c):Ext a c:=⟨k.os.trans h.os,k.tape.trans h.tape,k.output.trans h.output,Nat.le_trans h.size k.size,fun i hi=>(k.blk i (Nat.lt_of_lt_of_le hi h.size)).trans (h.blk i hi),Nat.le_trans h.dr k.dr⟩
theorem a0y {w:World} {k:Nat} {o:Obj} (h:w.heap[k]? =some o):k<w.heap.size:=(Array.getElem?_eq_some_iff.1 h).1
theorem Ext.block {a b:World} (h:Ext a b) {k:Nat} {o:Obj} (hk:a.heap[k]? =some o):b.heap[k]? =some o:=by
 rw[h.blk k (a0y hk),hk]
theorem Ext.block' {a b:World} (h:Ext a b) {k:Nat} (hk:k<a.heap.size):b.heap[k]? =a.heap[k]?:=h.blk k hk
theorem Ext.alloc (w:World) (o:Obj):Ext w (w.alloc o):=
 have h:=(Below.refl w.heap.size w).alloc (Nat.le_refl _) o
 ⟨h.os,h.tape,h.output,h.size,h.block,Nat.le_refl _⟩
theorem Ext.drawn (w:World):Ext w {w with drawn:=w.drawn+1}:=⟨rfl,rfl,rfl,Nat.le_refl _,fun _ _=>rfl,Nat.le_succ _⟩
@[irreducible] def Stp (P:Program) (o:Oper) (ev:Operand->Value) (w:World) (K:Value->World->Prop):Prop:=
 match(execOp ev o).run P w with
 | .ok (.value v) w'=>K v w'
 | .ok .skip w'=>K undef w'
 | .ok (.enter f args) w'=>Calls P f args w' fun e w''=>∃v,e= .returned v/\K v w''
 | .ok (.row r args) w'=>Rows P r args w' K
 | .ok (.round l f tmps asg body) w'=>RoundIn Fence.wide 0 P l f tmps asg body w' fun e w''=>∃v,e= .returned v/\K v w''
 |_=>False
theorem Stp.cg {P:Program} {o:Oper} {ev ev':Operand->Value} {w:World} {K:Value->World->Prop} (h:execOp ev' o=execOp ev o) (k:Stp P o ev w K):Stp P o ev' w K:=by
 unfold Stp at k⊢;rw[h];exact k
theorem Stp.mono {P:Program} {o:Oper} {ev:Operand->Value} {w:World} {K K':Value->World->Prop} (h:Stp P o ev w K) (hk:∀v w',K v w'->K' v w'):Stp P o ev w K':=by
 unfold Stp at*
 split at h
 ·exact hk _ _ h
 ·exact hk _ _ h
 ·exact h.mono fun e w' ⟨v,he,hv⟩=>⟨v,he,hk _ _ hv⟩
 ·exact h.mono fun v w' hv=>hk _ _ hv
 ·exact h.mono fun e w' ⟨v,he,hv⟩=>⟨v,he,hk _ _ hv⟩
 ·exact h.elim
theorem Stp.some {P:Program} {o:Oper} {ev:Operand->Value} {w:World} {K:Value->World->Prop} (h:Stp P o ev w K):∃v w',K v w':=by
 unfold Stp at h
 split at h
 ·exact⟨_,_,h⟩
 ·exact⟨_,_,h⟩
 ·obtain⟨e,w',fr,⟨v,_,hv⟩,_⟩:=h []
  exact⟨v,w',hv⟩
 ·obtain⟨v,w',hv,_⟩:=h default []
  exact⟨v,w',hv⟩
 ·obtain⟨e,w',⟨v,_,hv⟩,_⟩:=h.2 default [] (room_wide _)
  exact⟨v,w',hv⟩
 ·exact h.elim
def pnE (x:Value):Ending:= .panicked [{v:=x,recovered:=false}]
@[irreducible] def StpX (P:Program) (X:Value->World->Prop) (o:Oper) (ev:Operand->Value) (w:World) (K:Value->World->Prop):Prop:=
 match(execOp ev o).run P w with
 | .ok (.value v) w'=>K v w'
 | .ok .skip w'=>K undef w'
 | .ok (.enter f args) w'=>Calls P f args w' fun e w''=>(∃v,e= .returned v/\K v w'')\/(∃x,e=pnE x/\X x w'')
 | .ok (.row r args) w'=>Rows P r args w' K
 | .ok (.round l f tmps asg body) w'=>RoundIn Fence.wide 0 P l f tmps asg body w' fun e w''=>∃v,e= .returned v/\K v w''
 | .halt (.panic x) w'=>(∀c,o.op≠ .defer c)/\X x w'
 |_=>False
theorem StpX.cg {P:Program} {X:Value->World->Prop} {o:Oper} {ev ev':Operand->Value} {w:World} {K:Value->World->Prop} (h:execOp ev' o=execOp ev o) (k:StpX P X o ev w K):StpX P X o ev' w K:=by
 unfold StpX at k⊢;rw[h];exact k
theorem StpX.mono2 {P:Program} {X X':Value->World->Prop} {o:Oper} {ev:Operand->Value} {w:World} {K K':Value->World->Prop} (h:StpX P X o ev w K) (hk:∀v w',K v w'->K' v w') (hx:∀v w',X v w'->X' v w'):StpX P X' o ev w K':=by
 unfold StpX at*
 split at h
 ·exact hk _ _ h
 ·exact hk _ _ h
 ·exact h.mono fun e w' hh=>hh.imp (fun⟨v,he,hv⟩=>⟨v,he,hk _ _ hv⟩) (fun⟨x,he,hv⟩=>⟨x,he,hx _ _ hv⟩)
 ·exact h.mono fun v w' hv=>hk _ _ hv
 ·exact h.mono fun e w' ⟨v,he,hv⟩=>⟨v,he,hk _ _ hv⟩
 ·exact⟨h.1,hx _ _ h.2⟩
 ·exact h.elim
theorem StpX.mono {P:Program} {X:Value->World->Prop} {o:Oper} {ev:Operand->Value} {w:World} {K K':Value->World->Prop} (h:StpX P X o ev w K) (hk:∀v w',K v w'->K' v w'):StpX P X o ev w K':=h.mono2 hk fun _ _ h=>h
theorem Stp.toX {P:Program} {X:Value->World->Prop} {o:Oper} {ev:Operand->Value} {w:World} {K:Value->World->Prop} (h:Stp P o ev w K):StpX P X o ev w K:=by
 unfold Stp at h;unfold StpX
 split at h
 ·rename_i hr;rw[hr];exact h
 ·rename_i hr;rw[hr];exact h
 ·rename_i hr;rw[hr];exact h.mono fun e w' hh=> .inl hh
 ·rename_i hr;rw[hr];exact h
 ·rename_i hr;rw[hr];exact h
 ·exact h.elim
theorem StpX.toStp {P:Program} {X:Value->World->Prop} {o:Oper} {ev:Operand->Value} {w:World} {K:Value->World->Prop} (h:StpX P X o ev w K) (hX:∀x w',¬X x w'):Stp P o ev w K:=by
 unfold StpX at h;unfold Stp
 split at h
 ·rename_i hr;rw[hr];exact h
 ·rename_i hr;rw[hr];exact h
 ·rename_i hr;rw[hr];exact h.mono fun e w' hh=>hh.resolve_right fun⟨x,_,hx⟩=>hX _ _ hx
 ·rename_i hr;rw[hr];exact h
 ·rename_i hr;rw[hr];exact h
 ·exact absurd h.2 (hX _ _)
 ·exact h.elim
def OpS (P:Program) (ops:Array Oper) (o:Oper) (a:Act) (w:World) (K:Value->World->Prop):Prop:=
 if Region.wanted o (yielded ops a.tmps)then Stp P o a.eval w K else K undef w
theorem OpS.mono {P:Program} {ops:Array Oper} {o:Oper} {a:Act} {w:World} {K K':Value->World->Prop} (h:OpS P ops o a w K) (hk:∀v w',K v w'->K' v w'):OpS P ops o a w K':=by
 unfold OpS at*
 split
 ·rename_i hw;rw[if_pos hw]at h;exact h.mono hk
 ·rename_i hw;rw[if_neg hw]at h;exact hk _ _ h
def OpX (P:Program) (X:Value->World->Prop) (ops:Array Oper) (o:Oper) (a:Act) (w:World) (K:Value->World->Prop):Prop:=
 if Region.wanted o (yielded ops a.tmps)then StpX P X o a.eval w K else K undef w
theorem OpX.mono {P:Program} {X:Value->World->Prop} {ops:Array Oper} {o:Oper} {a:Act} {w:World} {K K':Value->World->Prop} (h:OpX P X ops o a w K) (hk:∀v w',K v w'->K' v w'):OpX P X ops o a w K':=by
 unfold OpX at*
 split
 ·rename_i hw;rw[if_pos hw]at h;exact h.mono hk
 ·rename_i hw;rw[if_neg hw]at h;exact hk _ _ h
def Fr (ro:Option Nat):Fence:={Fence.wide with round:=ro}
theorem a5G {ro:Option Nat} {n:Nat} {P:Program} {f:FuncId} {args:Array Value} {w:World} {R:Ending->World->Prop} (h:Calls P f args w R):CallsIn (Fr ro) n P f args w R:=
 (callsIn_wide (n:=n)).2 h
theorem a8F {ro:Option Nat} {n m:Nat} {P:Program} {l f:Nat} {tmps:Array Value} {asg body:Code} {w:World} {R:Ending->World->Prop} (h:RoundIn Fence.wide n P l f tmps asg body w R):RoundIn (Fr ro) m P l f tmps asg body w R:=
 ⟨trivial,fun c cs _=>h.2 c cs (room_wide _)⟩
theorem Stp.noDefer {P:Program} {o:Oper} {ev:Operand->Value} {w:World} {K:Value->World->Prop} (h:Stp P o ev w K):∀c,o.op≠ .defer c:=by
 intro c e
 unfold Stp at h
 have he:execOp ev o=(do pure (.defer (<-resolve ev c o.type))):=by unfold execOp;rw[e]
 rw[he]at h
 generalize resolve ev c o.type=s at h
 cases hr:s.run P w with
 |ok d w'=>
  have:(do pure (Next.defer (<-s)):Sem Next).run P w= .ok (.defer d) w':=by simp[go_sem,hr]
  rw[this]at h;exact h
 |halt x w'=>
  have:(do pure (Next.defer (<-s)):Sem Next).run P w= .halt x w':=by simp[go_sem,hr]
  rw[this]at h;exact h
theorem StpX.noDefer {P:Program} {X:Value->World->Prop} {o:Oper} {ev:Operand->Value} {w:World} {K:Value->World->Prop} (h:StpX P X o ev w K):∀c,o.op≠ .defer c:=by
 intro c e
 unfold StpX at h
 have he:execOp ev o=(do pure (.defer (<-resolve ev c o.type))):=by unfold execOp;rw[e]
 rw[he]at h
 generalize resolve ev c o.type=s at h
 cases hr:s.run P w with
 |ok d w'=>
  have:(do pure (Next.defer (<-s)):Sem Next).run P w= .ok (.defer d) w':=by simp[go_sem,hr]
  rw[this]at h;exact h
 |halt x w'=>
  have:(do pure (Next.defer (<-s)):Sem Next).run P w= .halt x w':=by simp[go_sem,hr]
  rw[this]at h
  cases x<;>first|exact h.1 c e|exact h
theorem StpX.wpIn {ro:Option Nat} {rm:Nat} {P:Program} {X:Value->World->Prop} {o:Oper} {a:Act} {w:World} {K:Value->World->Prop} {K':Act->World->Prop} {Q:Exit->Act->World->Prop} (h:StpX P X o a.eval w K) (hk:∀v w',K v w'->K' (a.put o.dst v) w') (hx:∀x w',X x w'->Q (.panic [{v:=x,recovered:=false}]) a w'):o.wpIn (Fr ro) rm P a w K' Q:=by
 have hd:=h.noDefer
 unfold StpX at h
 unfold Oper.wpIn
 refine⟨fun _ _=>trivial,?_⟩
 rw[Oper.semAt_eq _ _ _ hd]
 split at h
 ·rename_i hr;rw[hr];exact hk _ _ h
 ·rename_i hr;rw[hr];exact hk _ _ h
 ·rename_i hr;rw[hr]
  refine⟨fun e=>by simp[Fr,Fence.wide]at e,a5G (Calls.mono h fun e w' hh=> ?_)⟩
  rcases hh with⟨v,he,hv⟩|⟨x,he,hv⟩
  ·subst he;exact hk _ _ hv
  ·subst he;exact hx _ _ hv
 ·rename_i hr;rw[hr]
  refine⟨fun e=>by simp[Fr,Fence.wide]at e,fun c cs _=> ?_⟩
  obtain⟨v,w',hv,hs⟩:=h c cs
  exact⟨v,w',hk _ _ hv,stepsIn_wide.2 hs⟩
 ·rename_i hr;rw[hr]
  refine⟨fun e=>by simp[Fr,Fence.wide]at e,RoundIn.mono (a8F h) fun e w' ⟨v,he,hv⟩=>by subst he;exact hk _ _ hv⟩
 ·rename_i hr;rw[hr];exact hx _ _ h.2
 ·exact h.elim
theorem OpX.wpOpIn {ro:Option Nat} {rm:Nat} {P:Program} {X:Value->World->Prop} {ops:Array Oper} {Q:Exit->Act->World->Prop} {o:Oper} {i:Nat} (hi:ops[i]? =some o) {a:Act} {w:World} {K:Value->World->Prop} {K':Act->World->Prop} (h:OpX P X ops o a w K) (hk:∀v w',K v w'->K' (a.put o.dst v) w') (hx:∀x w',X x w'->Q (.panic [{v:=x,recovered:=false}]) a w'):Go.wpOpIn (Fr ro) rm P ops Q i K' a w:=by
 unfold OpX at h
 unfold Go.wpOpIn
 simp only[hi]
 split
 ·rename_i hw;rw[if_pos hw]at h;exact h.wpIn hk hx
 ·rename_i hw;rw[if_neg hw]at h;exact⟨fun _ _=>trivial,hk _ _ h⟩
theorem OpX.put {P:Program} {X:Value->World->Prop} {ops:Array Oper} {oi oj:Oper} (hap:oi.apart ops oj=true) (hsj:∀cs b,oj.op≠ .select cs b) {a:Act} {w:World} {v:Value} {K:Value->World->Prop}:
  OpX P X ops oj (a.put oi.dst v) w K↔OpX P X ops oj a w K:=by
 obtain⟨h1,_,_⟩:=Oper.apart_spec hap
 unfold OpX StpX
 rw[wanted_put oj a oi.dst v h1,execOp_put oj hsj a oi.dst v h1]
theorem a1d (a:Act) (d:Option Tmp) (v:Value):(a.put d v).defers=a.defers:=by cases d<;>rfl
theorem Stp.wpIn {ro:Option Nat} {rm:Nat} {P:Program} {o:Oper} {a:Act} {w:World} {K:Value->World->Prop} {K':Act->World->Prop} {Q:Exit->Act->World->Prop} (h:Stp P o a.eval w K) (hk:∀v w',K v w'->K' (a.put o.dst v) w'):o.wpIn (Fr ro) rm P a w K' Q:=by
 have hd:=h.noDefer
 unfold Stp at h
 unfold Oper.wpIn
 refine⟨fun _ _=>trivial,?_⟩
 rw[Oper.semAt_eq _ _ _ hd]
 split at h
 ·rename_i hr;rw[hr];exact hk _ _ h
 ·rename_i hr;rw[hr];exact hk _ _ h
 ·rename_i hr;rw[hr]
  exact⟨fun e=>by simp[Fr,Fence.wide]at e,a5G (Calls.mono h fun e w' ⟨v,he,hv⟩=>by subst he;exact hk _ _ hv)⟩
 ·rename_i hr;rw[hr]
  refine⟨fun e=>by simp[Fr,Fence.wide]at e,fun c cs _=> ?_⟩
  obtain⟨v,w',hv,hs⟩:=h c cs
  exact⟨v,w',hk _ _ hv,stepsIn_wide.2 hs⟩
 ·rename_i hr;rw[hr]
  refine⟨fun e=>by simp[Fr,Fence.wide]at e,RoundIn.mono (a8F h) fun e w' ⟨v,he,hv⟩=>by subst he;exact hk _ _ hv⟩
 ·exact h.elim
theorem OpS.wpOpIn {ro:Option Nat} {rm:Nat} {P:Program} {ops:Array Oper} {Q:Exit->Act->World->Prop} {o:Oper} {i:Nat} (hi:ops[i]? =some o) {a:Act} {w:World} {K:Value->World->Prop} {K':Act->World->Prop} (h:OpS P ops o a w K) (hk:∀v w',K v w'->K' (a.put o.dst v) w'):Go.wpOpIn (Fr ro) rm P ops Q i K' a w:=by
 unfold OpS at h
 unfold Go.wpOpIn
 simp only[hi]
 split
 ·rename_i hw;rw[if_pos hw]at h;exact h.wpIn hk
 ·rename_i hw;rw[if_neg hw]at h;exact⟨fun _ _=>trivial,hk _ _ h⟩
theorem OpS.put {P:Program} {ops:Array Oper} {oi oj:Oper} (hap:oi.apart ops oj=true) (hsj:∀cs b,oj.op≠ .select cs b) {a:Act} {w:World} {v:Value} {K:Value->World->Prop}:
  OpS P ops oj (a.put oi.dst v) w K↔OpS P ops oj a w K:=by
 obtain⟨h1,_,_⟩:=Oper.apart_spec hap
 unfold OpS Stp
 rw[wanted_put oj a oi.dst v h1,execOp_put oj hsj a oi.dst v h1]
def KeepM (w w':World):Prop:=∀b:Nat,w'.heap[b]? =w.heap[b]?\/((∃es c,w.heap[b]? =some (.map es c))/\∃es c,w'.heap[b]? =some (.map es c))
theorem KeepM.refl (w:World):KeepM w w:=fun _=> .inl rfl
theorem KeepM.trans {a b c:World} (h:KeepM a b) (k:KeepM b c):KeepM a c:=fun x=>by
 rcases h x with h|⟨h1,h2⟩<;>rcases k x with k|⟨k1,k2⟩
 ·exact .inl (k.trans h)
 ·exact .inr ⟨by rwa[h]at k1,k2⟩
 ·exact .inr ⟨h1,by rwa[k]⟩
 ·exact .inr ⟨h1,k2⟩
def wpF (P:Program) (ops:Array Oper) (kd ta:Nat->Nat) (B:Nat) (T:Act->World->Prop):List Nat->List Nat->Act->World->Prop
 |[],_,a,W=>∀w,Ext W w->T a w
 |i::L,bs,a,W=>∃o,ops[i]? =some o/\
   ((Region.wanted o (yielded ops a.tmps)=false/\wpF P ops kd ta B T L bs (a.put o.dst undef) W)\/
    (Region.wanted o (yielded ops a.tmps)=true/\
     ((kd i=0/\∃v,(∀w,(execOp a.eval o).run P w= .ok (.value v) w)/\wpF P ops kd ta B T L bs (a.put o.dst v) W)\/
      (kd i=1/\∃v,(∀w,Ext W w->(execOp a.eval o).run P w= .ok (.value v) w)/\wpF P ops kd ta B T L bs (a.put o.dst v) W)\/
      (kd i = 2 /\ ∃ V : Value -> List Nat -> World -> Prop,(∀ w,Ext W w -> Stp P o a.eval w fun v w' => Ext w w' /\ ∃ cs,(∀ c ∈ cs,w.heap.size <= c /\ c < w'.heap.size) /\ V v cs w') /\
         ∀v cs W',Ext W W'->V v cs W'->(∀c∈cs,B<=c/\c∉bs)->wpF P ops kd ta B T L (cs++bs) (a.put o.dst v) W')\/
      (kd i = 3 /\ ∃ (mk : Nat -> Value) (ob : Obj),(∀ w,(execOp a.eval o).run P w = .ok (.value (mk w.heap.size)) (w.alloc ob)) /\
         ∀b W',Ext W W'->W'.heap[b]? =some ob->b∉bs->B<=b->wpF P ops kd ta B T L (b::bs) (a.put o.dst (mk b)) W')\/
      (kd i=5/\∃v ob,W.heap[ta i]? =some ob/\(∀w,w.heap[ta i]? =some ob->(execOp a.eval o).run P w= .ok (.value v) w)/\wpF P ops kd ta B T L bs (a.put o.dst v) W))))
def wpT (P:Program) (X:Value->World->Prop) (ops:Array Oper) (kd ta:Nat->Nat) (Q:Act->World->Prop):List Nat->Act->World->Prop
 |[],a,w=>Q a w
 |i::L,a,w=>∃o,ops[i]? =some o/\
   ((Region.wanted o (yielded ops a.tmps)=false/\wpT P X ops kd ta Q L (a.put o.dst undef) w)\/
    (Region.wanted o (yielded ops a.tmps)=true/\
     ((kd i=0/\∃v,(∀w',(execOp a.eval o).run P w'= .ok (.value v) w')/\wpT P X ops kd ta Q L (a.put o.dst v) w)\/
      (kd i=5/\∃v ob,w.heap[ta i]? =some ob/\(∀w',w'.heap[ta i]? =some ob->(execOp a.eval o).run P w'= .ok (.value v) w')/\wpT P X ops kd ta Q L (a.put o.dst v) w)\/
      (kd i=6/\∃ob cs,w.heap[ta i]? =some ob/\(∀w',w'.heap[ta i]? =some ob->(execOp a.eval o).run P w'= .ok .skip (w'.setRow (ta i) cs))/\wpT P X ops kd ta Q L (a.put o.dst undef) (w.setRow (ta i) cs))\/
      (kd i=7/\∃(v:Value) (R:World->Prop),(∀w',R w'->(execOp a.eval o).run P w'= .ok (.value v) w')/\R w/\(∀m c w',kd m=6->(R (w'.setRow (ta m) c)↔R w'))/\wpT P X ops kd ta Q L (a.put o.dst v) w)\/
      (kd i=8/\StpX P X o a.eval w fun v w'=>(∀m,kd m=5->w'.heap[ta m]? =w.heap[ta m]?)/\wpT P X ops kd ta Q L (a.put o.dst v) w')\/
      (kd i=9/\∃(v:Value) (R:World->Prop),(∀w',R w'->(execOp a.eval o).run P w'= .ok (.value v) w')/\R w/\(∀w1 w2,KeepM w1 w2->R w1->R w2)/\wpT P X ops kd ta Q L (a.put o.dst v) w)\/
      (kd i=10/\StpX P X o a.eval w fun v w'=>KeepM w w'/\wpT P X ops kd ta Q L (a.put o.dst v) w')\/
      (kd i≠0/\kd i≠5/\kd i≠6/\kd i≠7/\kd i≠8/\kd i≠9/\kd i≠10/\StpX P X o a.eval w fun v w'=>wpT P X ops kd ta Q L (a.put o.dst v) w'))))
section
variable {P:Program} {ops:Array Oper} {kd ta:Nat->Nat} {B:Nat} {T:Act->World->Prop}
theorem c7t:∀(L bs bs':List Nat) (a:Act) (W:World),(∀x,x∈bs->x∈bs')->wpF P ops kd ta B T L bs a W->wpF P ops kd ta B T L bs' a W:=by
 intro L
 induction L with
 |nil=>intro bs bs' a W _ h;exact h
 |cons i L ih=>
  intro bs bs' a W hb h
  obtain⟨o,ho,h⟩:=h
  refine⟨o,ho,?_⟩
  rcases h with⟨hn,h⟩|⟨hn,h⟩
  ·exact .inl ⟨hn,ih _ _ _ _ hb h⟩
  ·refine .inr ⟨hn,?_⟩
   rcases h with⟨h0,v,hv,h⟩|⟨h0,v,hv,h⟩|⟨h0,V,hc,h⟩|⟨h0,mk,ob,hr,h⟩|⟨h0,v,ob,hob,hv,h⟩
   ·exact .inl ⟨h0,v,hv,ih _ _ _ _ hb h⟩
   ·exact .inr (.inl ⟨h0,v,hv,ih _ _ _ _ hb h⟩)
   ·exact .inr (.inr (.inl ⟨h0,V,hc,fun v cs W2 hW2 hV hcs=>ih _ _ _ _ (by intro x hx;simp only[List.mem_append]at hx⊢;exact hx.imp id (hb x)) (h v cs W2 hW2 hV (fun c hc=>⟨(hcs c hc).1,fun hm=>(hcs c hc).2 (hb _ hm)⟩))⟩))
   ·exact .inr (.inr (.inr (.inl ⟨h0,mk,ob,hr,fun b W2 hW2 hob hnb hB=>ih _ _ _ _ (by intro x hx;simp only[List.mem_cons]at hx⊢;exact hx.imp id (hb x)) (h b W2 hW2 hob (fun hm=>hnb (hb _ hm)) hB)⟩)))
   ·exact .inr (.inr (.inr (.inr ⟨h0,v,ob,hob,hv,ih _ _ _ _ hb h⟩)))
theorem c3q {j:Nat} {oj:Oper} (hj:ops[j]? =some oj) (hsel:∀(i:Nat) (o:Oper) cs b,ops[i]? =some o->o.op≠ .select cs b) (hkj:kd j≠3):∀(pre post bs:List Nat) (a:Act) (w:World),B<=w.heap.size->(∀b∈bs,b<w.heap.size)->
  (∀i∈pre,(kd i<=1\/kd i=5)/\∀oi,ops[i]? =some oi->oi.apart ops oj=true)->wpF P ops kd ta B T (pre++j::post) bs a w->
  OpS P ops oj a w fun u w'=>Ext w w'/\∃cs,(∀c∈cs,w.heap.size<=c/\c<w'.heap.size)/\wpF P ops kd ta B T (pre++post) (cs++bs) (a.put oj.dst u) w':=by
 intro pre
 induction pre with
 |nil=>
  intro post bs a w hB hbs _ h
  obtain⟨o,ho,h⟩:=h
  obtain rfl:o=oj:=Option.some.inj (ho.symm.trans hj)
  unfold OpS
  rcases h with⟨hn,h⟩|⟨hn,h⟩
  ·rw[if_neg (by simp[hn])];exact⟨Ext.refl _,[],by simp,h⟩
  ·rw[if_pos hn]
   rcases h with⟨h0,v,hv,h⟩|⟨h0,v,hv,h⟩|⟨h0,V,hc,h⟩|⟨h0,mk,ob,hr,h⟩|⟨h0,v,ob,hb,hv,h⟩
   ·unfold Stp;rw[hv w];exact⟨Ext.refl _,[],by simp,h⟩
   ·unfold Stp;rw[hv w (Ext.refl _)];exact⟨Ext.refl _,[],by simp,h⟩
   ·exact(hc w (Ext.refl _)).mono fun v w' ⟨hx,cs,hcs,hV⟩=>⟨hx,cs,hcs,h v cs w' hx hV fun c hc=>⟨Nat.le_trans hB (hcs c hc).1,fun hm=>by have:=hbs c hm;have:=(hcs c hc).1;omega⟩⟩
   ·exact absurd h0 hkj
   ·unfold Stp;rw[hv w hb];exact⟨Ext.refl _,[],by simp,h⟩
 |cons i pre ih=>
  intro post bs a w hB hbs hpre h
  obtain⟨o,ho,h⟩:=h
  obtain⟨hk,hap⟩:=hpre i (by simp)
  have hap:=hap o ho
  obtain⟨h1,h2,h3⟩:=Oper.apart_spec hap
  have hpre':∀i∈pre,(kd i<=1\/kd i=5)/\∀oi,ops[i]? =some oi->oi.apart ops oj=true:=fun x hx=>hpre x (by simp[hx])
  have back:∀v,wpF P ops kd ta B T (pre++j::post) bs (a.put o.dst v) w->OpS P ops oj a w fun u w'=>Ext w w'/\∃cs,(∀c∈cs,w.heap.size<=c/\c<w'.heap.size)/\wpF P ops kd ta B T (pre++post) (cs++bs) ((a.put oj.dst u).put o.dst v) w':=fun v hv=>by
   have:=(OpS.put (P:=P) hap (fun cs b=>hsel j oj cs b hj)).1 (ih post bs _ w hB hbs hpre' hv)
   exact this.mono fun u w' ⟨hx,cs,hcs,hh⟩=>⟨hx,cs,hcs,by rw[Act.put_comm a v u h2]at hh;exact hh⟩
  rcases h with⟨hn,h⟩|⟨hn,h⟩
  ·exact(back _ h).mono fun u w' ⟨hx,cs,hcs,hh⟩=>⟨hx,cs,hcs,o,ho,.inl ⟨by rw[wanted_put o a oj.dst u h3];exact hn,hh⟩⟩
  ·have hw:∀u,Region.wanted o (yielded ops (a.put oj.dst u).tmps)=true:=fun u=>by rw[wanted_put o a oj.dst u h3];exact hn
   have he:∀u,execOp (a.put oj.dst u).eval o=execOp a.eval o:=fun u=>execOp_put o (fun cs b=>hsel i o cs b ho) a oj.dst u h3
   rcases h with⟨h0,v,hv,h⟩|⟨h0,v,hv,h⟩|⟨h0,V,hc,h⟩|⟨h0,mk,ob,hr,h⟩|⟨h0,v,ob,hb,hv,h⟩
   ·exact(back _ h).mono fun u w' ⟨hx,cs,hcs,hh⟩=>⟨hx,cs,hcs,o,ho,.inr ⟨hw u,.inl ⟨h0,v,by rw[he u];exact hv,hh⟩⟩⟩
   ·exact(back _ h).mono fun u w' ⟨hx,cs,hcs,hh⟩=>⟨hx,cs,hcs,o,ho,.inr ⟨hw u,.inr (.inl ⟨h0,v,by rw[he u];exact fun w2 hw2=>hv w2 (hx.trans hw2),hh⟩)⟩⟩
   ·omega
   ·omega
   ·exact(back _ h).mono fun u w' ⟨hx,cs,hcs,hh⟩=>⟨hx,cs,hcs,o,ho,.inr ⟨hw u,.inr (.inr (.inr (.inr ⟨h0,v,ob,hx.block hb,by rw[he u];exact hv,hh⟩)))⟩⟩
theorem c3r {j:Nat} {oj:Oper} (hj:ops[j]? =some oj) (hsel:∀(i:Nat) (o:Oper) cs b,ops[i]? =some o->o.op≠ .select cs b) (hkj:kd j=3):∀(pre post bs:List Nat) (a:Act) (W:World),
  (∀i∈pre,∀oi,ops[i]? =some oi->oi.apart ops oj=true)->B<=W.heap.size->(∀b∈bs,b<W.heap.size)->Region.wanted oj (yielded ops a.tmps)=true->wpF P ops kd ta B T (pre++j::post) bs a W->
  ∃(mk:Nat->Value) (ob:Obj),∀w,(execOp a.eval oj).run P w= .ok (.value (mk w.heap.size)) (w.alloc ob):=by
 intro pre
 induction pre with
 |nil=>
  intro post bs a W _ _ _ hwant h
  obtain⟨o,ho,h⟩:=h
  obtain rfl:o=oj:=Option.some.inj (ho.symm.trans hj)
  rcases h with⟨hn,_⟩|⟨_,h⟩
  ·rw[hn]at hwant;cases hwant
  ·rcases h with⟨h0,_⟩|⟨h0,_⟩|⟨h0,_⟩|⟨h0,mk,ob,hr,h⟩|⟨h0,_⟩
   ·omega
   ·omega
   ·omega
   ·exact⟨mk,ob,hr⟩
   ·omega
 |cons i pre ih=>
  intro post bs a W hpre hB hbs hwant h
  obtain⟨o,ho,h⟩:=h
  have hap:=hpre i (by simp) o ho
  obtain⟨h1,h2,h3⟩:=Oper.apart_spec hap
  have hpre':∀i∈pre,∀oi,ops[i]? =some oi->oi.apart ops oj=true:=fun x hx=>hpre x (by simp[hx])
  have go:∀v bs' W',B<=W'.heap.size->(∀b∈bs',b<W'.heap.size)->wpF P ops kd ta B T (pre++j::post) bs' (a.put o.dst v) W'->∃(mk:Nat->Value) (ob:Obj),∀w,(execOp a.eval oj).run P w= .ok (.value (mk w.heap.size)) (w.alloc ob):=fun v bs' W' hB' hbs' hh=>by
   obtain⟨mk,ob,hr⟩:=ih post bs' (a.put o.dst v) W' hpre' hB' hbs' (by rw[wanted_put oj a o.dst v h1];exact hwant) hh
   exact⟨mk,ob,fun w=>by rw[<-hr w,execOp_put oj (fun cs b=>hsel j oj cs b hj) a o.dst v h1]⟩
  rcases h with⟨hn,h⟩|⟨hn,h⟩
  ·exact go _ _ _ hB hbs h
  ·rcases h with⟨h0,v,hv,h⟩|⟨h0,v,hv,h⟩|⟨h0,V,hc,h⟩|⟨h0,mk,ob,hr,h⟩|⟨h0,v,ob,hb,hv,h⟩
   ·exact go _ _ _ hB hbs h
   ·exact go _ _ _ hB hbs h
   ·obtain⟨v,w',hx,cs,hcs,hV⟩:=(hc W (Ext.refl _)).some
    refine go v _ w' (Nat.le_trans hB hx.size) (fun b hb=> ?_) (h v cs w' hx hV fun c hc=>⟨Nat.le_trans hB (hcs c hc).1,fun hm=>by have:=hbs c hm;have:=(hcs c hc).1;omega⟩)
    rcases List.mem_append.1 hb with hb|hb
    ·exact(hcs b hb).2
    ·exact Nat.lt_of_lt_of_le (hbs b hb) hx.size
   ·refine go (mk W.heap.size) (W.heap.size::bs) (W.alloc ob) (Nat.le_trans hB (Ext.alloc W ob).size) ?_ (h _ _ (Ext.alloc W ob) ?_ (fun hm=>Nat.lt_irrefl _ (hbs _ hm)) hB)
    ·intro b hb
     simp only[List.mem_cons]at hb
     have hsz:(W.alloc ob).heap.size=W.heap.size+1:=by show(W.heap.push ob).size=_;simp
     rcases hb with rfl|hb
     ·omega
     ·have:=hbs b hb;omega
    ·show(W.heap.push ob)[W.heap.size]? =_;simp
   ·exact go _ _ _ hB hbs h
theorem c3s {j:Nat} {oj:Oper} (hj:ops[j]? =some oj) (hsel:∀(i:Nat) (o:Oper) cs b,ops[i]? =some o->o.op≠ .select cs b) (hkj:kd j=0):∀(pre post bs:List Nat) (a:Act) (W:World),
  (∀i∈pre,∀oi,ops[i]? =some oi->oi.apart ops oj=true)->B<=W.heap.size->(∀b∈bs,b<W.heap.size)->Region.wanted oj (yielded ops a.tmps)=true->wpF P ops kd ta B T (pre++j::post) bs a W->
  ∃v:Value,∀w,(execOp a.eval oj).run P w= .ok (.value v) w:=by
 intro pre
 induction pre with
 |nil=>
  intro post bs a W _ _ _ hwant h
  obtain⟨o,ho,h⟩:=h
  obtain rfl:o=oj:=Option.some.inj (ho.symm.trans hj)
  rcases h with⟨hn,_⟩|⟨_,h⟩
  ·rw[hn]at hwant;cases hwant
  ·rcases h with⟨h0,v,hv,h⟩|⟨h0,_⟩|⟨h0,_⟩|⟨h0,_⟩|⟨h0,_⟩
   ·exact⟨v,hv⟩
   ·omega
   ·omega
   ·omega
   ·omega
 |cons i pre ih=>
  intro post bs a W hpre hB hbs hwant h
  obtain⟨o,ho,h⟩:=h
  have hap:=hpre i (by simp) o ho
  obtain⟨h1,h2,h3⟩:=Oper.apart_spec hap
  have hpre':∀i∈pre,∀oi,ops[i]? =some oi->oi.apart ops oj=true:=fun x hx=>hpre x (by simp[hx])
  have go:∀v bs' W',B<=W'.heap.size->(∀b∈bs',b<W'.heap.size)->wpF P ops kd ta B T (pre++j::post) bs' (a.put o.dst v) W'->∃v:Value,∀w,(execOp a.eval oj).run P w= .ok (.value v) w:=fun v bs' W' hB' hbs' hh=>by
   obtain⟨u,hr⟩:=ih post bs' (a.put o.dst v) W' hpre' hB' hbs' (by rw[wanted_put oj a o.dst v h1];exact hwant) hh
   exact⟨u,fun w=>by rw[<-hr w,execOp_put oj (fun cs b=>hsel j oj cs b hj) a o.dst v h1]⟩
  rcases h with⟨hn,h⟩|⟨hn,h⟩
  ·exact go _ _ _ hB hbs h
  ·rcases h with⟨h0,v,hv,h⟩|⟨h0,v,hv,h⟩|⟨h0,V,hc,h⟩|⟨h0,mk,ob,hr,h⟩|⟨h0,v,ob,hb,hv,h⟩
   ·exact go _ _ _ hB hbs h
   ·exact go _ _ _ hB hbs h
   ·obtain⟨v,w',hx,cs,hcs,hV⟩:=(hc W (Ext.refl _)).some
    refine go v _ w' (Nat.le_trans hB hx.size) (fun b hb=> ?_) (h v cs w' hx hV fun c hc=>⟨Nat.le_trans hB (hcs c hc).1,fun hm=>by have:=hbs c hm;have:=(hcs c hc).1;omega⟩)
    rcases List.mem_append.1 hb with hb|hb
    ·exact(hcs b hb).2
    ·exact Nat.lt_of_lt_of_le (hbs b hb) hx.size
   ·refine go (mk W.heap.size) (W.heap.size::bs) (W.alloc ob) (Nat.le_trans hB (Ext.alloc W ob).size) ?_ (h _ _ (Ext.alloc W ob) ?_ (fun hm=>Nat.lt_irrefl _ (hbs _ hm)) hB)
    ·intro b hb
     simp only[List.mem_cons]at hb
     have hsz:(W.alloc ob).heap.size=W.heap.size+1:=by show(W.heap.push ob).size=_;simp
     rcases hb with rfl|hb
     ·omega
     ·have:=hbs b hb;omega
    ·show(W.heap.push ob)[W.heap.size]? =_;simp
   ·exact go _ _ _ hB hbs h
theorem c3t {j:Nat} {oj:Oper} {v:Value} (hj:ops[j]? =some oj) (hsel:∀(i:Nat) (o:Oper) cs b,ops[i]? =some o->o.op≠ .select cs b) (hkj:kd j=0):∀(pre post bs:List Nat) (a:Act) (W:World),
  (∀i∈pre,∀oi,ops[i]? =some oi->oi.apart ops oj=true)->(∀w,(execOp a.eval oj).run P w= .ok (.value v) w)->Region.wanted oj (yielded ops a.tmps)=true->wpF P ops kd ta B T (pre++j::post) bs a W->wpF P ops kd ta B T (pre++post) bs (a.put oj.dst v) W:=by
 intro pre
 induction pre with
 |nil=>
  intro post bs a W _ hv hn h
  obtain⟨o,ho,h⟩:=h
  obtain rfl:o=oj:=Option.some.inj (ho.symm.trans hj)
  rcases h with⟨hn',_⟩|⟨_,h⟩
  ·rw[hn]at hn';cases hn'
  ·rcases h with⟨h0,v',hv',h⟩|⟨h0,_⟩|⟨h0,_⟩|⟨h0,_⟩|⟨h0,_⟩
   ·have e:=(hv' W).symm.trans (hv W)
    simp only[Result.ok.injEq,Next.value.injEq,and_true]at e
    subst e;exact h
   ·omega
   ·omega
   ·omega
   ·omega
 |cons i pre ih2=>
  intro post bs a W hap hv hn h
  obtain⟨o,ho,h⟩:=h
  have hap1:=hap i (by simp) o ho
  obtain⟨h1,h2,h3⟩:=Oper.apart_spec hap1
  have hap':∀i∈pre,∀oi,ops[i]? =some oi->oi.apart ops oj=true:=fun x hx=>hap x (by simp[hx])
  have go:∀v' bs' W',wpF P ops kd ta B T (pre++j::post) bs' (a.put o.dst v') W'->wpF P ops kd ta B T (pre++post) bs' ((a.put oj.dst v).put o.dst v') W':=fun v' bs' W' hh=>by
   have:=ih2 post bs' (a.put o.dst v') W' hap' (fun w=>by rw[execOp_put oj (fun cs b=>hsel j oj cs b hj) a o.dst v' h1];exact hv w) (by rw[wanted_put oj a o.dst v' h1];exact hn) hh
   rwa[Act.put_comm a v' v h2]at this
  refine⟨o,ho,?_⟩
  have he:execOp (a.put oj.dst v).eval o=execOp a.eval o:=execOp_put o (fun cs b=>hsel i o cs b ho) a oj.dst v h3
  rw[wanted_put o a oj.dst v h3,he]
  rcases h with⟨hn,h⟩|⟨hn,h⟩
  ·exact .inl ⟨hn,go _ _ _ h⟩
  ·refine .inr ⟨hn,?_⟩
   rcases h with⟨h0,v,hv,h⟩|⟨h0,v,hv,h⟩|⟨h0,V,hc,h⟩|⟨h0,mk',ob',hr,h⟩|⟨h0,v,ob,hb,hv,h⟩
   ·exact .inl ⟨h0,v,hv,go _ _ _ h⟩
   ·exact .inr (.inl ⟨h0,v,hv,go _ _ _ h⟩)
   ·exact .inr (.inr (.inl ⟨h0,V,fun w hw=>by have:=hc w hw;unfold Stp at this⊢;rw[he];exact this,fun v cs W2 hW2 hV hcs=>go _ _ _ (h v cs W2 hW2 hV hcs)⟩))
   ·exact .inr (.inr (.inr (.inl ⟨h0,mk',ob',hr,fun b W2 hW2 hob hnb hB=>go _ _ _ (h b W2 hW2 hob hnb hB)⟩)))
   ·exact .inr (.inr (.inr (.inr ⟨h0,v,ob,hb,hv,go _ _ _ h⟩)))
theorem a9s (b:Nat) (W:World):∃w:World,w.heap.size=b:=⟨{W with heap:=Array.replicate b default},by simp⟩
theorem b7e {w:World} {o o':Obj} (h:w.alloc o=w.alloc o'):o=o':=by
 have:(w.heap.push o)=(w.heap.push o'):=congrArg World.heap h
 exact(Array.push_eq_push.1 this).1
theorem b7f {j:Nat} {oj:Oper} (hj:ops[j]? =some oj) (hsel:∀(i:Nat) (o:Oper) cs b,ops[i]? =some o->o.op≠ .select cs b) (hkj:kd j=3) (mk:Nat->Value) (ob:Obj) (b:Nat):∀(pre post bs:List Nat) (a:Act) (W W':World),
  (∀i∈pre,∀oi,ops[i]? =some oi->oi.apart ops oj=true)->(∀w,(execOp a.eval oj).run P w= .ok (.value (mk w.heap.size)) (w.alloc ob))->Region.wanted oj (yielded ops a.tmps)=true->
  Ext W W'->W'.heap[b]? =some ob->b∉bs->B<=b->wpF P ops kd ta B T (pre++j::post) bs a W->
  wpF P ops kd ta B T (pre++post) (b::bs) (a.put oj.dst (mk b)) W':=by
 intro pre
 induction pre with
 |nil=>
  intro post bs a W W' _ hrun hwant hx hob hnb hB h
  obtain⟨o,ho,h⟩:=h
  obtain rfl:o=oj:=Option.some.inj (ho.symm.trans hj)
  rcases h with⟨hn,_⟩|⟨_,h⟩
  ·rw[hn]at hwant;cases hwant
  ·rcases h with⟨h0,_⟩|⟨h0,_⟩|⟨h0,_⟩|⟨h0,mk',ob',hr,h⟩|⟨h0,_⟩
   ·omega
   ·omega
   ·omega
   ·obtain⟨w,hw⟩:=a9s b W
    have e:=(hrun w).symm.trans (hr w)
    simp only[Result.ok.injEq,Next.value.injEq,hw]at e
    obtain⟨e1,e2⟩:=e
    have e3:=b7e e2
    subst e3
    rw[e1]
    exact h b W' hx hob hnb hB
   ·omega
 |cons i pre ih=>
  intro post bs a W W' hpre hrun hwant hx hob hnb hB h
  obtain⟨o,ho,h⟩:=h
  have hap:=hpre i (by simp) o ho
  obtain⟨h1,h2,h3⟩:=Oper.apart_spec hap
  have hpre':∀i∈pre,∀oi,ops[i]? =some oi->oi.apart ops oj=true:=fun x hx=>hpre x (by simp[hx])
  have hw:Region.wanted o (yielded ops (a.put oj.dst (mk b)).tmps)=Region.wanted o (yielded ops a.tmps):=wanted_put o a oj.dst (mk b) h3
  have he:execOp (a.put oj.dst (mk b)).eval o=execOp a.eval o:=execOp_put o (fun cs b=>hsel i o cs b ho) a oj.dst (mk b) h3
  have go:∀v bs' W1 W2,Ext W1 W2->W2.heap[b]? =some ob->b∉bs'->wpF P ops kd ta B T (pre++j::post) bs' (a.put o.dst v) W1->wpF P ops kd ta B T (pre++post) (b::bs') ((a.put oj.dst (mk b)).put o.dst v) W2:=fun v bs' W1 W2 hx' hob' hnb' hh=>by
   have:=ih post bs' (a.put o.dst v) W1 W2 hpre' (fun w=>by rw[execOp_put oj (fun cs b=>hsel j oj cs b hj) a o.dst v h1];exact hrun w) (by rw[wanted_put oj a o.dst v h1];exact hwant) hx' hob' hnb' hB hh
   rwa[Act.put_comm a v (mk b) h2]at this
  refine⟨o,ho,?_⟩
  rw[hw,he]
  rcases h with⟨hn,h⟩|⟨hn,h⟩
  ·exact .inl ⟨hn,go _ _ _ _ hx hob hnb h⟩
  ·refine .inr ⟨hn,?_⟩
   rcases h with⟨h0,v,hv,h⟩|⟨h0,v,hv,h⟩|⟨h0,V,hc,h⟩|⟨h0,mk',ob',hr,h⟩|⟨h0,v,ob',hb',hv,h⟩
   ·exact .inl ⟨h0,v,hv,go _ _ _ _ hx hob hnb h⟩
   ·exact .inr (.inl ⟨h0,v,fun w hw=>hv w (hx.trans hw),go _ _ _ _ hx hob hnb h⟩)
   ·refine .inr (.inr (.inl ⟨h0,V,fun w hw=>by have:=hc w (hx.trans hw);unfold Stp at this⊢;rw[he];exact this,fun v cs W2 hW2 hV hcs=> ?_⟩))
    have hn:b∉cs++bs:=fun hm=>by
     rcases List.mem_append.1 hm with hm|hm
     ·exact(hcs b hm).2 (by simp)
     ·exact hnb hm
    have:=go v (cs++bs) W2 W2 (Ext.refl _) (hW2.block hob) hn (h v cs W2 (hx.trans hW2) hV fun c hc=>⟨(hcs c hc).1,fun hm=>(hcs c hc).2 (by simp[hm])⟩)
    exact c7t _ _ _ _ _ (by intro x hx;simp only[List.mem_cons,List.mem_append]at hx⊢;rcases hx with h|h|h<;>simp[h]) this
   ·refine .inr (.inr (.inr (.inl ⟨h0,mk',ob',hr,fun b' W2 hW2 hob' hnb' hB'=> ?_⟩)))
    simp only[List.mem_cons,not_or]at hnb'
    have:=go (mk' b') (b'::bs) W2 W2 (Ext.refl _) (hW2.block hob) (by simp only[List.mem_cons,not_or];exact⟨fun e=>hnb'.1 e.symm,hnb⟩) (h b' W2 (hx.trans hW2) hob' hnb'.2 hB')
    exact c7t _ _ _ _ _ (by intro x hx;simp only[List.mem_cons]at hx⊢;rcases hx with h|h|h<;>simp[h]) this
   ·exact .inr (.inr (.inr (.inr ⟨h0,v,ob',hx.block hb',hv,go _ _ _ _ hx hob hnb h⟩)))
end
open Go.RowKit
def d3C (acc:List Nat) (o:Oper):Nat:=o.after.toList.foldl (fun s e=>if Region.binds .any e then s|||(1<<<e.on)|||acc.getD e.on 0 else s) 0
def a9t:List Oper->List Nat->List Nat
 |[],acc=>acc
 |o::l,acc=>a9t l (acc++[d3C acc o])
theorem b7g:∀(l:List Oper) (acc:List Nat),(∃r,a9t l acc=acc++r)/\∀m o,l[m]? =some o->(a9t l acc).getD (acc.length+m) 0=d3C ((a9t l acc).take (acc.length+m)) o:=by
 intro l
 induction l with
 |nil=>intro acc;exact⟨⟨[],by simp[a9t]⟩,fun m o h=>by simp at h⟩
 |cons x l ih=>
  intro acc
  obtain⟨⟨r,hr⟩,ih2⟩:=ih (acc++[d3C acc x])
  refine⟨⟨d3C acc x::r,by simp only[a9t];rw[hr];simp⟩,?_⟩
  intro m o hm
  simp only[a9t]
  cases m with
  |zero=>
   simp at hm
   subst hm
   rw[hr]
   simp[List.getD_eq_getElem?_getD]
  |succ m=>
   simp at hm
   have:=ih2 m o hm
   simp only[List.length_append,List.length_cons,List.length_nil,Nat.zero_add]at this
   rw[show acc.length+(m+1)=acc.length+1+m from by omega]
   exact this
theorem c3u (i:Nat) (acc:List Nat):∀(es:List Edge) (s:Nat),(es.foldl (fun s e=>if Region.binds .any e then s|||(1<<<e.on)|||acc.getD e.on 0 else s) s).testBit i=true->
  s.testBit i=true\/∃e∈es,Region.binds .any e=true/\(e.on=i\/(acc.getD e.on 0).testBit i=true):=by
 intro es
 induction es with
 |nil=>intro s h;exact .inl h
 |cons e es ih=>
  intro s h
  simp only[List.foldl_cons]at h
  rcases ih _ h with h'|⟨e',he',h'⟩
  ·by_cases hb:Region.binds .any e=true
   ·simp only[hb,if_true,Nat.testBit_or,Bool.or_eq_true,Nat.one_shiftLeft,Nat.testBit_two_pow,decide_eq_true_eq]at h'
    rcases h' with(h'|h')|h'
    ·exact .inl h'
    ·exact .inr ⟨e,by simp,hb,.inl h'⟩
    ·exact .inr ⟨e,by simp,hb,.inr h'⟩
   ·simp only[hb]at h'
    exact .inl (by simpa using h')
  ·exact .inr ⟨e',by simp[he'],h'⟩
theorem c3v (ops:Array Oper) {i j:Nat} {o:Oper} (hj:ops[j]? =some o) (h:((a9t ops.toList []).getD j 0).testBit i=true):
  ∃e∈o.after,Region.binds .any e=true/\(e.on=i\/(e.on<j/\((a9t ops.toList []).getD e.on 0).testBit i=true)):=by
 have h2:=(b7g ops.toList []).2 j o (by simpa using hj)
 simp only[List.length_nil,Nat.zero_add]at h2
 rw[h2]at h
 unfold d3C at h
 rcases c3u i _ _ _ h with h'|⟨e,he,hb,h'⟩
 ·simp at h'
 ·refine⟨e,by simpa using he,hb,?_⟩
  rcases h' with h'|h'
  ·exact .inl h'
  ·right
   by_cases hlt:e.on<j
   ·refine⟨hlt,?_⟩
    rw[List.getD_eq_getElem?_getD,List.getElem?_take_of_lt hlt,<-List.getD_eq_getElem?_getD]at h'
    exact h'
   ·rw[List.getD_eq_getElem?_getD,List.getElem?_eq_none (by simp;omega)]at h'
    simp at h'
def d7I (ops:Array Oper) (listed:Array Bool):Prop:=
 ∀k o,ops[k]? =some o->listed.getD k false=true->∀e∈o.after,Region.binds .any e=true->listed.getD e.on false=true
theorem b0M {ops:Array Oper} {listed:Array Bool} (hd:d7I ops listed) {i:Nat} (hi:listed.getD i false=false):
  ∀(n j:Nat),j<n->∀o,ops[j]? =some o->((a9t ops.toList []).getD j 0).testBit i=true->∃e∈o.after,Region.binds .any e=true/\listed.getD e.on false=false:=by
 intro n
 induction n with
 |zero=>intro j hj;omega
 |succ n ih=>
  intro j hj o ho hb
  obtain⟨e,he,hbe,h⟩:=c3v ops ho hb
  rcases h with rfl|⟨hlt,h⟩
  ·exact⟨e,he,hbe,hi⟩
  ·refine⟨e,he,hbe,?_⟩
   cases hoe:ops[e.on]? with
   |none=>
    have:¬e.on<ops.size:=fun h'=>by simp[Array.getElem?_eq_getElem h']at hoe
    have:j<ops.size:=(Array.getElem?_eq_some_iff.1 ho).1
    omega
   |some oe=>
    obtain⟨e',he',hbe',h'⟩:=ih e.on (by omega) oe hoe h
    cases hl:listed.getD e.on false with
    |false=>rfl
    |true=>rw[hd _ _ hoe hl e' he' hbe']at h';cases h'
def d6a (ops:Array Oper) (i j:Nat):Bool:=match ops[i]?,ops[j]? with|some a,some b=>a.apart ops b|_,_=>false
def frK (k:Nat):Bool:=decide (k<=3)||k==5
def okK (kd tg:Nat->Nat) (i j:Nat):Bool:=
 kd i==0||(kd j==3&&frK (kd i))||((kd i==1||kd i==5)&&frK (kd j))||(kd i==5&&kd j==6&&tg i !=tg j)||(kd i==6&&(kd j==5||kd j==6)&&tg i !=tg j)||(kd i==5&&(kd j==7||kd j==8))||(kd i==6&&kd j==7)||(kd i==7&&(kd j==0||kd j==5||kd j==6||kd j==7))||(kd j==0&&frK (kd i))||(kd i==9&&(kd j==0||kd j==9||kd j==10))
def okP (ops:Array Oper) (A:List Nat) (kd tg:Nat->Nat) (i j:Nat):Bool:=
 (A.getD j 0).testBit i||(d6a ops i j&&okK kd tg i j)
def okL (ops:Array Oper) (A:List Nat) (kd tg:Nat->Nat):List Nat->Bool
 |[]=>true
 |i::L=>(L.all fun j=>okP ops A kd tg i j)&&okL ops A kd tg L
def Lin (ops:Array Oper):Array Bool->List Nat->Prop
 |_,[]=>True
 |listed,i::L=>i∈Region.ready .any ops listed/\Lin ops (listed.setIfInBounds i true) L
def d3D (ops:Array Oper):Array Bool->List Nat->Bool
 |listed,[]=>listed.all id
 |listed,i::L=>(!listed.getD i true)&&((ops[i]?).map (fun o=>o.after.all fun e=> !Region.binds .any e||listed.getD e.on false)).getD false&&d3D ops (listed.setIfInBounds i true) L
theorem c3w (ops:Array Oper):∀(L:List Nat) (listed:Array Bool),listed.size=ops.size->d3D ops listed L=true->Lin ops listed L/\∀i,i<ops.size->listed.getD i true=false->i∈L:=by
 intro L
 induction L with
 |nil=>
  intro listed hs h
  refine⟨trivial,fun i hi hl=> ?_⟩
  simp only[d3D,Array.all_eq_true]at h
  have h1:=h i (by omega)
  rw[Array.getD_eq_getD_getElem?,Array.getElem?_eq_getElem (by omega)]at hl
  simp at hl h1
  rw[hl]at h1;cases h1
 |cons i L ih=>
  intro listed hs h
  simp only[d3D,Bool.and_eq_true]at h
  obtain⟨⟨h1,h2⟩,h3⟩:=h
  obtain⟨ih1,ih2⟩:=ih (listed.setIfInBounds i true) (by simpa using hs) h3
  refine⟨⟨?_,ih1⟩,fun k hk hl=> ?_⟩
  ·unfold Region.ready
   rw[List.mem_filter,List.mem_range]
   cases ho:ops[i]? with
   |none=>simp[ho]at h2
   |some o=>
    refine⟨(Array.getElem?_eq_some_iff.1 ho).1,?_⟩
    simp only[ho]at h2
    simp only[Bool.and_eq_true]
    exact⟨h1,by simpa using h2⟩
  ·by_cases hki:i=k
   ·simp[hki]
   ·exact List.mem_cons_of_mem _ (ih2 k hk (by rw[getD_set_ne true hki];exact hl))
theorem Lin.unlisted {ops:Array Oper}:∀{L:List Nat} {listed:Array Bool},Lin ops listed L->∀x∈L,listed.getD x true=false:=by
 intro L
 induction L with
 |nil=>intro listed _ x hx;cases hx
 |cons i L ih=>
  intro listed h x hx
  obtain⟨h1,h2⟩:=h
  have hi:=(mem_ready.1 h1).1
  rcases List.mem_cons.1 hx with rfl|hx
  ·exact hi
  ·have:=ih h2 x hx
   by_cases hix:i=x
   ·subst hix;exact hi
   ·rwa[getD_set_ne true hix]at this
theorem a5b {listed:Array Bool} {i:Nat} (h:listed.getD i true=false):(listed.setIfInBounds i true).getD i true=true:=by
 have hlt:i<listed.size:=by
  rcases Nat.lt_or_ge i listed.size with h'|h'
  ·exact h'
  ·simp[Array.getElem?_eq_none h']at h
 simp[hlt]
theorem Lin.remove {ops:Array Oper} {j:Nat}:∀{pre post:List Nat} {listed:Array Bool},Lin ops listed (pre++j::post)->j∈Region.ready .any ops listed->Lin ops (listed.setIfInBounds j true) (pre++post):=by
 intro pre
 induction pre with
 |nil=>intro post listed h _;exact h.2
 |cons i pre ih=>
  intro post listed h hj
  obtain⟨h1,h2⟩:=h
  have hne:i≠j:=fun e=>by
   subst e
   have:=h2.unlisted i (by simp)
   rw[a5b (mem_ready.1 h1).1]at this
   cases this
  have h3:=ih h2 (ready_mono hj (Ne.symm hne))
  refine⟨ready_mono h1 hne,?_⟩
  rw[Array.setIfInBounds_comm _ _ (Ne.symm hne)]
  exact h3
structure Good (ops:Array Oper) (kd tg:Nat->Nat) (listed:Array Bool) (L:List Nat):Prop where
 size:listed.size=ops.size
 lin:Lin ops listed L
 cover:∀i,i<ops.size->listed.getD i true=false->i∈L
 down:d7I ops listed
 pw:L.Pairwise fun i j=>okP ops (a9t ops.toList []) kd tg i j=true
theorem a3M {listed:Array Bool} {i:Nat} (h:listed.getD i true=false):listed.getD i false=false:=by
 rcases Nat.lt_or_ge i listed.size with h'|h'
 ·simp[h']at h⊢;exact h
 ·simp[Array.getElem?_eq_none h']at h
theorem Good.remove {ops:Array Oper} {kd tg:Nat->Nat} {listed:Array Bool} {pre post:List Nat} {j:Nat} (g:Good ops kd tg listed (pre++j::post)) (hj:j∈Region.ready .any ops listed):Good ops kd tg (listed.setIfInBounds j true) (pre++post):=by
 refine⟨by simpa using g.size,g.lin.remove hj,fun i hi hl=> ?_,fun k o hk hl e he hb=> ?_,?_⟩
 ·by_cases hij:j=i
  ·subst hij;rw[a5b (mem_ready.1 hj).1]at hl;cases hl
  ·rw[getD_set_ne true hij]at hl
   have:=g.cover i hi hl
   simp only[List.mem_append,List.mem_cons]at this⊢
   rcases this with h|h|h
   ·exact .inl h
   ·exact absurd h.symm hij
   ·exact .inr h
 ·by_cases hkj:j=k
  ·subst hkj
   obtain⟨_,o',ho',hall⟩:=mem_ready.1 hj
   obtain rfl:o'=o:=Option.some.inj (ho'.symm.trans hk)
   exact getD_set_true (hall e he hb)
  ·rw[getD_set_ne false hkj]at hl
   exact getD_set_true (g.down k o hk hl e he hb)
 ·have:=g.pw
  rw[List.pairwise_append]at this⊢
  obtain⟨h1,h2,h3⟩:=this
  exact⟨h1,(List.pairwise_cons.1 h2).2,fun a ha b hb=>h3 a ha b (by simp[hb])⟩
theorem Good.ahead {ops:Array Oper} {kd tg:Nat->Nat} {listed:Array Bool} {pre post:List Nat} {j:Nat} (g:Good ops kd tg listed (pre++j::post)) (hj:j∈Region.ready .any ops listed):
  ∀i∈pre,d6a ops i j=true/\okK kd tg i j=true:=by
 intro i hi
 have h:=(List.pairwise_append.1 g.pw).2.2 i hi j (by simp)
 obtain⟨hun,oj,hoj,hall⟩:=mem_ready.1 hj
 unfold okP at h
 rw[Bool.or_eq_true]at h
 rcases h with h|h
 ·exfalso
  have hiu:=a3M (g.lin.unlisted i (by simp[hi]))
  obtain⟨e,he,hb,hf⟩:=b0M g.down hiu (j+1) j (by omega) oj hoj h
  rw[hall e he hb]at hf;cases hf
 ·exact Bool.and_eq_true_iff.1 h
theorem a6G {kd tg:Nat->Nat} {i j:Nat} (h:okK kd tg i j=true):kd i=0\/(kd j=3/\(kd i<=3\/kd i=5))\/((kd i=1\/kd i=5)/\(kd j<=3\/kd j=5))\/(kd i=5/\kd j=6/\tg i≠tg j)\/(kd i=6/\(kd j=5\/kd j=6)/\tg i≠tg j)\/(kd i=5/\(kd j=7\/kd j=8))\/(kd i=6/\kd j=7)\/(kd i=7/\(kd j=0\/kd j=5\/kd j=6\/kd j=7))\/(kd j=0/\(kd i<=3\/kd i=5))\/(kd i=9/\(kd j=0\/kd j=9\/kd j=10)):=by
 simp only[okK,frK,Bool.and_eq_true,Bool.or_eq_true,beq_iff_eq,decide_eq_true_eq,bne_iff_ne]at h
 rcases h with((((((((h|h)|h)|h)|h)|h)|h)|h)|h)|h
 ·exact .inl h
 ·exact .inr (.inl h)
 ·exact .inr (.inr (.inl h))
 ·exact .inr (.inr (.inr (.inl ⟨h.1.1,h.1.2,h.2⟩)))
 ·exact .inr (.inr (.inr (.inr (.inl ⟨h.1.1,h.1.2,h.2⟩))))
 ·exact .inr (.inr (.inr (.inr (.inr (.inl h)))))
 ·exact .inr (.inr (.inr (.inr (.inr (.inr (.inl h))))))
 ·exact .inr (.inr (.inr (.inr (.inr (.inr (.inr (.inl ⟨h.1,by omega⟩)))))))
 ·exact .inr (.inr (.inr (.inr (.inr (.inr (.inr (.inr (.inl h))))))))
 ·exact .inr (.inr (.inr (.inr (.inr (.inr (.inr (.inr (.inr ⟨h.1,by omega⟩))))))))
theorem a3N {ops:Array Oper} {i j:Nat} {oj:Oper} (hj:ops[j]? =some oj) (h:d6a ops i j=true):∀oi,ops[i]? =some oi->oi.apart ops oj=true:=by
 intro oi hi
 unfold d6a at h
 simpa[hi,hj]using h
section
variable {ro:Option Nat} {rm:Nat} {P:Program} {X:Value->World->Prop} {df:List Deferred} {ops:Array Oper} {kd tg ta:Nat->Nat} {B:Nat} {Q:Exit->Act->World->Prop}
theorem b2Q (w:World) {g k:Nat} (a b:Array Value) (h:g≠k):(w.setRow g a).setRow k b=(w.setRow k b).setRow g a:=by
 unfold World.setRow
 congr 1
 apply Array.ext
 ·simp
 ·intro i h1 h2
  simp only[Array.getElem_modify]
  by_cases e1:k=i
  ·subst e1;simp[h]
  ·simp[e1]
theorem c3x {Q:Act->World->Prop} {j:Nat} {oj:Oper} (hj:ops[j]? =some oj) (hsel:∀(i:Nat) (o:Oper) cs b,ops[i]? =some o->o.op≠ .select cs b) (hkj:kd j=4\/kd j=8\/kd j=10):∀(pre post:List Nat) (a:Act) (w:World),
  (∀i∈pre,(kd i=0\/(kd i=5/\kd j=8)\/(kd i=9/\kd j=10))/\∀oi,ops[i]? =some oi->oi.apart ops oj=true)->wpT P X ops kd ta Q (pre++j::post) a w->
  OpX P X ops oj a w fun u w'=>(kd j=8->∀m,kd m=5->w'.heap[ta m]? =w.heap[ta m]?)/\(kd j=10->KeepM w w')/\wpT P X ops kd ta Q (pre++post) (a.put oj.dst u) w':=by
 intro pre
 induction pre with
 |nil=>
  intro post a w _ h
  obtain⟨o,ho,h⟩:=h
  obtain rfl:o=oj:=Option.some.inj (ho.symm.trans hj)
  unfold OpX
  rcases h with⟨hn,h⟩|⟨hn,h⟩
  ·rw[if_neg (by simp[hn])];exact⟨fun _ _ _=>rfl,fun _=>KeepM.refl _,h⟩
  ·rw[if_pos hn]
   rcases h with⟨h0,_⟩|⟨h0,_⟩|⟨h0,_⟩|⟨h0,_⟩|⟨h0,h⟩|⟨h0,_⟩|⟨h0,h⟩|⟨_,_,_,_,h8,_,h10,h⟩
   ·omega
   ·omega
   ·omega
   ·omega
   ·exact h.mono fun v w' ⟨h1,h2⟩=>⟨fun _=>h1,fun e=>by omega,h2⟩
   ·omega
   ·exact h.mono fun v w' ⟨h1,h2⟩=>⟨fun e=>by omega,fun _=>h1,h2⟩
   ·exact h.mono fun v w' h2=>⟨fun e=>absurd e h8,fun e=>absurd e h10,h2⟩
 |cons i pre ih=>
  intro post a w hpre h
  obtain⟨o,ho,h⟩:=h
  obtain⟨hk,hap⟩:=hpre i (by simp)
  have hap:=hap o ho
  obtain⟨h1,h2,h3⟩:=Oper.apart_spec hap
  have hpre':∀i∈pre,(kd i=0\/(kd i=5/\kd j=8)\/(kd i=9/\kd j=10))/\∀oi,ops[i]? =some oi->oi.apart ops oj=true:=fun x hx=>hpre x (by simp[hx])
  have back:∀v,wpT P X ops kd ta Q (pre++j::post) (a.put o.dst v) w->OpX P X ops oj a w fun u w'=>(kd j=8->∀m,kd m=5->w'.heap[ta m]? =w.heap[ta m]?)/\(kd j=10->KeepM w w')/\wpT P X ops kd ta Q (pre++post) ((a.put oj.dst u).put o.dst v) w':=fun v hv=>by
   have:=(OpX.put (P:=P) (X:=X) hap (fun cs b=>hsel j oj cs b hj)).1 (ih post _ w hpre' hv)
   exact this.mono fun u w' hh=>by rw[Act.put_comm a v u h2]at hh;exact hh
  have he:∀u,execOp (a.put oj.dst u).eval o=execOp a.eval o:=fun u=>execOp_put o (fun cs b=>hsel i o cs b ho) a oj.dst u h3
  rcases h with⟨hn,h⟩|⟨hn,h⟩
  ·exact(back _ h).mono fun u w' hh=>⟨hh.1,hh.2.1,o,ho,.inl ⟨by rw[wanted_put o a oj.dst u h3];exact hn,hh.2.2⟩⟩
  ·have hw:∀u,Region.wanted o (yielded ops (a.put oj.dst u).tmps)=true:=fun u=>by rw[wanted_put o a oj.dst u h3];exact hn
   rcases h with⟨h0,v,hv,h⟩|⟨h0,v,ob,hb,hv,h⟩|⟨h0,_⟩|⟨h0,_⟩|⟨h0,_⟩|⟨h0,v,R,hv,hR,hs,h⟩|⟨h0,_⟩|⟨_,_,_,_,_,_,_,_⟩
   ·exact(back _ h).mono fun u w' hh=>⟨hh.1,hh.2.1,o,ho,.inr ⟨hw u,.inl ⟨h0,v,by rw[he u];exact hv,hh.2.2⟩⟩⟩
   ·have h8:kd j=8:=by omega
    exact(back _ h).mono fun u w' hh=>⟨hh.1,hh.2.1,o,ho,.inr ⟨hw u,.inr (.inl ⟨h0,v,ob,by rw[hh.1 h8 i h0];exact hb,by rw[he u];exact hv,hh.2.2⟩)⟩⟩
   ·omega
   ·omega
   ·omega
   ·have h10:kd j=10:=by omega
    exact(back _ h).mono fun u w' hh=>⟨hh.1,hh.2.1,o,ho,.inr ⟨hw u,.inr (.inr (.inr (.inr (.inr (.inl ⟨h0,v,R,by rw[he u];exact hv,hs w w' (hh.2.1 h10) hR,hs,hh.2.2⟩)))))⟩⟩
   ·omega
   ·omega
theorem c3y {Q:Act->World->Prop} {j:Nat} {oj:Oper} (hj:ops[j]? =some oj) (hsel:∀(i:Nat) (o:Oper) cs b,ops[i]? =some o->o.op≠ .select cs b):∀(pre post:List Nat) (a:Act) (w:World),
  (∀i∈pre,∀oi,ops[i]? =some oi->oi.apart ops oj=true)->Region.wanted oj (yielded ops a.tmps)=false->wpT P X ops kd ta Q (pre++j::post) a w->wpT P X ops kd ta Q (pre++post) (a.put oj.dst undef) w:=by
 intro pre
 induction pre with
 |nil=>
  intro post a w _ hn h
  obtain⟨o,ho,h⟩:=h
  obtain rfl:o=oj:=Option.some.inj (ho.symm.trans hj)
  rcases h with⟨_,h⟩|⟨hn',_⟩
  ·exact h
  ·rw[hn]at hn';cases hn'
 |cons i pre ih=>
  intro post a w hap hn h
  obtain⟨o,ho,h⟩:=h
  have hap1:=hap i (by simp) o ho
  obtain⟨h1,h2,h3⟩:=Oper.apart_spec hap1
  have hap':∀i∈pre,∀oi,ops[i]? =some oi->oi.apart ops oj=true:=fun x hx=>hap x (by simp[hx])
  have go:∀v w',wpT P X ops kd ta Q (pre++j::post) (a.put o.dst v) w'->wpT P X ops kd ta Q (pre++post) ((a.put oj.dst undef).put o.dst v) w':=fun v w' hh=>by
   have:=ih post (a.put o.dst v) w' hap' (by rw[wanted_put oj a o.dst v h1];exact hn) hh
   rwa[Act.put_comm a v undef h2]at this
  refine⟨o,ho,?_⟩
  have he:execOp (a.put oj.dst undef).eval o=execOp a.eval o:=execOp_put o (fun cs b=>hsel i o cs b ho) a oj.dst undef h3
  rw[wanted_put o a oj.dst undef h3,he]
  rcases h with⟨hn,h⟩|⟨hn,h⟩
  ·exact .inl ⟨hn,go _ _ h⟩
  ·refine .inr ⟨hn,?_⟩
   rcases h with⟨h0,v,hv,h⟩|⟨h0,v,ob,hb,hv,h⟩|⟨h0,ob,cs,hb,hv,h⟩|⟨h0,v,R,hv,hR,hs,h⟩|⟨h0,h⟩|⟨h0,v,R,hv,hR,hs,h⟩|⟨h0,h⟩|⟨h0,h5,h6,h7,h8,h9,h10,h⟩
   ·exact .inl ⟨h0,v,hv,go _ _ h⟩
   ·exact .inr (.inl ⟨h0,v,ob,hb,hv,go _ _ h⟩)
   ·exact .inr (.inr (.inl ⟨h0,ob,cs,hb,hv,go _ _ h⟩))
   ·exact .inr (.inr (.inr (.inl ⟨h0,v,R,hv,hR,hs,go _ _ h⟩)))
   ·refine .inr (.inr (.inr (.inr (.inl ⟨h0,?_⟩))))
    have:=h.mono fun v w' (hh:_/\_)=>And.intro hh.1 (go v w' hh.2)
    unfold StpX at this⊢;rw[he];exact this
   ·exact .inr (.inr (.inr (.inr (.inr (.inl ⟨h0,v,R,hv,hR,hs,go _ _ h⟩)))))
   ·refine .inr (.inr (.inr (.inr (.inr (.inr (.inl ⟨h0,?_⟩))))))
    have:=h.mono fun v w' (hh:_/\_)=>And.intro hh.1 (go v w' hh.2)
    unfold StpX at this⊢;rw[he];exact this
   ·refine .inr (.inr (.inr (.inr (.inr (.inr (.inr ⟨h0,h5,h6,h7,h8,h9,h10,?_⟩))))))
    have:=h.mono fun v w' hh=>go v w' hh
    unfold StpX at this⊢;rw[he];exact this
structure d7J (kd ta:Nat->Nat) (kj tj:Nat) (run:World->Result Next) (u:Value) (R:World->Prop) (E:World->World):Prop where
 run:∀w,R w->(run w= .ok (.value u) (E w)\/(run w= .ok .skip (E w)/\u=undef))
 id:kj≠6->∀w,E w=w
 all:kj=0->∀w,R w
 rs:∀w m c,kd m=6->(kj=7\/ta m≠tj)->R (w.setRow (ta m) c)->R w
 es:∀w t c,t≠tj->E (w.setRow t c)=(E w).setRow t c
 ot:∀w t,t≠tj->(E w).heap[t]? =w.heap[t]?
 ef:∀w,E w=w\/(kj=6/\∃c,E w=w.setRow tj c)
theorem b7h {Q:Act->World->Prop} {j:Nat} {oj:Oper} (hj:ops[j]? =some oj) (hsel:∀(i:Nat) (o:Oper) cs b,ops[i]? =some o->o.op≠ .select cs b) (hkj:kd j=0\/kd j=5\/kd j=6\/kd j=7):∀(pre post:List Nat) (a:Act) (w:World),
  (∀i∈pre,(kd i=0\/(kd i=5/\(kd j=6->ta i≠ta j))\/(kd i=6/\kd j≠0/\(kd j=7\/ta i≠ta j))\/kd i=7\/(kd i=9/\kd j=0))/\∀oi,ops[i]? =some oi->oi.apart ops oj=true)->Region.wanted oj (yielded ops a.tmps)=true->wpT P X ops kd ta Q (pre++j::post) a w->
  ∃u R E,d7J kd ta (kd j) (ta j) (fun w=>(execOp a.eval oj).run P w) u R E/\R w/\wpT P X ops kd ta Q (pre++post) (a.put oj.dst u) (E w):=by
 intro pre
 induction pre with
 |nil=>
  intro post a w _ hn h
  obtain⟨o,ho,h⟩:=h
  obtain rfl:o=oj:=Option.some.inj (ho.symm.trans hj)
  rcases h with⟨hn',_⟩|⟨_,h⟩
  ·rw[hn]at hn';cases hn'
  ·rcases h with⟨h0,v,hv,h⟩|⟨h0,v,ob,hb,hv,h⟩|⟨h0,ob,cs,hb,hv,h⟩|⟨h0,v,R,hv,hR,hs,h⟩|⟨h0,_⟩|⟨h0,_⟩|⟨h0,_⟩|⟨h0,h5,h6,h7,_⟩
   ·exact⟨v,fun _=>True,fun w=>w,⟨fun w _=> .inl (hv w),fun _ _=>rfl,fun _ _=>trivial,fun _ _ _ _ _ _=>trivial,fun _ _ _ _=>rfl,fun _ _ _=>rfl,fun _=> .inl rfl⟩,trivial,h⟩
   ·exact⟨v,fun w=>w.heap[ta j]? =some ob,fun w=>w,⟨fun w hw=> .inl (hv w hw),fun _ _=>rfl,fun h=>by omega,fun w m c _ hne hw=>by rw[setRow_other _ _ _ _ (Ne.symm (hne.resolve_left (by omega)))]at hw;exact hw,fun _ _ _ _=>rfl,fun _ _ _=>rfl,fun _=> .inl rfl⟩,hb,h⟩
   ·exact⟨undef,fun w=>w.heap[ta j]? =some ob,fun w=>w.setRow (ta j) cs,⟨fun w hw=> .inr ⟨hv w hw,rfl⟩,fun h=>absurd h0 h,fun h=>by omega,fun w m c _ hne hw=>by rw[setRow_other _ _ _ _ (Ne.symm (hne.resolve_left (by omega)))]at hw;exact hw,fun w t c hne=>b2Q w c cs hne,fun w t hne=>setRow_other _ _ _ _ hne,fun _=> .inr ⟨h0,cs,rfl⟩⟩,hb,h⟩
   ·exact⟨v,R,fun w=>w,⟨fun w hw=> .inl (hv w hw),fun _ _=>rfl,fun h=>by omega,fun w m c hm _ hw=>(hs m c w hm).1 hw,fun _ _ _ _=>rfl,fun _ _ _=>rfl,fun _=> .inl rfl⟩,hR,h⟩
   ·omega
   ·omega
   ·omega
   ·omega
 |cons i pre ih=>
  intro post a w hpre hn h
  obtain⟨o,ho,h⟩:=h
  obtain⟨hk,hap⟩:=hpre i (by simp)
  have hap:=hap o ho
  obtain⟨h1,h2,h3⟩:=Oper.apart_spec hap
  have hpre':=fun x (hx:x∈pre)=>hpre x (by simp[hx])
  have hw:∀u,Region.wanted o (yielded ops (a.put oj.dst u).tmps)=Region.wanted o (yielded ops a.tmps):=fun u=>wanted_put o a oj.dst u h3
  have he:∀u,execOp (a.put oj.dst u).eval o=execOp a.eval o:=fun u=>execOp_put o (fun cs b=>hsel i o cs b ho) a oj.dst u h3
  have back:∀v w',wpT P X ops kd ta Q (pre++j::post) (a.put o.dst v) w'->∃u R E,d7J kd ta (kd j) (ta j) (fun w=>(execOp a.eval oj).run P w) u R E/\R w'/\wpT P X ops kd ta Q (pre++post) ((a.put oj.dst u).put o.dst v) (E w'):=fun v w' hh=>by
   obtain⟨u,R,E,hA,hR,hn'⟩:=ih post _ w' hpre' (by rw[wanted_put oj a o.dst v h1];exact hn) hh
   rw[execOp_put oj (fun cs b=>hsel j oj cs b hj) a o.dst v h1]at hA
   rw[Act.put_comm a v u h2]at hn'
   exact⟨u,R,E,hA,hR,hn'⟩
  rcases h with⟨hnw,h⟩|⟨hnw,h⟩
  ·obtain⟨u,R,E,hA,hR,hh⟩:=back _ _ h
   exact⟨u,R,E,hA,hR,o,ho,.inl ⟨by rw[hw];exact hnw,hh⟩⟩
  ·rcases h with⟨h0,v,hv,h⟩|⟨h0,v,ob,hb,hv,h⟩|⟨h0,ob,cs,hb,hv,h⟩|⟨h0,v,Ri,hv,hRi,hs,h⟩|⟨h0,_⟩|⟨h0,v,Ri,hv,hRi,hs,h⟩|⟨h0,_⟩|⟨h0,h5,h6,h7,h8,h9,h10,_⟩
   ·obtain⟨u,R,E,hA,hR,hh⟩:=back _ _ h
    exact⟨u,R,E,hA,hR,o,ho,.inr ⟨by rw[hw];exact hnw,.inl ⟨h0,v,by rw[he u];exact hv,hh⟩⟩⟩
   ·obtain⟨u,R,E,hA,hR,hh⟩:=back _ _ h
    have hb':(E w).heap[ta i]? =some ob:=by
     by_cases h6:kd j=6
     ·have hne:ta i≠ta j:=by
       rcases hk with hk|⟨_,hk⟩|⟨hk,_⟩|hk|⟨hk,_⟩
       ·omega
       ·exact hk h6
       ·omega
       ·omega
       ·omega
      rw[hA.ot w _ hne];exact hb
     ·rw[hA.id h6];exact hb
    exact⟨u,R,E,hA,hR,o,ho,.inr ⟨by rw[hw];exact hnw,.inr (.inl ⟨h0,v,ob,hb',by rw[he u];exact hv,hh⟩)⟩⟩
   ·obtain⟨u,R,E,hA,hR,hh⟩:=back _ _ h
    have hk2:kd j=7\/ta i≠ta j:=by
     rcases hk with hk|⟨hk,_⟩|⟨_,_,hk⟩|hk|⟨hk,_⟩
     ·omega
     ·omega
     ·exact hk
     ·omega
     ·omega
    refine⟨u,R,E,hA,hA.rs w i cs h0 hk2 hR,o,ho,.inr ⟨by rw[hw];exact hnw,.inr (.inr (.inl ⟨h0,ob,cs,?_,by rw[he u];exact hv,?_⟩))⟩⟩
    ·rcases hk2 with h7|hne
     ·rw[hA.id (by omega)];exact hb
     ·rw[hA.ot w _ hne];exact hb
    ·rcases hk2 with h7|hne
     ·rw[hA.id (by omega)]at hh⊢;exact hh
     ·rw[<-hA.es w _ cs hne];exact hh
   ·obtain⟨u,R,E,hA,hR,hh⟩:=back _ _ h
    have hRi':Ri (E w):=by
     rcases hA.ef w with e|⟨h6,c,e⟩
     ·rw[e];exact hRi
     ·rw[e];exact(hs j c w h6).2 hRi
    exact⟨u,R,E,hA,hR,o,ho,.inr ⟨by rw[hw];exact hnw,.inr (.inr (.inr (.inl ⟨h0,v,Ri,by rw[he u];exact hv,hRi',hs,hh⟩)))⟩⟩
   ·omega
   ·obtain⟨u,R,E,hA,hR,hh⟩:=back _ _ h
    exact⟨u,R,E,hA,hR,o,ho,.inr ⟨by rw[hw];exact hnw,.inr (.inr (.inr (.inr (.inr (.inl ⟨h0,v,Ri,by rw[he u];exact hv,by rw[hA.id (by omega)];exact hRi,hs,hh⟩)))))⟩⟩
   ·omega
   ·omega
theorem b7i {Q:Act->World->Prop} {j:Nat} {oj:Oper} (hj:ops[j]? =some oj) (hsel:∀(i:Nat) (o:Oper) cs b,ops[i]? =some o->o.op≠ .select cs b) (hkj:kd j=9):∀(pre post:List Nat) (a:Act) (w:World),
  (∀i∈pre,(kd i=0\/kd i=9)/\∀oi,ops[i]? =some oi->oi.apart ops oj=true)->Region.wanted oj (yielded ops a.tmps)=true->wpT P X ops kd ta Q (pre++j::post) a w->
  ∃u,(execOp a.eval oj).run P w= .ok (.value u) w/\wpT P X ops kd ta Q (pre++post) (a.put oj.dst u) w:=by
 intro pre
 induction pre with
 |nil=>
  intro post a w _ hn h
  obtain⟨o,ho,h⟩:=h
  obtain rfl:o=oj:=Option.some.inj (ho.symm.trans hj)
  rcases h with⟨hn',_⟩|⟨_,h⟩
  ·rw[hn]at hn';cases hn'
  ·rcases h with⟨h0,_⟩|⟨h0,_⟩|⟨h0,_⟩|⟨h0,_⟩|⟨h0,_⟩|⟨h0,v,R,hv,hR,hs,h⟩|⟨h0,_⟩|⟨_,_,_,_,_,h9,_⟩
   ·omega
   ·omega
   ·omega
   ·omega
   ·omega
   ·exact⟨v,hv w hR,h⟩
   ·omega
   ·omega
 |cons i pre ih=>
  intro post a w hpre hn h
  obtain⟨o,ho,h⟩:=h
  obtain⟨hk,hap⟩:=hpre i (by simp)
  have hap:=hap o ho
  obtain⟨h1,h2,h3⟩:=Oper.apart_spec hap
  have hpre':=fun x (hx:x∈pre)=>hpre x (by simp[hx])
  have hw:∀u,Region.wanted o (yielded ops (a.put oj.dst u).tmps)=Region.wanted o (yielded ops a.tmps):=fun u=>wanted_put o a oj.dst u h3
  have he:∀u,execOp (a.put oj.dst u).eval o=execOp a.eval o:=fun u=>execOp_put o (fun cs b=>hsel i o cs b ho) a oj.dst u h3
  have back:∀v,wpT P X ops kd ta Q (pre++j::post) (a.put o.dst v) w->∃u,(execOp a.eval oj).run P w= .ok (.value u) w/\wpT P X ops kd ta Q (pre++post) ((a.put oj.dst u).put o.dst v) w:=fun v hh=>by
   obtain⟨u,hA,hn'⟩:=ih post _ w hpre' (by rw[wanted_put oj a o.dst v h1];exact hn) hh
   rw[execOp_put oj (fun cs b=>hsel j oj cs b hj) a o.dst v h1]at hA
   rw[Act.put_comm a v u h2]at hn'
   exact⟨u,hA,hn'⟩
  rcases h with⟨hnw,h⟩|⟨hnw,h⟩
  ·obtain⟨u,hA,hh⟩:=back _ h
   exact⟨u,hA,o,ho,.inl ⟨by rw[hw];exact hnw,hh⟩⟩
  ·rcases h with⟨h0,v,hv,h⟩|⟨h0,_⟩|⟨h0,_⟩|⟨h0,_⟩|⟨h0,_⟩|⟨h0,v,R,hv,hR,hs,h⟩|⟨h0,_⟩|⟨h0,_,_,_,_,h9,_⟩
   ·obtain⟨u,hA,hh⟩:=back _ h
    exact⟨u,hA,o,ho,.inr ⟨by rw[hw];exact hnw,.inl ⟨h0,v,by rw[he u];exact hv,hh⟩⟩⟩
   ·omega
   ·omega
   ·omega
   ·omega
   ·obtain⟨u,hA,hh⟩:=back _ h
    exact⟨u,hA,o,ho,.inr ⟨by rw[hw];exact hnw,.inr (.inr (.inr (.inr (.inr (.inl ⟨h0,v,R,by rw[he u];exact hv,hR,hs,hh⟩)))))⟩⟩
   ·omega
   ·omega
theorem b5H {Q:Act->World->Prop} {T:List Nat}:∀(F bs:List Nat) (a:Act) (w:World),(∀i∈F,kd i=0\/kd i=5)->wpF P ops kd ta B (wpT P X ops kd ta Q T) F bs a w->wpT P X ops kd ta Q (F++T) a w:=by
 intro F
 induction F with
 |nil=>intro bs a w _ h;exact h w (Ext.refl _)
 |cons i F ih=>
  intro bs a w hk h
  obtain⟨o,ho,h⟩:=h
  have h0:=hk i (by simp)
  have hk':∀i∈F,kd i=0\/kd i=5:=fun x hx=>hk x (by simp[hx])
  refine⟨o,ho,?_⟩
  rcases h with⟨hn,h⟩|⟨hn,h⟩
  ·exact .inl ⟨hn,ih _ _ _ hk' h⟩
  ·refine .inr ⟨hn,?_⟩
   rcases h with⟨h0',v,hv,h⟩|⟨h0',_⟩|⟨h0',_⟩|⟨h0',_⟩|⟨h0',v,ob,hb,hv,h⟩
   ·exact .inl ⟨h0',v,hv,ih _ _ _ hk' h⟩
   ·omega
   ·omega
   ·omega
   ·exact .inr (.inl ⟨h0',v,ob,hb,hv,ih _ _ _ hk' h⟩)
theorem a6V {j:Nat} {L:List Nat} (h:j∈L):∃pre post,L=pre++j::post:=List.append_of_mem h
theorem b0N {listed:Array Bool} {i:Nat} {L:List Nat} (h:Lin ops listed (i::L)):Region.ready .any ops listed≠[]:=fun e=>by
 have:=h.1
 rw[e]at this;cases this
theorem b0O (hta:∀i j,(kd i=5\/kd i=6)->(kd j=5\/kd j=6)->tg i≠tg j->ta i≠ta j) (hX:∀x a' w',a'.defers=df->X x w'->Q (.panic [{v:=x,recovered:=false}]) a' w') (hsel:∀(i:Nat) (o:Oper) cs b,ops[i]? =some o->o.op≠ .select cs b):∀(n:Nat) (T:List Nat) (listed:Array Bool) (a:Act) (w:World),a.defers=df->T.length=n->Good ops kd tg listed T->(∀i∈T,kd i=0\/kd i=4\/kd i=5\/kd i=6\/kd i=7\/kd i=8\/kd i=9\/kd i=10)->
  wpT P X ops kd ta (Q .normal) T a w->wpAnyIn (Fr ro) rm P .any ops Q n listed a w:=by
 intro n
 induction n with
 |zero=>
  intro T listed a w hdf hn g hk h
  obtain rfl:T=[]:=List.eq_nil_of_length_eq_zero hn
  refine⟨?_,h⟩
  cases hr:Region.ready .any ops listed with
  |nil=>rfl
  |cons x xs=>
   exfalso
   have hx:x∈Region.ready .any ops listed:=by rw[hr];simp
   obtain⟨hun,o,ho,_⟩:=mem_ready.1 hx
   have:=g.cover x (Array.getElem?_eq_some_iff.1 ho).1 hun
   cases this
 |succ n ih=>
  intro T listed a w hdf hn g hk h
  refine⟨fun hr=> ?_,fun j hj=> ?_⟩
  ·cases T with
   |nil=>simp at hn
   |cons i L=>exact absurd hr (b0N g.lin)
  ·obtain⟨hun,oj,hoj,_⟩:=mem_ready.1 hj
   obtain⟨pre,post,rfl⟩:=a6V (g.cover j (Array.getElem?_eq_some_iff.1 hoj).1 hun)
   have hah:=g.ahead hj
   have hap:∀i∈pre,∀oi,ops[i]? =some oi->oi.apart ops oj=true:=fun i hi=>a3N hoj (hah i hi).1
   have hkj:=hk j (by simp)
   have next:∀u w',wpT P X ops kd ta (Q .normal) (pre++post) (a.put oj.dst u) w'->wpAnyIn (Fr ro) rm P .any ops Q n (listed.setIfInBounds j true) (a.put oj.dst u) w':=fun u w' hh=>ih (pre++post) _ _ _ (by rw[a1d];exact hdf) (by simp at hn⊢;omega) (g.remove hj) (fun i hi=>hk i (by simp at hi⊢;rcases hi with h|h<;>simp[h])) hh
   by_cases h4:kd j=4\/kd j=8\/kd j=10
   ·have hpre:∀i∈pre,(kd i=0\/(kd i=5/\kd j=8)\/(kd i=9/\kd j=10))/\∀oi,ops[i]? =some oi->oi.apart ops oj=true:=fun i hi=>by
     have h2:=a6G (hah i hi).2
     have hki:=hk i (by simp[hi])
     exact⟨by omega,hap i hi⟩
    exact(c3x hoj hsel h4 pre post a w hpre h).wpOpIn hoj (fun u w' hh=>next u w' hh.2.2) fun x w' hx=>hX x a w' hdf hx
   ·by_cases hwant:Region.wanted oj (yielded ops a.tmps)=true
    ·by_cases h9:kd j=9
     ·have hpre:∀i∈pre,(kd i=0\/kd i=9)/\∀oi,ops[i]? =some oi->oi.apart ops oj=true:=fun i hi=>by
       have h2:=a6G (hah i hi).2
       have hki:=hk i (by simp[hi])
       exact⟨by omega,hap i hi⟩
      obtain⟨u,hA,hh⟩:=b7i hoj hsel h9 pre post a w hpre hwant h
      have hS:OpS P ops oj a w fun u' w'=>u'=u/\w'=w:=by
       unfold OpS;rw[if_pos hwant];unfold Stp
       rw[hA];exact⟨rfl,rfl⟩
      refine hS.wpOpIn hoj ?_
      rintro u' w' ⟨rfl,rfl⟩
      exact next _ _ hh
     have hpre:∀i∈pre,(kd i=0\/(kd i=5/\(kd j=6->ta i≠ta j))\/(kd i=6/\kd j≠0/\(kd j=7\/ta i≠ta j))\/kd i=7\/(kd i=9/\kd j=0))/\∀oi,ops[i]? =some oi->oi.apart ops oj=true:=fun i hi=>by
      refine⟨?_,hap i hi⟩
      have hki:=hk i (by simp[hi])
      rcases a6G (hah i hi).2 with h|⟨h,_⟩|⟨h,h'⟩|⟨h,h',hne⟩|⟨h,h',hne⟩|⟨h,h'⟩|⟨h,h'⟩|⟨h,h'⟩|⟨h,h'⟩|⟨h,h'⟩
      ·exact .inl h
      ·omega
      ·exact .inr (.inl ⟨by omega,fun e=>by omega⟩)
      ·exact .inr (.inl ⟨h,fun _=>hta i j (.inl h) (.inr h') hne⟩)
      ·exact .inr (.inr (.inl ⟨h,by omega,.inr (hta i j (.inr h) h' hne)⟩))
      ·exact .inr (.inl ⟨h,fun e=>by omega⟩)
      ·exact .inr (.inr (.inl ⟨h,by omega,.inl h'⟩))
      ·exact .inr (.inr (.inr (.inl h)))
      ·by_cases h0:kd i=0
       ·exact .inl h0
       ·exact .inr (.inl ⟨by omega,fun e=>by omega⟩)
      ·exact .inr (.inr (.inr (.inr ⟨h,by omega⟩)))
     obtain⟨u,R,E,hA,hR,hh⟩:=b7h hoj hsel (by omega) pre post a w hpre hwant h
     have hS:OpS P ops oj a w fun u' w'=>u'=u/\w'=E w:=by
      unfold OpS;rw[if_pos hwant];unfold Stp
      rcases hA.run w hR with e|⟨e,e'⟩
      ·rw[show(execOp a.eval oj).run P w=_ from e];exact⟨rfl,rfl⟩
      ·rw[show(execOp a.eval oj).run P w=_ from e];exact⟨e'.symm,rfl⟩
     refine hS.wpOpIn hoj ?_
     rintro u' w' ⟨rfl,rfl⟩
     exact next _ _ hh
    ·have hS:OpS P ops oj a w fun u w'=>u=undef/\w'=w:=by
      unfold OpS;rw[if_neg hwant];exact⟨rfl,rfl⟩
     refine hS.wpOpIn hoj ?_
     rintro u w' ⟨rfl,rfl⟩
     exact next _ _ (c3y hoj hsel pre post a _ hap (by simpa using hwant) h)
theorem b3W {T:Act->World->Prop} {j:Nat} {oj:Oper} (hoj:ops[j]? =some oj) (hsel:∀(i:Nat) (o:Oper) cs b,ops[i]? =some o->o.op≠ .select cs b):∀(pre post bs:List Nat) (a:Act) (w:World),(∀i∈pre,∀oi,ops[i]? =some oi->oi.apart ops oj=true)->Region.wanted oj (yielded ops a.tmps)=false->wpF P ops kd ta B T (pre++j::post) bs a w->wpF P ops kd ta B T (pre++post) bs (a.put oj.dst undef) w:=by
 intro pre
 induction pre with
 |nil=>
  intro post bs a w _ hn h
  obtain⟨o,ho,h⟩:=h
  obtain rfl:o=oj:=Option.some.inj (ho.symm.trans hoj)
  rcases h with⟨_,h⟩|⟨hn',_⟩
  ·exact h
  ·rw[hn]at hn';cases hn'
 |cons i pre ih2=>
  intro post bs a w hap hn h
  obtain⟨o,ho,h⟩:=h
  have hap1:=hap i (by simp) o ho
  obtain⟨h1,h2,h3⟩:=Oper.apart_spec hap1
  have hap':∀i∈pre,∀oi,ops[i]? =some oi->oi.apart ops oj=true:=fun x hx=>hap x (by simp[hx])
  have go:∀v bs' W',wpF P ops kd ta B T (pre++j::post) bs' (a.put o.dst v) W'->wpF P ops kd ta B T (pre++post) bs' ((a.put oj.dst undef).put o.dst v) W':=fun v bs' W' hh=>by
   have:=ih2 post bs' (a.put o.dst v) W' hap' (by rw[wanted_put oj a o.dst v h1];exact hn) hh
   rwa[Act.put_comm a v undef h2]at this
  refine⟨o,ho,?_⟩
  have he:execOp (a.put oj.dst undef).eval o=execOp a.eval o:=execOp_put o (fun cs b=>hsel i o cs b ho) a oj.dst undef h3
  rw[wanted_put o a oj.dst undef h3,he]
  rcases h with⟨hn,h⟩|⟨hn,h⟩
  ·exact .inl ⟨hn,go _ _ _ h⟩
  ·refine .inr ⟨hn,?_⟩
   rcases h with⟨h0,v,hv,h⟩|⟨h0,v,hv,h⟩|⟨h0,V,hc,h⟩|⟨h0,mk',ob',hr,h⟩|⟨h0,v,ob,hb,hv,h⟩
   ·exact .inl ⟨h0,v,hv,go _ _ _ h⟩
   ·exact .inr (.inl ⟨h0,v,hv,go _ _ _ h⟩)
   ·exact .inr (.inr (.inl ⟨h0,V,fun w hw=>by have:=hc w hw;unfold Stp at this⊢;rw[he];exact this,fun v cs W2 hW2 hV hcs=>go _ _ _ (h v cs W2 hW2 hV hcs)⟩))
   ·exact .inr (.inr (.inr (.inl ⟨h0,mk',ob',hr,fun b W2 hW2 hob hnb hB=>go _ _ _ (h b W2 hW2 hob hnb hB)⟩)))
   ·exact .inr (.inr (.inr (.inr ⟨h0,v,ob,hb,hv,go _ _ _ h⟩)))
theorem b7j (hta:∀i j,(kd i=5\/kd i=6)->(kd j=5\/kd j=6)->tg i≠tg j->ta i≠ta j) (hX:∀x a' w',a'.defers=df->X x w'->Q (.panic [{v:=x,recovered:=false}]) a' w') (hsel:∀(i:Nat) (o:Oper) cs b,ops[i]? =some o->o.op≠ .select cs b):∀(n:Nat) (F T bs:List Nat) (listed:Array Bool) (a:Act) (w:World),a.defers=df->F.length+T.length=n->Good ops kd tg listed (F++T)->(∀i∈F,kd i<=3\/kd i=5)->(∀i∈T,kd i=0\/kd i=4\/kd i=5\/kd i=6\/kd i=7\/kd i=8\/kd i=9\/kd i=10)->(∀i∈F,∀j∈T,((a9t ops.toList []).getD j 0).testBit i=true\/kd i=0\/kd i=5)->
  B<=w.heap.size->(∀b∈bs,b<w.heap.size)->wpF P ops kd ta B (wpT P X ops kd ta (Q .normal) T) F bs a w->wpAnyIn (Fr ro) rm P .any ops Q n listed a w:=by
 intro n
 induction n with
 |zero=>
  intro F T bs listed a w hdf hn g hkF hkT hFT hB hbs h
  have hF:F=[]:=List.eq_nil_of_length_eq_zero (by omega)
  have hT:T=[]:=List.eq_nil_of_length_eq_zero (by omega)
  subst hF;subst hT
  exact b0O hta hX hsel 0 [] listed a w hdf rfl g (by simp) (h w (Ext.refl _))
 |succ n ih=>
  intro F T bs listed a w hdf hn g hkF hkT hFT hB hbs h
  refine⟨fun hr=> ?_,fun j hj=> ?_⟩
  ·cases hFT:F++T with
   |nil=>simp at hFT;obtain⟨h1,h2⟩:=hFT;subst h1;subst h2;simp at hn
   |cons i L=>exact absurd hr (b0N (by rw[<-hFT];exact g.lin))
  ·obtain⟨hun,oj,hoj,_⟩:=mem_ready.1 hj
   have hmem:=g.cover j (Array.getElem?_eq_some_iff.1 hoj).1 hun
   rcases List.mem_append.1 hmem with hmF|hmT
   ·obtain⟨pre,post,rfl⟩:=a6V hmF
    rw[List.append_assoc,List.cons_append]at g
    have hah:=g.ahead hj
    have hkj:=hkF j (by simp)
    have hrem:=g.remove hj
    rw[<-List.append_assoc]at hrem
    have hkF':∀i∈pre++post,kd i<=3\/kd i=5:=fun i hi=>hkF i (by simp at hi⊢;rcases hi with h|h<;>simp[h])
    have hFT':∀i∈pre++post,∀j∈T,((a9t ops.toList []).getD j 0).testBit i=true\/kd i=0\/kd i=5:=fun i hi=>hFT i (by simp at hi⊢;rcases hi with h|h<;>simp[h])
    have hlen:(pre++post).length+T.length=n:=by simp at hn⊢;omega
    by_cases h3:kd j=3
    ·--a new block
     have hap:∀i∈pre,∀oi,ops[i]? =some oi->oi.apart ops oj=true:=fun i hi=>a3N hoj (hah i hi).1
     by_cases hwant:Region.wanted oj (yielded ops a.tmps)=true
     ·obtain⟨mk,ob,hr⟩:=c3r hoj hsel h3 pre post bs a w hap hB hbs hwant h
      have hS:OpS P ops oj a w fun u w'=>u=mk w.heap.size/\w'=w.alloc ob:=by
       unfold OpS;rw[if_pos hwant];unfold Stp;rw[hr w];exact⟨rfl,rfl⟩
      refine hS.wpOpIn hoj ?_
      rintro u w' ⟨rfl,rfl⟩
      have hsz:(w.alloc ob).heap.size=w.heap.size+1:=by show(w.heap.push ob).size=_;simp
      refine ih (pre++post) T (w.heap.size::bs) _ _ _ (by rw[a1d];exact hdf) hlen hrem hkF' hkT hFT' (by omega) ?_ (b7f hoj hsel h3 mk ob w.heap.size pre post bs a w _ hap hr hwant (Ext.alloc w ob) (by show(w.heap.push ob)[w.heap.size]? =_;simp) (fun hm=>Nat.lt_irrefl _ (hbs _ hm)) hB h)
      intro b hb
      simp only[List.mem_cons]at hb
      rcases hb with rfl|hb
      ·omega
      ·have:=hbs b hb;omega
     ·--not wanted: 'undef'
      have hw':Region.wanted oj (yielded ops a.tmps)=false:=by simpa using hwant
      have hS:OpS P ops oj a w fun u w'=>u=undef/\w'=w:=by
       unfold OpS;rw[if_neg hwant];exact⟨rfl,rfl⟩
      refine hS.wpOpIn hoj ?_
      rintro u w' ⟨rfl,rfl⟩
      refine ih (pre++post) T bs _ _ _ (by rw[a1d];exact hdf) hlen hrem hkF' hkT hFT' hB hbs ?_
      exact b3W hoj hsel pre post bs a _ hap hw' h
    ·by_cases hj0:kd j=0/\Region.wanted oj (yielded ops a.tmps)=true
     ·obtain⟨hj0,hwant⟩:=hj0
      have hap:∀i∈pre,∀oi,ops[i]? =some oi->oi.apart ops oj=true:=fun i hi=>a3N hoj (hah i hi).1
      obtain⟨v,hv⟩:=c3s hoj hsel hj0 pre post bs a w hap hB hbs hwant h
      have hS:OpS P ops oj a w fun u w'=>u=v/\w'=w:=by
       unfold OpS;rw[if_pos hwant];unfold Stp;rw[hv w];exact⟨rfl,rfl⟩
      refine hS.wpOpIn hoj ?_
      rintro u w' ⟨rfl,rfl⟩
      exact ih (pre++post) T bs _ _ _ (by rw[a1d];exact hdf) hlen hrem hkF' hkT hFT' hB hbs (c3t hoj hsel hj0 pre post bs a _ hap hv hwant h)
     by_cases hwant:Region.wanted oj (yielded ops a.tmps)=false
     ·have hap:∀i∈pre,∀oi,ops[i]? =some oi->oi.apart ops oj=true:=fun i hi=>a3N hoj (hah i hi).1
      have hS:OpS P ops oj a w fun u w'=>u=undef/\w'=w:=by
       unfold OpS;rw[if_neg (by simp[hwant])];exact⟨rfl,rfl⟩
      refine hS.wpOpIn hoj ?_
      rintro u w' ⟨rfl,rfl⟩
      exact ih (pre++post) T bs _ _ _ (by rw[a1d];exact hdf) hlen hrem hkF' hkT hFT' hB hbs (b3W hoj hsel pre post bs a _ hap hwant h)
     have hj0:kd j≠0:=fun e=>hj0 ⟨e,by simpa using hwant⟩
     have hpre:∀i∈pre,(kd i<=1\/kd i=5)/\∀oi,ops[i]? =some oi->oi.apart ops oj=true:=fun i hi=>by
      obtain⟨h1,h2⟩:=hah i hi
      have h2:=a6G h2
      have hki:=hkF i (by simp[hi])
      exact⟨by omega,a3N hoj h1⟩
     refine(c3q hoj hsel (by omega) pre post bs a w hB hbs hpre h).wpOpIn hoj fun u w' ⟨hx,cs,hcs,hh⟩=>ih (pre++post) T (cs++bs) _ _ _ (by rw[a1d];exact hdf) hlen hrem hkF' hkT hFT' (Nat.le_trans hB hx.size) (fun b hb=> ?_) hh
     rcases List.mem_append.1 hb with hb|hb
     ·exact(hcs b hb).2
     ·exact Nat.lt_of_lt_of_le (hbs b hb) hx.size
   ·obtain⟨pre,post,rfl⟩:=a6V hmT
    rw[<-List.append_assoc]at g
    have hF0:∀i∈F,kd i=0\/kd i=5:=fun i hi=>by
     rcases hFT i hi j (by simp)with hb|h0
     ·exfalso
      obtain⟨_,oj',hoj',hall⟩:=mem_ready.1 hj
      obtain⟨e,he,hbe,hf⟩:=b0M g.down (a3M (g.lin.unlisted i (by simp[hi]))) (j+1) j (by omega) oj' hoj' hb
      rw[hall e he hbe]at hf;cases hf
     ·exact h0
    have:=b5H F bs a w hF0 h
    exact((b0O (P:=P) (Q:=Q) (ro:=ro) (rm:=rm) hta hX hsel (n+1) (F++(pre++j::post)) listed a w hdf (by simp at hn⊢;omega) (by rw[<-List.append_assoc];exact g) (fun i hi=>by
     rcases List.mem_append.1 hi with h|h
     ·have:=hF0 i h;omega
     ·exact hkT i h) this).2 j hj)
def c7u (ops:Array Oper) (A:List Nat) (kd tg:Nat->Nat) (F T:List Nat):Bool:=
 Region.noSelect ops&&d3D ops (Array.replicate ops.size false) (F++T)&&okL ops A kd tg (F++T)&&(F.all fun i=>frK (kd i))&&(T.all fun i=>kd i==0||kd i==4||kd i==5||kd i==6||kd i==7||kd i==8||kd i==9||kd i==10)&&
  (F.all fun i=>kd i==0||kd i==5||T.all fun j=>(A.getD j 0).testBit i)&&F.length+T.length==ops.size
theorem d3E {A:List Nat}:∀{L:List Nat},okL ops A kd tg L=true->L.Pairwise fun i j=>okP ops A kd tg i j=true:=by
 intro L
 induction L with
 |nil=>intro _;exact List.Pairwise.nil
 |cons i L ih=>
  intro h
  simp only[okL,Bool.and_eq_true,List.all_eq_true]at h
  exact List.pairwise_cons.2 ⟨h.1,ih h.2⟩
theorem b0P {F T:List Nat} {a:Act} {w:World} (hB:c7u ops (a9t ops.toList []) kd tg F T=true) (hta:∀i j,(kd i=5\/kd i=6)->(kd j=5\/kd j=6)->tg i≠tg j->ta i≠ta j)
  (hX:∀x a' w',a'.defers=a.defers->X x w'->Q (.panic [{v:=x,recovered:=false}]) a' w')
  (h:wpF P ops kd ta w.heap.size (wpT P X ops kd ta (Q .normal) T) F [] a {w with drawn:=w.drawn+1}):wpAnyIn (Fr ro) rm P .any ops Q ops.size (Array.replicate ops.size false) a {w with drawn:=w.drawn+1}:=by
 simp only[c7u,frK,Bool.and_eq_true,List.all_eq_true,Bool.or_eq_true,beq_iff_eq,decide_eq_true_eq]at hB
 obtain⟨⟨⟨⟨⟨⟨h1,h2⟩,h3⟩,h4⟩,h5⟩,h6⟩,hlen⟩:=hB
 obtain⟨hl,hc⟩:=c3w ops (F++T) _ (by simp) h2
 refine b7j hta hX (Region.noSelect_spec h1) ops.size F T [] _ a _ rfl hlen ⟨by simp,hl,hc,fun k o hk hl=> ?_,d3E h3⟩ h4 (fun i hi=>by have:=h5 i hi;omega) (fun i hi j hj=> ?_) (Nat.le_refl _) (by simp) h
 ·have:(Array.replicate ops.size false).getD k false=false:=by
   rw[Array.getD_eq_getD_getElem?,Array.getElem?_replicate];split<;>rfl
  rw[this]at hl;cases hl
 ·rcases h6 i hi with(h|h)|h
  ·exact .inr (.inl h)
  ·exact .inr (.inr h)
  ·exact .inl (h j hj)
theorem a3O {id:Nat} {F T:List Nat} {a:Act} {w:World} (hm:P.follows .mixedOrders=true) (hB:c7u ops (a9t ops.toList []) kd tg F T=true) (hta:∀i j,(kd i=5\/kd i=6)->(kd j=5\/kd j=6)->tg i≠tg j->ta i≠ta j)
  (hX:∀x a' w',a'.defers=a.defers->X x w'->Q (.panic [{v:=x,recovered:=false}]) a' w')
  (h:wpF P ops kd ta w.heap.size (wpT P X ops kd ta (Q .normal) T) F [] a {w with drawn:=w.drawn+1}):(Code.region id ops true).wpIn (Fr ro) rm P Q a w:=wpIn_region_any hm (b0P hB hta hX h)
def adE (o:Oper) (x:Nat):Oper:={o with after:=o.after.push ⟨x,.data⟩}
def a4Z (ops:Array Oper) (y x:Nat):Array Oper:=ops.mapIdx fun i o=>if i=y then adE o x else o
theorem a4F (ops:Array Oper) (y x i:Nat):(a4Z ops y x)[i]? =(ops[i]?).map fun o=>if i=y then adE o x else o:=by unfold a4Z;rw[Array.getElem?_mapIdx]
theorem b7k (ops:Array Oper) (y x:Nat):(a4Z ops y x).size=ops.size:=by unfold a4Z;simp
theorem a5H (ops:Array Oper) (y x:Nat) (t:Array Value):yielded (a4Z ops y x) t=yielded ops t:=by
 funext j
 unfold yielded
 rw[a4F]
 cases ops[j]? with
 |none=>rfl
 |some o=>
  simp only[Option.map_some,Option.bind_some]
  by_cases h:j=y
  ·rw[if_pos h];rfl
  ·rw[if_neg h]
theorem addE_ready {y x i:Nat} {listed:Array Bool}:i∈Region.ready .any (a4Z ops y x) listed↔i∈Region.ready .any ops listed/\(i=y->listed.getD x false=true):=by
 rw[mem_ready,mem_ready,a4F]
 constructor
 ·rintro⟨h1,o',h2,h3⟩
  cases ho:ops[i]? with
  |none=>rw[ho]at h2;cases h2
  |some o=>
   rw[ho,Option.map_some,Option.some.injEq]at h2
   subst h2
   by_cases h:i=y
   ·rw[if_pos h]at h3
    exact⟨⟨h1,o,rfl,fun e he=>h3 e (by unfold adE;exact Array.mem_push_of_mem _ he)⟩,fun _=>h3 ⟨x,.data⟩ (by unfold adE;exact Array.mem_push_self) rfl⟩
   ·rw[if_neg h]at h3
    exact⟨⟨h1,o,rfl,h3⟩,fun e=>absurd e h⟩
 ·rintro⟨⟨h1,o,h2,h3⟩,h4⟩
  refine⟨h1,_,by rw[h2];rfl,fun e he hb=> ?_⟩
  by_cases h:i=y
  ·simp only[if_pos h]at he
   unfold adE at he
   rcases Array.mem_push.1 he with he|rfl
   ·exact h3 e he hb
   ·exact h4 h
  ·simp only[if_neg h]at he
   exact h3 e he hb
def b7l (ops:Array Oper):Nat->Array Bool->List Nat->Prop
 |0,_,L=>L=[]
 |n+1,listed,[]=>Region.ready .any ops listed=[]
 |n+1,listed,i::L=>i∈Region.ready .any ops listed/\b7l ops n (listed.setIfInBounds i true) L
theorem d3F:∀(fuel t:Nat) (listed:Array Bool),b7l ops fuel listed (Region.linearise.go .any ops fuel t listed []):=by
 intro fuel
 induction fuel with
 |zero=>intro t listed;simp[Region.linearise.go,b7l]
 |succ fuel ih=>
  intro t listed
  simp only[Region.linearise.go]
  change b7l ops (fuel+1) listed (match(Region.ready .any ops listed)[t%(Region.ready .any ops listed).length]? with
   |some i=>Region.linearise.go .any ops fuel (t/(Region.ready .any ops listed).length) (listed.setIfInBounds i true) [i]
   |none=>[].reverse)
  cases hi:(Region.ready .any ops listed)[t%(Region.ready .any ops listed).length]? with
  |none=>
   show Region.ready .any ops listed=[]
   cases hr:Region.ready .any ops listed with
   |nil=>rfl
   |cons x xs=>
    rw[hr]at hi
    have hlt:t%(x::xs).length<(x::xs).length:=Nat.mod_lt _ (by simp)
    simp at hi
    simp at hlt
    omega
  |some i=>
   simp only[]
   rw[linearise_go_acc,List.reverse_singleton,List.singleton_append]
   exact⟨List.mem_of_getElem? hi,ih _ _⟩
theorem b7m {F:Fence}:∀(fuel:Nat) (L:List Nat) (listed:Array Bool) (a:Act) (w:World),wpAnyIn F rm P .any ops Q fuel listed a w->b7l ops fuel listed L->wpOpsIn F rm P ops Q L a w:=by
 intro fuel
 induction fuel with
 |zero=>intro L listed a w h hL;unfold b7l at hL;subst hL;exact h.2
 |succ fuel ih=>
  intro L listed a w h hL
  cases L with
  |nil=>exact h.1 hL
  |cons i L=>
   rw[wpOpsIn_cons]
   exact wpOpIn_mono (fun a w hh=>ih L _ a w hh hL.2) (h.2 i hL.1)
theorem b3X {y x:Nat} {listed:Array Bool} (h:Region.ready .any ops listed=[]):Region.ready .any (a4Z ops y x) listed=[]:=
 List.eq_nil_iff_forall_not_mem.2 fun i hi=>by
  have:=(addE_ready.1 hi).1
  rw[h]at this;cases this
theorem b3Y {y x:Nat}:∀(fuel:Nat) (L:List Nat) (listed:Array Bool),listed.getD x false=true->b7l ops fuel listed L->b7l (a4Z ops y x) fuel listed L:=by
 intro fuel
 induction fuel with
 |zero=>intro L listed _ h;exact h
 |succ fuel ih=>
  intro L listed hx h
  cases L with
  |nil=>exact b3X h
  |cons i L=>exact⟨addE_ready.2 ⟨h.1,fun _=>hx⟩,ih L _ (getD_set_true hx) h.2⟩
theorem a4y {listed:Array Bool} {i:Nat} (h:listed.getD i true=false):(listed.setIfInBounds i true).getD i false=true:=by
 have hlt:i<listed.size:=by
  rcases Nat.lt_or_ge i listed.size with h'|h'
  ·exact h'
  ·simp[Array.getElem?_eq_none h']at h
 simp[hlt]
theorem c8K {y x:Nat} (hxy:x≠y):∀(fuel:Nat) (L:List Nat) (listed:Array Bool),b7l ops fuel listed L->b7l (a4Z ops y x) fuel listed L\/b7l (a4Z ops x y) fuel listed L:=by
 intro fuel
 induction fuel with
 |zero=>intro L listed h;exact .inl h
 |succ fuel ih=>
  intro L listed h
  cases L with
  |nil=>exact .inl (b3X h)
  |cons i L=>
   have hun:=(mem_ready.1 h.1).1
   by_cases h1:i=x
   ·subst h1
    exact .inl ⟨addE_ready.2 ⟨h.1,fun e=>absurd e hxy⟩,b3Y _ _ _ (a4y hun) h.2⟩
   ·by_cases h2:i=y
    ·subst h2
     exact .inr ⟨addE_ready.2 ⟨h.1,fun e=>absurd e h1⟩,b3Y _ _ _ (a4y hun) h.2⟩
    ·rcases ih L _ h.2 with h3|h3
     ·exact .inl ⟨addE_ready.2 ⟨h.1,fun e=>absurd e h2⟩,h3⟩
     ·exact .inr ⟨addE_ready.2 ⟨h.1,fun e=>absurd e h1⟩,h3⟩
theorem b3Z {F:Fence} {y x:Nat}:∀(L:List Nat) (a:Act) (w:World),wpOpsIn F rm P (a4Z ops y x) Q L a w->wpOpsIn F rm P ops Q L a w:=by
 intro L
 induction L with
 |nil=>intro a w h;exact h
 |cons i L ih=>
  intro a w h
  rw[wpOpsIn_cons]at h⊢
  have h:=wpOpIn_mono ih h
  unfold Go.wpOpIn at h⊢
  rw[a4F,a5H]at h
  cases ho:ops[i]? with
  |none=>rw[ho]at h;exact h
  |some o=>
   rw[ho,Option.map_some]at h
   by_cases hi:i=y
   ·simp only[if_pos hi]at h;exact h
   ·simp only[if_neg hi]at h;exact h
theorem c3z {y x:Nat} {Q':Act->World->Prop}:∀(L:List Nat) (a:Act) (w:World),wpT P X ops kd ta Q' L a w->wpT P X (a4Z ops y x) kd ta Q' L a w:=by
 intro L
 induction L with
 |nil=>intro a w h;exact h
 |cons i L ih=>
  intro a w h
  obtain⟨o,ho,h⟩:=h
  have key:∀o',(o'=o\/o'=adE o x)->(a4Z ops y x)[i]? =some o'->wpT P X (a4Z ops y x) kd ta Q' (i::L) a w:=fun o' ho' hat=>by
   refine⟨o',hat,?_⟩
   rw[a5H]
   have e1:Region.wanted o' (yielded ops a.tmps)=Region.wanted o (yielded ops a.tmps):=by rcases ho' with rfl|rfl<;>rfl
   have e2:execOp a.eval o'=execOp a.eval o:=by rcases ho' with rfl|rfl<;>rfl
   have e3:o'.dst=o.dst:=by rcases ho' with rfl|rfl<;>rfl
   have e4:∀K,StpX P X o' a.eval w K↔StpX P X o a.eval w K:=fun K=>by unfold StpX;rcases ho' with rfl|rfl<;>rfl
   rw[e1,e2,e3]
   rcases h with⟨hn,h⟩|⟨hn,h⟩
   ·exact .inl ⟨hn,ih _ _ h⟩
   ·refine .inr ⟨hn,?_⟩
    rcases h with⟨h0,v,hv,h⟩|⟨h0,v,ob,hb,hv,h⟩|⟨h0,ob,cs,hb,hv,h⟩|⟨h0,v,R,hv,hR,hs,h⟩|⟨h0,h⟩|⟨h0,v,R,hv,hR,hs,h⟩|⟨h0,h⟩|⟨h0,h5,h6,h7,h8,h9,h10,h⟩
    ·exact .inl ⟨h0,v,hv,ih _ _ h⟩
    ·exact .inr (.inl ⟨h0,v,ob,hb,hv,ih _ _ h⟩)
    ·exact .inr (.inr (.inl ⟨h0,ob,cs,hb,hv,ih _ _ h⟩))
    ·exact .inr (.inr (.inr (.inl ⟨h0,v,R,hv,hR,hs,ih _ _ h⟩)))
    ·exact .inr (.inr (.inr (.inr (.inl ⟨h0,(e4 _).2 (h.mono fun v w' hh=>⟨hh.1,ih _ _ hh.2⟩)⟩))))
    ·exact .inr (.inr (.inr (.inr (.inr (.inl ⟨h0,v,R,hv,hR,hs,ih _ _ h⟩)))))
    ·exact .inr (.inr (.inr (.inr (.inr (.inr (.inl ⟨h0,(e4 _).2 (h.mono fun v w' hh=>⟨hh.1,ih _ _ hh.2⟩)⟩))))))
    ·exact .inr (.inr (.inr (.inr (.inr (.inr (.inr ⟨h0,h5,h6,h7,h8,h9,h10,(e4 _).2 (h.mono fun v w' hh=>ih _ _ hh)⟩))))))
  by_cases hi:i=y
  ·exact key _ (.inr rfl) (by rw[a4F,ho,Option.map_some,if_pos hi])
  ·exact key _ (.inl rfl) (by rw[a4F,ho,Option.map_some,if_neg hi])
theorem c3A {y x:Nat} {T T':Act->World->Prop} (hT:∀a w,T a w->T' a w):∀(L bs:List Nat) (a:Act) (w:World),wpF P ops kd ta B T L bs a w->wpF P (a4Z ops y x) kd ta B T' L bs a w:=by
 intro L
 induction L with
 |nil=>intro bs a w h w' hw;exact hT _ _ (h w' hw)
 |cons i L ih=>
  intro bs a w h
  obtain⟨o,ho,h⟩:=h
  have key:∀o',(o'=o\/o'=adE o x)->(a4Z ops y x)[i]? =some o'->wpF P (a4Z ops y x) kd ta B T' (i::L) bs a w:=fun o' ho' hat=>by
   refine⟨o',hat,?_⟩
   rw[a5H]
   have e1:Region.wanted o' (yielded ops a.tmps)=Region.wanted o (yielded ops a.tmps):=by rcases ho' with rfl|rfl<;>rfl
   have e2:execOp a.eval o'=execOp a.eval o:=by rcases ho' with rfl|rfl<;>rfl
   have e3:o'.dst=o.dst:=by rcases ho' with rfl|rfl<;>rfl
   have e4:∀w K,Stp P o' a.eval w K↔Stp P o a.eval w K:=fun w K=>by unfold Stp;rw[e2]
   rw[e1,e2,e3]
   rcases h with⟨hn,h⟩|⟨hn,h⟩
   ·exact .inl ⟨hn,ih _ _ _ h⟩
   ·refine .inr ⟨hn,?_⟩
    rcases h with⟨h0,v,hv,h⟩|⟨h0,v,hv,h⟩|⟨h0,V,hv,h⟩|⟨h0,mk,ob,hv,h⟩|⟨h0,v,ob,hb,hv,h⟩
    ·exact .inl ⟨h0,v,hv,ih _ _ _ h⟩
    ·exact .inr (.inl ⟨h0,v,hv,ih _ _ _ h⟩)
    ·exact .inr (.inr (.inl ⟨h0,V,(fun w hw=>(e4 _ _).2 (hv w hw)),fun v cs W' h1 h2 h3=>ih _ _ _ (h v cs W' h1 h2 h3)⟩))
    ·exact .inr (.inr (.inr (.inl ⟨h0,mk,ob,hv,fun b W' h1 h2 h3 h4=>ih _ _ _ (h b W' h1 h2 h3 h4)⟩)))
    ·exact .inr (.inr (.inr (.inr ⟨h0,v,ob,hb,hv,ih _ _ _ h⟩)))
  by_cases hi:i=y
  ·exact key _ (.inr rfl) (by rw[a4F,ho,Option.map_some,if_pos hi])
  ·exact key _ (.inl rfl) (by rw[a4F,ho,Option.map_some,if_neg hi])
theorem b0Q {y x:Nat} {F T:List Nat} {a:Act} {w:World} (hB:c7u (a4Z ops y x) (a9t (a4Z ops y x).toList []) kd tg F T=true) (hta:∀i j,(kd i=5\/kd i=6)->(kd j=5\/kd j=6)->tg i≠tg j->ta i≠ta j)
  (hX:∀x a' w',a'.defers=a.defers->X x w'->Q (.panic [{v:=x,recovered:=false}]) a' w')
  (h:wpF P ops kd ta w.heap.size (wpT P X ops kd ta (Q .normal) T) F [] a {w with drawn:=w.drawn+1}):wpAnyIn (Fr ro) rm P .any (a4Z ops y x) Q (a4Z ops y x).size (Array.replicate (a4Z ops y x).size false) a {w with drawn:=w.drawn+1}:=
 b0P hB hta hX (c3A (fun a w hh=>c3z T a w hh) F [] a _ h)
theorem a6W {id x y:Nat} {a:Act} {w:World} (hm:P.follows .mixedOrders=true) (hxy:x≠y)
  (h1:wpAnyIn (Fr ro) rm P .any (a4Z ops y x) Q (a4Z ops y x).size (Array.replicate (a4Z ops y x).size false) a {w with drawn:=w.drawn+1})
  (h2:wpAnyIn (Fr ro) rm P .any (a4Z ops x y) Q (a4Z ops x y).size (Array.replicate (a4Z ops x y).size false) a {w with drawn:=w.drawn+1}):(Code.region id ops true).wpIn (Fr ro) rm P Q a w:=
 wpIn_region_draw fun t=>by
  simp only[Region.schedule,hm,Bool.true_or,if_true]
  rw[b7k]at h1 h2
  rcases c8K hxy _ _ _ (d3F (ops:=ops) ops.size t (Array.replicate ops.size false))with h|h
  ·exact b3Z _ _ _ (b7m _ _ _ _ _ h1 h)
  ·exact b3Z _ _ _ (b7m _ _ _ _ _ h2 h)
theorem b7n (hX:∀x a' w',a'.defers=df->X x w'->Q (.panic [{v:=x,recovered:=false}]) a' w'):∀(T:List Nat) (a:Act) (w:World),a.defers=df->wpT P X ops kd ta (Q .normal) T a w->wpOpsIn (Fr ro) rm P ops Q T a w:=by
 intro T
 induction T with
 |nil=>intro a w _ h;exact h
 |cons i T ih=>
  intro a w hdf h
  obtain⟨o,ho,h⟩:=h
  rw[wpOpsIn_cons]
  have hS:OpX P X ops o a w fun u w'=>wpT P X ops kd ta (Q .normal) T (a.put o.dst u) w':=by
   unfold OpX
   rcases h with⟨hn,h⟩|⟨hn,h⟩
   ·rw[if_neg (by simp[hn])];exact h
   ·rw[if_pos hn]
    rcases h with⟨h0,v,hv,h⟩|⟨h0,v,ob,hb,hv,h⟩|⟨h0,ob,cs,hb,hv,h⟩|⟨h0,v,R,hv,hR,hs,h⟩|⟨h0,h⟩|⟨h0,v,R,hv,hR,hs,h⟩|⟨h0,h⟩|⟨_,_,_,_,_,_,_,h⟩
    ·unfold StpX;rw[hv w];exact h
    ·unfold StpX;rw[hv w hb];exact h
    ·unfold StpX;rw[hv w hb];exact h
    ·unfold StpX;rw[hv w hR];exact h
    ·exact h.mono fun v w' hh=>hh.2
    ·unfold StpX;rw[hv w hR];exact h
    ·exact h.mono fun v w' hh=>hh.2
    ·exact h
  exact hS.wpOpIn ho (fun u w' hh=>ih _ _ (by rw[a1d];exact hdf) hh) fun x w' hx=>hX x a w' hdf hx
theorem a6X {id:Nat} {a:Act} {w:World} (hX:∀x a' w',a'.defers=a.defers->X x w'->Q (.panic [{v:=x,recovered:=false}]) a' w') (h:wpT P X ops kd ta (Q .normal) (List.range ops.size) a w):(Code.region id ops false).wpIn (Fr ro) rm P Q a w:=by
 refine wpIn_region ?_
 exact b7n hX _ a w rfl h
end
end Go.RX

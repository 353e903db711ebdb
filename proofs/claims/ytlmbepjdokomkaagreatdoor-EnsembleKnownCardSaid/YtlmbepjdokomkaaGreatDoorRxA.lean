/- Lemmas of the proof. -/
import Derived.Test.YtlmbepjdokomkaaGreatDoorA0
import Derived.Orders
import Derived.Below
import Derived.Tactics
import Derived.OrdersIn
import Derived.OwnWalkIn
import Derived.RangeFuncRecord
open Array renaming getElem?_eq_none->hG,getElem?_eq_some_iff->fU,replicate->eZ
open List renaming pairwise_append->lQ,pairwise_cons->iY
open List.Pairwise renaming nil->mC
open Nat renaming lt_irrefl->jF
open Option renaming some->fG
set_option linter.all false
namespace Go
def oDt {p:Prop} [Decidable p] (h:decide p=true):p:=of_decide_eq_true h
def oDi {p:Prop} [Decidable p]:decide p=true↔p:=decide_eq_true_iff
def oDd {p:Prop} [Decidable p] (h:p):decide p=true:=decide_eq_true h
def oDf {p:Prop} [Decidable p] (h:decide p=false):¬p:=of_decide_eq_false h
end Go
namespace Go.RX
open RowKit
def rPx (n a:Nat):=List.replicate n a
def rAx (a n:Nat):=List.range' a n
def rDx:Nat->Nat->List Nat
 |0,_=>[]
 |n+1,m=>m%10::rDx n (m/10)
def nmI {a b:Prop} (h:b):(false=true->a)/\b:=⟨fun h=>(nomatch h),h⟩
structure Ext (w w':World):Prop where
 os:w'.os=w.os
 tape:w'.tape=w.tape
 output:w'.output=w.output
 size:w.heap.size<=w'.heap.size
 blk:∀k,k<w.heap.size->w'.heap[k]? =w.heap[k]?
 dr:w.drawn<=w'.drawn
def Ext.refl (w:World):Ext w w:=⟨rfl,rfl,rfl,aS _,fun _ _=>rfl,aS _⟩
def Ext.trans {a b c:World} (h:Ext a b) (k:Ext b c):Ext a c:=⟨k.os.trans h.os,k.tape.trans h.tape,k.output.trans h.output,bM h.size k.size,fun i hi=>(k.blk i (aM hi h.size)).trans (h.blk i hi),bM h.dr k.dr⟩
def y5 {w:World} {k:Nat} {o:Obj} (h:w.heap[k]? =some o):k<w.heap.size:=(fU.1 h).1
def Ext.block {a b:World} (h:Ext a b) {k:Nat} {o:Obj} (hk:a.heap[k]? =some o):b.heap[k]? =some o:=by
 rw[h.blk k (y5 hk),hk]
def Ext.block' {a b:World} (h:Ext a b) {k:Nat} (hk:k<a.heap.size):b.heap[k]? =a.heap[k]?:=h.blk k hk
def Ext.alloc (w:World) (o:Obj):Ext w (w.alloc o):=
 have h:=(Below.refl w.heap.size w).alloc (aS _) o
 ⟨h.os,h.tape,h.output,h.size,h.block,aS _⟩
def Ext.drawn (w:World):Ext w {w with drawn:=w.drawn+1}:=⟨rfl,rfl,rfl,aS _,fun _ _=>rfl,Nat.le_succ _⟩
@[irreducible] def Stp (P:Program) (o:Oper) (ev:Operand->Value) (w:World) (K:Value->World->Prop):Prop:=
 match(execOp ev o).run P w with
 | .ok (.value v) w'=>K v w'
 | .ok .skip w'=>K undef w'
 | .ok (.enter f args) w'=>Calls P f args w' fun e w''=>∃v,e= .returned v/\K v w''
 | .ok (.row r args) w'=>Rows P r args w' K
 | .ok (.round l f tmps asg body) w'=>RoundIn Fence.wide 0 P l f tmps asg body w' fun e w''=>∃v,e= .returned v/\K v w''
 |_=>False
def Stp.cg {P:Program} {o:Oper} {ev ev':Operand->Value} {w:World} {K:Value->World->Prop} (h:execOp ev' o=execOp ev o) (k:Stp P o ev w K):Stp P o ev' w K:=by
 unfold Stp at k⊢;rw[h];exact k
def Stp.mono {P:Program} {o:Oper} {ev:Operand->Value} {w:World} {K K':Value->World->Prop} (h:Stp P o ev w K) (hk:∀v w',K v w'->K' v w'):Stp P o ev w K':=by
 unfold Stp at*;split at h
 ·exact hk _ _ h
 ·exact hk _ _ h
 ·exact h.mono fun e w' ⟨v,he,hv⟩=>⟨v,he,hk _ _ hv⟩
 ·exact h.mono fun v w' hv=>hk _ _ hv
 ·exact h.mono fun e w' ⟨v,he,hv⟩=>⟨v,he,hk _ _ hv⟩
 ·exact h.elim
def Stp.some {P:Program} {o:Oper} {ev:Operand->Value} {w:World} {K:Value->World->Prop} (h:Stp P o ev w K):∃v w',K v w':=by
 unfold Stp at h;split at h
 ·exact⟨_,_,h⟩
 ·exact⟨_,_,h⟩
 ·obtain⟨e,w',fr,⟨v,_,hv⟩,_⟩:=h [];exact⟨v,w',hv⟩
 ·obtain⟨v,w',hv,_⟩:=h default [];exact⟨v,w',hv⟩
 ·obtain⟨e,w',⟨v,_,hv⟩,_⟩:=h.2 default [] (room_wide _);exact⟨v,w',hv⟩
 ·exact h.elim
def pnE (x:Value):Ending:= .panicked [{v:=x,recovered:=false}]
@[irreducible] def StpX (P:Program) (X:Value->World->Prop) (o:Oper) (ev:Operand->Value) (w:World) (K:Value->World->Prop):Prop:=
 match(execOp ev o).run P w with
 | .ok (.value v) w'=>K v w'
 | .ok .skip w'=>K undef w'
 | .ok (.enter f args) w'=>Calls P f args w' fun e w''=>(∃v,e= .returned v/\K v w'')\/(∃x,e=pnE x/\X x w'')
 | .ok (.row r args) w'=>Rows P r args w' K
 | .ok (.round l f tmps asg body) w'=>RoundIn Fence.wide 0 P l f tmps asg body w' fun e w''=>∃v,e= .returned v/\K v w''
 | .halt (.panic x) w'=>(∀c,o.op≠ .defer c)/\X x w'
 |_=>False
def StpX.cg {P:Program} {X:Value->World->Prop} {o:Oper} {ev ev':Operand->Value} {w:World} {K:Value->World->Prop} (h:execOp ev' o=execOp ev o) (k:StpX P X o ev w K):StpX P X o ev' w K:=by
 unfold StpX at k⊢;rw[h];exact k
def StpX.mono2 {P:Program} {X X':Value->World->Prop} {o:Oper} {ev:Operand->Value} {w:World} {K K':Value->World->Prop} (h:StpX P X o ev w K) (hk:∀v w',K v w'->K' v w') (hx:∀v w',X v w'->X' v w'):StpX P X' o ev w K':=by
 unfold StpX at*;split at h
 ·exact hk _ _ h
 ·exact hk _ _ h
 ·exact h.mono fun e w' hh=>hh.imp (fun⟨v,he,hv⟩=>⟨v,he,hk _ _ hv⟩) (fun⟨x,he,hv⟩=>⟨x,he,hx _ _ hv⟩)
 ·exact h.mono fun v w' hv=>hk _ _ hv
 ·exact h.mono fun e w' ⟨v,he,hv⟩=>⟨v,he,hk _ _ hv⟩
 ·exact⟨h.1,hx _ _ h.2⟩
 ·exact h.elim
def StpX.mono {P:Program} {X:Value->World->Prop} {o:Oper} {ev:Operand->Value} {w:World} {K K':Value->World->Prop} (h:StpX P X o ev w K) (hk:∀v w',K v w'->K' v w'):StpX P X o ev w K':=h.mono2 hk fun _ _ h=>h
def Stp.toX {P:Program} {X:Value->World->Prop} {o:Oper} {ev:Operand->Value} {w:World} {K:Value->World->Prop} (h:Stp P o ev w K):StpX P X o ev w K:=by
 unfold Stp at h;unfold StpX;split at h
 ·rename_i hr;rw[hr];exact h
 ·rename_i hr;rw[hr];exact h
 ·rename_i hr;rw[hr];exact h.mono fun e w' hh=> .inl hh
 ·rename_i hr;rw[hr];exact h
 ·rename_i hr;rw[hr];exact h
 ·exact h.elim
def StpX.toStp {P:Program} {X:Value->World->Prop} {o:Oper} {ev:Operand->Value} {w:World} {K:Value->World->Prop} (h:StpX P X o ev w K) (hX:∀x w',¬X x w'):Stp P o ev w K:=by
 unfold StpX at h;unfold Stp;split at h
 ·rename_i hr;rw[hr];exact h
 ·rename_i hr;rw[hr];exact h
 ·rename_i hr;rw[hr];exact h.mono fun e w' hh=>hh.resolve_right fun⟨x,_,hx⟩=>hX _ _ hx
 ·rename_i hr;rw[hr];exact h
 ·rename_i hr;rw[hr];exact h
 ·exact absurd h.2 (hX _ _)
 ·exact h.elim
def OpS (P:Program) (ops:Array Oper) (o:Oper) (a:Act) (w:World) (K:Value->World->Prop):Prop:=
 if Region.wanted o (yielded ops a.tmps)then Stp P o a.eval w K else K undef w
def OpS.mono {P:Program} {ops:Array Oper} {o:Oper} {a:Act} {w:World} {K K':Value->World->Prop} (h:OpS P ops o a w K) (hk:∀v w',K v w'->K' v w'):OpS P ops o a w K':=by
 unfold OpS at*;split
 ·rename_i hw;rw[if_pos hw]at h;exact h.mono hk
 ·rename_i hw;rw[if_neg hw]at h;exact hk _ _ h
def OpX (P:Program) (X:Value->World->Prop) (ops:Array Oper) (o:Oper) (a:Act) (w:World) (K:Value->World->Prop):Prop:=
 if Region.wanted o (yielded ops a.tmps)then StpX P X o a.eval w K else K undef w
def OpX.mono {P:Program} {X:Value->World->Prop} {ops:Array Oper} {o:Oper} {a:Act} {w:World} {K K':Value->World->Prop} (h:OpX P X ops o a w K) (hk:∀v w',K v w'->K' v w'):OpX P X ops o a w K':=by
 unfold OpX at*;split
 ·rename_i hw;rw[if_pos hw]at h;exact h.mono hk
 ·rename_i hw;rw[if_neg hw]at h;exact hk _ _ h
def Fr (ro:Option Nat):Fence:={Fence.wide with round:=ro}
def na {ro:Option Nat} {n:Nat} {P:Program} {f:FuncId} {args:Array Value} {w:World} {R:Ending->World->Prop} (h:Calls P f args w R):CallsIn (Fr ro) n P f args w R:=
 (callsIn_wide (n:=n)).2 h
def CJ {ro:Option Nat} {n m:Nat} {P:Program} {l f:Nat} {tmps:Array Value} {asg body:Code} {w:World} {R:Ending->World->Prop} (h:RoundIn Fence.wide n P l f tmps asg body w R):RoundIn (Fr ro) m P l f tmps asg body w R:=
 ⟨trivial,fun c cs _=>h.2 c cs (room_wide _)⟩
def Stp.noDefer {P:Program} {o:Oper} {ev:Operand->Value} {w:World} {K:Value->World->Prop} (h:Stp P o ev w K):∀c,o.op≠ .defer c:=by
 intro c e;unfold Stp at h;have he:execOp ev o=(do pure (.defer (<-resolve ev c o.type))):=by unfold execOp;rw[e]
 rw[he]at h;generalize resolve ev c o.type=s at h;cases hr:s.run P w with
 |ok d w'=>
  have:(do pure (Next.defer (<-s)):Sem Next).run P w= .ok (.defer d) w':=by simp[go_sem,hr]
  rw[this]at h;exact h
 |halt x w'=>
  have:(do pure (Next.defer (<-s)):Sem Next).run P w= .halt x w':=by simp[go_sem,hr]
  rw[this]at h;exact h
def StpX.noDefer {P:Program} {X:Value->World->Prop} {o:Oper} {ev:Operand->Value} {w:World} {K:Value->World->Prop} (h:StpX P X o ev w K):∀c,o.op≠ .defer c:=by
 intro c e;unfold StpX at h;have he:execOp ev o=(do pure (.defer (<-resolve ev c o.type))):=by unfold execOp;rw[e]
 rw[he]at h;generalize resolve ev c o.type=s at h;cases hr:s.run P w with
 |ok d w'=>
  have:(do pure (Next.defer (<-s)):Sem Next).run P w= .ok (.defer d) w':=by simp[go_sem,hr]
  rw[this]at h;exact h
 |halt x w'=>
  have:(do pure (Next.defer (<-s)):Sem Next).run P w= .halt x w':=by simp[go_sem,hr]
  rw[this]at h;cases x<;>first|exact h.1 c e|exact h
def StpX.wpIn {ro:Option Nat} {rm:Nat} {P:Program} {X:Value->World->Prop} {o:Oper} {a:Act} {w:World} {K:Value->World->Prop} {K':Act->World->Prop} {Q:Exit->Act->World->Prop} (h:StpX P X o a.eval w K) (hk:∀v w',K v w'->K' (a.put o.dst v) w') (hx:∀x w',X x w'->Q (.panic [{v:=x,recovered:=false}]) a w'):o.wpIn (Fr ro) rm P a w K' Q:=by
 have hd:=h.noDefer;unfold StpX at h;unfold Oper.wpIn;refine⟨fun _ _=>trivial,?_⟩;rw[Oper.semAt_eq _ _ _ hd];split at h
 ·rename_i hr;rw[hr];exact hk _ _ h
 ·rename_i hr;rw[hr];exact hk _ _ h
 ·rename_i hr;rw[hr];refine⟨fun e=>by simp[Fr,Fence.wide]at e,na (Calls.mono h fun e w' hh=> ?_)⟩;rcases hh with⟨v,he,hv⟩|⟨x,he,hv⟩
  ·subst he;exact hk _ _ hv
  ·subst he;exact hx _ _ hv
 ·rename_i hr;rw[hr];refine⟨fun e=>by simp[Fr,Fence.wide]at e,fun c cs _=> ?_⟩;obtain⟨v,w',hv,hs⟩:=h c cs;exact⟨v,w',hk _ _ hv,stepsIn_wide.2 hs⟩
 ·rename_i hr;rw[hr];refine⟨fun e=>by simp[Fr,Fence.wide]at e,RoundIn.mono (CJ h) fun e w' ⟨v,he,hv⟩=>by subst he;exact hk _ _ hv⟩
 ·rename_i hr;rw[hr];exact hx _ _ h.2
 ·exact h.elim
def OpX.wpOpIn {ro:Option Nat} {rm:Nat} {P:Program} {X:Value->World->Prop} {ops:Array Oper} {Q:Exit->Act->World->Prop} {o:Oper} {i:Nat} (hi:ops[i]? =some o) {a:Act} {w:World} {K:Value->World->Prop} {K':Act->World->Prop} (h:OpX P X ops o a w K) (hk:∀v w',K v w'->K' (a.put o.dst v) w') (hx:∀x w',X x w'->Q (.panic [{v:=x,recovered:=false}]) a w'):Go.wpOpIn (Fr ro) rm P ops Q i K' a w:=by
 unfold OpX at h;unfold Go.wpOpIn;simp only[hi];split
 ·rename_i hw;rw[if_pos hw]at h;exact h.wpIn hk hx
 ·rename_i hw;rw[if_neg hw]at h;exact⟨fun _ _=>trivial,hk _ _ h⟩
def OpX.put {P:Program} {X:Value->World->Prop} {ops:Array Oper} {oi oj:Oper} (pZ:oi.apart ops oj=true) (hsj:∀cs b,oj.op≠ .select cs b) {a:Act} {w:World} {v:Value} {K:Value->World->Prop}:
  OpX P X ops oj (a.put oi.dst v) w K↔OpX P X ops oj a w K:=by
 obtain⟨h1,_,_⟩:=Oper.apart_spec pZ;unfold OpX StpX;rw[wanted_put oj a oi.dst v h1,execOp_put oj hsj a oi.dst v h1]
def An (a:Act) (d:Option Tmp) (v:Value):(a.put d v).defers=a.defers:=by cases d<;>rfl
def Stp.wpIn {ro:Option Nat} {rm:Nat} {P:Program} {o:Oper} {a:Act} {w:World} {K:Value->World->Prop} {K':Act->World->Prop} {Q:Exit->Act->World->Prop} (h:Stp P o a.eval w K) (hk:∀v w',K v w'->K' (a.put o.dst v) w'):o.wpIn (Fr ro) rm P a w K' Q:=by
 have hd:=h.noDefer;unfold Stp at h;unfold Oper.wpIn;refine⟨fun _ _=>trivial,?_⟩;rw[Oper.semAt_eq _ _ _ hd];split at h
 ·rename_i hr;rw[hr];exact hk _ _ h
 ·rename_i hr;rw[hr];exact hk _ _ h
 ·rename_i hr;rw[hr];exact⟨fun e=>by simp[Fr,Fence.wide]at e,na (Calls.mono h fun e w' ⟨v,he,hv⟩=>by subst he;exact hk _ _ hv)⟩
 ·rename_i hr;rw[hr];refine⟨fun e=>by simp[Fr,Fence.wide]at e,fun c cs _=> ?_⟩;obtain⟨v,w',hv,hs⟩:=h c cs;exact⟨v,w',hk _ _ hv,stepsIn_wide.2 hs⟩
 ·rename_i hr;rw[hr];refine⟨fun e=>by simp[Fr,Fence.wide]at e,RoundIn.mono (CJ h) fun e w' ⟨v,he,hv⟩=>by subst he;exact hk _ _ hv⟩
 ·exact h.elim
def OpS.wpOpIn {ro:Option Nat} {rm:Nat} {P:Program} {ops:Array Oper} {Q:Exit->Act->World->Prop} {o:Oper} {i:Nat} (hi:ops[i]? =some o) {a:Act} {w:World} {K:Value->World->Prop} {K':Act->World->Prop} (h:OpS P ops o a w K) (hk:∀v w',K v w'->K' (a.put o.dst v) w'):Go.wpOpIn (Fr ro) rm P ops Q i K' a w:=by
 unfold OpS at h;unfold Go.wpOpIn;simp only[hi];split
 ·rename_i hw;rw[if_pos hw]at h;exact h.wpIn hk
 ·rename_i hw;rw[if_neg hw]at h;exact⟨fun _ _=>trivial,hk _ _ h⟩
def OpS.put {P:Program} {ops:Array Oper} {oi oj:Oper} (pZ:oi.apart ops oj=true) (hsj:∀cs b,oj.op≠ .select cs b) {a:Act} {w:World} {v:Value} {K:Value->World->Prop}:
  OpS P ops oj (a.put oi.dst v) w K↔OpS P ops oj a w K:=by
 obtain⟨h1,_,_⟩:=Oper.apart_spec pZ;unfold OpS Stp;rw[wanted_put oj a oi.dst v h1,execOp_put oj hsj a oi.dst v h1]
def KeepM (w w':World):Prop:=∀b:Nat,w'.heap[b]? =w.heap[b]?\/((∃es c,w.heap[b]? =some (.map es c))/\∃es c,w'.heap[b]? =some (.map es c))
def KeepM.refl (w:World):KeepM w w:=fun _=> .inl rfl
def KeepM.trans {a b c:World} (h:KeepM a b) (k:KeepM b c):KeepM a c:=fun x=>by
 rcases h x with h|⟨h1,h2⟩<;>rcases k x with k|⟨k1,k2⟩
 ·exact .inl (k.trans h)
 ·exact .inr ⟨by rwa[h]at k1,k2⟩
 ·exact .inr ⟨h1,by rwa[k]⟩
 ·exact .inr ⟨h1,k2⟩
def wpF (P:Program) (ops:Array Oper) (kd ta:Nat->Nat) (B:Nat) (T:Act->World->Prop):List Nat->List Nat->Act->World->Prop
 |[],_,a,W=>∀w,Ext W w->T a w
 |i::L,bs,a,W=>∃o,ops[i]? =some o/\
   ((Region.wanted o (yielded ops a.tmps)=false/\wpF P ops kd ta B T L bs (a.put o.dst undef) W)\/
    (Region.wanted o (yielded ops a.tmps)=true/\
     ((kd i=0/\∃v,(∀w,(execOp a.eval o).run P w= .ok (.value v) w)/\wpF P ops kd ta B T L bs (a.put o.dst v) W)\/
      (kd i=1/\∃v,(∀w,Ext W w->(execOp a.eval o).run P w= .ok (.value v) w)/\wpF P ops kd ta B T L bs (a.put o.dst v) W)\/
      (kd i = 2 /\ ∃ V : Value -> List Nat -> World -> Prop,(∀ w,Ext W w -> Stp P o a.eval w fun v w' => Ext w w' /\ ∃ cs,(∀ c ∈ cs,w.heap.size <= c /\ c < w'.heap.size) /\ V v cs w') /\
         ∀v cs W',Ext W W'->V v cs W'->(∀c∈cs,B<=c/\c∉bs)->wpF P ops kd ta B T L (cs++bs) (a.put o.dst v) W')\/
      (kd i = 3 /\ ∃ (mk : Nat -> Value) (ob : Obj),(∀ w,(execOp a.eval o).run P w = .ok (.value (mk w.heap.size)) (w.alloc ob)) /\
         ∀b W',Ext W W'->W'.heap[b]? =some ob->b∉bs->B<=b->wpF P ops kd ta B T L (b::bs) (a.put o.dst (mk b)) W')\/
      (kd i=5/\∃v ob,W.heap[ta i]? =some ob/\(∀w,w.heap[ta i]? =some ob->(execOp a.eval o).run P w= .ok (.value v) w)/\wpF P ops kd ta B T L bs (a.put o.dst v) W))))
def wpT (P:Program) (X:Value->World->Prop) (ops:Array Oper) (kd ta:Nat->Nat) (Q:Act->World->Prop):List Nat->Act->World->Prop
 |[],a,w=>Q a w
 |i::L,a,w=>∃o,ops[i]? =some o/\
   ((Region.wanted o (yielded ops a.tmps)=false/\wpT P X ops kd ta Q L (a.put o.dst undef) w)\/
    (Region.wanted o (yielded ops a.tmps)=true/\
     ((kd i=0/\∃v,(∀w',(execOp a.eval o).run P w'= .ok (.value v) w')/\wpT P X ops kd ta Q L (a.put o.dst v) w)\/
      (kd i=5/\∃v ob,w.heap[ta i]? =some ob/\(∀w',w'.heap[ta i]? =some ob->(execOp a.eval o).run P w'= .ok (.value v) w')/\wpT P X ops kd ta Q L (a.put o.dst v) w)\/
      (kd i=6/\∃ob cs,w.heap[ta i]? =some ob/\(∀w',w'.heap[ta i]? =some ob->(execOp a.eval o).run P w'= .ok .skip (w'.setRow (ta i) cs))/\wpT P X ops kd ta Q L (a.put o.dst undef) (w.setRow (ta i) cs))\/
      (kd i=7/\∃(v:Value) (R:World->Prop),(∀w',R w'->(execOp a.eval o).run P w'= .ok (.value v) w')/\R w/\(∀m c w',kd m=6->(R (w'.setRow (ta m) c)↔R w'))/\wpT P X ops kd ta Q L (a.put o.dst v) w)\/
      (kd i=8/\StpX P X o a.eval w fun v w'=>(∀m,kd m=5->w'.heap[ta m]? =w.heap[ta m]?)/\wpT P X ops kd ta Q L (a.put o.dst v) w')\/
      (kd i=9/\∃(v:Value) (R:World->Prop),(∀w',R w'->(execOp a.eval o).run P w'= .ok (.value v) w')/\R w/\(∀w1 w2,KeepM w1 w2->R w1->R w2)/\wpT P X ops kd ta Q L (a.put o.dst v) w)\/
      (kd i=10/\StpX P X o a.eval w fun v w'=>KeepM w w'/\wpT P X ops kd ta Q L (a.put o.dst v) w')\/
      (kd i≠0/\kd i≠5/\kd i≠6/\kd i≠7/\kd i≠8/\kd i≠9/\kd i≠10/\StpX P X o a.eval w fun v w'=>wpT P X ops kd ta Q L (a.put o.dst v) w'))))
section
variable {P:Program} {ops:Array Oper} {kd ta:Nat->Nat} {B:Nat} {T:Act->World->Prop}
def CM:∀(L bs bs':List Nat) (a:Act) (W:World),(∀x,x∈bs->x∈bs')->wpF P ops kd ta B T L bs a W->wpF P ops kd ta B T L bs' a W:=by
 intro L;induction L with
 |nil=>intro bs bs' a W _ h;exact h
 |cons i L ih=>
  intro bs bs' a W hb h;obtain⟨o,ho,h⟩:=h;refine⟨o,ho,?_⟩;rcases h with⟨hn,h⟩|⟨hn,h⟩
  ·exact .inl ⟨hn,ih _ _ _ _ hb h⟩
  ·refine .inr ⟨hn,?_⟩;rcases h with⟨h0,v,hv,h⟩|⟨h0,v,hv,h⟩|⟨h0,V,hc,h⟩|⟨h0,mk,ob,hr,h⟩|⟨h0,v,ob,qT,hv,h⟩
   ·exact .inl ⟨h0,v,hv,ih _ _ _ _ hb h⟩
   ·exact .inr (.inl ⟨h0,v,hv,ih _ _ _ _ hb h⟩)
   ·exact .inr (.inr (.inl ⟨h0,V,hc,fun v cs W2 qQ hV pM=>ih _ _ _ _ (by intro x hx;simp only[bC]at hx⊢;exact hx.imp id (hb x)) (h v cs W2 qQ hV (fun c hc=>⟨(pM c hc).1,fun hm=>(pM c hc).2 (hb _ hm)⟩))⟩))
   ·exact .inr (.inr (.inr (.inl ⟨h0,mk,ob,hr,fun b W2 qQ qT qH hB=>ih _ _ _ _ (by intro x hx;simp only[aX]at hx⊢;exact hx.imp id (hb x)) (h b W2 qQ qT (fun hm=>qH (hb _ hm)) hB)⟩)))
   ·exact .inr (.inr (.inr (.inr ⟨h0,v,ob,qT,hv,ih _ _ _ _ hb h⟩)))
def VF {j:Nat} {oj:Oper} (hj:ops[j]? =some oj) (pH:∀(i:Nat) (o:Oper) cs b,ops[i]? =some o->o.op≠ .select cs b) (uC:kd j≠3):∀(pre post bs:List Nat) (a:Act) (w:World),B<=w.heap.size->(∀b∈bs,b<w.heap.size)->
  (∀i∈pre,(kd i<=1\/kd i=5)/\∀oi,ops[i]? =some oi->oi.apart ops oj=true)->wpF P ops kd ta B T (pre++j::post) bs a w->
  OpS P ops oj a w fun u w'=>Ext w w'/\∃cs,(∀c∈cs,w.heap.size<=c/\c<w'.heap.size)/\wpF P ops kd ta B T (pre++post) (cs++bs) (a.put oj.dst u) w':=by
 intro pre;induction pre with
 |nil=>
  intro post bs a w hB qA _ h;obtain⟨o,ho,h⟩:=h;obtain rfl:o=oj:=fG.inj (ho.symm.trans hj);unfold OpS;rcases h with⟨hn,h⟩|⟨hn,h⟩
  ·rw[if_neg (by simp[hn])];exact⟨Ext.refl _,[],aD,h⟩
  ·rw[if_pos hn];rcases h with⟨h0,v,hv,h⟩|⟨h0,v,hv,h⟩|⟨h0,V,hc,h⟩|⟨h0,mk,ob,hr,h⟩|⟨h0,v,ob,hb,hv,h⟩
   ·unfold Stp;rw[hv w];exact⟨Ext.refl _,[],aD,h⟩
   ·unfold Stp;rw[hv w (Ext.refl _)];exact⟨Ext.refl _,[],aD,h⟩
   ·exact(hc w (Ext.refl _)).mono fun v w' ⟨hx,cs,pM,hV⟩=>⟨hx,cs,pM,h v cs w' hx hV fun c hc=>⟨bM hB (pM c hc).1,fun hm=>by have:=qA c hm;have:=(pM c hc).1;omega⟩⟩
   ·exact absurd h0 uC
   ·unfold Stp;rw[hv w hb];exact⟨Ext.refl _,[],aD,h⟩
 |cons i pre ih=>
  intro post bs a w hB qA pA h;obtain⟨o,ho,h⟩:=h;obtain⟨hk,pZ⟩:=pA i aD;have pZ:=pZ o ho;obtain⟨h1,h2,h3⟩:=Oper.apart_spec pZ;have qE:∀i∈pre,(kd i<=1\/kd i=5)/\∀oi,ops[i]? =some oi->oi.apart ops oj=true:=fun x hx=>pA x (by simp[hx]);have back:∀v,wpF P ops kd ta B T (pre++j::post) bs (a.put o.dst v) w->OpS P ops oj a w fun u w'=>Ext w w'/\∃cs,(∀c∈cs,w.heap.size<=c/\c<w'.heap.size)/\wpF P ops kd ta B T (pre++post) (cs++bs) ((a.put oj.dst u).put o.dst v) w':=fun v hv=>by
   have:=(OpS.put (P:=P) pZ (fun cs b=>pH j oj cs b hj)).1 (ih post bs _ w hB qA qE hv);exact this.mono fun u w' ⟨hx,cs,pM,hh⟩=>⟨hx,cs,pM,by rw[Act.put_comm a v u h2]at hh;exact hh⟩
  rcases h with⟨hn,h⟩|⟨hn,h⟩
  ·exact(back _ h).mono fun u w' ⟨hx,cs,pM,hh⟩=>⟨hx,cs,pM,o,ho,.inl ⟨by rw[wanted_put o a oj.dst u h3];exact hn,hh⟩⟩
  ·have hw:∀u,Region.wanted o (yielded ops (a.put oj.dst u).tmps)=true:=fun u=>by rw[wanted_put o a oj.dst u h3];exact hn
   have he:∀u,execOp (a.put oj.dst u).eval o=execOp a.eval o:=fun u=>execOp_put o (fun cs b=>pH i o cs b ho) a oj.dst u h3;rcases h with⟨h0,v,hv,h⟩|⟨h0,v,hv,h⟩|⟨h0,V,hc,h⟩|⟨h0,mk,ob,hr,h⟩|⟨h0,v,ob,hb,hv,h⟩
   ·exact(back _ h).mono fun u w' ⟨hx,cs,pM,hh⟩=>⟨hx,cs,pM,o,ho,.inr ⟨hw u,.inl ⟨h0,v,by rw[he u];exact hv,hh⟩⟩⟩
   ·exact(back _ h).mono fun u w' ⟨hx,cs,pM,hh⟩=>⟨hx,cs,pM,o,ho,.inr ⟨hw u,.inr (.inl ⟨h0,v,by rw[he u];exact fun w2 hw2=>hv w2 (hx.trans hw2),hh⟩)⟩⟩
   ·omega
   ·omega
   ·exact(back _ h).mono fun u w' ⟨hx,cs,pM,hh⟩=>⟨hx,cs,pM,o,ho,.inr ⟨hw u,.inr (.inr (.inr (.inr ⟨h0,v,ob,hx.block hb,by rw[he u];exact hv,hh⟩)))⟩⟩
def VG {j:Nat} {oj:Oper} (hj:ops[j]? =some oj) (pH:∀(i:Nat) (o:Oper) cs b,ops[i]? =some o->o.op≠ .select cs b) (uC:kd j=3):∀(pre post bs:List Nat) (a:Act) (W:World),
  (∀i∈pre,∀oi,ops[i]? =some oi->oi.apart ops oj=true)->B<=W.heap.size->(∀b∈bs,b<W.heap.size)->Region.wanted oj (yielded ops a.tmps)=true->wpF P ops kd ta B T (pre++j::post) bs a W->
  ∃(mk:Nat->Value) (ob:Obj),∀w,(execOp a.eval oj).run P w= .ok (.value (mk w.heap.size)) (w.alloc ob):=by
 intro pre;induction pre with
 |nil=>
  intro post bs a W _ _ _ pC h;obtain⟨o,ho,h⟩:=h;obtain rfl:o=oj:=fG.inj (ho.symm.trans hj);rcases h with⟨hn,_⟩|⟨_,h⟩
  ·rw[hn]at pC;cases pC
  ·rcases h with⟨h0,_⟩|⟨h0,_⟩|⟨h0,_⟩|⟨h0,mk,ob,hr,h⟩|⟨h0,_⟩
   ·omega
   ·omega
   ·omega
   ·exact⟨mk,ob,hr⟩
   ·omega
 |cons i pre ih=>
  intro post bs a W pA hB qA pC h;obtain⟨o,ho,h⟩:=h;have pZ:=pA i aD o ho;obtain⟨h1,h2,h3⟩:=Oper.apart_spec pZ;have qE:∀i∈pre,∀oi,ops[i]? =some oi->oi.apart ops oj=true:=fun x hx=>pA x (by simp[hx]);have go:∀v bs' W',B<=W'.heap.size->(∀b∈bs',b<W'.heap.size)->wpF P ops kd ta B T (pre++j::post) bs' (a.put o.dst v) W'->∃(mk:Nat->Value) (ob:Obj),∀w,(execOp a.eval oj).run P w= .ok (.value (mk w.heap.size)) (w.alloc ob):=fun v bs' W' sN rR hh=>by
   obtain⟨mk,ob,hr⟩:=ih post bs' (a.put o.dst v) W' qE sN rR (by rw[wanted_put oj a o.dst v h1];exact pC) hh;exact⟨mk,ob,fun w=>by rw[<-hr w,execOp_put oj (fun cs b=>pH j oj cs b hj) a o.dst v h1]⟩
  rcases h with⟨hn,h⟩|⟨hn,h⟩
  ·exact go _ _ _ hB qA h
  ·rcases h with⟨h0,v,hv,h⟩|⟨h0,v,hv,h⟩|⟨h0,V,hc,h⟩|⟨h0,mk,ob,hr,h⟩|⟨h0,v,ob,hb,hv,h⟩
   ·exact go _ _ _ hB qA h
   ·exact go _ _ _ hB qA h
   ·obtain⟨v,w',hx,cs,pM,hV⟩:=(hc W (Ext.refl _)).some;refine go v _ w' (bM hB hx.size) (fun b hb=> ?_) (h v cs w' hx hV fun c hc=>⟨bM hB (pM c hc).1,fun hm=>by have:=qA c hm;have:=(pM c hc).1;omega⟩);rcases bC.1 hb with hb|hb
    ·exact(pM b hb).2
    ·exact aM (qA b hb) hx.size
   ·refine go (mk W.heap.size) (W.heap.size::bs) (W.alloc ob) (bM hB (Ext.alloc W ob).size) ?_ (h _ _ (Ext.alloc W ob) ?_ (fun hm=>jF _ (qA _ hm)) hB)
    ·intro b hb;simp only[aX]at hb;have qI:(W.alloc ob).heap.size=W.heap.size+1:=by show(W.heap.push ob).size=_;simp
     rcases hb with rfl|hb
     ·omega
     ·have:=qA b hb;omega
    ·show(W.heap.push ob)[W.heap.size]? =_;simp
   ·exact go _ _ _ hB qA h
def VH {j:Nat} {oj:Oper} (hj:ops[j]? =some oj) (pH:∀(i:Nat) (o:Oper) cs b,ops[i]? =some o->o.op≠ .select cs b) (uC:kd j=0):∀(pre post bs:List Nat) (a:Act) (W:World),
  (∀i∈pre,∀oi,ops[i]? =some oi->oi.apart ops oj=true)->B<=W.heap.size->(∀b∈bs,b<W.heap.size)->Region.wanted oj (yielded ops a.tmps)=true->wpF P ops kd ta B T (pre++j::post) bs a W->
  ∃v:Value,∀w,(execOp a.eval oj).run P w= .ok (.value v) w:=by
 intro pre;induction pre with
 |nil=>
  intro post bs a W _ _ _ pC h;obtain⟨o,ho,h⟩:=h;obtain rfl:o=oj:=fG.inj (ho.symm.trans hj);rcases h with⟨hn,_⟩|⟨_,h⟩
  ·rw[hn]at pC;cases pC
  ·rcases h with⟨h0,v,hv,h⟩|⟨h0,_⟩|⟨h0,_⟩|⟨h0,_⟩|⟨h0,_⟩
   ·exact⟨v,hv⟩
   ·omega
   ·omega
   ·omega
   ·omega
 |cons i pre ih=>
  intro post bs a W pA hB qA pC h;obtain⟨o,ho,h⟩:=h;have pZ:=pA i aD o ho;obtain⟨h1,h2,h3⟩:=Oper.apart_spec pZ;have qE:∀i∈pre,∀oi,ops[i]? =some oi->oi.apart ops oj=true:=fun x hx=>pA x (by simp[hx]);have go:∀v bs' W',B<=W'.heap.size->(∀b∈bs',b<W'.heap.size)->wpF P ops kd ta B T (pre++j::post) bs' (a.put o.dst v) W'->∃v:Value,∀w,(execOp a.eval oj).run P w= .ok (.value v) w:=fun v bs' W' sN rR hh=>by
   obtain⟨u,hr⟩:=ih post bs' (a.put o.dst v) W' qE sN rR (by rw[wanted_put oj a o.dst v h1];exact pC) hh;exact⟨u,fun w=>by rw[<-hr w,execOp_put oj (fun cs b=>pH j oj cs b hj) a o.dst v h1]⟩
  rcases h with⟨hn,h⟩|⟨hn,h⟩
  ·exact go _ _ _ hB qA h
  ·rcases h with⟨h0,v,hv,h⟩|⟨h0,v,hv,h⟩|⟨h0,V,hc,h⟩|⟨h0,mk,ob,hr,h⟩|⟨h0,v,ob,hb,hv,h⟩
   ·exact go _ _ _ hB qA h
   ·exact go _ _ _ hB qA h
   ·obtain⟨v,w',hx,cs,pM,hV⟩:=(hc W (Ext.refl _)).some;refine go v _ w' (bM hB hx.size) (fun b hb=> ?_) (h v cs w' hx hV fun c hc=>⟨bM hB (pM c hc).1,fun hm=>by have:=qA c hm;have:=(pM c hc).1;omega⟩);rcases bC.1 hb with hb|hb
    ·exact(pM b hb).2
    ·exact aM (qA b hb) hx.size
   ·refine go (mk W.heap.size) (W.heap.size::bs) (W.alloc ob) (bM hB (Ext.alloc W ob).size) ?_ (h _ _ (Ext.alloc W ob) ?_ (fun hm=>jF _ (qA _ hm)) hB)
    ·intro b hb;simp only[aX]at hb;have qI:(W.alloc ob).heap.size=W.heap.size+1:=by show(W.heap.push ob).size=_;simp
     rcases hb with rfl|hb
     ·omega
     ·have:=qA b hb;omega
    ·show(W.heap.push ob)[W.heap.size]? =_;simp
   ·exact go _ _ _ hB qA h
def VI {j:Nat} {oj:Oper} {v:Value} (hj:ops[j]? =some oj) (pH:∀(i:Nat) (o:Oper) cs b,ops[i]? =some o->o.op≠ .select cs b) (uC:kd j=0):∀(pre post bs:List Nat) (a:Act) (W:World),
  (∀i∈pre,∀oi,ops[i]? =some oi->oi.apart ops oj=true)->(∀w,(execOp a.eval oj).run P w= .ok (.value v) w)->Region.wanted oj (yielded ops a.tmps)=true->wpF P ops kd ta B T (pre++j::post) bs a W->wpF P ops kd ta B T (pre++post) bs (a.put oj.dst v) W:=by
 intro pre;induction pre with
 |nil=>
  intro post bs a W _ hv hn h;obtain⟨o,ho,h⟩:=h;obtain rfl:o=oj:=fG.inj (ho.symm.trans hj);rcases h with⟨qR,_⟩|⟨_,h⟩
  ·rw[hn]at qR;cases qR
  ·rcases h with⟨h0,v',zN,h⟩|⟨h0,_⟩|⟨h0,_⟩|⟨h0,_⟩|⟨h0,_⟩
   ·have e:=(zN W).symm.trans (hv W);simp only[Result.ok.injEq,Next.value.injEq,and_true]at e;subst e;exact h
   ·omega
   ·omega
   ·omega
   ·omega
 |cons i pre ih2=>
  intro post bs a W pZ hv hn h;obtain⟨o,ho,h⟩:=h;have wP:=pZ i aD o ho;obtain⟨h1,h2,h3⟩:=Oper.apart_spec wP;have wR:∀i∈pre,∀oi,ops[i]? =some oi->oi.apart ops oj=true:=fun x hx=>pZ x (by simp[hx]);have go:∀v' bs' W',wpF P ops kd ta B T (pre++j::post) bs' (a.put o.dst v') W'->wpF P ops kd ta B T (pre++post) bs' ((a.put oj.dst v).put o.dst v') W':=fun v' bs' W' hh=>by
   have:=ih2 post bs' (a.put o.dst v') W' wR (fun w=>by rw[execOp_put oj (fun cs b=>pH j oj cs b hj) a o.dst v' h1];exact hv w) (by rw[wanted_put oj a o.dst v' h1];exact hn) hh
   rwa[Act.put_comm a v' v h2]at this
  refine⟨o,ho,?_⟩;have he:execOp (a.put oj.dst v).eval o=execOp a.eval o:=execOp_put o (fun cs b=>pH i o cs b ho) a oj.dst v h3;rw[wanted_put o a oj.dst v h3,he];rcases h with⟨hn,h⟩|⟨hn,h⟩
  ·exact .inl ⟨hn,go _ _ _ h⟩
  ·refine .inr ⟨hn,?_⟩;rcases h with⟨h0,v,hv,h⟩|⟨h0,v,hv,h⟩|⟨h0,V,hc,h⟩|⟨h0,mk',ob',hr,h⟩|⟨h0,v,ob,hb,hv,h⟩
   ·exact .inl ⟨h0,v,hv,go _ _ _ h⟩
   ·exact .inr (.inl ⟨h0,v,hv,go _ _ _ h⟩)
   ·exact .inr (.inr (.inl ⟨h0,V,fun w hw=>by have:=hc w hw;unfold Stp at this⊢;rw[he];exact this,fun v cs W2 qQ hV pM=>go _ _ _ (h v cs W2 qQ hV pM)⟩))
   ·exact .inr (.inr (.inr (.inl ⟨h0,mk',ob',hr,fun b W2 qQ qT qH hB=>go _ _ _ (h b W2 qQ qT qH hB)⟩)))
   ·exact .inr (.inr (.inr (.inr ⟨h0,v,ob,hb,hv,go _ _ _ h⟩)))
def VJ (b:Nat) (W:World):∃w:World,w.heap.size=b:=⟨{W with heap:=eZ b default},aD⟩
def VK {w:World} {o o':Obj} (h:w.alloc o=w.alloc o'):o=o':=by
 have:(w.heap.push o)=(w.heap.push o'):=congrArg World.heap h;exact(Array.push_eq_push.1 this).1
def VL {j:Nat} {oj:Oper} (hj:ops[j]? =some oj) (pH:∀(i:Nat) (o:Oper) cs b,ops[i]? =some o->o.op≠ .select cs b) (uC:kd j=3) (mk:Nat->Value) (ob:Obj) (b:Nat):∀(pre post bs:List Nat) (a:Act) (W W':World),
  (∀i∈pre,∀oi,ops[i]? =some oi->oi.apart ops oj=true)->(∀w,(execOp a.eval oj).run P w= .ok (.value (mk w.heap.size)) (w.alloc ob))->Region.wanted oj (yielded ops a.tmps)=true->
  Ext W W'->W'.heap[b]? =some ob->b∉bs->B<=b->wpF P ops kd ta B T (pre++j::post) bs a W->
  wpF P ops kd ta B T (pre++post) (b::bs) (a.put oj.dst (mk b)) W':=by
 intro pre;induction pre with
 |nil=>
  intro post bs a W W' _ oS pC hx qT qH hB h;obtain⟨o,ho,h⟩:=h;obtain rfl:o=oj:=fG.inj (ho.symm.trans hj);rcases h with⟨hn,_⟩|⟨_,h⟩
  ·rw[hn]at pC;cases pC
  ·rcases h with⟨h0,_⟩|⟨h0,_⟩|⟨h0,_⟩|⟨h0,mk',ob',hr,h⟩|⟨h0,_⟩
   ·omega
   ·omega
   ·omega
   ·obtain⟨w,hw⟩:=VJ b W;have e:=(oS w).symm.trans (hr w);simp only[Result.ok.injEq,Next.value.injEq,hw]at e;obtain⟨e1,e2⟩:=e;have e3:=VK e2;subst e3;rw[e1];exact h b W' hx qT qH hB
   ·omega
 |cons i pre ih=>
  intro post bs a W W' pA oS pC hx qT qH hB h;obtain⟨o,ho,h⟩:=h;have pZ:=pA i aD o ho;obtain⟨h1,h2,h3⟩:=Oper.apart_spec pZ;have qE:∀i∈pre,∀oi,ops[i]? =some oi->oi.apart ops oj=true:=fun x hx=>pA x (by simp[hx]);have hw:Region.wanted o (yielded ops (a.put oj.dst (mk b)).tmps)=Region.wanted o (yielded ops a.tmps):=wanted_put o a oj.dst (mk b) h3;have he:execOp (a.put oj.dst (mk b)).eval o=execOp a.eval o:=execOp_put o (fun cs b=>pH i o cs b ho) a oj.dst (mk b) h3;have go:∀v bs' W1 W2,Ext W1 W2->W2.heap[b]? =some ob->b∉bs'->wpF P ops kd ta B T (pre++j::post) bs' (a.put o.dst v) W1->wpF P ops kd ta B T (pre++post) (b::bs') ((a.put oj.dst (mk b)).put o.dst v) W2:=fun v bs' W1 W2 wS a0c wT hh=>by
   have:=ih post bs' (a.put o.dst v) W1 W2 qE (fun w=>by rw[execOp_put oj (fun cs b=>pH j oj cs b hj) a o.dst v h1];exact oS w) (by rw[wanted_put oj a o.dst v h1];exact pC) wS a0c wT hB hh
   rwa[Act.put_comm a v (mk b) h2]at this
  refine⟨o,ho,?_⟩;rw[hw,he];rcases h with⟨hn,h⟩|⟨hn,h⟩
  ·exact .inl ⟨hn,go _ _ _ _ hx qT qH h⟩
  ·refine .inr ⟨hn,?_⟩;rcases h with⟨h0,v,hv,h⟩|⟨h0,v,hv,h⟩|⟨h0,V,hc,h⟩|⟨h0,mk',ob',hr,h⟩|⟨h0,v,ob',qJ,hv,h⟩
   ·exact .inl ⟨h0,v,hv,go _ _ _ _ hx qT qH h⟩
   ·exact .inr (.inl ⟨h0,v,fun w hw=>hv w (hx.trans hw),go _ _ _ _ hx qT qH h⟩)
   ·refine .inr (.inr (.inl ⟨h0,V,fun w hw=>by have:=hc w (hx.trans hw);unfold Stp at this⊢;rw[he];exact this,fun v cs W2 qQ hV pM=> ?_⟩));have hn:b∉cs++bs:=fun hm=>by
     rcases bC.1 hm with hm|hm
     ·exact(pM b hm).2 aD
     ·exact qH hm
    have:=go v (cs++bs) W2 W2 (Ext.refl _) (qQ.block qT) hn (h v cs W2 (hx.trans qQ) hV fun c hc=>⟨(pM c hc).1,fun hm=>(pM c hc).2 (by simp[hm])⟩);exact CM _ _ _ _ _ (by intro x hx;simp only[aX,bC]at hx⊢;rcases hx with h|h|h<;>simp[h]) this
   ·refine .inr (.inr (.inr (.inl ⟨h0,mk',ob',hr,fun b' W2 qQ a0c wT sN=> ?_⟩)));simp only[aX,not_or]at wT;have:=go (mk' b') (b'::bs) W2 W2 (Ext.refl _) (qQ.block qT) (by simp only[aX,not_or];exact⟨fun e=>wT.1 e.symm,qH⟩) (h b' W2 (hx.trans qQ) a0c wT.2 sN);exact CM _ _ _ _ _ (by intro x hx;simp only[aX]at hx⊢;rcases hx with h|h|h<;>simp[h]) this
   ·exact .inr (.inr (.inr (.inr ⟨h0,v,ob',hx.block qJ,hv,go _ _ _ _ hx qT qH h⟩)))
end
open Go.RowKit
def Wi (acc:List Nat) (o:Oper):Nat:=o.after.toList.foldl (fun s e=>if Region.binds .any e then s|||(1<<<e.on)|||acc.getD e.on 0 else s) 0
def Cc:List Oper->List Nat->List Nat
 |[],acc=>acc
 |o::l,acc=>Cc l (acc++[Wi acc o])
def VM:∀(l:List Oper) (acc:List Nat),(∃r,Cc l acc=acc++r)/\∀m o,l[m]? =some o->(Cc l acc).getD (acc.length+m) 0=Wi ((Cc l acc).take (acc.length+m)) o:=by
 intro l;induction l with
 |nil=>intro acc;exact⟨⟨[],by simp[Cc]⟩,fun m o h=>by simp at h⟩
 |cons x l ih=>
  intro acc;obtain⟨⟨r,hr⟩,ih2⟩:=ih (acc++[Wi acc x]);refine⟨⟨Wi acc x::r,by simp only[Cc];rw[hr];simp⟩,?_⟩;intro m o hm;simp only[Cc];cases m with
  |zero=>
   simp at hm;subst hm;rw[hr];simp[aK]
  |succ m=>
   simp at hm;have:=ih2 m o hm;simp only[aL,aO,bR,bP]at this;rw[show acc.length+(m+1)=acc.length+1+m from aA];exact this
def VN (i:Nat) (acc:List Nat):∀(es:List Edge) (s:Nat),(es.foldl (fun s e=>if Region.binds .any e then s|||(1<<<e.on)|||acc.getD e.on 0 else s) s).testBit i=true->
  s.testBit i=true\/∃e∈es,Region.binds .any e=true/\(e.on=i\/(acc.getD e.on 0).testBit i=true):=by
 intro es;induction es with
 |nil=>intro s h;exact .inl h
 |cons e es ih=>
  intro s h;simp only[List.foldl_cons]at h;rcases ih _ h with h'|⟨e',he',h'⟩
  ·by_cases hb:Region.binds .any e=true
   ·simp only[hb,if_true,Nat.testBit_or,cV,Nat.one_shiftLeft,Nat.testBit_two_pow,decide_eq_true_eq]at h';rcases h' with(h'|h')|h'
    ·exact .inl h'
    ·exact .inr ⟨e,aD,hb,.inl h'⟩
    ·exact .inr ⟨e,aD,hb,.inr h'⟩
   ·simp only[hb]at h';exact .inl (by simpa using h')
  ·exact .inr ⟨e',by simp[he'],h'⟩
def VO (ops:Array Oper) {i j:Nat} {o:Oper} (hj:ops[j]? =some o) (h:((Cc ops.toList []).getD j 0).testBit i=true):
  ∃e∈o.after,Region.binds .any e=true/\(e.on=i\/(e.on<j/\((Cc ops.toList []).getD e.on 0).testBit i=true)):=by
 have h2:=(VM ops.toList []).2 j o (by simpa using hj);simp only[bR,bP]at h2;rw[h2]at h;unfold Wi at h;rcases VN i _ _ _ h with h'|⟨e,he,hb,h'⟩
 ·simp at h'
 ·refine⟨e,by simpa using he,hb,?_⟩;rcases h' with h'|h'
  ·exact .inl h'
  ·right;by_cases oV:e.on<j
   ·refine⟨oV,?_⟩;rw[aK,dU oV,<-aK]at h';exact h'
   ·rw[aK,aP (by simp;omega)]at h';simp at h'
def CN (ops:Array Oper) (listed:Array Bool):Prop:=
 ∀k o,ops[k]? =some o->listed.getD k false=true->∀e∈o.after,Region.binds .any e=true->listed.getD e.on false=true
def CO {ops:Array Oper} {listed:Array Bool} (hd:CN ops listed) {i:Nat} (hi:listed.getD i false=false):
  ∀(n j:Nat),j<n->∀o,ops[j]? =some o->((Cc ops.toList []).getD j 0).testBit i=true->∃e∈o.after,Region.binds .any e=true/\listed.getD e.on false=false:=by
 intro n;induction n with
 |zero=>intro j hj;omega
 |succ n ih=>
  intro j hj o ho hb;obtain⟨e,he,wU,h⟩:=VO ops ho hb;rcases h with rfl|⟨oV,h⟩
  ·exact⟨e,he,wU,hi⟩
  ·refine⟨e,he,wU,?_⟩;cases hoe:ops[e.on]? with
   |none=>
    have:¬e.on<ops.size:=fun h'=>by simp[cI h']at hoe
    have:j<ops.size:=(fU.1 ho).1;omega
   |some oe=>
    obtain⟨e',he',a2t,h'⟩:=ih e.on aA oe hoe h;cases hl:listed.getD e.on false with
    |false=>rfl
    |true=>rw[hd _ _ hoe hl e' he' a2t]at h';cases h'
def ac (ops:Array Oper) (i j:Nat):Bool:=match ops[i]?,ops[j]? with|some a,some b=>a.apart ops b|_,_=>false
def frK (k:Nat):Bool:=decide (k<=3)||k==5
def okK (kd tg:Nat->Nat) (i j:Nat):Bool:=
 kd i==0||(kd j==3&&frK (kd i))||((kd i==1||kd i==5)&&frK (kd j))||(kd i==5&&kd j==6&&tg i !=tg j)||(kd i==6&&(kd j==5||kd j==6)&&tg i !=tg j)||(kd i==5&&(kd j==7||kd j==8))||(kd i==6&&kd j==7)||(kd i==7&&(kd j==0||kd j==5||kd j==6||kd j==7))||(kd j==0&&frK (kd i))||(kd i==9&&(kd j==0||kd j==9||kd j==10))
def okP (ops:Array Oper) (A:List Nat) (kd tg:Nat->Nat) (i j:Nat):Bool:=
 (A.getD j 0).testBit i||(ac ops i j&&okK kd tg i j)
def okL (ops:Array Oper) (A:List Nat) (kd tg:Nat->Nat):List Nat->Bool
 |[]=>true
 |i::L=>(L.all fun j=>okP ops A kd tg i j)&&okL ops A kd tg L
def Lin (ops:Array Oper):Array Bool->List Nat->Prop
 |_,[]=>True
 |listed,i::L=>i∈Region.ready .any ops listed/\Lin ops (listed.setIfInBounds i true) L
def Wj (ops:Array Oper):Array Bool->List Nat->Bool
 |listed,[]=>listed.all id
 |listed,i::L=>(!listed.getD i true)&&((ops[i]?).map (fun o=>o.after.all fun e=> !Region.binds .any e||listed.getD e.on false)).getD false&&Wj ops (listed.setIfInBounds i true) L
def VP (ops:Array Oper):∀(L:List Nat) (listed:Array Bool),listed.size=ops.size->Wj ops listed L=true->Lin ops listed L/\∀i,i<ops.size->listed.getD i true=false->i∈L:=by
 intro L;induction L with
 |nil=>
  intro listed hs h;refine⟨trivial,fun i hi hl=> ?_⟩;simp only[Wj,Array.all_eq_true]at h;have h1:=h i aA;rw[bX,cI aA]at hl;simp at hl h1;rw[hl]at h1;cases h1
 |cons i L ih=>
  intro listed hs h;simp only[Wj,aT]at h;obtain⟨⟨h1,h2⟩,h3⟩:=h;obtain⟨ih1,ih2⟩:=ih (listed.setIfInBounds i true) (by simpa using hs) h3;refine⟨⟨?_,ih1⟩,fun k hk hl=> ?_⟩
  ·unfold Region.ready;rw[dJ,bH];cases ho:ops[i]? with
   |none=>simp[ho]at h2
   |some o=>
    refine⟨(fU.1 ho).1,?_⟩;simp only[ho]at h2;simp only[aT];exact⟨h1,by simpa using h2⟩
  ·by_cases hki:i=k
   ·simp[hki]
   ·exact dR _ (ih2 k hk (by rw[getD_set_ne true hki];exact hl))
def Lin.unlisted {ops:Array Oper}:∀{L:List Nat} {listed:Array Bool},Lin ops listed L->∀x∈L,listed.getD x true=false:=by
 intro L;induction L with
 |nil=>intro listed _ x hx;cases hx
 |cons i L ih=>
  intro listed h x hx;obtain⟨h1,h2⟩:=h;have hi:=(mem_ready.1 h1).1;rcases aX.1 hx with rfl|hx
  ·exact hi
  ·have:=ih h2 x hx;by_cases wV:i=x
   ·subst wV;exact hi
   ·rwa[getD_set_ne true wV]at this
def CP {listed:Array Bool} {i:Nat} (h:listed.getD i true=false):(listed.setIfInBounds i true).getD i true=true:=by
 have oV:i<listed.size:=by
  rcases eB i listed.size with h'|h'
  ·exact h'
  ·simp[hG h']at h
 simp[oV]
def Lin.remove {ops:Array Oper} {j:Nat}:∀{pre post:List Nat} {listed:Array Bool},Lin ops listed (pre++j::post)->j∈Region.ready .any ops listed->Lin ops (listed.setIfInBounds j true) (pre++post):=by
 intro pre;induction pre with
 |nil=>intro post listed h _;exact h.2
 |cons i pre ih=>
  intro post listed h hj;obtain⟨h1,h2⟩:=h;have pI:i≠j:=fun e=>by
   subst e;have:=h2.unlisted i aD;rw[CP (mem_ready.1 h1).1]at this;cases this
  have h3:=ih h2 (ready_mono hj (Ne.symm pI));refine⟨ready_mono h1 pI,?_⟩;rw[Array.setIfInBounds_comm _ _ (Ne.symm pI)];exact h3
structure Good (ops:Array Oper) (kd tg:Nat->Nat) (listed:Array Bool) (L:List Nat):Prop where
 size:listed.size=ops.size
 lin:Lin ops listed L
 cover:∀i,i<ops.size->listed.getD i true=false->i∈L
 down:CN ops listed
 pw:L.Pairwise fun i j=>okP ops (Cc ops.toList []) kd tg i j=true
def CQ {listed:Array Bool} {i:Nat} (h:listed.getD i true=false):listed.getD i false=false:=by
 rcases eB i listed.size with h'|h'
 ·simp[h']at h⊢;exact h
 ·simp[hG h']at h
def Good.remove {ops:Array Oper} {kd tg:Nat->Nat} {listed:Array Bool} {pre post:List Nat} {j:Nat} (g:Good ops kd tg listed (pre++j::post)) (hj:j∈Region.ready .any ops listed):Good ops kd tg (listed.setIfInBounds j true) (pre++post):=by
 refine⟨by simpa using g.size,g.lin.remove hj,fun i hi hl=> ?_,fun k o hk hl e he hb=> ?_,?_⟩
 ·by_cases uQ:j=i
  ·subst uQ;rw[CP (mem_ready.1 hj).1]at hl;cases hl
  ·rw[getD_set_ne true uQ]at hl;have:=g.cover i hi hl;simp only[bC,aX]at this⊢;rcases this with h|h|h
   ·exact .inl h
   ·exact absurd h.symm uQ
   ·exact .inr h
 ·by_cases uC:j=k
  ·subst uC;obtain⟨_,o',xX,qM⟩:=mem_ready.1 hj;obtain rfl:o'=o:=fG.inj (xX.symm.trans hk);exact getD_set_true (qM e he hb)
  ·rw[getD_set_ne false uC]at hl;exact getD_set_true (g.down k o hk hl e he hb)
 ·have:=g.pw;rw[lQ]at this⊢;obtain⟨h1,h2,h3⟩:=this;exact⟨h1,(iY.1 h2).2,fun a ha b hb=>h3 a ha b (by simp[hb])⟩
def Good.ahead {ops:Array Oper} {kd tg:Nat->Nat} {listed:Array Bool} {pre post:List Nat} {j:Nat} (g:Good ops kd tg listed (pre++j::post)) (hj:j∈Region.ready .any ops listed):
  ∀i∈pre,ac ops i j=true/\okK kd tg i j=true:=by
 intro i hi;have h:=(lQ.1 g.pw).2.2 i hi j aD;obtain⟨sC,oj,qU,qM⟩:=mem_ready.1 hj;unfold okP at h;rw[cV]at h;rcases h with h|h
 ·exfalso;have yR:=CQ (g.lin.unlisted i (by simp[hi]));obtain⟨e,he,hb,hf⟩:=CO g.down yR (j+1) j aA oj qU h;rw[qM e he hb]at hf;cases hf
 ·exact Bool.and_eq_true_iff.1 h
def ae {kd tg:Nat->Nat} {i j:Nat} (h:okK kd tg i j=true):kd i=0\/(kd j=3/\(kd i<=3\/kd i=5))\/((kd i=1\/kd i=5)/\(kd j<=3\/kd j=5))\/(kd i=5/\kd j=6/\tg i≠tg j)\/(kd i=6/\(kd j=5\/kd j=6)/\tg i≠tg j)\/(kd i=5/\(kd j=7\/kd j=8))\/(kd i=6/\kd j=7)\/(kd i=7/\(kd j=0\/kd j=5\/kd j=6\/kd j=7))\/(kd j=0/\(kd i<=3\/kd i=5))\/(kd i=9/\(kd j=0\/kd j=9\/kd j=10)):=by
 simp only[okK,frK,aT,cV,beq_iff_eq,decide_eq_true_eq,bne_iff_ne]at h;rcases h with((((((((h|h)|h)|h)|h)|h)|h)|h)|h)|h
 ·exact .inl h
 ·exact .inr (.inl h)
 ·exact .inr (.inr (.inl h))
 ·exact .inr (.inr (.inr (.inl ⟨h.1.1,h.1.2,h.2⟩)))
 ·exact .inr (.inr (.inr (.inr (.inl ⟨h.1.1,h.1.2,h.2⟩))))
 ·exact .inr (.inr (.inr (.inr (.inr (.inl h)))))
 ·exact .inr (.inr (.inr (.inr (.inr (.inr (.inl h))))))
 ·exact .inr (.inr (.inr (.inr (.inr (.inr (.inr (.inl ⟨h.1,aA⟩)))))))
 ·exact .inr (.inr (.inr (.inr (.inr (.inr (.inr (.inr (.inl h))))))))
 ·exact .inr (.inr (.inr (.inr (.inr (.inr (.inr (.inr (.inr ⟨h.1,aA⟩))))))))
def Wl {ops:Array Oper} {i j:Nat} {oj:Oper} (hj:ops[j]? =some oj) (h:ac ops i j=true):∀oi,ops[i]? =some oi->oi.apart ops oj=true:=by
 intro oi hi;unfold ac at h;simpa[hi,hj]using h
section
variable {ro:Option Nat} {rm:Nat} {P:Program} {X:Value->World->Prop} {df:List Deferred} {ops:Array Oper} {kd tg ta:Nat->Nat} {B:Nat} {Q:Exit->Act->World->Prop}
def VQ (w:World) {g k:Nat} (a b:Array Value) (h:g≠k):(w.setRow g a).setRow k b=(w.setRow k b).setRow g a:=by
 unfold World.setRow;congr 1;apply Array.ext
 ·simp
 ·intro i h1 h2;simp only[Array.getElem_modify];by_cases e1:k=i
  ·subst e1;simp[h]
  ·simp[e1]
def VR {Q:Act->World->Prop} {j:Nat} {oj:Oper} (hj:ops[j]? =some oj) (pH:∀(i:Nat) (o:Oper) cs b,ops[i]? =some o->o.op≠ .select cs b) (uC:kd j=4\/kd j=8\/kd j=10):∀(pre post:List Nat) (a:Act) (w:World),
  (∀i∈pre,(kd i=0\/(kd i=5/\kd j=8)\/(kd i=9/\kd j=10))/\∀oi,ops[i]? =some oi->oi.apart ops oj=true)->wpT P X ops kd ta Q (pre++j::post) a w->
  OpX P X ops oj a w fun u w'=>(kd j=8->∀m,kd m=5->w'.heap[ta m]? =w.heap[ta m]?)/\(kd j=10->KeepM w w')/\wpT P X ops kd ta Q (pre++post) (a.put oj.dst u) w':=by
 intro pre;induction pre with
 |nil=>
  intro post a w _ h;obtain⟨o,ho,h⟩:=h;obtain rfl:o=oj:=fG.inj (ho.symm.trans hj);unfold OpX;rcases h with⟨hn,h⟩|⟨hn,h⟩
  ·rw[if_neg (by simp[hn])];exact⟨fun _ _ _=>rfl,fun _=>KeepM.refl _,h⟩
  ·rw[if_pos hn];rcases h with⟨h0,_⟩|⟨h0,_⟩|⟨h0,_⟩|⟨h0,_⟩|⟨h0,h⟩|⟨h0,_⟩|⟨h0,h⟩|⟨_,_,_,_,h8,_,tP,h⟩
   ·omega
   ·omega
   ·omega
   ·omega
   ·exact h.mono fun v w' ⟨h1,h2⟩=>⟨fun _=>h1,fun e=>aA,h2⟩
   ·omega
   ·exact h.mono fun v w' ⟨h1,h2⟩=>⟨fun e=>aA,fun _=>h1,h2⟩
   ·exact h.mono fun v w' h2=>⟨fun e=>absurd e h8,fun e=>absurd e tP,h2⟩
 |cons i pre ih=>
  intro post a w pA h;obtain⟨o,ho,h⟩:=h;obtain⟨hk,pZ⟩:=pA i aD;have pZ:=pZ o ho;obtain⟨h1,h2,h3⟩:=Oper.apart_spec pZ;have qE:∀i∈pre,(kd i=0\/(kd i=5/\kd j=8)\/(kd i=9/\kd j=10))/\∀oi,ops[i]? =some oi->oi.apart ops oj=true:=fun x hx=>pA x (by simp[hx]);have back:∀v,wpT P X ops kd ta Q (pre++j::post) (a.put o.dst v) w->OpX P X ops oj a w fun u w'=>(kd j=8->∀m,kd m=5->w'.heap[ta m]? =w.heap[ta m]?)/\(kd j=10->KeepM w w')/\wpT P X ops kd ta Q (pre++post) ((a.put oj.dst u).put o.dst v) w':=fun v hv=>by
   have:=(OpX.put (P:=P) (X:=X) pZ (fun cs b=>pH j oj cs b hj)).1 (ih post _ w qE hv);exact this.mono fun u w' hh=>by rw[Act.put_comm a v u h2]at hh;exact hh
  have he:∀u,execOp (a.put oj.dst u).eval o=execOp a.eval o:=fun u=>execOp_put o (fun cs b=>pH i o cs b ho) a oj.dst u h3;rcases h with⟨hn,h⟩|⟨hn,h⟩
  ·exact(back _ h).mono fun u w' hh=>⟨hh.1,hh.2.1,o,ho,.inl ⟨by rw[wanted_put o a oj.dst u h3];exact hn,hh.2.2⟩⟩
  ·have hw:∀u,Region.wanted o (yielded ops (a.put oj.dst u).tmps)=true:=fun u=>by rw[wanted_put o a oj.dst u h3];exact hn
   rcases h with⟨h0,v,hv,h⟩|⟨h0,v,ob,hb,hv,h⟩|⟨h0,_⟩|⟨h0,_⟩|⟨h0,_⟩|⟨h0,v,R,hv,hR,hs,h⟩|⟨h0,_⟩|⟨_,_,_,_,_,_,_,_⟩
   ·exact(back _ h).mono fun u w' hh=>⟨hh.1,hh.2.1,o,ho,.inr ⟨hw u,.inl ⟨h0,v,by rw[he u];exact hv,hh.2.2⟩⟩⟩
   ·have h8:kd j=8:=aA;exact(back _ h).mono fun u w' hh=>⟨hh.1,hh.2.1,o,ho,.inr ⟨hw u,.inr (.inl ⟨h0,v,ob,by rw[hh.1 h8 i h0];exact hb,by rw[he u];exact hv,hh.2.2⟩)⟩⟩
   ·omega
   ·omega
   ·omega
   ·have tP:kd j=10:=aA;exact(back _ h).mono fun u w' hh=>⟨hh.1,hh.2.1,o,ho,.inr ⟨hw u,.inr (.inr (.inr (.inr (.inr (.inl ⟨h0,v,R,by rw[he u];exact hv,hs w w' (hh.2.1 tP) hR,hs,hh.2.2⟩)))))⟩⟩
   ·omega
   ·omega
def VS {Q:Act->World->Prop} {j:Nat} {oj:Oper} (hj:ops[j]? =some oj) (pH:∀(i:Nat) (o:Oper) cs b,ops[i]? =some o->o.op≠ .select cs b):∀(pre post:List Nat) (a:Act) (w:World),
  (∀i∈pre,∀oi,ops[i]? =some oi->oi.apart ops oj=true)->Region.wanted oj (yielded ops a.tmps)=false->wpT P X ops kd ta Q (pre++j::post) a w->wpT P X ops kd ta Q (pre++post) (a.put oj.dst undef) w:=by
 intro pre;induction pre with
 |nil=>
  intro post a w _ hn h;obtain⟨o,ho,h⟩:=h;obtain rfl:o=oj:=fG.inj (ho.symm.trans hj);rcases h with⟨_,h⟩|⟨qR,_⟩
  ·exact h
  ·rw[hn]at qR;cases qR
 |cons i pre ih=>
  intro post a w pZ hn h;obtain⟨o,ho,h⟩:=h;have wP:=pZ i aD o ho;obtain⟨h1,h2,h3⟩:=Oper.apart_spec wP;have wR:∀i∈pre,∀oi,ops[i]? =some oi->oi.apart ops oj=true:=fun x hx=>pZ x (by simp[hx]);have go:∀v w',wpT P X ops kd ta Q (pre++j::post) (a.put o.dst v) w'->wpT P X ops kd ta Q (pre++post) ((a.put oj.dst undef).put o.dst v) w':=fun v w' hh=>by
   have:=ih post (a.put o.dst v) w' wR (by rw[wanted_put oj a o.dst v h1];exact hn) hh
   rwa[Act.put_comm a v undef h2]at this
  refine⟨o,ho,?_⟩;have he:execOp (a.put oj.dst undef).eval o=execOp a.eval o:=execOp_put o (fun cs b=>pH i o cs b ho) a oj.dst undef h3;rw[wanted_put o a oj.dst undef h3,he];rcases h with⟨hn,h⟩|⟨hn,h⟩
  ·exact .inl ⟨hn,go _ _ h⟩
  ·refine .inr ⟨hn,?_⟩;rcases h with⟨h0,v,hv,h⟩|⟨h0,v,ob,hb,hv,h⟩|⟨h0,ob,cs,hb,hv,h⟩|⟨h0,v,R,hv,hR,hs,h⟩|⟨h0,h⟩|⟨h0,v,R,hv,hR,hs,h⟩|⟨h0,h⟩|⟨h0,h5,h6,h7,h8,h9,tP,h⟩
   ·exact .inl ⟨h0,v,hv,go _ _ h⟩
   ·exact .inr (.inl ⟨h0,v,ob,hb,hv,go _ _ h⟩)
   ·exact .inr (.inr (.inl ⟨h0,ob,cs,hb,hv,go _ _ h⟩))
   ·exact .inr (.inr (.inr (.inl ⟨h0,v,R,hv,hR,hs,go _ _ h⟩)))
   ·refine .inr (.inr (.inr (.inr (.inl ⟨h0,?_⟩))));have:=h.mono fun v w' (hh:_/\_)=>And.intro hh.1 (go v w' hh.2);unfold StpX at this⊢;rw[he];exact this
   ·exact .inr (.inr (.inr (.inr (.inr (.inl ⟨h0,v,R,hv,hR,hs,go _ _ h⟩)))))
   ·refine .inr (.inr (.inr (.inr (.inr (.inr (.inl ⟨h0,?_⟩))))));have:=h.mono fun v w' (hh:_/\_)=>And.intro hh.1 (go v w' hh.2);unfold StpX at this⊢;rw[he];exact this
   ·refine .inr (.inr (.inr (.inr (.inr (.inr (.inr ⟨h0,h5,h6,h7,h8,h9,tP,?_⟩))))));have:=h.mono fun v w' hh=>go v w' hh;unfold StpX at this⊢;rw[he];exact this
structure CU (kd ta:Nat->Nat) (kj tj:Nat) (run:World->Result Next) (u:Value) (R:World->Prop) (E:World->World):Prop where
 run:∀w,R w->(run w= .ok (.value u) (E w)\/(run w= .ok .skip (E w)/\u=undef))
 id:kj≠6->∀w,E w=w
 all:kj=0->∀w,R w
 rs:∀w m c,kd m=6->(kj=7\/ta m≠tj)->R (w.setRow (ta m) c)->R w
 es:∀w t c,t≠tj->E (w.setRow t c)=(E w).setRow t c
 ot:∀w t,t≠tj->(E w).heap[t]? =w.heap[t]?
 ef:∀w,E w=w\/(kj=6/\∃c,E w=w.setRow tj c)
def VT {Q:Act->World->Prop} {j:Nat} {oj:Oper} (hj:ops[j]? =some oj) (pH:∀(i:Nat) (o:Oper) cs b,ops[i]? =some o->o.op≠ .select cs b) (uC:kd j=0\/kd j=5\/kd j=6\/kd j=7):∀(pre post:List Nat) (a:Act) (w:World),
  (∀i∈pre,(kd i=0\/(kd i=5/\(kd j=6->ta i≠ta j))\/(kd i=6/\kd j≠0/\(kd j=7\/ta i≠ta j))\/kd i=7\/(kd i=9/\kd j=0))/\∀oi,ops[i]? =some oi->oi.apart ops oj=true)->Region.wanted oj (yielded ops a.tmps)=true->wpT P X ops kd ta Q (pre++j::post) a w->
  ∃u R E,CU kd ta (kd j) (ta j) (fun w=>(execOp a.eval oj).run P w) u R E/\R w/\wpT P X ops kd ta Q (pre++post) (a.put oj.dst u) (E w):=by
 intro pre;induction pre with
 |nil=>
  intro post a w _ hn h;obtain⟨o,ho,h⟩:=h;obtain rfl:o=oj:=fG.inj (ho.symm.trans hj);rcases h with⟨qR,_⟩|⟨_,h⟩
  ·rw[hn]at qR;cases qR
  ·rcases h with⟨h0,v,hv,h⟩|⟨h0,v,ob,hb,hv,h⟩|⟨h0,ob,cs,hb,hv,h⟩|⟨h0,v,R,hv,hR,hs,h⟩|⟨h0,_⟩|⟨h0,_⟩|⟨h0,_⟩|⟨h0,h5,h6,h7,_⟩
   ·exact⟨v,fun _=>True,fun w=>w,⟨fun w _=> .inl (hv w),fun _ _=>rfl,fun _ _=>trivial,fun _ _ _ _ _ _=>trivial,fun _ _ _ _=>rfl,fun _ _ _=>rfl,fun _=> .inl rfl⟩,trivial,h⟩
   ·exact⟨v,fun w=>w.heap[ta j]? =some ob,fun w=>w,⟨fun w hw=> .inl (hv w hw),fun _ _=>rfl,fun h=>aA,fun w m c _ pI hw=>by rw[setRow_other _ _ _ _ (Ne.symm (pI.resolve_left aA))]at hw;exact hw,fun _ _ _ _=>rfl,fun _ _ _=>rfl,fun _=> .inl rfl⟩,hb,h⟩
   ·exact⟨undef,fun w=>w.heap[ta j]? =some ob,fun w=>w.setRow (ta j) cs,⟨fun w hw=> .inr ⟨hv w hw,rfl⟩,fun h=>absurd h0 h,fun h=>aA,fun w m c _ pI hw=>by rw[setRow_other _ _ _ _ (Ne.symm (pI.resolve_left aA))]at hw;exact hw,fun w t c pI=>VQ w c cs pI,fun w t pI=>setRow_other _ _ _ _ pI,fun _=> .inr ⟨h0,cs,rfl⟩⟩,hb,h⟩
   ·exact⟨v,R,fun w=>w,⟨fun w hw=> .inl (hv w hw),fun _ _=>rfl,fun h=>aA,fun w m c hm _ hw=>(hs m c w hm).1 hw,fun _ _ _ _=>rfl,fun _ _ _=>rfl,fun _=> .inl rfl⟩,hR,h⟩
   ·omega
   ·omega
   ·omega
   ·omega
 |cons i pre ih=>
  intro post a w pA hn h;obtain⟨o,ho,h⟩:=h;obtain⟨hk,pZ⟩:=pA i aD;have pZ:=pZ o ho;obtain⟨h1,h2,h3⟩:=Oper.apart_spec pZ;have qE:=fun x (hx:x∈pre)=>pA x (by simp[hx]);have hw:∀u,Region.wanted o (yielded ops (a.put oj.dst u).tmps)=Region.wanted o (yielded ops a.tmps):=fun u=>wanted_put o a oj.dst u h3;have he:∀u,execOp (a.put oj.dst u).eval o=execOp a.eval o:=fun u=>execOp_put o (fun cs b=>pH i o cs b ho) a oj.dst u h3;have back:∀v w',wpT P X ops kd ta Q (pre++j::post) (a.put o.dst v) w'->∃u R E,CU kd ta (kd j) (ta j) (fun w=>(execOp a.eval oj).run P w) u R E/\R w'/\wpT P X ops kd ta Q (pre++post) ((a.put oj.dst u).put o.dst v) (E w'):=fun v w' hh=>by
   obtain⟨u,R,E,hA,hR,qR⟩:=ih post _ w' qE (by rw[wanted_put oj a o.dst v h1];exact hn) hh;rw[execOp_put oj (fun cs b=>pH j oj cs b hj) a o.dst v h1]at hA;rw[Act.put_comm a v u h2]at qR;exact⟨u,R,E,hA,hR,qR⟩
  rcases h with⟨vX,h⟩|⟨vX,h⟩
  ·obtain⟨u,R,E,hA,hR,hh⟩:=back _ _ h;exact⟨u,R,E,hA,hR,o,ho,.inl ⟨by rw[hw];exact vX,hh⟩⟩
  ·rcases h with⟨h0,v,hv,h⟩|⟨h0,v,ob,hb,hv,h⟩|⟨h0,ob,cs,hb,hv,h⟩|⟨h0,v,Ri,hv,hRi,hs,h⟩|⟨h0,_⟩|⟨h0,v,Ri,hv,hRi,hs,h⟩|⟨h0,_⟩|⟨h0,h5,h6,h7,h8,h9,tP,_⟩
   ·obtain⟨u,R,E,hA,hR,hh⟩:=back _ _ h;exact⟨u,R,E,hA,hR,o,ho,.inr ⟨by rw[hw];exact vX,.inl ⟨h0,v,by rw[he u];exact hv,hh⟩⟩⟩
   ·obtain⟨u,R,E,hA,hR,hh⟩:=back _ _ h;have qJ:(E w).heap[ta i]? =some ob:=by
     by_cases h6:kd j=6
     ·have pI:ta i≠ta j:=by
       rcases hk with hk|⟨_,hk⟩|⟨hk,_⟩|hk|⟨hk,_⟩
       ·omega
       ·exact hk h6
       ·omega
       ·omega
       ·omega
      rw[hA.ot w _ pI];exact hb
     ·rw[hA.id h6];exact hb
    exact⟨u,R,E,hA,hR,o,ho,.inr ⟨by rw[hw];exact vX,.inr (.inl ⟨h0,v,ob,qJ,by rw[he u];exact hv,hh⟩)⟩⟩
   ·obtain⟨u,R,E,hA,hR,hh⟩:=back _ _ h;have rM:kd j=7\/ta i≠ta j:=by
     rcases hk with hk|⟨hk,_⟩|⟨_,_,hk⟩|hk|⟨hk,_⟩
     ·omega
     ·omega
     ·exact hk
     ·omega
     ·omega
    refine⟨u,R,E,hA,hA.rs w i cs h0 rM hR,o,ho,.inr ⟨by rw[hw];exact vX,.inr (.inr (.inl ⟨h0,ob,cs,?_,by rw[he u];exact hv,?_⟩))⟩⟩
    ·rcases rM with h7|pI
     ·rw[hA.id aA];exact hb
     ·rw[hA.ot w _ pI];exact hb
    ·rcases rM with h7|pI
     ·rw[hA.id aA]at hh⊢;exact hh
     ·rw[<-hA.es w _ cs pI];exact hh
   ·obtain⟨u,R,E,hA,hR,hh⟩:=back _ _ h;have a2u:Ri (E w):=by
     rcases hA.ef w with e|⟨h6,c,e⟩
     ·rw[e];exact hRi
     ·rw[e];exact(hs j c w h6).2 hRi
    exact⟨u,R,E,hA,hR,o,ho,.inr ⟨by rw[hw];exact vX,.inr (.inr (.inr (.inl ⟨h0,v,Ri,by rw[he u];exact hv,a2u,hs,hh⟩)))⟩⟩
   ·omega
   ·obtain⟨u,R,E,hA,hR,hh⟩:=back _ _ h;exact⟨u,R,E,hA,hR,o,ho,.inr ⟨by rw[hw];exact vX,.inr (.inr (.inr (.inr (.inr (.inl ⟨h0,v,Ri,by rw[he u];exact hv,by rw[hA.id aA];exact hRi,hs,hh⟩)))))⟩⟩
   ·omega
   ·omega
def VU {Q:Act->World->Prop} {j:Nat} {oj:Oper} (hj:ops[j]? =some oj) (pH:∀(i:Nat) (o:Oper) cs b,ops[i]? =some o->o.op≠ .select cs b) (uC:kd j=9):∀(pre post:List Nat) (a:Act) (w:World),
  (∀i∈pre,(kd i=0\/kd i=9)/\∀oi,ops[i]? =some oi->oi.apart ops oj=true)->Region.wanted oj (yielded ops a.tmps)=true->wpT P X ops kd ta Q (pre++j::post) a w->
  ∃u,(execOp a.eval oj).run P w= .ok (.value u) w/\wpT P X ops kd ta Q (pre++post) (a.put oj.dst u) w:=by
 intro pre;induction pre with
 |nil=>
  intro post a w _ hn h;obtain⟨o,ho,h⟩:=h;obtain rfl:o=oj:=fG.inj (ho.symm.trans hj);rcases h with⟨qR,_⟩|⟨_,h⟩
  ·rw[hn]at qR;cases qR
  ·rcases h with⟨h0,_⟩|⟨h0,_⟩|⟨h0,_⟩|⟨h0,_⟩|⟨h0,_⟩|⟨h0,v,R,hv,hR,hs,h⟩|⟨h0,_⟩|⟨_,_,_,_,_,h9,_⟩
   ·omega
   ·omega
   ·omega
   ·omega
   ·omega
   ·exact⟨v,hv w hR,h⟩
   ·omega
   ·omega
 |cons i pre ih=>
  intro post a w pA hn h;obtain⟨o,ho,h⟩:=h;obtain⟨hk,pZ⟩:=pA i aD;have pZ:=pZ o ho;obtain⟨h1,h2,h3⟩:=Oper.apart_spec pZ;have qE:=fun x (hx:x∈pre)=>pA x (by simp[hx]);have hw:∀u,Region.wanted o (yielded ops (a.put oj.dst u).tmps)=Region.wanted o (yielded ops a.tmps):=fun u=>wanted_put o a oj.dst u h3;have he:∀u,execOp (a.put oj.dst u).eval o=execOp a.eval o:=fun u=>execOp_put o (fun cs b=>pH i o cs b ho) a oj.dst u h3;have back:∀v,wpT P X ops kd ta Q (pre++j::post) (a.put o.dst v) w->∃u,(execOp a.eval oj).run P w= .ok (.value u) w/\wpT P X ops kd ta Q (pre++post) ((a.put oj.dst u).put o.dst v) w:=fun v hh=>by
   obtain⟨u,hA,qR⟩:=ih post _ w qE (by rw[wanted_put oj a o.dst v h1];exact hn) hh;rw[execOp_put oj (fun cs b=>pH j oj cs b hj) a o.dst v h1]at hA;rw[Act.put_comm a v u h2]at qR;exact⟨u,hA,qR⟩
  rcases h with⟨vX,h⟩|⟨vX,h⟩
  ·obtain⟨u,hA,hh⟩:=back _ h;exact⟨u,hA,o,ho,.inl ⟨by rw[hw];exact vX,hh⟩⟩
  ·rcases h with⟨h0,v,hv,h⟩|⟨h0,_⟩|⟨h0,_⟩|⟨h0,_⟩|⟨h0,_⟩|⟨h0,v,R,hv,hR,hs,h⟩|⟨h0,_⟩|⟨h0,_,_,_,_,h9,_⟩
   ·obtain⟨u,hA,hh⟩:=back _ h;exact⟨u,hA,o,ho,.inr ⟨by rw[hw];exact vX,.inl ⟨h0,v,by rw[he u];exact hv,hh⟩⟩⟩
   ·omega
   ·omega
   ·omega
   ·omega
   ·obtain⟨u,hA,hh⟩:=back _ h;exact⟨u,hA,o,ho,.inr ⟨by rw[hw];exact vX,.inr (.inr (.inr (.inr (.inr (.inl ⟨h0,v,R,by rw[he u];exact hv,hR,hs,hh⟩)))))⟩⟩
   ·omega
   ·omega
def VV {Q:Act->World->Prop} {T:List Nat}:∀(F bs:List Nat) (a:Act) (w:World),(∀i∈F,kd i=0\/kd i=5)->wpF P ops kd ta B (wpT P X ops kd ta Q T) F bs a w->wpT P X ops kd ta Q (F++T) a w:=by
 intro F;induction F with
 |nil=>intro bs a w _ h;exact h w (Ext.refl _)
 |cons i F ih=>
  intro bs a w hk h;obtain⟨o,ho,h⟩:=h;have h0:=hk i aD;have pW:∀i∈F,kd i=0\/kd i=5:=fun x hx=>hk x (by simp[hx]);refine⟨o,ho,?_⟩;rcases h with⟨hn,h⟩|⟨hn,h⟩
  ·exact .inl ⟨hn,ih _ _ _ pW h⟩
  ·refine .inr ⟨hn,?_⟩;rcases h with⟨h0',v,hv,h⟩|⟨h0',_⟩|⟨h0',_⟩|⟨h0',_⟩|⟨h0',v,ob,hb,hv,h⟩
   ·exact .inl ⟨h0',v,hv,ih _ _ _ pW h⟩
   ·omega
   ·omega
   ·omega
   ·exact .inr (.inl ⟨h0',v,ob,hb,hv,ih _ _ _ pW h⟩)
def nc {j:Nat} {L:List Nat} (h:j∈L):∃pre post,L=pre++j::post:=List.append_of_mem h
def CV {listed:Array Bool} {i:Nat} {L:List Nat} (h:Lin ops listed (i::L)):Region.ready .any ops listed≠[]:=fun e=>by
 have:=h.1;rw[e]at this;cases this
def CW (rS:∀i j,(kd i=5\/kd i=6)->(kd j=5\/kd j=6)->tg i≠tg j->ta i≠ta j) (hX:∀x a' w',a'.defers=df->X x w'->Q (.panic [{v:=x,recovered:=false}]) a' w') (pH:∀(i:Nat) (o:Oper) cs b,ops[i]? =some o->o.op≠ .select cs b):∀(n:Nat) (T:List Nat) (listed:Array Bool) (a:Act) (w:World),a.defers=df->T.length=n->Good ops kd tg listed T->(∀i∈T,kd i=0\/kd i=4\/kd i=5\/kd i=6\/kd i=7\/kd i=8\/kd i=9\/kd i=10)->
  wpT P X ops kd ta (Q .normal) T a w->wpAnyIn (Fr ro) rm P .any ops Q n listed a w:=by
 intro n;induction n with
 |zero=>
  intro T listed a w qB hn g hk h;obtain rfl:T=[]:=aV hn;refine⟨?_,h⟩;cases hr:Region.ready .any ops listed with
  |nil=>rfl
  |cons x xs=>
   exfalso;have hx:x∈Region.ready .any ops listed:=by rw[hr];simp
   obtain⟨sC,o,ho,_⟩:=mem_ready.1 hx;have:=g.cover x (fU.1 ho).1 sC;cases this
 |succ n ih=>
  intro T listed a w qB hn g hk h;refine⟨fun hr=> ?_,fun j hj=> ?_⟩
  ·cases T with
   |nil=>simp at hn
   |cons i L=>exact absurd hr (CV g.lin)
  ·obtain⟨sC,oj,qU,_⟩:=mem_ready.1 hj;obtain⟨pre,post,rfl⟩:=nc (g.cover j (fU.1 qU).1 sC);have yS:=g.ahead hj;have pZ:∀i∈pre,∀oi,ops[i]? =some oi->oi.apart ops oj=true:=fun i hi=>Wl qU (yS i hi).1;have uC:=hk j aD;have next:∀u w',wpT P X ops kd ta (Q .normal) (pre++post) (a.put oj.dst u) w'->wpAnyIn (Fr ro) rm P .any ops Q n (listed.setIfInBounds j true) (a.put oj.dst u) w':=fun u w' hh=>ih (pre++post) _ _ _ (by rw[An];exact qB) (by simp at hn⊢;omega) (g.remove hj) (fun i hi=>hk i (by simp at hi⊢;rcases hi with h|h<;>simp[h])) hh;by_cases h4:kd j=4\/kd j=8\/kd j=10
   ·have pA:∀i∈pre,(kd i=0\/(kd i=5/\kd j=8)\/(kd i=9/\kd j=10))/\∀oi,ops[i]? =some oi->oi.apart ops oj=true:=fun i hi=>by
     have h2:=ae (yS i hi).2;have hki:=hk i (by simp[hi]);exact⟨aA,pZ i hi⟩
    exact(VR qU pH h4 pre post a w pA h).wpOpIn qU (fun u w' hh=>next u w' hh.2.2) fun x w' hx=>hX x a w' qB hx
   ·by_cases pC:Region.wanted oj (yielded ops a.tmps)=true
    ·by_cases h9:kd j=9
     ·have pA:∀i∈pre,(kd i=0\/kd i=9)/\∀oi,ops[i]? =some oi->oi.apart ops oj=true:=fun i hi=>by
       have h2:=ae (yS i hi).2;have hki:=hk i (by simp[hi]);exact⟨aA,pZ i hi⟩
      obtain⟨u,hA,hh⟩:=VU qU pH h9 pre post a w pA pC h;have hS:OpS P ops oj a w fun u' w'=>u'=u/\w'=w:=by
       unfold OpS;rw[if_pos pC];unfold Stp;rw[hA];exact⟨rfl,rfl⟩
      refine hS.wpOpIn qU ?_;rintro u' w' ⟨rfl,rfl⟩;exact next _ _ hh
     have pA:∀i∈pre,(kd i=0\/(kd i=5/\(kd j=6->ta i≠ta j))\/(kd i=6/\kd j≠0/\(kd j=7\/ta i≠ta j))\/kd i=7\/(kd i=9/\kd j=0))/\∀oi,ops[i]? =some oi->oi.apart ops oj=true:=fun i hi=>by
      refine⟨?_,pZ i hi⟩;have hki:=hk i (by simp[hi]);rcases ae (yS i hi).2 with h|⟨h,_⟩|⟨h,h'⟩|⟨h,h',pI⟩|⟨h,h',pI⟩|⟨h,h'⟩|⟨h,h'⟩|⟨h,h'⟩|⟨h,h'⟩|⟨h,h'⟩
      ·exact .inl h
      ·omega
      ·exact .inr (.inl ⟨aA,fun e=>aA⟩)
      ·exact .inr (.inl ⟨h,fun _=>rS i j (.inl h) (.inr h') pI⟩)
      ·exact .inr (.inr (.inl ⟨h,aA,.inr (rS i j (.inr h) h' pI)⟩))
      ·exact .inr (.inl ⟨h,fun e=>aA⟩)
      ·exact .inr (.inr (.inl ⟨h,aA,.inl h'⟩))
      ·exact .inr (.inr (.inr (.inl h)))
      ·by_cases h0:kd i=0
       ·exact .inl h0
       ·exact .inr (.inl ⟨aA,fun e=>aA⟩)
      ·exact .inr (.inr (.inr (.inr ⟨h,aA⟩)))
     obtain⟨u,R,E,hA,hR,hh⟩:=VT qU pH aA pre post a w pA pC h;have hS:OpS P ops oj a w fun u' w'=>u'=u/\w'=E w:=by
      unfold OpS;rw[if_pos pC];unfold Stp;rcases hA.run w hR with e|⟨e,e'⟩
      ·rw[show(execOp a.eval oj).run P w=_ from e];exact⟨rfl,rfl⟩
      ·rw[show(execOp a.eval oj).run P w=_ from e];exact⟨e'.symm,rfl⟩
     refine hS.wpOpIn qU ?_;rintro u' w' ⟨rfl,rfl⟩;exact next _ _ hh
    ·have hS:OpS P ops oj a w fun u w'=>u=undef/\w'=w:=by
      unfold OpS;rw[if_neg pC];exact⟨rfl,rfl⟩
     refine hS.wpOpIn qU ?_;rintro u w' ⟨rfl,rfl⟩;exact next _ _ (VS qU pH pre post a _ pZ (by simpa using pC) h)
def CX {T:Act->World->Prop} {j:Nat} {oj:Oper} (qU:ops[j]? =some oj) (pH:∀(i:Nat) (o:Oper) cs b,ops[i]? =some o->o.op≠ .select cs b):∀(pre post bs:List Nat) (a:Act) (w:World),(∀i∈pre,∀oi,ops[i]? =some oi->oi.apart ops oj=true)->Region.wanted oj (yielded ops a.tmps)=false->wpF P ops kd ta B T (pre++j::post) bs a w->wpF P ops kd ta B T (pre++post) bs (a.put oj.dst undef) w:=by
 intro pre;induction pre with
 |nil=>
  intro post bs a w _ hn h;obtain⟨o,ho,h⟩:=h;obtain rfl:o=oj:=fG.inj (ho.symm.trans qU);rcases h with⟨_,h⟩|⟨qR,_⟩
  ·exact h
  ·rw[hn]at qR;cases qR
 |cons i pre ih2=>
  intro post bs a w pZ hn h;obtain⟨o,ho,h⟩:=h;have wP:=pZ i aD o ho;obtain⟨h1,h2,h3⟩:=Oper.apart_spec wP;have wR:∀i∈pre,∀oi,ops[i]? =some oi->oi.apart ops oj=true:=fun x hx=>pZ x (by simp[hx]);have go:∀v bs' W',wpF P ops kd ta B T (pre++j::post) bs' (a.put o.dst v) W'->wpF P ops kd ta B T (pre++post) bs' ((a.put oj.dst undef).put o.dst v) W':=fun v bs' W' hh=>by
   have:=ih2 post bs' (a.put o.dst v) W' wR (by rw[wanted_put oj a o.dst v h1];exact hn) hh
   rwa[Act.put_comm a v undef h2]at this
  refine⟨o,ho,?_⟩;have he:execOp (a.put oj.dst undef).eval o=execOp a.eval o:=execOp_put o (fun cs b=>pH i o cs b ho) a oj.dst undef h3;rw[wanted_put o a oj.dst undef h3,he];rcases h with⟨hn,h⟩|⟨hn,h⟩
  ·exact .inl ⟨hn,go _ _ _ h⟩
  ·refine .inr ⟨hn,?_⟩;rcases h with⟨h0,v,hv,h⟩|⟨h0,v,hv,h⟩|⟨h0,V,hc,h⟩|⟨h0,mk',ob',hr,h⟩|⟨h0,v,ob,hb,hv,h⟩
   ·exact .inl ⟨h0,v,hv,go _ _ _ h⟩
   ·exact .inr (.inl ⟨h0,v,hv,go _ _ _ h⟩)
   ·exact .inr (.inr (.inl ⟨h0,V,fun w hw=>by have:=hc w hw;unfold Stp at this⊢;rw[he];exact this,fun v cs W2 qQ hV pM=>go _ _ _ (h v cs W2 qQ hV pM)⟩))
   ·exact .inr (.inr (.inr (.inl ⟨h0,mk',ob',hr,fun b W2 qQ qT qH hB=>go _ _ _ (h b W2 qQ qT qH hB)⟩)))
   ·exact .inr (.inr (.inr (.inr ⟨h0,v,ob,hb,hv,go _ _ _ h⟩)))
def VW (rS:∀i j,(kd i=5\/kd i=6)->(kd j=5\/kd j=6)->tg i≠tg j->ta i≠ta j) (hX:∀x a' w',a'.defers=df->X x w'->Q (.panic [{v:=x,recovered:=false}]) a' w') (pH:∀(i:Nat) (o:Oper) cs b,ops[i]? =some o->o.op≠ .select cs b):∀(n:Nat) (F T bs:List Nat) (listed:Array Bool) (a:Act) (w:World),a.defers=df->F.length+T.length=n->Good ops kd tg listed (F++T)->(∀i∈F,kd i<=3\/kd i=5)->(∀i∈T,kd i=0\/kd i=4\/kd i=5\/kd i=6\/kd i=7\/kd i=8\/kd i=9\/kd i=10)->(∀i∈F,∀j∈T,((Cc ops.toList []).getD j 0).testBit i=true\/kd i=0\/kd i=5)->
  B<=w.heap.size->(∀b∈bs,b<w.heap.size)->wpF P ops kd ta B (wpT P X ops kd ta (Q .normal) T) F bs a w->wpAnyIn (Fr ro) rm P .any ops Q n listed a w:=by
 intro n;induction n with
 |zero=>
  intro F T bs listed a w qB hn g hkF hkT hFT hB qA h;have hF:F=[]:=aV aA;have hT:T=[]:=aV aA;subst hF;subst hT;exact CW rS hX pH 0 [] listed a w qB rfl g aD (h w (Ext.refl _))
 |succ n ih=>
  intro F T bs listed a w qB hn g hkF hkT hFT hB qA h;refine⟨fun hr=> ?_,fun j hj=> ?_⟩
  ·cases hFT:F++T with
   |nil=>simp at hFT;obtain⟨h1,h2⟩:=hFT;subst h1;subst h2;simp at hn
   |cons i L=>exact absurd hr (CV (by rw[<-hFT];exact g.lin))
  ·obtain⟨sC,oj,qU,_⟩:=mem_ready.1 hj;have rD:=g.cover j (fU.1 qU).1 sC;rcases bC.1 rD with hmF|hmT
   ·obtain⟨pre,post,rfl⟩:=nc hmF;rw[bL,dE]at g;have yS:=g.ahead hj;have uC:=hkF j aD;have vF:=g.remove hj;rw[<-bL]at vF;have wW:∀i∈pre++post,kd i<=3\/kd i=5:=fun i hi=>hkF i (by simp at hi⊢;rcases hi with h|h<;>simp[h]);have wX:∀i∈pre++post,∀j∈T,((Cc ops.toList []).getD j 0).testBit i=true\/kd i=0\/kd i=5:=fun i hi=>hFT i (by simp at hi⊢;rcases hi with h|h<;>simp[h]);have pB:(pre++post).length+T.length=n:=by simp at hn⊢;omega
    by_cases h3:kd j=3
    ·--a new block
     have pZ:∀i∈pre,∀oi,ops[i]? =some oi->oi.apart ops oj=true:=fun i hi=>Wl qU (yS i hi).1;by_cases pC:Region.wanted oj (yielded ops a.tmps)=true
     ·obtain⟨mk,ob,hr⟩:=VG qU pH h3 pre post bs a w pZ hB qA pC h;have hS:OpS P ops oj a w fun u w'=>u=mk w.heap.size/\w'=w.alloc ob:=by
       unfold OpS;rw[if_pos pC];unfold Stp;rw[hr w];exact⟨rfl,rfl⟩
      refine hS.wpOpIn qU ?_;rintro u w' ⟨rfl,rfl⟩;have qI:(w.alloc ob).heap.size=w.heap.size+1:=by show(w.heap.push ob).size=_;simp
      refine ih (pre++post) T (w.heap.size::bs) _ _ _ (by rw[An];exact qB) pB vF wW hkT wX aA ?_ (VL qU pH h3 mk ob w.heap.size pre post bs a w _ pZ hr pC (Ext.alloc w ob) (by show(w.heap.push ob)[w.heap.size]? =_;simp) (fun hm=>jF _ (qA _ hm)) hB h);intro b hb;simp only[aX]at hb;rcases hb with rfl|hb
      ·omega
      ·have:=qA b hb;omega
     ·--not wanted: 'undef'
      have qS:Region.wanted oj (yielded ops a.tmps)=false:=by simpa using pC
      have hS:OpS P ops oj a w fun u w'=>u=undef/\w'=w:=by
       unfold OpS;rw[if_neg pC];exact⟨rfl,rfl⟩
      refine hS.wpOpIn qU ?_;rintro u w' ⟨rfl,rfl⟩;refine ih (pre++post) T bs _ _ _ (by rw[An];exact qB) pB vF wW hkT wX hB qA ?_;exact CX qU pH pre post bs a _ pZ qS h
    ·by_cases zO:kd j=0/\Region.wanted oj (yielded ops a.tmps)=true
     ·obtain⟨zO,pC⟩:=zO;have pZ:∀i∈pre,∀oi,ops[i]? =some oi->oi.apart ops oj=true:=fun i hi=>Wl qU (yS i hi).1;obtain⟨v,hv⟩:=VH qU pH zO pre post bs a w pZ hB qA pC h;have hS:OpS P ops oj a w fun u w'=>u=v/\w'=w:=by
       unfold OpS;rw[if_pos pC];unfold Stp;rw[hv w];exact⟨rfl,rfl⟩
      refine hS.wpOpIn qU ?_;rintro u w' ⟨rfl,rfl⟩;exact ih (pre++post) T bs _ _ _ (by rw[An];exact qB) pB vF wW hkT wX hB qA (VI qU pH zO pre post bs a _ pZ hv pC h)
     by_cases pC:Region.wanted oj (yielded ops a.tmps)=false
     ·have pZ:∀i∈pre,∀oi,ops[i]? =some oi->oi.apart ops oj=true:=fun i hi=>Wl qU (yS i hi).1;have hS:OpS P ops oj a w fun u w'=>u=undef/\w'=w:=by
       unfold OpS;rw[if_neg (by simp[pC])];exact⟨rfl,rfl⟩
      refine hS.wpOpIn qU ?_;rintro u w' ⟨rfl,rfl⟩;exact ih (pre++post) T bs _ _ _ (by rw[An];exact qB) pB vF wW hkT wX hB qA (CX qU pH pre post bs a _ pZ pC h)
     have zO:kd j≠0:=fun e=>zO ⟨e,by simpa using pC⟩;have pA:∀i∈pre,(kd i<=1\/kd i=5)/\∀oi,ops[i]? =some oi->oi.apart ops oj=true:=fun i hi=>by
      obtain⟨h1,h2⟩:=yS i hi;have h2:=ae h2;have hki:=hkF i (by simp[hi]);exact⟨aA,Wl qU h1⟩
     refine(VF qU pH aA pre post bs a w hB qA pA h).wpOpIn qU fun u w' ⟨hx,cs,pM,hh⟩=>ih (pre++post) T (cs++bs) _ _ _ (by rw[An];exact qB) pB vF wW hkT wX (bM hB hx.size) (fun b hb=> ?_) hh;rcases bC.1 hb with hb|hb
     ·exact(pM b hb).2
     ·exact aM (qA b hb) hx.size
   ·obtain⟨pre,post,rfl⟩:=nc hmT;rw[<-bL]at g;have wY:∀i∈F,kd i=0\/kd i=5:=fun i hi=>by
     rcases hFT i hi j aD with hb|h0
     ·exfalso;obtain⟨_,oj',a2v,qM⟩:=mem_ready.1 hj;obtain⟨e,he,wU,hf⟩:=CO g.down (CQ (g.lin.unlisted i (by simp[hi]))) (j+1) j aA oj' a2v hb;rw[qM e he wU]at hf;cases hf
     ·exact h0
    have:=VV F bs a w wY h;exact((CW (P:=P) (Q:=Q) (ro:=ro) (rm:=rm) rS hX pH (n+1) (F++(pre++j::post)) listed a w qB (by simp at hn⊢;omega) (by rw[<-bL];exact g) (fun i hi=>by
     rcases bC.1 hi with h|h
     ·have:=wY i h;omega
     ·exact hkT i h) this).2 j hj)
def Lu (ops:Array Oper) (A:List Nat) (kd tg:Nat->Nat) (F T:List Nat):Bool:=
 Region.noSelect ops&&Wj ops (eZ ops.size false) (F++T)&&okL ops A kd tg (F++T)&&(F.all fun i=>frK (kd i))&&(T.all fun i=>kd i==0||kd i==4||kd i==5||kd i==6||kd i==7||kd i==8||kd i==9||kd i==10)&&
  (F.all fun i=>kd i==0||kd i==5||T.all fun j=>(A.getD j 0).testBit i)&&F.length+T.length==ops.size
def VX {A:List Nat}:∀{L:List Nat},okL ops A kd tg L=true->L.Pairwise fun i j=>okP ops A kd tg i j=true:=by
 intro L;induction L with
 |nil=>intro _;exact mC
 |cons i L ih=>
  intro h;simp only[okL,aT,dC]at h;exact iY.2 ⟨h.1,ih h.2⟩
def CY {F T:List Nat} {a:Act} {w:World} (hB:Lu ops (Cc ops.toList []) kd tg F T=true) (rS:∀i j,(kd i=5\/kd i=6)->(kd j=5\/kd j=6)->tg i≠tg j->ta i≠ta j)
  (hX:∀x a' w',a'.defers=a.defers->X x w'->Q (.panic [{v:=x,recovered:=false}]) a' w')
  (h:wpF P ops kd ta w.heap.size (wpT P X ops kd ta (Q .normal) T) F [] a {w with drawn:=w.drawn+1}):wpAnyIn (Fr ro) rm P .any ops Q ops.size (eZ ops.size false) a {w with drawn:=w.drawn+1}:=by
 simp only[Lu,frK,aT,dC,cV,beq_iff_eq,decide_eq_true_eq]at hB;obtain⟨⟨⟨⟨⟨⟨h1,h2⟩,h3⟩,h4⟩,h5⟩,h6⟩,pB⟩:=hB;obtain⟨hl,hc⟩:=VP ops (F++T) _ aD h2;refine VW rS hX (Region.noSelect_spec h1) ops.size F T [] _ a _ rfl pB ⟨aD,hl,hc,fun k o hk hl=> ?_,VX h3⟩ h4 (fun i hi=>by have:=h5 i hi;omega) (fun i hi j hj=> ?_) (aS _) aD h
 ·have:(eZ ops.size false).getD k false=false:=by
   rw[bX,Array.getElem?_replicate];split<;>rfl
  rw[this]at hl;cases hl
 ·rcases h6 i hi with(h|h)|h
  ·exact .inr (.inl h)
  ·exact .inr (.inr h)
  ·exact .inl (h j hj)
def CZ {id:Nat} {F T:List Nat} {a:Act} {w:World} (hm:P.follows .mixedOrders=true) (hB:Lu ops (Cc ops.toList []) kd tg F T=true) (rS:∀i j,(kd i=5\/kd i=6)->(kd j=5\/kd j=6)->tg i≠tg j->ta i≠ta j)
  (hX:∀x a' w',a'.defers=a.defers->X x w'->Q (.panic [{v:=x,recovered:=false}]) a' w')
  (h:wpF P ops kd ta w.heap.size (wpT P X ops kd ta (Q .normal) T) F [] a {w with drawn:=w.drawn+1}):(Code.region id ops true).wpIn (Fr ro) rm P Q a w:=wpIn_region_any hm (CY hB rS hX h)
def adE (o:Oper) (x:Nat):Oper:={o with after:=o.after.push ⟨x,.data⟩}
def Ae (ops:Array Oper) (y x:Nat):Array Oper:=ops.mapIdx fun i o=>if i=y then adE o x else o
def Pg (ops:Array Oper) (y x i:Nat):(Ae ops y x)[i]? =(ops[i]?).map fun o=>if i=y then adE o x else o:=by unfold Ae;rw[Array.getElem?_mapIdx]
def VY (ops:Array Oper) (y x:Nat):(Ae ops y x).size=ops.size:=by unfold Ae;simp
def nf (ops:Array Oper) (y x:Nat) (t:Array Value):yielded (Ae ops y x) t=yielded ops t:=by
 funext j;unfold yielded;rw[Pg];cases ops[j]? with
 |none=>rfl
 |some o=>
  simp only[cJ,Option.bind_some];by_cases h:j=y
  ·rw[if_pos h];rfl
  ·rw[if_neg h]
def addE_ready {y x i:Nat} {listed:Array Bool}:i∈Region.ready .any (Ae ops y x) listed↔i∈Region.ready .any ops listed/\(i=y->listed.getD x false=true):=by
 rw[mem_ready,mem_ready,Pg];constructor
 ·rintro⟨h1,o',h2,h3⟩;cases ho:ops[i]? with
  |none=>rw[ho]at h2;cases h2
  |some o=>
   rw[ho,cJ,dF]at h2;subst h2;by_cases h:i=y
   ·rw[if_pos h]at h3;exact⟨⟨h1,o,rfl,fun e he=>h3 e (by unfold adE;exact Array.mem_push_of_mem _ he)⟩,fun _=>h3 ⟨x,.data⟩ (by unfold adE;exact Array.mem_push_self) rfl⟩
   ·rw[if_neg h]at h3;exact⟨⟨h1,o,rfl,h3⟩,fun e=>absurd e h⟩
 ·rintro⟨⟨h1,o,h2,h3⟩,h4⟩;refine⟨h1,_,by rw[h2];rfl,fun e he hb=> ?_⟩;by_cases h:i=y
  ·simp only[if_pos h]at he;unfold adE at he;rcases Array.mem_push.1 he with he|rfl
   ·exact h3 e he hb
   ·exact h4 h
  ·simp only[if_neg h]at he;exact h3 e he hb
def Hj (ops:Array Oper):Nat->Array Bool->List Nat->Prop
 |0,_,L=>L=[]
 |n+1,listed,[]=>Region.ready .any ops listed=[]
 |n+1,listed,i::L=>i∈Region.ready .any ops listed/\Hj ops n (listed.setIfInBounds i true) L
def VZ:∀(fuel t:Nat) (listed:Array Bool),Hj ops fuel listed (Region.linearise.go .any ops fuel t listed []):=by
 intro fuel;induction fuel with
 |zero=>intro t listed;simp[Region.linearise.go,Hj]
 |succ fuel ih=>
  intro t listed;simp only[Region.linearise.go];change Hj ops (fuel+1) listed (match(Region.ready .any ops listed)[t%(Region.ready .any ops listed).length]? with
   |some i=>Region.linearise.go .any ops fuel (t/(Region.ready .any ops listed).length) (listed.setIfInBounds i true) [i]
   |none=>[].reverse)
  cases hi:(Region.ready .any ops listed)[t%(Region.ready .any ops listed).length]? with
  |none=>
   show Region.ready .any ops listed=[];cases hr:Region.ready .any ops listed with
   |nil=>rfl
   |cons x xs=>
    rw[hr]at hi;have oV:t%(x::xs).length<(x::xs).length:=cO _ aD;simp at hi;simp at oV;omega
  |some i=>
   simp only[];rw[linearise_go_acc,List.reverse_singleton,List.singleton_append];exact⟨aJ hi,ih _ _⟩
def DC {F:Fence}:∀(fuel:Nat) (L:List Nat) (listed:Array Bool) (a:Act) (w:World),wpAnyIn F rm P .any ops Q fuel listed a w->Hj ops fuel listed L->wpOpsIn F rm P ops Q L a w:=by
 intro fuel;induction fuel with
 |zero=>intro L listed a w h hL;unfold Hj at hL;subst hL;exact h.2
 |succ fuel ih=>
  intro L listed a w h hL;cases L with
  |nil=>exact h.1 hL
  |cons i L=>
   rw[wpOpsIn_cons];exact wpOpIn_mono (fun a w hh=>ih L _ a w hh hL.2) (h.2 i hL.1)
def DD {y x:Nat} {listed:Array Bool} (h:Region.ready .any ops listed=[]):Region.ready .any (Ae ops y x) listed=[]:=
 List.eq_nil_iff_forall_not_mem.2 fun i hi=>by
  have:=(addE_ready.1 hi).1;rw[h]at this;cases this
def DF {y x:Nat}:∀(fuel:Nat) (L:List Nat) (listed:Array Bool),listed.getD x false=true->Hj ops fuel listed L->Hj (Ae ops y x) fuel listed L:=by
 intro fuel;induction fuel with
 |zero=>intro L listed _ h;exact h
 |succ fuel ih=>
  intro L listed hx h;cases L with
  |nil=>exact DD h
  |cons i L=>exact⟨addE_ready.2 ⟨h.1,fun _=>hx⟩,ih L _ (getD_set_true hx) h.2⟩
def DG {listed:Array Bool} {i:Nat} (h:listed.getD i true=false):(listed.setIfInBounds i true).getD i false=true:=by
 have oV:i<listed.size:=by
  rcases eB i listed.size with h'|h'
  ·exact h'
  ·simp[hG h']at h
 simp[oV]
def WA {y x:Nat} (sO:x≠y):∀(fuel:Nat) (L:List Nat) (listed:Array Bool),Hj ops fuel listed L->Hj (Ae ops y x) fuel listed L\/Hj (Ae ops x y) fuel listed L:=by
 intro fuel;induction fuel with
 |zero=>intro L listed h;exact .inl h
 |succ fuel ih=>
  intro L listed h;cases L with
  |nil=>exact .inl (DD h)
  |cons i L=>
   have sC:=(mem_ready.1 h.1).1;by_cases h1:i=x
   ·subst h1;exact .inl ⟨addE_ready.2 ⟨h.1,fun e=>absurd e sO⟩,DF _ _ _ (DG sC) h.2⟩
   ·by_cases h2:i=y
    ·subst h2;exact .inr ⟨addE_ready.2 ⟨h.1,fun e=>absurd e h1⟩,DF _ _ _ (DG sC) h.2⟩
    ·rcases ih L _ h.2 with h3|h3
     ·exact .inl ⟨addE_ready.2 ⟨h.1,fun e=>absurd e h2⟩,h3⟩
     ·exact .inr ⟨addE_ready.2 ⟨h.1,fun e=>absurd e h1⟩,h3⟩
def DI {F:Fence} {y x:Nat}:∀(L:List Nat) (a:Act) (w:World),wpOpsIn F rm P (Ae ops y x) Q L a w->wpOpsIn F rm P ops Q L a w:=by
 intro L;induction L with
 |nil=>intro a w h;exact h
 |cons i L ih=>
  intro a w h;rw[wpOpsIn_cons]at h⊢;have h:=wpOpIn_mono ih h;unfold Go.wpOpIn at h⊢;rw[Pg,nf]at h;cases ho:ops[i]? with
  |none=>rw[ho]at h;exact h
  |some o=>
   rw[ho,cJ]at h;by_cases hi:i=y
   ·simp only[if_pos hi]at h;exact h
   ·simp only[if_neg hi]at h;exact h
def WB {y x:Nat} {Q':Act->World->Prop}:∀(L:List Nat) (a:Act) (w:World),wpT P X ops kd ta Q' L a w->wpT P X (Ae ops y x) kd ta Q' L a w:=by
 intro L;induction L with
 |nil=>intro a w h;exact h
 |cons i L ih=>
  intro a w h;obtain⟨o,ho,h⟩:=h;have key:∀o',(o'=o\/o'=adE o x)->(Ae ops y x)[i]? =some o'->wpT P X (Ae ops y x) kd ta Q' (i::L) a w:=fun o' xX qK=>by
   refine⟨o',qK,?_⟩;rw[nf];have e1:Region.wanted o' (yielded ops a.tmps)=Region.wanted o (yielded ops a.tmps):=by rcases xX with rfl|rfl<;>rfl
   have e2:execOp a.eval o'=execOp a.eval o:=by rcases xX with rfl|rfl<;>rfl
   have e3:o'.dst=o.dst:=by rcases xX with rfl|rfl<;>rfl
   have e4:∀K,StpX P X o' a.eval w K↔StpX P X o a.eval w K:=fun K=>by unfold StpX;rcases xX with rfl|rfl<;>rfl
   rw[e1,e2,e3];rcases h with⟨hn,h⟩|⟨hn,h⟩
   ·exact .inl ⟨hn,ih _ _ h⟩
   ·refine .inr ⟨hn,?_⟩;rcases h with⟨h0,v,hv,h⟩|⟨h0,v,ob,hb,hv,h⟩|⟨h0,ob,cs,hb,hv,h⟩|⟨h0,v,R,hv,hR,hs,h⟩|⟨h0,h⟩|⟨h0,v,R,hv,hR,hs,h⟩|⟨h0,h⟩|⟨h0,h5,h6,h7,h8,h9,tP,h⟩
    ·exact .inl ⟨h0,v,hv,ih _ _ h⟩
    ·exact .inr (.inl ⟨h0,v,ob,hb,hv,ih _ _ h⟩)
    ·exact .inr (.inr (.inl ⟨h0,ob,cs,hb,hv,ih _ _ h⟩))
    ·exact .inr (.inr (.inr (.inl ⟨h0,v,R,hv,hR,hs,ih _ _ h⟩)))
    ·exact .inr (.inr (.inr (.inr (.inl ⟨h0,(e4 _).2 (h.mono fun v w' hh=>⟨hh.1,ih _ _ hh.2⟩)⟩))))
    ·exact .inr (.inr (.inr (.inr (.inr (.inl ⟨h0,v,R,hv,hR,hs,ih _ _ h⟩)))))
    ·exact .inr (.inr (.inr (.inr (.inr (.inr (.inl ⟨h0,(e4 _).2 (h.mono fun v w' hh=>⟨hh.1,ih _ _ hh.2⟩)⟩))))))
    ·exact .inr (.inr (.inr (.inr (.inr (.inr (.inr ⟨h0,h5,h6,h7,h8,h9,tP,(e4 _).2 (h.mono fun v w' hh=>ih _ _ hh)⟩))))))
  by_cases hi:i=y
  ·exact key _ (.inr rfl) (by rw[Pg,ho,cJ,if_pos hi])
  ·exact key _ (.inl rfl) (by rw[Pg,ho,cJ,if_neg hi])
def WC {y x:Nat} {T T':Act->World->Prop} (hT:∀a w,T a w->T' a w):∀(L bs:List Nat) (a:Act) (w:World),wpF P ops kd ta B T L bs a w->wpF P (Ae ops y x) kd ta B T' L bs a w:=by
 intro L;induction L with
 |nil=>intro bs a w h w' hw;exact hT _ _ (h w' hw)
 |cons i L ih=>
  intro bs a w h;obtain⟨o,ho,h⟩:=h;have key:∀o',(o'=o\/o'=adE o x)->(Ae ops y x)[i]? =some o'->wpF P (Ae ops y x) kd ta B T' (i::L) bs a w:=fun o' xX qK=>by
   refine⟨o',qK,?_⟩;rw[nf];have e1:Region.wanted o' (yielded ops a.tmps)=Region.wanted o (yielded ops a.tmps):=by rcases xX with rfl|rfl<;>rfl
   have e2:execOp a.eval o'=execOp a.eval o:=by rcases xX with rfl|rfl<;>rfl
   have e3:o'.dst=o.dst:=by rcases xX with rfl|rfl<;>rfl
   have e4:∀w K,Stp P o' a.eval w K↔Stp P o a.eval w K:=fun w K=>by unfold Stp;rw[e2]
   rw[e1,e2,e3];rcases h with⟨hn,h⟩|⟨hn,h⟩
   ·exact .inl ⟨hn,ih _ _ _ h⟩
   ·refine .inr ⟨hn,?_⟩;rcases h with⟨h0,v,hv,h⟩|⟨h0,v,hv,h⟩|⟨h0,V,hv,h⟩|⟨h0,mk,ob,hv,h⟩|⟨h0,v,ob,hb,hv,h⟩
    ·exact .inl ⟨h0,v,hv,ih _ _ _ h⟩
    ·exact .inr (.inl ⟨h0,v,hv,ih _ _ _ h⟩)
    ·exact .inr (.inr (.inl ⟨h0,V,(fun w hw=>(e4 _ _).2 (hv w hw)),fun v cs W' h1 h2 h3=>ih _ _ _ (h v cs W' h1 h2 h3)⟩))
    ·exact .inr (.inr (.inr (.inl ⟨h0,mk,ob,hv,fun b W' h1 h2 h3 h4=>ih _ _ _ (h b W' h1 h2 h3 h4)⟩)))
    ·exact .inr (.inr (.inr (.inr ⟨h0,v,ob,hb,hv,ih _ _ _ h⟩)))
  by_cases hi:i=y
  ·exact key _ (.inr rfl) (by rw[Pg,ho,cJ,if_pos hi])
  ·exact key _ (.inl rfl) (by rw[Pg,ho,cJ,if_neg hi])
def DJ {y x:Nat} {F T:List Nat} {a:Act} {w:World} (hB:Lu (Ae ops y x) (Cc (Ae ops y x).toList []) kd tg F T=true) (rS:∀i j,(kd i=5\/kd i=6)->(kd j=5\/kd j=6)->tg i≠tg j->ta i≠ta j)
  (hX:∀x a' w',a'.defers=a.defers->X x w'->Q (.panic [{v:=x,recovered:=false}]) a' w')
  (h:wpF P ops kd ta w.heap.size (wpT P X ops kd ta (Q .normal) T) F [] a {w with drawn:=w.drawn+1}):wpAnyIn (Fr ro) rm P .any (Ae ops y x) Q (Ae ops y x).size (eZ (Ae ops y x).size false) a {w with drawn:=w.drawn+1}:=
 CY hB rS hX (WC (fun a w hh=>WB T a w hh) F [] a _ h)
def WE {id x y:Nat} {a:Act} {w:World} (hm:P.follows .mixedOrders=true) (sO:x≠y)
  (h1:wpAnyIn (Fr ro) rm P .any (Ae ops y x) Q (Ae ops y x).size (eZ (Ae ops y x).size false) a {w with drawn:=w.drawn+1})
  (h2:wpAnyIn (Fr ro) rm P .any (Ae ops x y) Q (Ae ops x y).size (eZ (Ae ops x y).size false) a {w with drawn:=w.drawn+1}):(Code.region id ops true).wpIn (Fr ro) rm P Q a w:=
 wpIn_region_draw fun t=>by
  simp only[Region.schedule,hm,Bool.true_or,if_true];rw[VY]at h1 h2;rcases WA sO _ _ _ (VZ (ops:=ops) ops.size t (eZ ops.size false))with h|h
  ·exact DI _ _ _ (DC _ _ _ _ _ h1 h)
  ·exact DI _ _ _ (DC _ _ _ _ _ h2 h)
def WF (hX:∀x a' w',a'.defers=df->X x w'->Q (.panic [{v:=x,recovered:=false}]) a' w'):∀(T:List Nat) (a:Act) (w:World),a.defers=df->wpT P X ops kd ta (Q .normal) T a w->wpOpsIn (Fr ro) rm P ops Q T a w:=by
 intro T;induction T with
 |nil=>intro a w _ h;exact h
 |cons i T ih=>
  intro a w qB h;obtain⟨o,ho,h⟩:=h;rw[wpOpsIn_cons];have hS:OpX P X ops o a w fun u w'=>wpT P X ops kd ta (Q .normal) T (a.put o.dst u) w':=by
   unfold OpX;rcases h with⟨hn,h⟩|⟨hn,h⟩
   ·rw[if_neg (by simp[hn])];exact h
   ·rw[if_pos hn];rcases h with⟨h0,v,hv,h⟩|⟨h0,v,ob,hb,hv,h⟩|⟨h0,ob,cs,hb,hv,h⟩|⟨h0,v,R,hv,hR,hs,h⟩|⟨h0,h⟩|⟨h0,v,R,hv,hR,hs,h⟩|⟨h0,h⟩|⟨_,_,_,_,_,_,_,h⟩
    ·unfold StpX;rw[hv w];exact h
    ·unfold StpX;rw[hv w hb];exact h
    ·unfold StpX;rw[hv w hb];exact h
    ·unfold StpX;rw[hv w hR];exact h
    ·exact h.mono fun v w' hh=>hh.2
    ·unfold StpX;rw[hv w hR];exact h
    ·exact h.mono fun v w' hh=>hh.2
    ·exact h
  exact hS.wpOpIn ho (fun u w' hh=>ih _ _ (by rw[An];exact qB) hh) fun x w' hx=>hX x a w' qB hx
def WG {id:Nat} {a:Act} {w:World} (hX:∀x a' w',a'.defers=a.defers->X x w'->Q (.panic [{v:=x,recovered:=false}]) a' w') (h:wpT P X ops kd ta (Q .normal) (List.range ops.size) a w):(Code.region id ops false).wpIn (Fr ro) rm P Q a w:=by
 refine wpIn_region ?_;exact WF hX _ a w rfl h
end
end Go.RX

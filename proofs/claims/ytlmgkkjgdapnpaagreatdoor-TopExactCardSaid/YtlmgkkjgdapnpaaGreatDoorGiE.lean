/- A closure that catches a panic of its own kind. -/
import Derived.Test.YtlmgkkjgdapnpaaGreatDoorRxK
import Derived.RecoverIn
import Derived.Test.YtlmgkkjgdapnpaaGreatDoorGhG
import Derived.Test.YtlmgkkjgdapnpaaGreatDoorGiD
namespace Go.RX
open Go.RowKit
def c3g (fn:Func) (AT BT BL T E:TypeId) (zc:Value) (pan:Code):Code:=
 .seq (.region 2 #[mkO (opr fn 2 0) (some 10) (.move (.tmp 2)),mkO (opr fn 2 1) (some 11) (.typeAssert (.tmp 10) AT BT true),mkO (opr fn 2 2) (some 9) (.move (.tmp 11)),mkO (opr fn 2 3) (some 12) (.extract (.tmp 9) 0),mkO (opr fn 2 4) (some 13) (.extract (.tmp 9) 1),mkO (opr fn 2 5) (some 3) (.alloc BT),mkO (opr fn 2 6) none (.store BT (.tmp 3) (.tmp 12)),mkO (opr fn 2 7) (some 4) (.assign (.tmp 13))] false)
 (.seq (.seq (.region 3 #[mkO (opr fn 3 0) (some 14) (.move (.tmp 4)),mkO (opr fn 3 1) (some 15) (.unOp .not BL (.tmp 14))] false) (.cond (.tmp 15) pan .skip))
 (.seq (.region 5 #[mkO (opr fn 5 0) (some 5) (.assign (.const zc))] false)
  (.region 6 #[mkO (opr fn 6 0) (some 17) (.move (.tmp 5)),mkO (opr fn 6 1) (some 18) (.fieldAddr BT (.tmp 3) 0),mkO (opr fn 6 2) (some 19) (.load E (.tmp 18)),mkO (opr fn 6 3) none (.store T (.tmp 0) (.tmp 17)),mkO (opr fn 6 4) none (.store E (.tmp 1) (.tmp 19))] true)))
section
variable {P:Program} {f g k:FuncId} {T E AT BT BL:TypeId} {fn gn:Func} {pan:Code} {z x:Value} {e:Int}
def d3l (gn:Func) (BT T E:TypeId):Array Oper:= #[mkO (opr gn 6 0) (some 17) (.move (.tmp 5)),mkO (opr gn 6 1) (some 18) (.fieldAddr BT (.tmp 3) 0),mkO (opr gn 6 2) (some 19) (.load E (.tmp 18)),mkO (opr gn 6 3) none (.store T (.tmp 0) (.tmp 17)),mkO (opr gn 6 4) none (.store E (.tmp 1) (.tmp 19))]
def cgK (i:Nat):Nat:=[0,0,5,6,6].getD i 0
def cgT (i:Nat):Nat:=[0,0,0,1,2].getD i 0
structure d7X (P:Program) (T E BT BL:TypeId) (gn:Func) (z:Value) (e:Int) (x:Value) (AT:TypeId):Prop where
 ifc:∃D u,x= .iface D u
 asr:∀w,(Instr.typeAssert x AT BT true).run P w= .ok (.tuple #[.agg #[.int .i64 e],.bool true]) w
 zB:(P.info? BT).bind (·.zero)=some (.agg #[.int .i64 0])
 hB:a2h P BT=true
 cB:P.cellsOf BT=1
 fB:∀w (k:Nat),(Instr.fieldAt BT (.pointer (some ⟨k,0,none⟩)) 0).run P w= .ok (.pointer (some ⟨k,0,none⟩)) w
 z1:z.cells= #[z]
 zo:a3G z=true
 T1:P.cellsOf T=1
 aT:a0F P T=false
 hT:a2h P T=true
 E1:P.cellsOf E=1
 aE:a0F P E=false
 hE:a2h P E=true
 nb:∀w,(Op.unary .not (.bool true)).run P w= .ok (.bool false) w
 ord:c7u (d3l gn BT T E) (a9t (d3l gn BT T E).toList []) cgK cgT [0,1] [2,3,4]=true
theorem d3m (hm:P.follows .mixedOrders=true) (h:c0B P f g T E AT fn gn (c3g gn AT BT BL T E z pan)) (t:d7X P T E BT BL gn z e x AT):b3I P g T E z x e:=by
 intro b c W hbc hb hc
 rw[t.z1]at hb
 rw[t.z1]
 obtain⟨D,u,hx⟩:=t.ifc
 have hrx:∀w,(binOp .neq AT x .nilIface).run P w= .ok (.bool true) w:=fun w=>by rw[hx];exact run_neq_held_nil w AT D u h.gi
 have hgx:∀a b,eqGuard .neq AT a b x .nilIface=pure ():=fun a b=>by rw[hx];cases a<;>cases b<;>rfl
 clear hx D u
 generalize hp:Value.pointer (some ⟨b,0,none⟩)=p
 generalize hq:Value.pointer (some ⟨c,0,none⟩)=q
 generalize hR:(fun en u' w'=>en=Ending.returned (.tuple #[])/\u'=FrameMode.panicking [{v:=x,recovered:=true}]/\Step ((PH.nil.put b (.cells #[z] T (0,0))).put c (.cells #[.int .i64 0] E (0,0))) W ((PH.nil.put b (.cells #[z] T (0,0))).put c (.cells #[.int .i64 e] E (0,0))) w')=R
 refine callsDIn_of_wpSIn h.gf h.gb trivial fun c₀ cs hu=> ?_
 apply wpSIn_seq
 apply wpSIn_region
 simp[wpOpsSIn,go_sem,recoverD,hu,h.gnt,Exit.thenS,mkO]
 refine wpSIn_of_wpIn rfl ?_
 have hA: #[p,q]++((Array.replicate 18 undef).setIfInBounds 4 x).setIfInBounds 0 x= #[p,q,x,undef,undef,undef,x,undef,undef,undef,undef,undef,undef,undef,undef,undef,undef,undef,undef,undef]:=by
  apply Array.ext';simp[List.replicate]
 rw[hA]
 clear hA
 generalize hQ:(fun e a' w'=>bodyPostS P gn c₀ cs R e a' (_::cs) w')=Q
 apply wpIn_seq
 apply wpIn_region
 show wpOpsIn Fence.wide 0 P #[mkO (opr gn 1 0) (some 7) (.move (.tmp 2)),mkO (opr gn 1 1) (some 8) (.binOp .neq AT (.tmp 7) (.const .nilIface) AT)] _ [0,1] _ W
 refine a1t (o:=mkO (opr gn 1 0) (some 7) (.move (.tmp 2))) (v:=x) rfl rfl (fun c e=>by cases e) rfl ?_
 refine a1t (o:=mkO (opr gn 1 1) (some 8) (.binOp .neq AT (.tmp 7) (.const .nilIface) AT)) (v:= .bool true) (w':=W) rfl rfl (fun c e=>by cases e) ?_ ?_
 ·show(execOp (Act.eval ⟨#[p,q,x,undef,undef,undef,x,x,undef,undef,undef,undef,undef,undef,undef,undef,undef,undef,undef,undef],[]⟩) _).run P W=_
  simp only[execOp,mkO,Sem.run_bind]
  rw[show Act.eval _ (Operand.tmp 7)=x from rfl,show Act.eval _ (Operand.const Value.nilIface)= .nilIface from rfl,hgx,Sem.run_pure,Result.andThen_ok,hrx]
  rfl
 refine wpIn_cond (t:=true) rfl ?_
 show Code.wpIn Fence.wide 0 P (c3g gn AT BT BL T E z pan) _ ⟨#[p,q,x,undef,undef,undef,x,x,.bool true,undef,undef,undef,undef,undef,undef,undef,undef,undef,undef,undef],[]⟩ W
 apply wpIn_seq
 apply wpIn_region
 generalize hQ2:Exit.then _ Q=Q2
 refine a1t (o:=mkO (opr gn 2 0) (some 10) (.move (.tmp 2))) (v:=x) rfl rfl (fun c e=>by cases e) rfl ?_
 refine a1t (o:=mkO (opr gn 2 1) (some 11) (.typeAssert (.tmp 10) AT BT true)) (v:= .tuple #[.agg #[.int .i64 e],.bool true]) (w':=W) rfl rfl (fun c e=>by cases e) ?_ ?_
 ·simp only[execOp,mkO,Sem.run_bind]
  rw[show Act.eval _ (Operand.tmp 10)=x from rfl,t.asr]
  rfl
 refine a1t (o:=mkO (opr gn 2 2) (some 9) (.move (.tmp 11))) (v:= .tuple #[.agg #[.int .i64 e],.bool true]) rfl rfl (fun c e=>by cases e) rfl ?_
 refine a1t (o:=mkO (opr gn 2 3) (some 12) (.extract (.tmp 9) 0)) (v:= .agg #[.int .i64 e]) (w':=W) rfl rfl (fun c e=>by cases e) rfl ?_
 refine a1t (o:=mkO (opr gn 2 4) (some 13) (.extract (.tmp 9) 1)) (v:= .bool true) (w':=W) rfl rfl (fun c e=>by cases e) rfl ?_
 refine a1t (o:=mkO (opr gn 2 5) (some 3) (.alloc BT)) rfl rfl (fun c e=>by cases e) (a5Z t.zB rfl _ _) ?_
 show wpOpsIn Fence.wide 0 P _ Q2 [6,7] ⟨#[p,q,x,.pointer (some ⟨W.heap.size,0,none⟩),undef,undef,x,x,.bool true,.tuple #[.agg #[.int .i64 e],.bool true],x,.tuple #[.agg #[.int .i64 e],.bool true],.agg #[.int .i64 e],.bool true,undef,undef,undef,undef,undef,undef],[]⟩ (W.alloc (.cells #[Value.int .i64 0] BT))
 generalize hW1:W.alloc (.cells #[Value.int .i64 0] BT)=W1
 have hN:W1.heap[W.heap.size]? =some (.cells #[.int .i64 0] BT (0,0)):=by rw[<-hW1];exact World.alloc_heap_new W _
 have hb1:W1.heap[b]? =some (.cells #[z] T (0,0)):=by rw[<-hW1,(Ext.alloc W _).block' (a0y hb)];exact hb
 have hc1:W1.heap[c]? =some (.cells #[.int .i64 0] E (0,0)):=by rw[<-hW1,(Ext.alloc W _).block' (a0y hc)];exact hc
 have hbN:=a0y hb
 have hcN:=a0y hc
 have hE1:Ext W W1:=by rw[<-hW1];exact Ext.alloc W _
 obtain⟨nw,hn⟩:∃nw,nw=W.heap.size:=⟨_,rfl⟩
 rw[<-hn]at hN hbN hcN⊢
 generalize hr:Value.pointer (some ⟨nw,0,none⟩)=r
 refine b0r (o:=mkO (opr gn 2 6) none (.store BT (.tmp 3) (.tmp 12))) (w':=W1.setRow nw #[.int .i64 e]) rfl rfl (fun c e=>by cases e) (a5A (v:= .agg #[.int .i64 e]) rfl t.hB hN hr.symm rfl t.cB.symm t.cB.symm (by intro c hc;simp[Value.cells]at hc;subst hc;rfl)) ?_
 refine a1t (o:=mkO (opr gn 2 7) (some 4) (.assign (.tmp 13))) (v:= .bool true) rfl rfl (fun c e=>by cases e) rfl ?_
 rw[<-hQ2]
 show Code.wpIn Fence.wide 0 P _ Q ⟨#[p,q,x,r,.bool true,undef,x,x,.bool true,.tuple #[.agg #[.int .i64 e],.bool true],x,.tuple #[.agg #[.int .i64 e],.bool true],.agg #[.int .i64 e],.bool true,undef,undef,undef,undef,undef,undef],[]⟩ (W1.setRow nw #[.int .i64 e])
 clear hQ2 Q2
 obtain⟨W2,hW2⟩:∃W2,W2=W1.setRow nw #[.int .i64 e]:=⟨_,rfl⟩
 have hN2:W2.heap[nw]? =some (.cells #[.int .i64 e] BT (0,0)):=by rw[hW2];exact setRow_heap _ _ _ _ _ (0,0) hN
 have hb2:W2.heap[b]? =some (.cells #[z] T (0,0)):=by rw[hW2,setRow_other _ _ _ _ (by omega)];exact hb1
 have hc2:W2.heap[c]? =some (.cells #[.int .i64 0] E (0,0)):=by rw[hW2,setRow_other _ _ _ _ (by omega)];exact hc1
 rw[<-hW2]
 apply wpIn_seq
 apply wpIn_seq
 apply wpIn_region
 generalize hQ3:Exit.then _ _=Q3
 refine a1t (o:=mkO (opr gn 3 0) (some 14) (.move (.tmp 4))) (v:= .bool true) rfl rfl (fun c e=>by cases e) rfl ?_
 refine a1t (o:=mkO (opr gn 3 1) (some 15) (.unOp .not BL (.tmp 14))) (v:= .bool false) (w':=W2) rfl rfl (fun c e=>by cases e) ?_ ?_
 ·simp only[execOp,mkO,Sem.run_bind]
  rw[show Act.eval _ (Operand.tmp 14)= .bool true from rfl,t.nb]
  rfl
 rw[<-hQ3]
 refine wpIn_cond (t:=false) rfl ?_
 simp only[Bool.false_eq_true,if_false]
 refine wpIn_skip ?_
 clear hQ3 Q3
 show Code.wpIn Fence.wide 0 P _ Q ⟨#[p,q,x,r,.bool true,undef,x,x,.bool true,.tuple #[.agg #[.int .i64 e],.bool true],x,.tuple #[.agg #[.int .i64 e],.bool true],.agg #[.int .i64 e],.bool true,.bool true,.bool false,undef,undef,undef,undef],[]⟩ W2
 apply wpIn_seq
 apply wpIn_region
 generalize hQ3:Exit.then _ _=Q3
 refine a1t (o:=mkO (opr gn 5 0) (some 5) (.assign (.const z))) (v:=z) rfl rfl (fun c e=>by cases e) rfl ?_
 rw[<-hQ3]
 show Code.wpIn (Fr none) 0 P (.region 6 (d3l gn BT T E) true) Q ⟨#[p,q,x,r,.bool true,z,x,x,.bool true,.tuple #[.agg #[.int .i64 e],.bool true],x,.tuple #[.agg #[.int .i64 e],.bool true],.agg #[.int .i64 e],.bool true,.bool true,.bool false,undef,undef,undef,undef],[]⟩ W2
 clear hQ3 Q3
 refine a3O (kd:=cgK) (tg:=cgT) (ta:=fun i=>[0,0,nw,b,c].getD i 0) (X:=fun _ _=>False) (F:=[0,1]) (T:=[2,3,4]) hm t.ord ?_ (fun x a w _ h=>h.elim) ?_
 ·have hk:∀i,cgK i=5\/cgK i=6->i=2\/i=3\/i=4:=fun i hi=>by
   match i,hi with
   |0,hi=>simp[cgK]at hi
   |1,hi=>simp[cgK]at hi
   |2,_=>exact .inl rfl
   |3,_=>exact .inr (.inl rfl)
   |4,_=>exact .inr (.inr rfl)
   |n+5,hi=>simp[cgK]at hi
  intro i j hi hj hne
  rcases hk i hi with rfl|rfl|rfl<;>rcases hk j hj with rfl|rfl|rfl<;>first|exact absurd rfl hne|(show _≠_;simp only[List.getD_cons_succ,List.getD_cons_zero];omega)
 refine⟨mkO (opr gn 6 0) (some 17) (.move (.tmp 5)),rfl,.inr ⟨rfl,.inl ⟨rfl,z,fun w=>rfl,?_⟩⟩⟩
 refine⟨mkO (opr gn 6 1) (some 18) (.fieldAddr BT (.tmp 3) 0),rfl,.inr ⟨rfl,.inl ⟨rfl,r,fun w=> ?_,?_⟩⟩⟩
 ·simp only[execOp,mkO,Sem.run_bind]
  rw[show Act.eval _ (Operand.tmp 3)=r from rfl,<-hr,t.fB]
  rfl
 intro w hw
 have hNw:w.heap[nw]? =some (.cells #[.int .i64 e] BT (0,0)):=by rw[hw.block' (a0y hN2)];exact hN2
 have hbw:w.heap[b]? =some (.cells #[z] T (0,0)):=by rw[hw.block' (a0y hb2)];exact hb2
 have hcw:w.heap[c]? =some (.cells #[.int .i64 0] E (0,0)):=by rw[hw.block' (a0y hc2)];exact hc2
 show wpT P _ _ cgK _ _ [2,3,4] ⟨#[p,q,x,r,.bool true,z,x,x,.bool true,.tuple #[.agg #[.int .i64 e],.bool true],x,.tuple #[.agg #[.int .i64 e],.bool true],.agg #[.int .i64 e],.bool true,.bool true,.bool false,undef,z,r,undef],[]⟩ w
 refine⟨mkO (opr gn 6 2) (some 19) (.load E (.tmp 18)),rfl,.inr ⟨rfl,.inr (.inl ⟨rfl,.int .i64 e,_,hNw,fun w' hw'=> ?_,?_⟩)⟩⟩
 ·have h1:=a5e (P:=P) (q:=0) (b:=nw) t.hE hw' (by rw[t.E1];exact Nat.le_refl _) (fun _=>Nat.lt_succ_self 0)
  rw[t.aE]at h1
  simp only[execOp,mkO,Sem.run_bind]
  rw[show Act.eval _ (Operand.tmp 18)=r from rfl,<-hr,h1]
  rfl
 refine⟨mkO (opr gn 6 3) none (.store T (.tmp 0) (.tmp 17)),rfl,.inr ⟨rfl,.inr (.inr (.inl ⟨rfl,_,#[z],hbw,fun w' hw'=> ?_,?_⟩))⟩⟩
 ·have h1:=a5A (P:=P) (ev:=Act.eval ⟨#[p,q,x,r,.bool true,z,x,x,.bool true,.tuple #[.agg #[.int .i64 e],.bool true],x,.tuple #[.agg #[.int .i64 e],.bool true],.agg #[.int .i64 e],.bool true,.bool true,.bool false,undef,z,r,.int .i64 e],[]⟩) (o:=mkO (opr gn 6 3) none (.store T (.tmp 0) (.tmp 17))) (v:=z) rfl t.hT hw' hp.symm rfl t.T1.symm (by rw[t.z1];exact t.T1.symm) (fun c hc=>by rw[t.z1]at hc;simp at hc;subst hc;exact t.zo)
  rw[t.z1]at h1
  exact h1
 have hcw':(w.setRow b #[z]).heap[c]? =some (.cells #[.int .i64 0] E (0,0)):=by rw[setRow_other _ _ _ _ (by omega)];exact hcw
 refine⟨mkO (opr gn 6 4) none (.store E (.tmp 1) (.tmp 19)),rfl,.inr ⟨rfl,.inr (.inr (.inl ⟨rfl,_,#[.int .i64 e],hcw',fun w' hw'=> ?_,?_⟩))⟩⟩
 ·exact a5A (P:=P) (ev:=Act.eval ⟨#[p,q,x,r,.bool true,z,x,x,.bool true,.tuple #[.agg #[.int .i64 e],.bool true],x,.tuple #[.agg #[.int .i64 e],.bool true],.agg #[.int .i64 e],.bool true,.bool true,.bool false,undef,z,r,.int .i64 e],[]⟩) (o:=mkO (opr gn 6 4) none (.store E (.tmp 1) (.tmp 19))) (v:= .int .i64 e) rfl t.hE hw' hq.symm rfl t.E1.symm t.E1.symm (by intro c hc;simp[Value.cells]at hc;subst hc;rfl)
 show Q .normal _ ((w.setRow b #[z]).setRow c #[.int .i64 e])
 have hRR:R (.returned (.tuple #[])) (.panicking [{v:=x,recovered:=true}]) ((w.setRow b #[z]).setRow c #[.int .i64 e]):=by
  rw[<-hR]
  have hkeep:∀i,i≠b->i≠c->i<nw->((w.setRow b #[z]).setRow c #[.int .i64 e]).heap[i]? =W.heap[i]?:=fun i h1 h2 h3=>by
   have h4:i<W.heap.size:=by omega
   have h5:i<W2.heap.size:=by have:=hE1.size;rw[hW2,setRow_size];omega
   rw[setRow_other _ _ _ _ h2,setRow_other _ _ _ _ h1,hw.block' h5]
   show W2.heap[i]? =_
   rw[hW2,setRow_other _ _ _ _ (by omega),hE1.block' h4]
  refine⟨rfl,rfl,⟨hw.os.trans (by rw[hW2];exact hE1.os),hw.tape.trans (by rw[hW2];exact hE1.tape),hw.output.trans (by rw[hW2];exact hE1.output),?_,fun i hi hn=> ?_,fun i o ho=> ?_,fun i hi=> .inl ?_,?_⟩⟩
  ·have h1:=hE1.size
   have h2:=hw.size
   rw[setRow_size,setRow_size]
   have h3:W2.heap.size<=w.heap.size:=h2
   rw[hW2,setRow_size]at h3
   omega
  ·refine hkeep i (fun e=> ?_) (fun e=> ?_) (by omega)
   ·subst e;unfold PH.put at hn;rw[if_neg hbc,if_pos rfl]at hn;cases hn
   ·subst e;unfold PH.put at hn;rw[if_pos rfl]at hn;cases hn
  ·unfold PH.put at ho
   split at ho
   ·rename_i e1;subst e1;cases ho;exact setRow_heap _ _ _ _ _ (0,0) hcw'
   ·split at ho
    ·rename_i e1 e2;subst e2;cases ho;rw[setRow_other _ _ _ _ e1];exact setRow_heap _ _ _ _ _ (0,0) hbw
    ·cases ho
  ·unfold PH.put at hi⊢
   split
   ·intro h;cases h
   ·rename_i e1
    rw[if_neg e1]at hi
    exact hi
  ·have h1:=hE1.dr
   have h2:W2.drawn+1<=w.drawn:=hw.dr
   rw[hW2]at h2
   show W.drawn<=w.drawn
   have h3:W1.drawn+1<=w.drawn:=h2
   omega
 rw[<-hQ]
 cases c₀
 simp[bodyPostS,results,h.gr]
 exact⟨rfl,hRR⟩
end
end Go.RX
/- Ensembles: the closure that catches. -/
namespace Go.Proofs.YtlmgkkjgdapnpaaGreatDoor
open Go.Proofs.Tryz
open Go.RowKit Go.RX Go.GS Go.RZ Go.WD
set_option maxRecDepth 100000
theorem d5U:a6w ((prog.funcs[64]?).getD default).body=c3g ((prog.funcs[64]?).getD default) 20 152 4 43 44 (.slice none 0 0) (.region 4 #[mkO (opr f64 4 0) (some 16) (.move (.tmp 2)),mkO (opr f64 4 1) none (.panic (.tmp 16))] false):=by kernel_rfl
theorem d5V {e:Int}:d7X prog 43 44 152 4 ((prog.funcs[64]?).getD default) (.slice none 0 0) e (d3k e) 20 where
 ifc:=⟨_,_,rfl⟩
 asr:=fun w=>by kernel_rfl
 zB:=by kernel_rfl
 hB:=by kernel_rfl
 cB:=by kernel_rfl
 fB:=fun w k=>by kernel_rfl
 z1:=rfl
 zo:=rfl
 T1:=by kernel_rfl
 aT:=by kernel_rfl
 hT:=by kernel_rfl
 E1:=by kernel_rfl
 aE:=by kernel_rfl
 hE:=by kernel_rfl
 nb:=fun w=>by kernel_rfl
 ord:=by kernel_rfl
theorem d5W {e:Int}:b3I prog 64 43 44 (.slice none 0 0) (d3k e) e:=by
 have h:=d3b
 rw[d5U]at h
 exact d3m mixed h d5V
end Go.Proofs.YtlmgkkjgdapnpaaGreatDoor
/- The law TopExact. -/
namespace Go.Proofs.YtlmgkkjgdapnpaaGreatDoor
open Go.Proofs.Tryz
open Go.RowKit Go.RX Go.GS Go.RZ Go.WD
set_option maxRecDepth 100000
section
variable {H:PH} {n k ms lv who:Nat} {es:List (Nat×Nat)} {us:List Un} {w rw wts u v:Value} {lo hi:Int} {p:List Int} {ρ:List Value}
theorem d3n:rdV prog 43 (Value.slice none 0 0).cells= .slice none 0 0:=by
 have h1:a0F prog 43=false:=by kernel_rfl
 unfold rdV;rw[h1];rfl
theorem c3h (hM:StM H w rw es us) (hS:StOk n k ms lv who es us lo hi) (hms:ms=1) (hlf:a3n us n=false):Con prog 5 [stV n k ms lv who w rw lo hi] H fun r H'=>PH.le H H'/\r= .tuple #[.slice none 0 0,ii 7]:=by
 refine a0b mixed c1P (by kernel_rfl) rfl ?_
 refine a0a (a3D (a0I hM.gr) hM.ro.one) ?_
 refine a0A (cs:=(stC n k ms lv who w rw lo hi).toArray) rfl fun a ha=> ?_
 simp only[cA,nA]
 have la:=PH.le_put ha (.cells (stC n k ms lv who w rw lo hi).toArray 37 (0,0))
 refine a0O (a0z (vs:=[.pointer (some ⟨a,0,none⟩)]) rfl rfl) rfl ?_
 simp only[cA,nA]
 refine a0d (a9i (caps:=[.pointer (some ⟨a,0,none⟩)]) (V:=fun _ _=>False) (XE:=fun e H'=>e=7/\PH.le (H.put a (.cells (stC n k ms lv who w rw lo hi).toArray 37 (0,0))) H') mixed d3b d7W b2G (b6U (PH.put_self _ _ _) (hM.mono la) hS hms hlf) (fun _ _ h=>h.elim) (fun x H' hx=>⟨7,hx.2 ▸ d5W,rfl,hx.1⟩)) rfl ?_
 rintro _ H4 hX
 refine⟨fun h=>(nomatch h),?_⟩
 simp only[cA,nA]
 rcases hX with⟨_,h,_⟩|⟨e,⟨rfl,l4⟩,rfl⟩
 ·exact h.elim
 refine a0a ⟨_,rfl,by simp⟩ ?_
 refine a0a ⟨_,rfl,by simp⟩ ?_
 exact a0c rfl ⟨la.trans l4,by show Value.tuple #[rdV prog 43 (Value.slice none 0 0).cells,ii 7]=_;rw[d3n]⟩
theorem c3i (hM:StM H w rw es us) (hS:StOk n k ms lv who es us lo hi) (hp:0<a2R n k es us lo hi):
  Con prog 5 [stV n k ms lv who w rw lo hi] H fun r H'=>PH.le H H'/\∃t e,r= .tuple #[t,ii e]/\(e=7\/(e=0/\(ms=1->a3n us n=true)/\∃m,SE H' 32 ceM t m/\TalP (vlL n k ms lv who es us lo hi) m)):=by
 by_cases hb:ms=1/\a3n us n=false
 ·exact(c3h hM hS hb.1 hb.2).mono fun r H' ⟨h1,h2⟩=>⟨h1,_,7,h2,.inl rfl⟩
 ·have hz:ms=1->a3n us n=true:=fun e=>by
   cases h:a3n us n with
   |true=>rfl
   |false=>exact absurd ⟨e,h⟩ hb
  exact(b5B hM hS hz hp (b5F hS) (c8J hS hz)).mono fun r H' ⟨h1,t,m,h2,h3,h4⟩=>⟨h1,t,0,h2,.inr ⟨rfl,hz,m,h3,h4⟩⟩
theorem d7Y {x y:SV} (hx:D prog ρ x=stV n k ms lv who w rw lo hi) (hy:D prog ρ y=v):[SV.sub x 0 2 0 noI,.sub x 2 4 0 noI,y,.cell x 6 0 noI,.cell x 9 0 noI,.cell x 10 0 noI,.cell x 11 0 noI].map (D prog ρ)=[gv n w,rov rw,v,ii (k:Nat),ii (ms:Nat),ii (lv:Nat),ii (who:Nat)]:=by
 have h1:∀o m,D prog ρ (.sub x o m 0 noI)= .agg (((stC n k ms lv who w rw lo hi).drop o).take m).toArray:=fun o m=>a3F hx
 have h2:∀o,D prog ρ (.cell x o 0 noI)=(stC n k ms lv who w rw lo hi).getD o undef:=fun o=>a2T hx
 show[D prog ρ (.sub x 0 2 0 noI),D prog ρ (.sub x 2 4 0 noI),D prog ρ y,D prog ρ (.cell x 6 0 noI),D prog ρ (.cell x 9 0 noI),D prog ρ (.cell x 10 0 noI),D prog ρ (.cell x 11 0 noI)]=_
 rw[h1,h1,hy,h2,h2,h2,h2]
 rfl
theorem b0H {o:Oper} {x y:Operand} (r:Rat) (ho:o.op= .binOp .eql 61 x y 61) (hx:a0k [x,y] [shR r,shR r] x=shR r) (hy:a0k [x,y] [shR r,shR r] y=shR r):Yld prog o [shR r,shR r] (.bool true):=fun w=>by
 have hos:o.op.operands.toList=[x,y]:=by simp[ho,Op.operands]
 rw[hos]
 have h1:=run_eql_struct (P:=prog) w 61 (shw r) (shw r)
 have h2:=run_eqGuard_agg (P:=prog) w .eql 61 x y (shw r) (shw r) (by kernel_rfl)
 have h3:(Op.equalIn 10000 61 (.agg (shw r)) (.agg (shw r))).run prog w= .ok true w:=by
  have:=a9n r 9997 w
  rw[a3m]at this
  exact this
 rw[h3]at h1
 simp only[execOp,ho,hx,hy,Sem.run_bind]
 rw[a3m]
 simp only[h2,h1,Result.andThen_ok]
 rfl
theorem d5X {a b:SV} {x:Int} (ha:D prog ρ a=ii x) (hb:D prog ρ b=ii x):D prog ρ (.op2 .neq .i64 a b)= .bool false:=by
 show a2U .neq .i64 (intOf (D prog ρ a)) (intOf (D prog ρ b))=_
 rw[ha,hb]
 show Value.bool (!(x==x))=_
 simp
end
section
variable {H:PH} {a b c s:Value} {ps ls xs:List Nat} {ms:List (Nat×Nat)} {nn kk g p l wa un le mo me lv wh:Nat}
set_option maxHeartbeats 8000000 in
theorem d3o (hT:Tb H) (hD:D21 H a b c ps ls ms) (hs:SE H 1 cU8 s xs) (h8:∀x∈xs,x<256) (hun:un<256) (hle:le<256) (hmo:mo<256):Con prog 3 [b6S nn kk a b c g p l wa s un le mo me lv wh] H fun r H'=>PH.le H H'/\r= .bool true:=by
 refine a0b mixed d5I (by kernel_rfl) rfl ?_
 refine a0a (c2W hD (a0I hs)) ?_
 refine a0d (b6T (nn:=nn) (kk:=kk) (g:=g) (p:=p) (l:=l) (wa:=wa) (me:=me) (lv:=lv) (wh:=wh) hT hD hs h8 hun hle hmo) rfl ?_
 rintro _ H1 ⟨l1,n,k,ms,lv,who,w,rw',u,lo,hi,es,us,p,rfl,hM,hS,hu,hO,hp⟩
 refine⟨fun h=>(nomatch h),?_⟩
 simp only[cA,nA]
 refine a0a ⟨_,rfl,by simp⟩ ?_
 refine a0a ⟨_,rfl,by simp⟩ ?_
 refine a0a (a3D (a0I hM.gr) hM.ro.one) ?_
 refine a0d (c3i hM hS hp) rfl ?_
 rintro _ H2 ⟨l2,t,e,rfl,hE⟩
 refine⟨fun h=>(nomatch h),?_⟩
 simp only[cA,nA]
 refine a0a ⟨_,rfl,by simp⟩ ?_
 refine a0a ⟨_,rfl,by simp⟩ ?_
 refine a0a ⟨_,rfl⟩ ?_
 refine a0f (b:=decide (e≠0)) (bN e 0) (fun he=> ?_) (fun he=> ?_)
 ·replace he:=of_decide_eq_true he
  obtain rfl:e=7:=hE.resolve_right (fun h=>he h.1)
  refine⟨(fun l' K=>K=H2/\l'=[.bool true]),?_,?_⟩
  ·skip
   refine a0e rfl ?_
   refine a0K rfl ?_
   exact⟨rfl,rfl⟩
  rintro _ H2 _ ⟨rfl,rfl⟩
  simp only[cA,nA]
  exact a0c rfl ⟨l1.trans l2,rfl⟩
 ·replace he:=of_decide_eq_false he
  have he0:e=0:=Classical.byContradiction he
  obtain⟨hz,m,hm,hTm⟩:=(hE.resolve_left (by omega)).2
  subst he0
  have hN:=b5F hS
  have hr:=c8J hS hz
  have hro:=c3b (p:=p) hS.rv hS.gv hS.hk (hS.mok hz)
  have hk8:=hS.hk
  have hvl:(vlL n k ms lv who es us lo hi).length=a2R n k es us lo hi:=a3E
  have hne:vlL n k ms lv who es us lo hi≠[]:=fun e=>by rw[e]at hvl;simp at hvl;omega
  refine a0h (c0A (hM.ro.mono l2) hS.rv) (a1R (a3F (l:=stC n k ms lv who w rw' lo hi) rfl)) fun H3 l3=> ?_
  simp only[cA,nA]
  refine a0a ⟨_,rfl,by simp⟩ ?_
  refine a0a ⟨_,rfl,by simp⟩ ?_
  refine⟨(fun l' K=>K=H3/\l'=[.bool false]),?_,?_⟩
  ·skip
   refine a0a ⟨_,rfl⟩ ?_
   refine a0e rfl ?_
   refine a0a ⟨_,rfl⟩ ?_
   refine a0a ⟨_,rfl⟩ ?_
   exact⟨rfl,a1R (d5X rfl (a2T (l:=stC n k ms lv who w rw' lo hi) rfl))⟩
  rintro _ H3 _ ⟨rfl,rfl⟩
  simp only[cA,nA]
  refine a0a ⟨_,rfl⟩ ?_
  refine a0e rfl ?_
  refine a0a (by show(D prog _ (.cell _ 7 0 noI)).cells.size=1/\a0p (D prog _ (.cell _ 7 0 noI)).cells;rw[a2T (l:=stC n k ms lv who w rw' lo hi) rfl];exact el_int.vcells _) ?_
  refine a0a (by show(D prog _ (.cell _ 8 0 noI)).cells.size=1/\a0p (D prog _ (.cell _ 8 0 noI)).cells;rw[a2T (l:=stC n k ms lv who w rw' lo hi) rfl];exact el_int.vcells _) ?_
  refine a0a (by show(D prog _ (.cell _ 6 0 noI)).cells.size=1/\a0p (D prog _ (.cell _ 6 0 noI)).cells;rw[a2T (l:=stC n k ms lv who w rw' lo hi) rfl];exact el_int.vcells _) ?_
  have l13:=(l1.trans l2).trans l3
  have l23:=l2.trans l3
  obtain⟨ul,hwu,hlen,hur⟩:=id (hM.ro.mono l23)
  have hle:=hS.rv.le
  have hn6:=hS.n6
  refine a0a (c2o (lo:=lo) (hi:=hi) (k:=k) (a2T (l:=stC n k ms lv who w rw' lo hi) rfl) (a2T (l:=stC n k ms lv who w rw' lo hi) rfl) (a2T (l:=stC n k ms lv who w rw' lo hi) rfl)) ?_
  obtain⟨u5,hy5,hs5⟩:=b1B a0U (vs:=[rw',ii (n:Nat)]) (k:= .i64) (j:=n) b6K rfl rfl hwu (by omega)
  refine a0l (hy5.rds _) (a0R (a2T (l:=stC n k ms lv who w rw' lo hi) rfl) rfl) ?_
  simp only[cA,nA]
  refine a0j a0U rfl rfl hs5 rfl ?_
  simp only[cA,nA]
  have htl:(ul.take n).length=n:=by rw[List.length_take];omega
  refine a0o (α:=Nat×Value) (fun⟨i,wv⟩=>[ii (i:Nat),bv wv lo hi (k:Nat)]) (fun⟨i,wv⟩=>fun K=>i<=n/\PH.le H3 K/\SO H3 K 3 1 (fun z:Int=>[ii z]) wv (wlU us i)) (fun⟨i,wv⟩=>n-i) ((0,.slice none 0 0)) (a0R rfl (d2X (a2T (l:=stC n k ms lv who w rw' lo hi) rfl) (a2T (l:=stC n k ms lv who w rw' lo hi) rfl) (a2T (l:=stC n k ms lv who w rw' lo hi) rfl))) (⟨Nat.zero_le _,PH.le.refl _,SO.nil _ _ _ _ _⟩) fun⟨i,wv⟩ K hQ=> ?_
  simp only[cA,nA]
  obtain⟨hi1,lK,oK⟩:=hQ
  refine a0a ⟨_,rfl⟩ ?_
  refine a0a ⟨_,rfl⟩ ?_
  refine a0f (b:=decide (((i:Nat):Int)<((ul.take n).length:Nat))) rfl (fun hin=> ?_) (fun hin=> ?_)
  ·replace hin:=of_decide_eq_true hin
   have hin2:i<n:=by omega
   obtain⟨uy,huy,_⟩:=a0t (show i<ul.length by omega)
   obtain⟨ux,hux,_⟩:=a0t (show i<us.length by omega)
   have hpp:=(hur i uy ux huy hux).ppl
   have huy':(ul.take n)[i]? =some uy:=by rw[List.getElem?_take_of_lt hin2];exact huy
   refine a0m a0U rfl rfl rfl rfl (fun _=>rfl) (hs5.mono lK) huy' rfl (fun _=>rfl) fun _=> ?_
   simp only[cA,nA]
   refine a0a (a1O _) ?_
   refine a0P el_int rfl rfl rfl (fun _=>rfl) (fun _=>rfl) lK oK (by unfold wlU;rw[List.length_map,List.length_take];omega) (show _=[ii uy.ppl]from rfl) (fun _=>rfl) rfl fun q2 w3 K3 l3' o3=> ?_
   simp only[cA,nA]
   rw[hpp,<-b0y hux]at o3
   refine a0a (o3.se.one) ?_
   exact⟨(i+1,w3),by show n-(i+1)<n-i;omega,(a0R (a0J rfl (by omega)) (a3s rfl o3.se.cells (a3F (l:=[wv,ii lo,ii hi,ii (k:Nat)]) rfl))),⟨by show i+1<=n;omega,l3',o3⟩⟩
  ·replace hin:=of_decide_eq_false hin
   have hie:i=n:=by omega
   subst hie
   refine a0d (b4S (hM.tb.mono (l23.trans lK)) (hM.gr.mono (l23.trans lK)) hS.gv hn6 oK.se hS.bd) (a0R (a3F (l:=stC i k ms lv who w rw' lo hi) rfl) rfl) ?_
   rintro _ H4 ⟨l4,pv,pm,rfl,hpm,hpl,hpa⟩
   refine⟨fun h=>(nomatch h),?_⟩
   simp only[cA,nA]
   have hpl':pm.length=a2R i k es us lo hi:=hpl
   have l24:=(l23.trans lK).trans l4
   refine a0a ⟨_,rfl,by simp⟩ ?_
   refine a0a ⟨_,rfl,by simp⟩ ?_
   refine a0j a9f rfl rfl hpm rfl ?_
   simp only[cA,nA]
   refine a0o (α:=Nat×Value) (fun⟨j,vv⟩=>[.bool false,vv,ii (j:Nat)]) (fun⟨j,vv⟩=>fun K'=>j<=a2R i k es us lo hi/\PH.le H4 K'/\SO H4 K' 61 16 ceQ vv ((vlL i k ms lv who es us lo hi).take j)) (fun⟨j,vv⟩=>a2R i k es us lo hi-j) ((0,.slice none 0 0)) rfl (⟨Nat.zero_le _,PH.le.refl _,SO.nil _ _ _ _ _⟩) fun⟨j,vv⟩ K4 hQ2=> ?_
   simp only[cA,nA]
   obtain⟨hj1,lK4,oV⟩:=hQ2
   refine a0a ⟨_,rfl⟩ ?_
   refine a0a ⟨_,rfl⟩ ?_
   refine a0f (b:=decide (((j:Nat):Int)<(pm.length:Nat))) rfl (fun hjn=> ?_) (fun hjn=> ?_)
   ·replace hjn:=of_decide_eq_true hjn
    have hjp:j<a2R i k es us lo hi:=by omega
    obtain⟨sp,hsp,_⟩:=a0t (show j<pm.length by omega)
    have l2K:=l24.trans lK4
    refine a0m a9f rfl rfl rfl rfl (fun _=>rfl) (hpm.mono lK4) hsp rfl (fun _=>rfl) fun _=> ?_
    simp only[cA,nA]
    refine a0h (a8r (hM.gr.mono l2K) hS.gv (hM.ro.mono l2K) hS.rv ((hpa j sp hsp).mono lK4) (b0A hjp) hk8 (hS.mok hz)) (d7Y rfl rfl) fun H5 l5=> ?_
    simp only[cA,nA]
    refine a0a ⟨_,rfl,by simp⟩ ?_
    refine a0a ⟨_,rfl,by simp⟩ ?_
    refine a0a (a0s _ _) ?_
    refine a0a ⟨_,rfl⟩ ?_
    refine a0e rfl ?_
    refine a0P a5D rfl rfl rfl (fun _=>rfl) (fun _=>rfl) (lK4.trans l5) (oV.mono l5) (by rw[List.length_take];omega) (show _=[shR (a9m i es us k ms lv who (b2P i k es us lo hi j))]from rfl) (fun _=>rfl) rfl fun q4 v4 K6 l6 o6=> ?_
    simp only[cA,nA]
    rw[<-take_snoc (c2r hjp)]at o6
    exact⟨(j+1,v4),by show a2R i k es us lo hi-(j+1)<a2R i k es us lo hi-j;omega,(b2K rfl rfl (a0J rfl (by omega))),⟨by show j+1<=a2R i k es us lo hi;omega,l6,o6⟩⟩
   ·replace hjn:=of_decide_eq_false hjn
    have hje:j=a2R i k es us lo hi:=by omega
    rw[hje,List.take_of_length_le (by omega)]at oV
    have l2K:=l24.trans lK4
    refine a0d (c6Y oV.se hne (by omega) hr) rfl ?_
    rintro _ H6 ⟨l6,t2,m2,rfl,hm2,hTm2⟩
    refine⟨fun h=>(nomatch h),?_⟩
    simp only[cA,nA]
    obtain rfl:=hTm2.uniq hTm
    have l26:=l2K.trans l6
    refine a0a ⟨_,rfl,by simp⟩ ?_
    refine a0a ⟨_,rfl,by simp⟩ ?_
    refine a0h (a8r (hM.gr.mono l26) hS.gv (hM.ro.mono l26) hS.rv (hu.mono l26) hO.ok hk8 (hS.mok hz)) (d7Y rfl rfl) fun H7 l7=> ?_
    simp only[cA,nA]
    refine a0a ⟨_,rfl,by simp⟩ ?_
    refine a0a ⟨_,rfl,by simp⟩ ?_
    refine a0a (a0s _ _) ?_
    have l37:PH.le H2 H7:=((l3.trans lK).trans (l4.trans lK4)).trans (l6.trans l7)
    refine a0h (b2u (hm.mono l37) hTm (by omega) (by omega) hro) rfl fun H8 l8=> ?_
    simp only[cA,nA]
    refine a0a ⟨_,rfl,by simp⟩ ?_
    refine a0a ⟨_,rfl,by simp⟩ ?_
    refine a0a ⟨_,rfl,by simp⟩ ?_
    refine a0a (a0s _ _) ?_
    refine a0a (a0s _ _) ?_
    have l28:=(l26.trans l7).trans l8
    refine a0d (c7n (hu.mono l28) hO (hM.mono l28) hS hz hp hN hr hro) rfl ?_
    rintro _ H9 ⟨l9,m3,hTm3,rfl⟩
    refine⟨fun h=>(nomatch h),?_⟩
    simp only[cA,nA]
    obtain rfl:=hTm3.uniq hTm
    refine a0a ⟨_,rfl,by simp⟩ ?_
    refine a0a ⟨_,rfl,by simp⟩ ?_
    refine a0a ⟨_,rfl,by simp⟩ ?_
    refine a0a (a0s _ _) ?_
    refine a0a (a0s _ _) ?_
    refine a0d (b5E (gb:=true) (hM.mono (l28.trans l9)) hS hz hp hN hr) rfl ?_
    rintro _ H10 ⟨l10,pl1,rfl⟩
    refine⟨fun h=>(nomatch h),?_⟩
    simp only[cA,nA]
    refine a0a ⟨_,rfl,by simp⟩ ?_
    refine a0a ⟨_,rfl,by simp⟩ ?_
    refine a0a ⟨_,rfl,by simp⟩ ?_
    refine a0a (a0s _ _) ?_
    refine a0d (b5E (gb:=false) (hM.mono ((l28.trans l9).trans l10)) hS hz hp hN hr) rfl ?_
    rintro _ H11 ⟨l11,pl2,rfl⟩
    refine⟨fun h=>(nomatch h),?_⟩
    simp only[cA,nA]
    refine a0a ⟨_,rfl,by simp⟩ ?_
    refine a0a ⟨_,rfl,by simp⟩ ?_
    refine a0a ⟨_,rfl,by simp⟩ ?_
    refine a0a (a0s _ _) ?_
    have l911:=(l9.trans l10).trans l11
    have hmE:=hm.mono ((l37.trans l8).trans l911)
    have hm2E:=hm2.mono ((l7.trans l8).trans l911)
    have hmne:0<m3.length:=List.length_pos_iff.2 (hTm.ne hne)
    obtain⟨be0,be1⟩:=c7q hTm hne
    rw[hvl]at be0 be1
    refine⟨(fun l' K=>K=H11/\l'=[.bool true]),?_,?_⟩
    ·skip
     refine a0a ⟨_,rfl⟩ ?_
     refine a0K rfl ?_
     refine a0a ⟨_,rfl⟩ ?_
     refine a0K rfl ?_
     refine a0a ⟨_,rfl⟩ ?_
     refine a0K rfl ?_
     refine a0a ⟨_,rfl⟩ ?_
     refine a0K rfl ?_
     refine a0a ⟨_,rfl⟩ ?_
     refine a0K rfl ?_
     refine a0a ⟨_,rfl⟩ ?_
     refine a0K rfl ?_
     refine a0a ⟨_,rfl⟩ ?_
     refine a0K rfl ?_
     refine a0j el_mass rfl rfl hmE rfl ?_
     simp only[cA,nA]
     refine a0a ⟨_,rfl⟩ ?_
     refine a0K (bT (p:=((m3.length:Nat):Int)>0) (by omega)) ?_
     refine a0q (c7b hmE hm2E) rfl ?_
     simp only[cA,nA]
     refine a0a ⟨_,rfl⟩ ?_
     refine a0K rfl ?_
     refine a0l ((b0H (rkA i k ms lv who es us lo hi p m3) rfl rfl rfl).rds _) (a0R (by show shR _=shR _;unfold rkA;rw[hvl]) rfl) ?_
     simp only[cA,nA]
     refine a0a ⟨_,rfl⟩ ?_
     refine a0K rfl ?_
     refine a0l ((b0H (rkB i k ms lv who es us lo hi p m3) rfl rfl rfl).rds _) (a0R (by show shR _=shR _;unfold rkB;rw[hvl]) rfl) ?_
     simp only[cA,nA]
     refine a0a ⟨_,rfl⟩ ?_
     refine a0K rfl ?_
     have hy0:m3[0]? =some m3[0]:=List.getElem?_eq_getElem hmne
     have hyE:m3[m3.length-1]? =some m3[m3.length-1]:=List.getElem?_eq_getElem (by omega)
     refine c0Z el_mass (ws:=(shw m3[0].1.1).toList) c1Z (b5s m3[0].1.1) (by show((shw m3[0].1.1++shw m3[0].1.2).toList.drop 0).take _=_;rw[List.drop_zero,Array.toList_append,List.take_left]) (by simp) rfl rfl rfl rfl rfl (fun _=>rfl) (fun _=>rfl) hmE hy0 rfl (fun _=>rfl) (fun _ _=>rfl) fun _ _=> ?_
     simp only[cA,nA]
     refine a0l ((b0H (a5F false (vlL i k ms lv who es us lo hi) (a2R i k es us lo hi)) rfl rfl rfl).rds _) (a0R (by rw[<-be0 _ hy0];exact(a3m _).symm) rfl) ?_
     simp only[cA,nA]
     refine a0a ⟨_,rfl⟩ ?_
     refine a0K rfl ?_
     refine a0j el_mass rfl rfl hmE rfl ?_
     simp only[cA,nA]
     refine a0a ⟨_,rfl⟩ ?_
     refine c0Z el_mass (ws:=(shw m3[m3.length-1].1.1).toList) c1Z (b5s m3[m3.length-1].1.1) (by show((shw m3[m3.length-1].1.1++shw m3[m3.length-1].1.2).toList.drop 0).take _=_;rw[List.drop_zero,Array.toList_append,List.take_left]) (by simp) rfl rfl rfl rfl rfl (fun _=>rfl) (fun _=>rfl) hmE hyE (a0R rfl (c7k rfl hmne (by have:=hTm.len;omega))) (fun _=>rfl) (fun _ _=>rfl) fun _ _=> ?_
     simp only[cA,nA]
     refine a0l ((b0H (a5F true (vlL i k ms lv who es us lo hi) (a2R i k es us lo hi)) rfl rfl rfl).rds _) (a0R (by rw[<-be1 _ hyE];exact(a3m _).symm) rfl) ?_
     simp only[cA,nA]
     exact⟨rfl,rfl⟩
    rintro _ H11 _ ⟨rfl,rfl⟩
    simp only[cA,nA]
    exact a0c rfl ⟨(l1.trans l28).trans l911,rfl⟩
end
end Go.Proofs.YtlmgkkjgdapnpaaGreatDoor

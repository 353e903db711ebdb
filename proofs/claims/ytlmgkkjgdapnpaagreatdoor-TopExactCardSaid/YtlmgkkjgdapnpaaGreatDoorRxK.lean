/- Functions that catch a panic: a deferred closure that recovers. -/
import Derived.Test.YtlmgkkjgdapnpaaGreatDoorRxU
import Derived.RecoverIn
namespace Go.RX
open Go.RowKit
def mkO (o:Oper) (d:Option Tmp) (p:Op):Oper:=⟨d,p,o.type,o.pos,o.after,none⟩
def d4X (fn:Func) (T E:TypeId) (g:FuncId):Code:=
 .seq (.region 0 #[mkO (opr fn 0 0) (some 2) (.alloc T),mkO (opr fn 0 1) (some 3) (.alloc E)] false)
 (.seq (.region 1 #[mkO (opr fn 1 0) (some 4) (.makeFunc (.func g) #[] #[.tmp 2,.tmp 3]),mkO (opr fn 1 1) none (.defer ⟨.value (.tmp 4),#[],#[]⟩)] false)
 (.seq (.region 2 #[mkO (opr fn 2 0) (some 5) (.move (.tmp 0)),mkO (opr fn 2 1) (some 6) (.call ⟨.value (.tmp 5),#[],#[]⟩),mkO (opr fn 2 2) none (.store T (.tmp 2) (.tmp 6)),mkO (opr fn 2 3) none (.store E (.tmp 3) (.const (.int .i64 0)))] false) .ret))
def d4Y (fn:Func) (AT:TypeId) (rest:Code):Code:=
 .seq (.region 0 #[mkO (opr fn 0 0) (some 6) (.call ⟨.builtin .recover,#[],#[]⟩),mkO (opr fn 0 1) (some 2) (.assign (.tmp 6))] false)
 (.seq (.region 1 #[mkO (opr fn 1 0) (some 7) (.move (.tmp 2)),mkO (opr fn 1 1) (some 8) (.binOp .neq AT (.tmp 7) (.const .nilIface) AT)] false)
 (.cond (.tmp 8) rest .skip))
structure c0B (P:Program) (f g:FuncId) (T E AT:TypeId) (fn gn:Func) (rest:Code):Prop where
 hf:P.funcs[f]? =some fn
 hb:fn.body=some (d4X fn T E g)
 hn:fn.ntmps=7
 hr:fn.results= #[.cell 2 T,.cell 3 E]
 gf:P.funcs[g]? =some gn
 gb:gn.body=some (d4Y gn AT rest)
 gnt:gn.ntmps=20
 gr:gn.results= #[]
 ge:a1q P g=true
 gi:P.underlying AT=some (.interface (P.methodsAt AT))
theorem d1l {P:Program} {f g:FuncId} {T E AT:TypeId} {fn gn:Func} {rest:Code} (h:c0B P f g T E AT fn gn rest) (p q:Value) (w:World):
  CallsDIn Fence.wide 0 P g #[p,q] .returning w fun e u' w'=>e= .returned (.tuple #[])/\u'= .returning/\w'=w:=by
 refine callsDIn_of_wpSIn h.gf h.gb trivial fun c₀ cs hu=> ?_
 apply wpSIn_seq
 apply wpSIn_region
 simp[wpOpsSIn,go_sem,recoverD,hu,h.gnt,Exit.thenS,mkO]
 apply wpSIn_seq
 apply wpSIn_region
 simp[wpOpsSIn,go_sem,Exit.thenS,eqGuard,run_neq_nil_nil _ _ h.gi]
 refine wpSIn_cond (t:=false) (by simp[Act.eval]) ?_
 simp only[Bool.false_eq_true,if_false]
 refine wpSIn_of_wpIn rfl (wpIn_skip ?_)
 cases c₀
 simp_all[bodyPostS,results,h.gr]
section
variable {P:Program} {f g k:FuncId} {T E AT:TypeId} {fn gn:Func} {rest:Code} {z:Value}
theorem a1t {n:Nat} {ops:Array Oper} {Q:Exit->Act->World->Prop} {i:Nat} {l:List Nat} {a:Act} {w w':World} {v:Value} {o:Oper} (ho:ops[i]? =some o) (hg:o.guard=none) (hd:∀c,o.op≠ .defer c) (hr:(execOp a.eval o).run P w= .ok (.value v) w') (h:wpOpsIn Fence.wide n P ops Q l (a.put o.dst v) w'):wpOpsIn Fence.wide n P ops Q (i::l) a w:=by
 unfold wpOpsIn
 rw[ho]
 simp only
 rw[if_pos (by simp[Region.wanted,hg])]
 refine⟨fun _ _=>trivial,?_⟩
 rw[Oper.semAt_eq _ _ _ hd,hr]
 exact h
theorem b0r {n:Nat} {ops:Array Oper} {Q:Exit->Act->World->Prop} {i:Nat} {l:List Nat} {a:Act} {w w':World} {o:Oper} (ho:ops[i]? =some o) (hg:o.guard=none) (hd:∀c,o.op≠ .defer c) (hr:(execOp a.eval o).run P w= .ok .skip w') (h:wpOpsIn Fence.wide n P ops Q l (a.put o.dst undef) w'):wpOpsIn Fence.wide n P ops Q (i::l) a w:=by
 unfold wpOpsIn
 rw[ho]
 simp only
 rw[if_pos (by simp[Region.wanted,hg])]
 refine⟨fun _ _=>trivial,?_⟩
 rw[Oper.semAt_eq _ _ _ hd,hr]
 exact h
theorem c0C {n:Nat} {ops:Array Oper} {Q:Exit->Act->World->Prop} {i:Nat} {l:List Nat} {a:Act} {w w':World} {d:Deferred} {o:Oper} (ho:ops[i]? =some o) (hg:o.guard=none) (hr:(o.semAt Fence.wide.round a.eval).run P w= .ok (.defer d) w') (h:wpOpsIn Fence.wide n P ops Q l ({a with defers:=d::a.defers}.put o.dst undef) w'):wpOpsIn Fence.wide n P ops Q (i::l) a w:=by
 unfold wpOpsIn
 rw[ho]
 simp only
 rw[if_pos (by simp[Region.wanted,hg])]
 refine⟨fun _ _=>trivial,?_⟩
 rw[hr]
 exact h
theorem c6c {n:Nat} {ops:Array Oper} {Q:Exit->Act->World->Prop} {i:Nat} {l:List Nat} {a:Act} {w w':World} {f:FuncId} {args:Array Value} {o:Oper} {R:Ending->World->Prop} (ho:ops[i]? =some o) (hg:o.guard=none) (hd:∀c,o.op≠ .defer c) (hr:(execOp a.eval o).run P w= .ok (.enter f args) w') (hc:Calls P f args w' R)
  (h:∀e w'',R e w''->(∃v,e= .returned v/\wpOpsIn Fence.wide n P ops Q l (a.put o.dst v) w'')\/(∃x,e=pnE x/\Q (.panic [{v:=x,recovered:=false}]) a w'')):wpOpsIn Fence.wide n P ops Q (i::l) a w:=by
 unfold wpOpsIn
 rw[ho]
 simp only
 rw[if_pos (by simp[Region.wanted,hg])]
 refine⟨fun _ _=>trivial,?_⟩
 rw[Oper.semAt_eq _ _ _ hd,hr]
 refine⟨fun e=>by simp[Fence.wide]at e,(callsIn_wide (n:=n-1)).2 (hc.mono fun e w'' hh=> ?_)⟩
 rcases h e w'' hh with⟨v,he,hv⟩|⟨x,he,hv⟩
 ·subst he;exact hv
 ·subst he;exact hv
structure CcT (P:Program) (T E:TypeId) (z:Value):Prop where
 hT:a2h P T=true
 hE:a2h P E=true
 zT:(P.info? T).bind (·.zero)=some z
 zE:(P.info? E).bind (·.zero)=some (.int .i64 0)
 zs:z.cells.size=P.cellsOf T
 cE:P.cellsOf E=1
 aE:a0F P E=false
 cT:a0F P T=false->0<P.cellsOf T
theorem a5Z {T:TypeId} {z:Value} (h:(P.info? T).bind (·.zero)=some z) {o:Oper} (ho:o.op= .alloc T) (ev:Operand->Value) (w:World):(execOp ev o).run P w= .ok (.value (.pointer (some ⟨w.heap.size,0,none⟩))) (w.alloc (.cells z.cells T)):=by
 rw[Option.bind_eq_some_iff]at h
 obtain⟨i,hi,hz⟩:=h
 simp only[execOp,ho,Instr.alloc,zeroValue,Sem.run_bind,run_typeInfo w hi,Result.andThen_ok,hz,newVar,newRow,Sem.run_pure]
 rfl
def b3I (P:Program) (g:FuncId) (T E:TypeId) (z x:Value) (e:Int):Prop:=
 ∀(b c:Nat) (W:World),b≠c->W.heap[b]? =some (.cells z.cells T (0,0))->W.heap[c]? =some (.cells #[.int .i64 0] E (0,0))->
  CallsDIn Fence.wide 0 P g #[.pointer (some ⟨b,0,none⟩),.pointer (some ⟨c,0,none⟩)] (.panicking [{v:=x,recovered:=false}]) W fun en u' w'=>
   en= .returned (.tuple #[])/\u'= .panicking [{v:=x,recovered:=true}]/\Step ((PH.nil.put b (.cells z.cells T (0,0))).put c (.cells #[.int .i64 0] E (0,0))) W ((PH.nil.put b (.cells z.cells T (0,0))).put c (.cells #[.int .i64 e] E (0,0))) w'
def rdV (P:Program) (T:TypeId) (cs:Array Value):Value:=if a0F P T then .agg cs else cs.getD 0 undef
theorem b0s {T:TypeId} (hT:a2h P T=true) {cs:Array Value} (hc:cs.size=P.cellsOf T) (h0:a0F P T=false->0<cs.size) {w:World} {b:Nat} {S:TypeId} (h:w.heap[b]? =some (.cells cs S (0,0))) (tm:Array Value) {t:Tmp} (ht:tm.getD t undef= .pointer (some ⟨b,0,none⟩)):(c3n tm (.cell t T)).run P w= .ok (rdV P T cs) w:=by
 have:=a5e (P:=P) (q:=0) hT h (by omega) h0
 have e:(if a0F P T then Value.agg (cs.extract 0 (0+P.cellsOf T))else cs.getD 0 undef)=rdV P T cs:=by unfold rdV;rw[Nat.zero_add,<-hc,Array.extract_size]
 rw[e]at this
 refine a7p (a:=⟨tm,[]⟩) ?_
 simp only[execOp,ldO,Sem.run_bind]
 show((Instr.loadAt T (tm.getD t undef)).run P w).andThen _=_
 rw[ht,this]
 rfl
theorem b1V {H H':PH} {W W2 w3 w5:World} (hH:H.In W) (h0:Ext W W2) (h3:Step H W2 H' w3) (hN:W2.heap.size=W.heap.size+2) (e1:w5.os=w3.os) (e2:w5.tape=w3.tape) (e3:w5.output=w3.output) (hs:w3.heap.size<=w5.heap.size) (hd:w3.drawn<=w5.drawn)
  (hk:∀i,i≠W.heap.size->i≠W.heap.size+1->i<w3.heap.size->w5.heap[i]? =w3.heap[i]?):Step H W H' w5:=by
 have hsz:=h3.size
 refine⟨e1.trans (h3.os.trans h0.os),e2.trans (h3.tape.trans h0.tape),e3.trans (h3.output.trans h0.output),by omega,fun i hi hn=> ?_,fun b o hb=> ?_,fun b hb=> ?_,Nat.le_trans h0.dr (Nat.le_trans h3.dr hd)⟩
 ·rw[hk i (by omega) (by omega) (by omega),h3.block i (by omega) hn,h0.block' hi]
 ·have hw:=h3.holds b o hb
  have hb':=h3.dom b (by rw[hb];simp)
  have h9:b≠W.heap.size/\b≠W.heap.size+1:=by
   rcases hb' with h|h
   ·cases e:H b with
    |none=>exact absurd e h
    |some o'=>have:=a0y (hH b o' e);omega
   ·omega
  rw[hk b h9.1 h9.2 (a0y hw),hw]
 ·rcases h3.dom b hb with h|h
  ·exact .inl h
  ·right;omega
theorem a5A {T S:TypeId} {w:World} {b:Nat} {cs:Array Value} {v:Value} {ev:Operand->Value} {o:Oper} {x y:Operand} (ho:o.op= .store T x y) (hT:a2h P T=true) (hb:w.heap[b]? =some (.cells cs S (0,0))) (hx:ev x= .pointer (some ⟨b,0,none⟩)) (hy:ev y=v) (hs:cs.size=P.cellsOf T) (hv:v.cells.size=P.cellsOf T) (h1:a0p v.cells):(execOp ev o).run P w= .ok .skip (w.setRow b v.cells):=by
 simp only[execOp,ho,hx,hy,Sem.run_bind]
 rw[a5J (q:=0) hT hb (by omega) hv h1,a9A (by rw[Array.length_toList];omega),Array.toArray_toList]
 rfl
theorem a9i (hm:P.follows .mixedOrders=true) (h:c0B P f g T E AT fn gn rest) (t:CcT P T E z) (hk:a1q P k=true) {caps:List Value} {H:PH} {V X:Value->PH->Prop} (hc:c4a P k caps H V X) (hV:∀v H',V v H'->v.cells.size=P.cellsOf T/\a0p v.cells/\rdV P T v.cells=v)
  {XE:Int->PH->Prop} (hX:∀x H',X x H'->∃e,b3I P g T E z x e/\XE e H'):Con P f [.func (.func k) #[] caps.toArray] H fun r H'=>(∃v,V v H'/\r= .tuple #[v,.int .i64 0])\/(∃e,XE e H'/\r= .tuple #[rdV P T z.cells,.int .i64 e]):=by
 intro W hW
 refine(callsIn_wide (n:=0)).1 (callsIn_of_wp_marks h.hf h.hb trivial ?_)
 have hx2:=(Ext.alloc W (.cells z.cells T)).trans (Ext.alloc (W.alloc (.cells z.cells T)) (.cells #[.int .i64 0] E))
 generalize hW2:(W.alloc (.cells z.cells T)).alloc (.cells #[.int .i64 0] E)=W2 at hx2
 have hs2:W2.heap.size=W.heap.size+2:=by rw[<-hW2];show((W.heap.push _).push _).size=_;rw[Array.size_push,Array.size_push]
 have hN:W2.heap[W.heap.size]? =some (.cells z.cells T (0,0)):=by
  rw[<-hW2]
  rw[(Ext.alloc (W.alloc (.cells z.cells T)) _).block' (by show _<(W.heap.push _).size;rw[Array.size_push];exact Nat.lt_succ_self _)]
  exact World.alloc_heap_new W _
 have hN1:W2.heap[W.heap.size+1]? =some (.cells #[.int .i64 0] E (0,0)):=by
  rw[<-hW2]
  have:=World.alloc_heap_new (W.alloc (.cells z.cells T)) (.cells #[.int .i64 0] E)
  rw[show(W.alloc (.cells z.cells T)).heap.size=W.heap.size+1 from Array.size_push ..]at this
  exact this
 rw[h.hn]
 apply wpIn_seq
 apply wpIn_region
 refine a1t (o:=mkO (opr fn 0 0) (some 2) (.alloc T)) rfl rfl (fun c e=>by cases e) (a5Z t.zT rfl _ _) ?_
 refine a1t (o:=mkO (opr fn 0 1) (some 3) (.alloc E)) rfl rfl (fun c e=>by cases e) (a5Z t.zE rfl _ _) ?_
 rw[show(Value.int IntKind.i64 0).cells= #[.int .i64 0]from rfl,hW2]
 have eN1:(W.alloc (.cells z.cells T)).heap.size=W.heap.size+1:=Array.size_push ..
 rw[eN1]
 show Code.wpIn Fence.wide 0 P _ _ ⟨#[.func (.func k) #[] caps.toArray,undef,.pointer (some ⟨W.heap.size,0,none⟩),.pointer (some ⟨W.heap.size+1,0,none⟩),undef,undef,undef],[]⟩ W2
 generalize hp:Value.pointer (some ⟨W.heap.size,0,none⟩)=p
 generalize hq:Value.pointer (some ⟨W.heap.size+1,0,none⟩)=q
 apply wpIn_seq
 apply wpIn_region
 refine a1t (o:=mkO (opr fn 1 0) (some 4) (.makeFunc (.func g) #[] #[.tmp 2,.tmp 3])) (v:= .func (.func g) #[] #[p,q]) (w':=W2) rfl rfl (fun c e=>by cases e) (by simp[execOp,mkO,Instr.makeFunc,Act.eval]) ?_
 refine c0C (d:=⟨.fn (.func g) #[p,q],#[]⟩) (w':=W2) rfl rfl ?_ ?_
 ·simp[Oper.semAt,mkO,Act.eval,Act.put,Fence.wide,execOp,resolve,Deferred.ofValue]
 show Code.wpIn Fence.wide 0 P _ _ ⟨#[.func (.func k) #[] caps.toArray,undef,p,q,.func (.func g) #[] #[p,q],undef,undef],[⟨.fn (.func g) #[p,q],#[]⟩]⟩ W2
 apply wpIn_seq
 apply wpIn_region
 refine a1t (o:=mkO (opr fn 2 0) (some 5) (.move (.tmp 0))) (v:= .func (.func k) #[] caps.toArray) (w':=W2) rfl rfl (fun c e=>by cases e) rfl ?_
 refine c6c (o:=mkO (opr fn 2 1) (some 6) (.call ⟨.value (.tmp 5),#[],#[]⟩)) (f:=k) (args:=caps.toArray) rfl rfl (fun c e=>by cases e) ?_ (hc W2 (hW.ext hx2)) ?_
 ·simp[execOp,mkO,Act.eval,Act.put,resolve,Deferred.ofValue,invoke]
  exact a2a hk _ _
 rintro e w3 (⟨v,H',rfl,h3,hv⟩|⟨x,H',rfl,h3,hx⟩)
 ·left
  refine⟨v,rfl,?_⟩
  obtain⟨v1,v2,v3⟩:=hV v H' hv
  have hsz:=h3.size
  have nH:∀i,W.heap.size<=i->H i=none:=fun i hi=>by
   cases e:H i with
   |none=>rfl
   |some o=>have:=a0y (hW i o e);omega
  have k0:w3.heap[W.heap.size]? =some (.cells z.cells T (0,0)):=(h3.block _ (by omega) (nH _ (Nat.le_refl _))).trans hN
  have k1:w3.heap[W.heap.size+1]? =some (.cells #[.int .i64 0] E (0,0)):=(h3.block _ (by omega) (nH _ (by omega))).trans hN1
  refine b0r (o:=mkO (opr fn 2 2) none (.store T (.tmp 2) (.tmp 6))) (w':=w3.setRow W.heap.size v.cells) rfl rfl (fun c e=>by cases e) (a5A rfl t.hT k0 hp.symm rfl t.zs v1 v2) ?_
  have k1':(w3.setRow W.heap.size v.cells).heap[W.heap.size+1]? =some (.cells #[.int .i64 0] E (0,0)):=by rw[setRow_other _ _ _ _ (by omega),k1]
  refine b0r (o:=mkO (opr fn 2 3) none (.store E (.tmp 3) (.const (.int .i64 0)))) (w':=(w3.setRow W.heap.size v.cells).setRow (W.heap.size+1) #[.int .i64 0]) rfl rfl (fun c e=>by cases e) (a5A (v:= .int .i64 0) rfl t.hE k1' hq.symm rfl t.cE.symm t.cE.symm (by intro c hc;simp[Value.cells]at hc;subst hc;rfl)) ?_
  refine wpIn_ret ?_
  show LeavesInM Fence.wide 0 P fn #[.func (.func k) #[] caps.toArray,undef,p,q,.func (.func g) #[] #[p,q],.func (.func k) #[] caps.toArray,v] _ [⟨.fn (.func g) #[p,q],#[]⟩] .returning _
  generalize hw5:(w3.setRow W.heap.size v.cells).setRow (W.heap.size+1) #[.int .i64 0]=w5
  refine⟨by simp,.inr ⟨fun e=>by simp[Fence.wide]at e,.func g,#[p,q],g,#[p,q],rfl,a2a h.ge _ _,fun _ _=>trivial,?_⟩⟩
  refine(d1l h p q w5).mono ?_
  rintro e u' w' ⟨rfl,rfl,rfl⟩
  have r0:w'.heap[W.heap.size]? =some (.cells v.cells T (0,0)):=by rw[<-hw5,setRow_other _ _ _ _ (by omega)];exact setRow_heap _ _ _ _ _ (0,0) k0
  have r1:w'.heap[W.heap.size+1]? =some (.cells #[.int .i64 0] E (0,0)):=by rw[<-hw5];exact setRow_heap _ _ _ _ _ (0,0) k1'
  refine⟨.tuple #[v,.int .i64 0],a4P (l:=[v,.int .i64 0]) ?_,_,H',rfl,b1V hW hx2 h3 hs2 ?_ ?_ ?_ ?_ ?_ ?_,.inl ⟨v,hv,rfl⟩⟩
  ·rw[h.hr]
   have a0:=b0s (P:=P) t.hT v1 (fun e=>by rw[v1];exact t.cT e) r0 #[.func (.func k) #[] caps.toArray,undef,p,q,.func (.func g) #[] #[p,q],.func (.func k) #[] caps.toArray,v] (t:=2) hp.symm
   have a1:=b0s (P:=P) (cs:= #[.int .i64 0]) t.hE t.cE.symm (fun e=>Nat.lt_succ_self 0) r1 #[.func (.func k) #[] caps.toArray,undef,p,q,.func (.func g) #[] #[p,q],.func (.func k) #[] caps.toArray,v] (t:=3) hq.symm
   rw[v3]at a0
   have e1:rdV P E #[.int .i64 0]= .int .i64 0:=by unfold rdV;rw[t.aE];rfl
   rw[e1]at a1
   simp only[List.mapM_cons,List.mapM_nil,Sem.run_bind,a0,a1,Result.andThen_ok,Sem.run_pure]
  ·rw[<-hw5];rfl
  ·rw[<-hw5];rfl
  ·rw[<-hw5];rfl
  ·rw[<-hw5,setRow_size,setRow_size];exact Nat.le_refl _
  ·rw[<-hw5];exact Nat.le_refl _
  ·intro i i1 i2 i3
   rw[<-hw5,setRow_other _ _ _ _ i2,setRow_other _ _ _ _ i1]
 ·right
  refine⟨x,rfl,?_⟩
  have hsz:=h3.size
  have nH:∀i,W.heap.size<=i->H i=none:=fun i hi=>by
   cases e:H i with
   |none=>rfl
   |some o=>have:=a0y (hW i o e);omega
  have k0:w3.heap[W.heap.size]? =some (.cells z.cells T (0,0)):=(h3.block _ (by omega) (nH _ (Nat.le_refl _))).trans hN
  have k1:w3.heap[W.heap.size+1]? =some (.cells #[.int .i64 0] E (0,0)):=(h3.block _ (by omega) (nH _ (by omega))).trans hN1
  obtain⟨e,hce,hxe⟩:=hX x H' hx
  show LeavesInM Fence.wide 0 P fn #[.func (.func k) #[] caps.toArray,undef,p,q,.func (.func g) #[] #[p,q],.func (.func k) #[] caps.toArray,undef] _ [⟨.fn (.func g) #[p,q],#[]⟩] (.panicking [{v:=x,recovered:=false}]) _
  refine⟨by simp,.inr ⟨fun e=>by simp[Fence.wide]at e,.func g,#[p,q],g,#[p,q],rfl,a2a h.ge _ _,fun _ _=>trivial,?_⟩⟩
  have hd:=hce W.heap.size (W.heap.size+1) w3 (by omega) k0 k1
  rw[hp,hq]at hd
  refine hd.mono ?_
  rintro en u' w' ⟨rfl,rfl,hst⟩
  have r0:w'.heap[W.heap.size]? =some (.cells z.cells T (0,0)):=hst.holds _ _ (by unfold PH.put;rw[if_neg (by omega),if_pos rfl])
  have r1:w'.heap[W.heap.size+1]? =some (.cells #[.int .i64 e] E (0,0)):=hst.holds _ _ (by unfold PH.put;rw[if_pos rfl])
  refine⟨.tuple #[rdV P T z.cells,.int .i64 e],a4P (l:=[rdV P T z.cells,.int .i64 e]) ?_,_,H',rfl,b1V hW hx2 h3 hs2 hst.os hst.tape hst.output hst.size hst.dr ?_,.inr ⟨e,hxe,rfl⟩⟩
  ·rw[h.hr]
   have a0:=b0s (P:=P) t.hT t.zs (fun e=>by rw[t.zs];exact t.cT e) r0 #[.func (.func k) #[] caps.toArray,undef,p,q,.func (.func g) #[] #[p,q],.func (.func k) #[] caps.toArray,undef] (t:=2) hp.symm
   have a1:=b0s (P:=P) (cs:= #[.int .i64 e]) t.hE t.cE.symm (fun e=>Nat.lt_succ_self 0) r1 #[.func (.func k) #[] caps.toArray,undef,p,q,.func (.func g) #[] #[p,q],.func (.func k) #[] caps.toArray,undef] (t:=3) hq.symm
   have e1:rdV P E #[.int .i64 e]= .int .i64 e:=by unfold rdV;rw[t.aE];rfl
   rw[e1]at a1
   simp only[List.mapM_cons,List.mapM_nil,Sem.run_bind,a0,a1,Result.andThen_ok,Sem.run_pure]
  ·intro i i1 i2 i3
   exact hst.block i i3 (by unfold PH.put;rw[if_neg (by omega),if_neg (by omega)];rfl)
theorem a1B (hm:P.follows .mixedOrders=true) (h:c0B P f g T E AT fn gn rest) (t:CcT P T E z) (hk:a1q P k=true) {caps:List Value} {H:PH} {V:Value->PH->Prop} (hc:Con P k caps H V) (hV:∀v H',V v H'->v.cells.size=P.cellsOf T/\a0p v.cells/\rdV P T v.cells=v):
  Con P f [.func (.func k) #[] caps.toArray] H fun r H'=>∃v,V v H'/\r= .tuple #[v,.int .i64 0]:=
 (a9i hm h t hk (X:=fun _ _=>False) hc.toX hV (XE:=fun _ _=>False) (fun _ _ hx=>hx.elim)).mono fun r H' hh=>hh.resolve_right fun⟨_,he,_⟩=>he
def a6w:Option Code->Code
 |some (.seq _ (.seq _ (.cond _ a _)))=>a
 |_=> .skip
end
end Go.RX

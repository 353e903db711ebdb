/- Lemmas of the proof. -/
import Derived.RecoverIn
import Derived.Test.YtlmbepjdokomkaaGreatDoorGfA
import Derived.Shelf.SlGeneric
import Derived.Ground.SlsfProg
import Derived.Shelf.SlSortCmp.WholeK
import Derived.Shelf.SlSortCmp.Whole1
open Array renaming getElem?_modify->lJ,getElem?_toList->fL,size_push->iL
open Go.Result renaming andThen_ok->eL
open Go.Sem renaming run_bind->eM,run_pure->eO
open List renaming filter_eq_self->jT,mapM_cons->jQ,mapM_nil->nR,range->eT
open Nat renaming beq->gP,mul_comm->eX
set_option linter.all false
set_option maxRecDepth 100000
namespace Go.RX
open RowKit
def mkO (o:Oper) (d:Option Tmp) (p:Op):Oper:=⟨d,p,o.type,o.pos,o.after,none⟩
def d7t (fn:Func) (T E:TypeId) (g:FuncId):Code:=
 .seq (.region 0 #[mkO (opr fn 0 0) (some 2) (.alloc T),mkO (opr fn 0 1) (some 3) (.alloc E)] false)
 (.seq (.region 1 #[mkO (opr fn 1 0) (some 4) (.makeFunc (.func g) #[] #[.tmp 2,.tmp 3]),mkO (opr fn 1 1) none (.defer ⟨.value (.tmp 4),#[],#[]⟩)] false)
 (.seq (.region 2 #[mkO (opr fn 2 0) (some 5) (.move (.tmp 0)),mkO (opr fn 2 1) (some 6) (.call ⟨.value (.tmp 5),#[],#[]⟩),mkO (opr fn 2 2) none (.store T (.tmp 2) (.tmp 6)),mkO (opr fn 2 3) none (.store E (.tmp 3) (.const (.int .i64 0)))] false) .ret))
def d7u (fn:Func) (AT:TypeId) (rest:Code):Code:=
 .seq (.region 0 #[mkO (opr fn 0 0) (some 6) (.call ⟨.builtin .recover,#[],#[]⟩),mkO (opr fn 0 1) (some 2) (.assign (.tmp 6))] false)
 (.seq (.region 1 #[mkO (opr fn 1 0) (some 7) (.move (.tmp 2)),mkO (opr fn 1 1) (some 8) (.binOp .neq AT (.tmp 7) (.const .nilIface) AT)] false)
 (.cond (.tmp 8) rest .skip))
structure Ii (P:Program) (f g:FuncId) (T E AT:TypeId) (fn gn:Func) (rest:Code):Prop where
 hf:P.funcs[f]? =some fn
 hb:fn.body=some (d7t fn T E g)
 hn:fn.ntmps=7
 hr:fn.results= #[.cell 2 T,.cell 3 E]
 gf:P.funcs[g]? =some gn
 gb:gn.body=some (d7u gn AT rest)
 gnt:gn.ntmps=20
 gr:gn.results= #[]
 ge:q8 P g=true
 gi:P.underlying AT=some (.interface (P.methodsAt AT))
def d3k {P:Program} {f g:FuncId} {T E AT:TypeId} {fn gn:Func} {rest:Code} (h:Ii P f g T E AT fn gn rest) (p q:Value) (w:World):
  CallsDIn Fence.wide 0 P g #[p,q] .returning w fun e u' w'=>e= .returned (.tuple #[])/\u'= .returning/\w'=w:=by
 refine callsDIn_of_wpSIn h.gf h.gb trivial fun c₀ cs hu=> ?_;apply wpSIn_seq;apply wpSIn_region;simp[wpOpsSIn,go_sem,recoverD,hu,h.gnt,Exit.thenS,mkO];apply wpSIn_seq;apply wpSIn_region;simp[wpOpsSIn,go_sem,Exit.thenS,eqGuard,run_neq_nil_nil _ _ h.gi];refine wpSIn_cond (t:=false) (by simp[Act.eval]) ?_;simp only[aZ,if_false];refine wpSIn_of_wpIn rfl (wpIn_skip ?_);cases c₀;simp_all[bodyPostS,results,h.gr]
section
variable {P:Program} {f g k:FuncId} {T E AT:TypeId} {fn gn:Func} {rest:Code} {z:Value}
def Dw {n:Nat} {ops:Array Oper} {Q:Exit->Act->World->Prop} {i:Nat} {l:List Nat} {a:Act} {w w':World} {v:Value} {o:Oper} (ho:ops[i]? =some o) (hg:o.guard=none) (hd:∀c,o.op≠ .defer c) (hr:(execOp a.eval o).run P w= .ok (.value v) w') (h:wpOpsIn Fence.wide n P ops Q l (a.put o.dst v) w'):wpOpsIn Fence.wide n P ops Q (i::l) a w:=by
 unfold wpOpsIn;rw[ho];simp only;rw[if_pos (by simp[Region.wanted,hg])];refine⟨fun _ _=>trivial,?_⟩;rw[Oper.semAt_eq _ _ _ hd,hr];exact h
def yg {n:Nat} {ops:Array Oper} {Q:Exit->Act->World->Prop} {i:Nat} {l:List Nat} {a:Act} {w w':World} {o:Oper} (ho:ops[i]? =some o) (hg:o.guard=none) (hd:∀c,o.op≠ .defer c) (hr:(execOp a.eval o).run P w= .ok .skip w') (h:wpOpsIn Fence.wide n P ops Q l (a.put o.dst undef) w'):wpOpsIn Fence.wide n P ops Q (i::l) a w:=by
 unfold wpOpsIn;rw[ho];simp only;rw[if_pos (by simp[Region.wanted,hg])];refine⟨fun _ _=>trivial,?_⟩;rw[Oper.semAt_eq _ _ _ hd,hr];exact h
def c1X {n:Nat} {ops:Array Oper} {Q:Exit->Act->World->Prop} {i:Nat} {l:List Nat} {a:Act} {w w':World} {d:Deferred} {o:Oper} (ho:ops[i]? =some o) (hg:o.guard=none) (hr:(o.semAt Fence.wide.round a.eval).run P w= .ok (.defer d) w') (h:wpOpsIn Fence.wide n P ops Q l ({a with defers:=d::a.defers}.put o.dst undef) w'):wpOpsIn Fence.wide n P ops Q (i::l) a w:=by
 unfold wpOpsIn;rw[ho];simp only;rw[if_pos (by simp[Region.wanted,hg])];refine⟨fun _ _=>trivial,?_⟩;rw[hr];exact h
def c7s {n:Nat} {ops:Array Oper} {Q:Exit->Act->World->Prop} {i:Nat} {l:List Nat} {a:Act} {w w':World} {f:FuncId} {args:Array Value} {o:Oper} {R:Ending->World->Prop} (ho:ops[i]? =some o) (hg:o.guard=none) (hd:∀c,o.op≠ .defer c) (hr:(execOp a.eval o).run P w= .ok (.enter f args) w') (hc:Calls P f args w' R)
  (h:∀e w'',R e w''->(∃v,e= .returned v/\wpOpsIn Fence.wide n P ops Q l (a.put o.dst v) w'')\/(∃x,e=pnE x/\Q (.panic [{v:=x,recovered:=false}]) a w'')):wpOpsIn Fence.wide n P ops Q (i::l) a w:=by
 unfold wpOpsIn;rw[ho];simp only;rw[if_pos (by simp[Region.wanted,hg])];refine⟨fun _ _=>trivial,?_⟩;rw[Oper.semAt_eq _ _ _ hd,hr];refine⟨fun e=>by simp[Fence.wide]at e,(callsIn_wide (n:=n-1)).2 (hc.mono fun e w'' hh=> ?_)⟩;rcases h e w'' hh with⟨v,he,hv⟩|⟨x,he,hv⟩
 ·subst he;exact hv
 ·subst he;exact hv
structure CcT (P:Program) (T E:TypeId) (z:Value):Prop where
 hT:r9 P T=true
 hE:r9 P E=true
 zT:(P.info? T).bind (·.zero)=some z
 zE:(P.info? E).bind (·.zero)=some (.int .i64 0)
 zs:z.cells.size=P.cellsOf T
 cE:P.cellsOf E=1
 aE:p8 P E=false
 cT:p8 P T=false->0<P.cellsOf T
def jg {T:TypeId} {z:Value} (h:(P.info? T).bind (·.zero)=some z) {o:Oper} (ho:o.op= .alloc T) (ev:Operand->Value) (w:World):(execOp ev o).run P w= .ok (.value (.pointer (some ⟨w.heap.size,0,none⟩))) (w.alloc (.cells z.cells T)):=by
 rw[Option.bind_eq_some_iff]at h;obtain⟨i,hi,hz⟩:=h;simp only[execOp,ho,Instr.alloc,zeroValue,eM,run_typeInfo w hi,eL,hz,newVar,newRow,eO];rfl
def Qw (P:Program) (g:FuncId) (T E:TypeId) (z x:Value) (e:Int):Prop:=
 ∀(b c:Nat) (W:World),b≠c->W.heap[b]? =some (.cells z.cells T (0,0))->W.heap[c]? =some (.cells #[.int .i64 0] E (0,0))->
  CallsDIn Fence.wide 0 P g #[.pointer (some ⟨b,0,none⟩),.pointer (some ⟨c,0,none⟩)] (.panicking [{v:=x,recovered:=false}]) W fun en u' w'=>
   en= .returned (.tuple #[])/\u'= .panicking [{v:=x,recovered:=true}]/\Step ((PH.nil.put b (.cells z.cells T (0,0))).put c (.cells #[.int .i64 0] E (0,0))) W ((PH.nil.put b (.cells z.cells T (0,0))).put c (.cells #[.int .i64 e] E (0,0))) w'
def rdV (P:Program) (T:TypeId) (cs:Array Value):Value:=if p8 P T then .agg cs else cs.getD 0 undef
def jh {T:TypeId} (hT:r9 P T=true) {cs:Array Value} (hc:cs.size=P.cellsOf T) (h0:p8 P T=false->0<cs.size) {w:World} {b:Nat} {S:TypeId} (h:w.heap[b]? =some (.cells cs S (0,0))) (tm:Array Value) {t:Tmp} (ht:tm.getD t undef= .pointer (some ⟨b,0,none⟩)):(It tm (.cell t T)).run P w= .ok (rdV P T cs) w:=by
 have:=Xa (P:=P) (q:=0) hT h aA h0;have e:(if p8 P T then Value.agg (cs.extract 0 (0+P.cellsOf T))else cs.getD 0 undef)=rdV P T cs:=by unfold rdV;rw[bP,<-hc,Array.extract_size]
 rw[e]at this;refine qo (a:=⟨tm,[]⟩) ?_;simp only[execOp,ldO,eM];show((Instr.loadAt T (tm.getD t undef)).run P w).andThen _=_;rw[ht,this];rfl
def NC {H H':PH} {W W2 w3 w5:World} (hH:H.In W) (h0:Ext W W2) (h3:Step H W2 H' w3) (hN:W2.heap.size=W.heap.size+2) (e1:w5.os=w3.os) (e2:w5.tape=w3.tape) (e3:w5.output=w3.output) (hs:w3.heap.size<=w5.heap.size) (hd:w3.drawn<=w5.drawn)
  (hk:∀i,i≠W.heap.size->i≠W.heap.size+1->i<w3.heap.size->w5.heap[i]? =w3.heap[i]?):Step H W H' w5:=by
 have qI:=h3.size;refine⟨e1.trans (h3.os.trans h0.os),e2.trans (h3.tape.trans h0.tape),e3.trans (h3.output.trans h0.output),aA,fun i hi hn=> ?_,fun b o hb=> ?_,fun b hb=> ?_,bM h0.dr (bM h3.dr hd)⟩
 ·rw[hk i aA aA aA,h3.block i aA hn,h0.block' hi]
 ·have hw:=h3.holds b o hb;have qJ:=h3.dom b (by rw[hb];simp);have h9:b≠W.heap.size/\b≠W.heap.size+1:=by
   rcases qJ with h|h
   ·cases e:H b with
    |none=>exact absurd e h
    |some o'=>have:=y5 (hH b o' e);omega
   ·omega
  rw[hk b h9.1 h9.2 (y5 hw),hw]
 ·rcases h3.dom b hb with h|h
  ·exact .inl h
  ·right;omega
def Yy {T S:TypeId} {w:World} {b:Nat} {cs:Array Value} {v:Value} {ev:Operand->Value} {o:Oper} {x y:Operand} (ho:o.op= .store T x y) (hT:r9 P T=true) (hb:w.heap[b]? =some (.cells cs S (0,0))) (hx:ev x= .pointer (some ⟨b,0,none⟩)) (hy:ev y=v) (hs:cs.size=P.cellsOf T) (hv:v.cells.size=P.cellsOf T) (h1:i8 v.cells):(execOp ev o).run P w= .ok .skip (w.setRow b v.cells):=by
 simp only[execOp,ho,hx,hy,eM];rw[qe (q:=0) hT hb aA hv h1,ci (by rw[bU];omega),Array.toArray_toList];rfl
def Ol (hm:P.follows .mixedOrders=true) (h:Ii P f g T E AT fn gn rest) (t:CcT P T E z) (hk:q8 P k=true) {caps:List Value} {H:PH} {V X:Value->PH->Prop} (hc:ConX P k caps H V X) (hV:∀v H',V v H'->v.cells.size=P.cellsOf T/\i8 v.cells/\rdV P T v.cells=v)
  {XE:Int->PH->Prop} (hX:∀x H',X x H'->∃e,Qw P g T E z x e/\XE e H'):Con P f [.func (.func k) #[] caps.toArray] H fun r H'=>(∃v,V v H'/\r= .tuple #[v,.int .i64 0])\/(∃e,XE e H'/\r= .tuple #[rdV P T z.cells,.int .i64 e]):=by
 intro W hW;refine(callsIn_wide (n:=0)).1 (callsIn_of_wp_marks h.hf h.hb trivial ?_);have rA:=(Ext.alloc W (.cells z.cells T)).trans (Ext.alloc (W.alloc (.cells z.cells T)) (.cells #[.int .i64 0] E));generalize qQ:(W.alloc (.cells z.cells T)).alloc (.cells #[.int .i64 0] E)=W2 at rA;have uS:W2.heap.size=W.heap.size+2:=by rw[<-qQ];show((W.heap.push _).push _).size=_;rw[iL,iL]
 have hN:W2.heap[W.heap.size]? =some (.cells z.cells T (0,0)):=by
  rw[<-qQ];rw[(Ext.alloc (W.alloc (.cells z.cells T)) _).block' (by show _<(W.heap.push _).size;rw[iL];exact cY _)];exact World.alloc_heap_new W _
 have hN1:W2.heap[W.heap.size+1]? =some (.cells #[.int .i64 0] E (0,0)):=by
  rw[<-qQ];have:=World.alloc_heap_new (W.alloc (.cells z.cells T)) (.cells #[.int .i64 0] E);rw[show(W.alloc (.cells z.cells T)).heap.size=W.heap.size+1 from iL ..]at this;exact this
 rw[h.hn];apply wpIn_seq;apply wpIn_region;refine Dw (o:=mkO (opr fn 0 0) (some 2) (.alloc T)) rfl rfl (fun c e=>by cases e) (jg t.zT rfl _ _) ?_;refine Dw (o:=mkO (opr fn 0 1) (some 3) (.alloc E)) rfl rfl (fun c e=>by cases e) (jg t.zE rfl _ _) ?_;rw[show(Value.int IntKind.i64 0).cells= #[.int .i64 0]from rfl,qQ];have eN1:(W.alloc (.cells z.cells T)).heap.size=W.heap.size+1:=iL ..;rw[eN1];show Code.wpIn Fence.wide 0 P _ _ ⟨#[.func (.func k) #[] caps.toArray,undef,.pointer (some ⟨W.heap.size,0,none⟩),.pointer (some ⟨W.heap.size+1,0,none⟩),undef,undef,undef],[]⟩ W2;generalize hp:Value.pointer (some ⟨W.heap.size,0,none⟩)=p;generalize hq:Value.pointer (some ⟨W.heap.size+1,0,none⟩)=q;apply wpIn_seq;apply wpIn_region;refine Dw (o:=mkO (opr fn 1 0) (some 4) (.makeFunc (.func g) #[] #[.tmp 2,.tmp 3])) (v:= .func (.func g) #[] #[p,q]) (w':=W2) rfl rfl (fun c e=>by cases e) (by simp[execOp,mkO,Instr.makeFunc,Act.eval]) ?_;refine c1X (d:=⟨.fn (.func g) #[p,q],#[]⟩) (w':=W2) rfl rfl ?_ ?_
 ·simp[Oper.semAt,mkO,Act.eval,Act.put,Fence.wide,execOp,resolve,Deferred.ofValue]
 show Code.wpIn Fence.wide 0 P _ _ ⟨#[.func (.func k) #[] caps.toArray,undef,p,q,.func (.func g) #[] #[p,q],undef,undef],[⟨.fn (.func g) #[p,q],#[]⟩]⟩ W2;apply wpIn_seq;apply wpIn_region;refine Dw (o:=mkO (opr fn 2 0) (some 5) (.move (.tmp 0))) (v:= .func (.func k) #[] caps.toArray) (w':=W2) rfl rfl (fun c e=>by cases e) rfl ?_;refine c7s (o:=mkO (opr fn 2 1) (some 6) (.call ⟨.value (.tmp 5),#[],#[]⟩)) (f:=k) (args:=caps.toArray) rfl rfl (fun c e=>by cases e) ?_ (hc W2 (hW.ext rA)) ?_
 ·simp[execOp,mkO,Act.eval,Act.put,resolve,Deferred.ofValue,invoke];exact Jw hk _ _
 rintro e w3 (⟨v,H',rfl,h3,hv⟩|⟨x,H',rfl,h3,hx⟩)
 ·left;refine⟨v,rfl,?_⟩;obtain⟨v1,v2,v3⟩:=hV v H' hv;have qI:=h3.size;have nH:∀i,W.heap.size<=i->H i=none:=fun i hi=>by
   cases e:H i with
   |none=>rfl
   |some o=>have:=y5 (hW i o e);omega
  have k0:w3.heap[W.heap.size]? =some (.cells z.cells T (0,0)):=(h3.block _ aA (nH _ (aS _))).trans hN;have k1:w3.heap[W.heap.size+1]? =some (.cells #[.int .i64 0] E (0,0)):=(h3.block _ aA (nH _ aA)).trans hN1;refine yg (o:=mkO (opr fn 2 2) none (.store T (.tmp 2) (.tmp 6))) (w':=w3.setRow W.heap.size v.cells) rfl rfl (fun c e=>by cases e) (Yy rfl t.hT k0 hp.symm rfl t.zs v1 v2) ?_;have k1':(w3.setRow W.heap.size v.cells).heap[W.heap.size+1]? =some (.cells #[.int .i64 0] E (0,0)):=by rw[setRow_other _ _ _ _ aA,k1]
  refine yg (o:=mkO (opr fn 2 3) none (.store E (.tmp 3) (.const (.int .i64 0)))) (w':=(w3.setRow W.heap.size v.cells).setRow (W.heap.size+1) #[.int .i64 0]) rfl rfl (fun c e=>by cases e) (Yy (v:= .int .i64 0) rfl t.hE k1' hq.symm rfl t.cE.symm t.cE.symm (by intro c hc;simp[Value.cells]at hc;subst hc;rfl)) ?_;refine wpIn_ret ?_;show LeavesInM Fence.wide 0 P fn #[.func (.func k) #[] caps.toArray,undef,p,q,.func (.func g) #[] #[p,q],.func (.func k) #[] caps.toArray,v] _ [⟨.fn (.func g) #[p,q],#[]⟩] .returning _;generalize hw5:(w3.setRow W.heap.size v.cells).setRow (W.heap.size+1) #[.int .i64 0]=w5;refine⟨aD,.inr ⟨fun e=>by simp[Fence.wide]at e,.func g,#[p,q],g,#[p,q],rfl,Jw h.ge _ _,fun _ _=>trivial,?_⟩⟩;refine(d3k h p q w5).mono ?_;rintro e u' w' ⟨rfl,rfl,rfl⟩;have r0:w'.heap[W.heap.size]? =some (.cells v.cells T (0,0)):=by rw[<-hw5,setRow_other _ _ _ _ aA];exact setRow_heap _ _ _ _ _ (0,0) k0
  have r1:w'.heap[W.heap.size+1]? =some (.cells #[.int .i64 0] E (0,0)):=by rw[<-hw5];exact setRow_heap _ _ _ _ _ (0,0) k1'
  refine⟨.tuple #[v,.int .i64 0],qp (l:=[v,.int .i64 0]) ?_,_,H',rfl,NC hW rA h3 uS ?_ ?_ ?_ ?_ ?_ ?_,.inl ⟨v,hv,rfl⟩⟩
  ·rw[h.hr];have a0:=jh (P:=P) t.hT v1 (fun e=>by rw[v1];exact t.cT e) r0 #[.func (.func k) #[] caps.toArray,undef,p,q,.func (.func g) #[] #[p,q],.func (.func k) #[] caps.toArray,v] (t:=2) hp.symm;have a1:=jh (P:=P) (cs:= #[.int .i64 0]) t.hE t.cE.symm (fun e=>cY 0) r1 #[.func (.func k) #[] caps.toArray,undef,p,q,.func (.func g) #[] #[p,q],.func (.func k) #[] caps.toArray,v] (t:=3) hq.symm;rw[v3]at a0;have e1:rdV P E #[.int .i64 0]= .int .i64 0:=by unfold rdV;rw[t.aE];rfl
   rw[e1]at a1;simp only[jQ,nR,eM,a0,a1,eL,eO]
  ·rw[<-hw5];rfl
  ·rw[<-hw5];rfl
  ·rw[<-hw5];rfl
  ·rw[<-hw5,setRow_size,setRow_size];exact aS _
  ·rw[<-hw5];exact aS _
  ·intro i i1 i2 i3;rw[<-hw5,setRow_other _ _ _ _ i2,setRow_other _ _ _ _ i1]
 ·right;refine⟨x,rfl,?_⟩;have qI:=h3.size;have nH:∀i,W.heap.size<=i->H i=none:=fun i hi=>by
   cases e:H i with
   |none=>rfl
   |some o=>have:=y5 (hW i o e);omega
  have k0:w3.heap[W.heap.size]? =some (.cells z.cells T (0,0)):=(h3.block _ aA (nH _ (aS _))).trans hN;have k1:w3.heap[W.heap.size+1]? =some (.cells #[.int .i64 0] E (0,0)):=(h3.block _ aA (nH _ aA)).trans hN1;obtain⟨e,hce,hxe⟩:=hX x H' hx;show LeavesInM Fence.wide 0 P fn #[.func (.func k) #[] caps.toArray,undef,p,q,.func (.func g) #[] #[p,q],.func (.func k) #[] caps.toArray,undef] _ [⟨.fn (.func g) #[p,q],#[]⟩] (.panicking [{v:=x,recovered:=false}]) _;refine⟨aD,.inr ⟨fun e=>by simp[Fence.wide]at e,.func g,#[p,q],g,#[p,q],rfl,Jw h.ge _ _,fun _ _=>trivial,?_⟩⟩;have hd:=hce W.heap.size (W.heap.size+1) w3 aA k0 k1;rw[hp,hq]at hd;refine hd.mono ?_;rintro en u' w' ⟨rfl,rfl,pU⟩;have r0:w'.heap[W.heap.size]? =some (.cells z.cells T (0,0)):=pU.holds _ _ (by unfold PH.put;rw[if_neg aA,if_pos rfl]);have r1:w'.heap[W.heap.size+1]? =some (.cells #[.int .i64 e] E (0,0)):=pU.holds _ _ (by unfold PH.put;rw[if_pos rfl]);refine⟨.tuple #[rdV P T z.cells,.int .i64 e],qp (l:=[rdV P T z.cells,.int .i64 e]) ?_,_,H',rfl,NC hW rA h3 uS pU.os pU.tape pU.output pU.size pU.dr ?_,.inr ⟨e,hxe,rfl⟩⟩
  ·rw[h.hr];have a0:=jh (P:=P) t.hT t.zs (fun e=>by rw[t.zs];exact t.cT e) r0 #[.func (.func k) #[] caps.toArray,undef,p,q,.func (.func g) #[] #[p,q],.func (.func k) #[] caps.toArray,undef] (t:=2) hp.symm;have a1:=jh (P:=P) (cs:= #[.int .i64 e]) t.hE t.cE.symm (fun e=>cY 0) r1 #[.func (.func k) #[] caps.toArray,undef,p,q,.func (.func g) #[] #[p,q],.func (.func k) #[] caps.toArray,undef] (t:=3) hq.symm;have e1:rdV P E #[.int .i64 e]= .int .i64 e:=by unfold rdV;rw[t.aE];rfl
   rw[e1]at a1;simp only[jQ,nR,eM,a0,a1,eL,eO]
  ·intro i i1 i2 i3;exact pU.block i i3 (by unfold PH.put;rw[if_neg aA,if_neg aA];rfl)
def Va (hm:P.follows .mixedOrders=true) (h:Ii P f g T E AT fn gn rest) (t:CcT P T E z) (hk:q8 P k=true) {caps:List Value} {H:PH} {V:Value->PH->Prop} (hc:Con P k caps H V) (hV:∀v H',V v H'->v.cells.size=P.cellsOf T/\i8 v.cells/\rdV P T v.cells=v):
  Con P f [.func (.func k) #[] caps.toArray] H fun r H'=>∃v,V v H'/\r= .tuple #[v,.int .i64 0]:=
 (Ol hm h t hk (X:=fun _ _=>False) hc.toX hV (XE:=fun _ _=>False) (fun _ _ hx=>hx.elim)).mono fun r H' hh=>hh.resolve_right fun⟨_,he,_⟩=>he
def Gz:Option Code->Code
 |some (.seq _ (.seq _ (.cond _ a _)))=>a
 |_=> .skip
end
end Go.RX
namespace Go.Z
open Proofs.Tryz RowKit RX
def d3l:g6 prog [] [] [] [] 179=some (.ri V1
(.br (.io .neq V1 (.ki 0)) (.rq (.cells 1 V1)
(.pm f179 2 2 [(.ag V1)]
(.ef false f179 2 3 [V2]
(.ret [V0])))) (.ret [V0]))):=aB
def d3m:g6 prog [] [] [] [] 268=some (.rq (.cells 16 V0)
(.ri V1
(.br (.io .neq V1 (.ki 0)) (.rq (.cells 1 V1)
(.pm f268 2 2 [(.ag V1)]
(.ef false f268 2 3 [V2]
(.ret [(.ag V0)])))) (.ret [(.ag V0)])))):=aB
def d3n:g6 prog [] [] [] [] 271=some (.ri V1
(.br (.io .neq V1 (.ki 0)) (.rq (.cells 1 V1)
(.pm f271 2 2 [(.ag V1)]
(.ef false f271 2 3 [V2]
(.ret [V0])))) (.ret [V0]))):=aB
def d3o:g6 prog [] [] [] [] 178=some (.rq (.bool V0) (.br V0
(.call false 177 [V1]
(.ret [])) (.ret []))):=aB
def d3p:g6 prog [] [] [] [] 177=some (.ri V0
(.br (.io .neq V0 (.ki 0)) (.rq (.cells 1 V0)
(.pm f177 1 2 [(.ag V0)]
(.ef false f177 1 3 [V1]
(.ret [])))) (.ret []))):=aB
def d3q:g6 prog [53] [] [⟨2,27,[9],[]⟩,⟨0,5,[],[]⟩] [⟨12,rPx 7 0++[112,240,240,1008,2047,4095,8191],rDx 14 3020020050055,rDx 14 10010,rAx 0 14,[]⟩] 118=some (.rq (.cells 2 V0) (.rq (.cells 4 V1) (.call false 52 [(.ag V0)]
(.call false 177 [V4]
(.call false 53 [(.ag V1)]
(.call false 177 [V6]
(.pm f118 4 2 [(.cell V1 3 0 noI)]
(.loop [(.ki 0),(.ki 0)]
(.ri V10
(.ri V8
(.br (.io .lss V10 V8)
(.pm f118 6 0 [(.cell V1 3 0 noI),V10]
(.pm f118 6 1 [V11]
(.rq (.cells 6 V12) (.rq (.bool (.cell V12 5 0 noI)) (.join 1
(.br (.nt (.cell V12 5 0 noI))
(.ri V9
(.next 1 [(.io .add V9 (.ki 1))])) (.next 1 [V9])) (.next 0 [V13,(.io .add V10 (.ki 1))]))))))
(.ri V9
(.rq (.int .i64 (.cell V0 0 0 noI)) (.call false 178 [(.io .neq V9 (.cell V0 0 0 noI)),(.ki 5)]
(.call false 79 [(.ag V0),V2,V3]
(.call false 177 [V12]
(.call true 180 [(.ag V1),V2,V3]
(.rq (.tup 0 V14) (.rq (.tup 1 V14) (.call true 179 [(.pj V14 0),(.pj V14 1)]
(.rq (.cells 1 V2) (.rq (.cells 1 V3) (.rq (.cells 1 V15) (.rq (.cells 9 (.cat (.ag V0) 2 (.cat (.ag V1) 4 (.cat (.sub (.put (.cat V2 1 (.cat (.z 3) 1 (.z 33))) 1 1 V3 0 noI) 0 2 0 noI) 2 V15)))) (.pub 277 (.cat (.ag V0) 2 (.cat (.ag V1) 4 (.cat (.sub (.put (.cat V2 1 (.cat (.z 3) 1 (.z 33))) 1 1 V3 0 noI) 0 2 0 noI) 2 V15))) (.ret [V16])))))))))))))))))))))))))):=aB
def d3r:g6 prog [] [] [] [] 270=some (.call false 49 [V0,(.ki 1)]
(.rq (.tup 0 V1) (.rq (.tup 1 V1) (.call false 268 [(.pj V1 0),(.pj V1 1)]
(.rq (.cells 16 V2) (.ret [(.ag V2)])))))):=aB
def d3s:g6 prog [] [] [⟨0,3,[],[]⟩] [] 233=some (.rq (.cells 2 V1)
(.pm f233 1 1 [V0]
(.pm f233 1 2 [V2]
(.pm f233 1 3 [V3]
(.pm f233 1 4 [V4,(.ki 0)]
(.pm f233 1 5 [V5]
(.pm f233 2 1 [V0]
(.pm f233 2 2 [V7]
(.pm f233 2 3 [V8]
(.pm f233 2 4 [V9]
(.loop [V6,(.ki 0)]
(.ri V12
(.ri V10
(.br (.io .lss V12 V10)
(.pm f233 4 0 [V9,V12]
(.pm f233 4 1 [V13]
(.pm f233 5 2 [V11,V14]
(.next 0 [V15,(.io .add V12 (.ki 1))])))) (.call false 270 [V11]
(.rq (.cells 16 V13) (.ret [(.ag V13)]))))))))))))))))):=aB
def d3t:g6 prog [] [] [] [⟨1,[0,1,3,7,0,16,48,112,0,256,768,1792,4095,8191,8191,32767,65535,131071],rDx 18 622002111011101110,rPx 17 0++[1],rAx 0 17,[17]⟩] 234=some (.rq (.cells 2 V1)
(.pm f234 1 1 [V0]
(.pm f234 1 2 [V2]
(.pm f234 1 3 [V3]
(.pm f234 1 5 [V0]
(.pm f234 1 6 [V5]
(.pm f234 1 7 [V6]
(.pm f234 1 9 [V0]
(.pm f234 1 10 [V8]
(.pm f234 1 11 [V9]
(.call true 272 [V4,V7,V10]
(.rq (.tup 0 V11) (.rq (.tup 1 V11) (.call true 271 [(.pj V11 0),(.pj V11 1)]
(.call true 270 [V12]
(.rq (.cells 16 V13) (.ret [(.ag V13)]))))))))))))))))):=aB
def d3u:g6 prog [] [] [] [] 181=some (.ef false f181 1 1 [V0]
(.ef false f181 1 3 [V0]
(.ef false f181 1 5 [V0]
(.ef false f181 1 7 [V0]
(.ef false f181 1 9 [V0]
(.ef false f181 1 11 [V0]
(.ef false f181 1 13 [V0]
(.ef false f181 1 15 [V0]
(.rq (.cells 1 V1) (.rq (.cells 1 V2) (.rq (.cells 1 V3) (.rq (.cells 1 V4) (.rq (.cells 1 V5) (.rq (.cells 1 V6) (.rq (.cells 1 V7) (.rq (.cells 1 V8) (.ret [(.put (.put (.put (.put (.put (.put (.put (.put (.z 279) 1 1 V1 0 noI) 2 1 V2 0 noI) 3 1 V3 0 noI) 4 1 V4 0 noI) 5 1 V5 0 noI) 6 1 V6 0 noI) 7 1 V7 0 noI) 8 1 V8 0 noI)]))))))))))))))))):=aB
def d3v:g6 prog [] [] [] [⟨3,[0,1,3,0,15,31],[0,0,5,5,2,6],[0,0,2,0,0,1],[0,1,2,3,4],[5]⟩] 119=some (.rq (.cells 2 V2) (.call false 181 [V0]
(.rq (.cells 9 V3)
(.ri V1
(.br (.io .lss V1 (.ki 1)) (.call false 178 [(.k (.bool true)),(.ki 2)]
(.rq (.num V1) (.rq (.lt 9 V1)
(.ef true f119 3 4 [(.cell V3 0 1 V1),(.ag V2)]
(.rq (.cells 16 V5) (.ret [(.ag V5)])))))) (.call false 178 [(.io .geq V1 (.ki 9)),(.ki 2)]
(.rq (.num V1) (.rq (.lt 9 V1)
(.ef true f119 3 4 [(.cell V3 0 1 V1),(.ag V2)]
(.rq (.cells 16 V5) (.ret [(.ag V5)]))))))))))):=aB
def d3w:g6 prog (rAx 7 7) [] [] [] 75=some (.rq (.cells 2 V0) (.pub 25 V0
(.rq (.cells 4 V1) (.pub 28 V1
(.rq (.cells 1 V2) (.pub 49 V2
(.rq (.cells 1 V3) (.pub 3 V3
(.rq (.cells 1 V4) (.pub 3 V4
(.rq (.cells 1 V5) (.pub 3 V5
(.rq (.cells 1 V6) (.pub 3 V6
(.ef false f75 1 0 [V7,V8,V9,V10,V11,V12,V13]
(.call false 116 [V14]
(.rq (.tup 0 V15) (.rq (.tup 1 V15) (.rq (.cells 16 (.pj V15 0)) (.ret [(.ag (.pj V15 0)),(.pj V15 1)])))))))))))))))))))):=aB
def c7t:g6 prog [] [] [] [⟨1,[0,0,0,0,15,0,0,0,192,511,1023],rDx 11 62011121111,rPx 11 0,rDx 10 9487653210,[10]⟩] 117=some (.pm f117 1 0 [V0]
(.pm f117 1 1 [V1]
(.pm f117 1 2 [V2]
(.pm f117 1 3 [V3]
(.pm f117 1 5 [V4]
(.pm f117 1 6 [V5]
(.pm f117 1 7 [V6]
(.rq (.cells 1 V12) (.rq (.cells 1 V13) (.call true 118 [V7,V8,V9,V10]
(.call true 119 [V14,V11,(.put (.cat V12 1 (.z 3)) 1 1 V13 0 noI)]
(.rq (.cells 16 V15) (.ret [(.ag V15)]))))))))))))):=aB
def d3x:g6 prog [] [] [] [] 264=some (.ri V0
(.br (.io .neq V0 (.ki 0)) (.rq (.cells 1 V0)
(.pm f264 1 2 [(.ag V0)]
(.ef false f264 1 3 [V1]
(.ret [])))) (.ret []))):=aB
def d3y:g6 prog [] [] [] [] 265=some (.rq (.bool V0) (.br V0
(.call false 264 [V1]
(.ret [])) (.ret []))):=aB
def d3z:g6 prog [] [] [] [] 230=some (.rq (.cells 4 V0) (.call false 53 [(.ag V0)]
(.call false 264 [V2]
(.ri V1
(.br (.io .lss V1 (.ki 1)) (.call false 265 [(.k (.bool true)),(.ki 2)]
(.rq (.cells 1 V1) (.ret [(.cat (.ag V0) 4 V1)]))) (.call false 265 [(.io .gtr V1 (.ki 8)),(.ki 2)]
(.rq (.cells 1 V1) (.ret [(.cat (.ag V0) 4 V1)])))))))):=aB
def d3A:g6 prog [1] [] [] [] 267=some (.rq (.cells 5 V0) (.pub 336 V0
(.ef false f267 1 0 [V1]
(.ret [V2])))):=aB
def c7u:g6 prog [] [] [⟨0,1,[],[]⟩] [] 299=some (.pm f299 0 0 [V1]
(.pm f299 0 1 [V2]
(.pm f299 0 2 [V3]
(.pm f299 0 3 [V4]
(.loop [(.ki 0)]
(.ri V6
(.ri V5
(.br (.io .lss V6 V5)
(.pm f299 2 1 [V4,V6]
(.pm f299 2 2 [V7]
(.rq (.cells 6 V8) (.rq (.bool (.cell V8 5 0 noI)) (.br (.cell V8 5 0 noI) (.ret [])
(.ef false f299 3 6 [V0,V6,(.ag V8)]
(.rq (.bool V9) (.br (.nt V9) (.ret []) (.next 0 [(.io .add V6 (.ki 1))]))))))))) (.ret []))))))))):=aB
def d3B:g6 prog [] [] [⟨4,3,[],[1]⟩,⟨0,7,[],[]⟩] [] 266=some (.rq (.cells 5 V0) (.call false 267 [(.ag V0)]
(.rf V2 2 [(.ki 0)]
(.rq (.int .i64 (.cell V5 0 0 noI)) (.next 0 [(.io .add (.cell V5 0 0 noI) (.ki 1))]))
(.pm f266 4 1 [V1]
(.ri V4
(.rq (.int .i64 (.cell V3 0 0 noI)) (.call false 265 [(.io .neq V4 (.cell V3 0 0 noI)),(.ki 220)]
(.ef false f266 5 0 []
(.pm f266 6 1 [V1]
(.loop [(.ki 0)]
(.ri V8
(.ri V7
(.br (.io .lss V8 V7)
(.pm f266 8 0 [V1,V8]
(.pm f266 8 1 [V9]
(.ri V10
(.br (.io .lss V10 (.ki 0)) (.call false 265 [(.k (.bool true)),(.ki 220)]
(.ef false f266 10 2 [V6,V10,(.k (.bool true))]
(.next 0 [(.io .add V8 (.ki 1))]))) (.rq (.int .i64 (.cell V0 4 0 noI)) (.call false 265 [(.io .geq V10 (.cell V0 4 0 noI)),(.ki 220)]
(.ef false f266 10 2 [V6,V10,(.k (.bool true))]
(.next 0 [(.io .add V8 (.ki 1))]))))))))
(.pm f266 12 1 [V6]
(.ri V9
(.rq (.int .i64 (.cell V0 4 0 noI)) (.call false 265 [(.io .neq V9 (.cell V0 4 0 noI)),(.ki 220)]
(.ret []))))))))))))))) (.dead 818)))):=aB
def d3C:g6 prog [] [] [⟨4,6,[],[]⟩] [⟨6,[0,0,0,6,14,31,63,0,128,511,1023,2047],rDx 12 810501111055,rDx 12 300000012,rAx 0 11,[11]⟩] 231=some (.rq (.cells 5 V0) (.rq (.cells 1 V1) (.call false 266 [(.ag V0),(.cell V1 0 0 noI)]
(.ef false f231 2 2 [(.cell V0 4 0 noI),(.cell V0 4 0 noI)]
(.rq (.cells 1 V3) (.call false 267 [(.ag V0)]
(.rf V4 2 []
(.rq (.cells 6 V6)
(.pm f231 6 3 [(.cell V1 0 0 noI),V5]
(.pm f231 6 4 [V7]
(.pm f231 6 5 [(.cell V3 0 0 noI),V8]
(.pm f231 6 6 [V9]
(.ri V10
(.rq (.int .i64 (.cell V6 1 0 noI))
(.pm f231 6 10 [(.cell V3 0 0 noI),V8]
(.ef false f231 6 11 [V11,(.io .add V10 (.cell V6 1 0 noI))]
(.next 0 [])))))))))) (.ret [(.cell V3 0 0 noI)]) (.dead 818)))))))):=aB
def d3D:g6 prog [3,4,5] [] [] [] 180=some (.rq (.cells 4 V0) (.pub 28 V0
(.rq (.cells 1 V1) (.pub 49 V1
(.rq (.cells 1 V2) (.pub 3 V2
(.ef false f180 1 0 [V3,V5,V4]
(.call false 228 [V6]
(.rq (.tup 0 V7) (.rq (.tup 1 V7) (.ret [(.pj V7 0),(.pj V7 1)]))))))))))):=aB
def c7v:g6 prog [] [] [] [⟨1,[0,0,3,0,15,31],[1,1,2,1,2,0],[0,0,0,0,0,0],[0,1,3,2,4,5],[]⟩] 229=some (.pm f229 1 0 [V0]
(.pm f229 1 1 [V1]
(.pm f229 1 3 [V2]
(.call true 230 [V3,V4]
(.call true 231 [V6,V5]
(.ret [V7])))))):=aB
def d3E:g6 prog [] [] [⟨0,6,[],[]⟩] [⟨8,[0,1,3,7,0,16,63,127,0,256,768,1792,0,4096,16128,32512,65535],rDx 17 1150111011501110,rDx 17 10000000100000,rAx 0 17,[]⟩] 272=some (.rq (.cells 2 V0) (.call false 129 [(.ag V0),V1,V2]
(.rq (.tup 0 V3) (.rq (.tup 1 V3) (.rq (.int .i64 (.pj V3 1)) (.br (.io .neq (.pj V3 1) (.ki 0)) (.ret [(.ki 0),(.pj V3 1)])
(.pm f272 5 1 [(.pj V3 0)]
(.pm f272 5 2 [V4]
(.pm f272 5 3 [V5]
(.pm f272 5 4 [V6]
(.pm f272 5 5 [V7]
(.loop [(.ki 0),(.ki 0)]
(.ri V10
(.ri V8
(.br (.io .lss V10 V8)
(.pm f272 7 0 [V7,V10]
(.pm f272 7 1 [V11]
(.rq (.cells 2 V12)
(.pm f272 8 1 [(.pj V3 0)]
(.pm f272 8 2 [V13]
(.pm f272 8 3 [V14]
(.pm f272 8 6 [V15,(.cell V12 0 0 noI)]
(.pm f272 8 7 [V16]
(.pm f272 8 9 [(.pj V3 0)]
(.pm f272 8 10 [V18]
(.pm f272 8 11 [V19]
(.pm f272 8 14 [V20,(.cell V12 1 0 noI)]
(.pm f272 8 15 [V21]
(.ri V17
(.ri V22
(.br (.io .neq V17 V22)
(.ri V9
(.next 0 [(.io .add V9 (.ki 1)),(.io .add V10 (.ki 1))])) (.next 0 [V9,(.io .add V10 (.ki 1))]))))))))))))))))) (.ret [V9,(.ki 0)])))))))))))))))):=aB
end Go.Z
namespace Go.RX
open RowKit RZ
def c7w {P:Program} {H:PH} {o:Oper} {x:Operand} {kt et t:TypeId} {κ:Type} {ok:κ->Prop} {ke:κ->Value} {vs:List Value} {m:Value} {L:List (κ×Value)} (ho:o.op= .call ⟨.builtin .len,#[x],#[t]⟩) (hx:e8 [x] vs x=m) (hu:P.underlying t=some (.map kt et)) (h:MK ok ke H m L):Rds P o vs H (.int .i64 (L.length:Nat)):=by
 obtain⟨r,es,clock,rfl,hH,_,rfl⟩:=h;have:=LF (P:=P) ho hx hu hH;have e:(eN ke es).toArray.size=(kvN es).length:=by simp[eN,kvN]
 rw[e]at this;exact this
end Go.RX
namespace Go.GS
structure PlOk (n k:Nat) (p:List Int):Prop where
 len:p.length=n
 lab:∀x∈p,0<=x/\x<(k:Nat)
 all:∀d,d<k->((d:Nat):Int)∈p
def Br (f:Un->Int) (us:List Un) (p:List Int):Nat->Nat->Int
 |0,_=>0
 |i+1,d=>Br f us p i d+(match p[i]?,us[i]? with|some x,some u=>if x=(d:Nat)then f u else 0|_,_=>0)
def Bt (f:Un->Int) (us:List Un) (p:List Int) (k i:Nat):List Int:=(eT k).map (Br f us p i)
def Qx {f:Un->Int} {us:List Un} {p:List Int} {k i:Nat}:(Bt f us p k i).length=k:=by simp[Bt]
def Yz {f:Un->Int} {us:List Un} {p:List Int} {k i d:Nat} (h:d<k):(Bt f us p k i)[d]? =some (Br f us p i d):=by
 unfold Bt;rw[aY,cC h];rfl
def c1Y {f:Un->Int} {us:List Un} {p:List Int} {k:Nat}:Bt f us p k 0=List.replicate k 0:=by
 apply bG;intro d;by_cases h:d<k
 ·rw[Yz h,cZ,if_pos h];rfl
 ·rw[aP (by rw[Qx];omega),aP (by simp;omega)]
def c1Z {f:Un->Int} {us:List Un} {p:List Int} {k i:Nat} {x:Nat} {u:Un} (hp:p[i]? =some ((x:Nat):Int)) (hu:us[i]? =some u):Bt f us p k (i+1)=(Bt f us p k i).set x (Br f us p i x+f u):=by
 apply bG;intro d;rw[bZ];by_cases h:d<k
 ·rw[Yz h];show some (Br f us p i d+_)=_;rw[hp,hu];simp only;by_cases e:x=d
  ·subst e;rw[if_pos rfl,if_pos rfl,if_pos (by rw[Qx];exact h)]
  ·rw[if_neg aA,if_neg e,Yz h,Int.add_zero]
 ·rw[aP (by rw[Qx];omega)];split
  ·rename_i e;rw[if_neg (by rw[Qx];omega)]
  ·rw[aP (by rw[Qx];omega)]
def ND {f:Un->Int} {us:List Un} {p:List Int} {M:Int} (h0:0<=M) (h:∀x∈us,0<=f x/\f x<=M) (d:Nat):∀i:Nat,0<=Br f us p i d/\Br f us p i d<=(i:Nat)*M:=by
 intro i;induction i with
 |zero=>exact⟨Int.le_refl _,by simp[Br]⟩
 |succ i ih=>
  have e:Br f us p (i+1) d=Br f us p i d+(match p[i]?,us[i]? with|some x,some u=>if x=(d:Nat)then f u else 0|_,_=>0):=rfl;have hb:0<=(match p[i]?,us[i]? with|some x,some u=>if x=(d:Nat)then f u else 0|_,_=>0)/\(match p[i]?,us[i]? with|some x,some u=>if x=(d:Nat)then f u else 0|_,_=>0)<=M:=by
   split
   ·rename_i x u h1 h2;have:=h u (aJ h2);split<;>omega
   ·omega
  rw[e,Int.natCast_succ,Int.add_mul,Int.one_mul];omega
def c7x {κ:Type} {L:List (Int×κ)} {k:Nat} (hn:(L.map (·.1)).Nodup) (h1:∀x∈L.map (·.1),(0:Int)<=x/\x<((k:Nat):Int)) (h2:∀d,d<k->((d:Nat):Int)∈L.map (·.1)):L.length=k:=by
 have hp:(L.map fun p:Int×κ=>p.1).Perm ((eT k).map fun d:Nat=>(d:Int)):=by
  rw[List.perm_ext_iff_of_nodup hn]
  ·intro x;constructor
   ·intro hx;obtain⟨a,b⟩:=h1 x hx;exact bK.2 ⟨x.toNat,bH.2 aA,aA⟩
   ·intro hx;obtain⟨d,hd,rfl⟩:=bK.1 hx;exact h2 d (bH.1 hd)
  ·exact List.pairwise_map.2 (List.nodup_range.imp fun h e=>h aA)
 have:=hp.length_eq;simpa using this
end Go.GS
namespace Go.Z
open Proofs.Tryz RowKit RX GS
section
variable {dm:Dm} {H B:PH} {n k:Nat} {us:List Un} {w:Value} {u v:Value}
def c2a:Asks prog 264 [ii 0] H (.tuple #[]):=by
 refine g9 mixed d3x ?_;refine b9 ?_;refine j1 (bF (p:=(0:Int)≠0) aD) ?_;exact c9 rfl ⟨rfl,rfl⟩
def jj (e:Int):Asks prog 265 [.bool false,ii e] H (.tuple #[]):=by
 refine g9 mixed d3y ?_;refine b9 ?_;refine j1 rfl ?_;exact c9 rfl ⟨rfl,rfl⟩
def caB (dm:Dm) (w:Value) (k:Nat):Array Value:= #[ii (dm.g:Nat),ii (dm.p:Nat),ii (dm.l:Nat),w,ii (k:Nat)]
def coV (dm:Dm) (w:Value) (k:Nat):Value:= .agg (caB dm w k)
def yh (h:n8 w=true):(coV dm w k).cells.size=5/\i8 (coV dm w k).cells:=⟨rfl,fun c hc=>by
 simp[coV,caB,Value.cells]at hc;rcases hc with rfl|rfl|rfl|rfl|rfl
 ·rfl
 ·rfl
 ·rfl
 ·exact h
 ·rfl⟩
def c2b (hr:RoR H w us) (hv:RoV dm n us) (hk:1<=k/\k<=8):j5 prog 230 [rov dm w,ii (k:Nat)] H (coV dm w k):=by
 refine g9 mixed d3z ?_;refine b4 (Oi hr.one) ?_;refine i9 (Uz hr hv) rfl fun H1 l1=> ?_;simp only[cA,nA];refine s7 (c2a) rfl ?_;simp only[cA,nA];refine b9 ?_;refine j1 (bF (p:=((k:Nat):Int)<1) aA) ?_;refine s7 (jj 2) (j0 (bF (p:=((k:Nat):Int)>8) aA) rfl) ?_;simp only[cA,nA];refine b4 (el_int.vcells _) ?_;exact c9 rfl ⟨l1,rfl⟩
def Gg (dm:Dm) (b:Nat) (w:Value) (k:Nat):PH:=PH.nil.put b (.cells (caB dm w k) 336 (0,0))
def c2c (b:Nat) (w:Value) (k:Nat):Gg dm b w k b=some (.cells (caB dm w k) 336 (0,0)):=PH.put_self _ _ _
def NE {X:PH} {b:Nat} (h:X b=none):Disj X (Gg dm b w k):=fl (Ue X) h
def NF:q8 prog 299=true:=aB
def NG (hw:n8 w=true):Con prog 267 [coV dm w k] H fun u H'=>∃b,H b=none/\H'=H.or (Gg dm b w k)/\u= .func (.func 299) #[] #[.pointer (some ⟨b,0,none⟩)]:=by
 refine g9 mixed d3A ?_;refine b4 (yh hw) ?_;refine o0 (cs:=caB dm w k) rfl fun b hb=> ?_;simp only[cA,nA];refine x5 (Ai (vs:=[.pointer (some ⟨b,0,none⟩)]) rfl rfl) rfl ?_;simp only[cA,nA];exact c9 rfl ⟨b,hb,PH.put_or hb,rfl⟩
def d7v:FA prog 336 0 0:=⟨aB,oDt aB,aB,aB,oDt aB⟩
def d7w:FA prog 28 3 3:=⟨aB,oDt aB,aB,aB,oDt aB⟩
def d7x:Sc prog 26:=⟨aB,aB,aB⟩
def NH {b:Nat} {Ro:PH} (hr:RoR Ro w us) (hv:RoV dm n us):ItC prog 299 [.pointer (some ⟨b,0,none⟩)] Ro (Gg dm b w k) (fun pre xs=>∃u x,us[pre.length]? =some x/\pre.length<n/\UnR Ro u x/\xs=[ii (pre.length:Nat),veU u]) (fun xs _=>xs.length=n) (fun _ _=>True):=by
 intro l J Jx uH hY X hX hd w' qS;refine(t8 (H:=X.or (Gg dm b w k)) (V:=fun _ H'=>∃X' K',Pl (X'.or K') H'/\Disj X' K'/\((∃xs,xs.length=n/\J xs X')\/(∃pre,True/\Jx pre X'))) mixed c7u aB rfl ?_ w' qS).mono fun e w' ⟨v,H',he,pU,hV⟩=>⟨v,H',he,pU,hV⟩;have hb:=PH.or_right hd (c2c b w k);obtain⟨ul,zK,pB,sC⟩:=hr;have oW:=hv.le;have sA:=hv.l64;refine i0 d7v ?_;simp only[cA,nA];refine i0 d7w ?_;simp only[cA,nA];refine i7 d7x rfl rfl hb rfl rfl ?_;simp only[cA,nA];refine Gt el_unit rfl rfl (zK.mono ((uH _ _ hX).trans (PH.le_or _ _))) rfl ?_;simp only[cA,nA];refine t6 (α:=Nat×List (List Value)×PH) (fun⟨i,pre,X'⟩=>[ii (i:Nat)]) (fun⟨i,pre,X'⟩=>fun H'=>i<=n/\H'=X'.or (Gg dm b w k)/\Disj X' (Gg dm b w k)/\pre.length=i/\J pre X') (fun⟨i,pre,X'⟩=>us.length-i) ((0,[],X)) rfl (⟨bJ _,rfl,hd,rfl,hX⟩) fun⟨i,pre,X'⟩ H' hQ=> ?_;simp only[cA,nA];obtain⟨hi,rfl,pL,pA,hJ⟩:=hQ;refine b9 (b9 ?_);refine g8 (b:=decide (((i:Nat):Int)<(ul.length:Nat))) rfl (fun h=> ?_) (fun h=> ?_)
 ·replace h:=oDt h;have yR:i<ul.length:=aA;obtain⟨u,hu,_⟩:=u6 yR;obtain⟨x,hx,_⟩:=u6 (show i<us.length by omega);have hR:=sC i u x hu hx;have pY:u.wat=decide (n<=i):=hR.wat.trans (hv.wat i x hx);refine By el_unit rfl rfl rfl rfl aF (zK.mono ((uH _ _ hJ).trans (PH.le_or _ _))) hu rfl aF fun _=> ?_;simp only[cA,nA];refine b4 (La u) ?_;refine b9 ?_;refine g8 (b:=u.wat) rfl (fun pS=> ?_) (fun pS=> ?_)
  ·skip
   have hni:n<=i:=by rw[pY]at pS;exact oDt pS
   exact c9 rfl ⟨X',Gg dm b w k,Pl.refl _,pL,.inl ⟨pre,aA,hJ⟩⟩
  ·skip
   have hni:¬n<=i:=by rw[pY]at pS;exact oDf pS
   refine Uf (hY _ [ii (i:Nat),veU u] X' (Gg dm b w k) ⟨u,x,by rw[pA];exact hx,aA,hR,by rw[pA]⟩ hJ pL) rfl rfl rfl rfl rfl fun v X2 pE hV=> ?_;simp only[cA,nA];obtain⟨bb,rfl,pV,tR⟩:∃bb,v= .bool bb/\(bb=true->J (pre++[[ii (i:Nat),veU u]]) X2)/\(bb=false->Jx (pre++[[ii (i:Nat),veU u]]) X2):=by
    rcases hV with⟨rfl,h⟩|⟨rfl,h⟩
    ·exact⟨true,rfl,fun _=>h,(fun h=>nomatch h)⟩
    ·exact⟨false,rfl,(fun h=>nomatch h),fun _=>h⟩
   refine b9 ?_;refine g8 (b:= !bb) rfl (fun qC=> ?_) (fun qC=> ?_)
   ·skip
    exact c9 rfl ⟨X2,Gg dm b w k,Pl.refl _,pE,.inr ⟨_,trivial,tR (by simpa using qC)⟩⟩
   ·skip
    exact⟨(i+1,pre++[[ii (i:Nat),veU u]],X2),by show us.length-(i+1)<us.length-i;omega,(j7 (p6 rfl aA)),⟨by show i+1<=n;omega,rfl,pE,by rw[aL];simp;omega,pV (by simpa using qC)⟩⟩
 ·replace h:=oDf h;exact c9 rfl ⟨X',Gg dm b w k,Pl.refl _,pL,.inl ⟨pre,aA,hJ⟩⟩
end
open Go.RZ
section
variable {dm:Dm} {H B:PH} {n k:Nat} {us:List Un} {w:Value} {u v:Value} {p:List Int}
def Za {a b:Int} (h:a=b):Value.bool (!(a==b))= .bool false:=by subst h;simp
def NI:prog.underlying 297=some (.map 3 4):=aB
def c2d (hr:RoR H w us) (hv:RoV dm n us) (hk:1<=k/\k<=8) (hp:SI H v p) (ho:PlOk n k p):j5 prog 266 [coV dm w k,v] H (.tuple #[]):=by
 refine g9 mixed d3B ?_;have oW:=hv.le;have sA:=hv.l64;have tQ:=ho.len;refine b4 (yh hr.one) ?_;refine g5 (NG hr.one) rfl ?_;rintro _ _ ⟨b,hb,rfl,rfl⟩;refine nmI ?_;simp only[cA,nA];refine Hz (X:=H) (K:=Gg dm b w k) (Ro:=H) (fun pre vals X'=>X'=H/\vals=[ii (pre.length:Nat)]) (fun _ _ _=>False) (NH hr hv) NF (NE hb) rfl (fun _ _ _ h=>by rw[h.1];exact Pl.refl _) ⟨rfl,rfl⟩ ?_ ?_ ?_
 ·rintro pre xs vals X' ⟨u,x,hx,tG,hR,rfl⟩ _ ⟨rfl,rfl⟩;refine⟨rfl,?_⟩;simp only[cA,nA];refine b9 ?_;exact⟨rfl,by rw[aL];exact j7 (p6 (n:=pre.length) rfl aA)⟩
 ·rintro xs vals X' K' hxn hd _ ⟨rfl,rfl⟩;simp only[cA,nA];have l0:Pl X' (X'.or K'):=PH.le_or _ _;refine r8 y6 (hp.mono l0) ?_;refine b9 (b9 ?_);refine s7 (jj 220) (j0 (Za (a:=((p.length:Nat):Int)) (b:=((xs.length:Nat):Int)) aA) rfl) ?_;simp only[cA,nA];refine j4 (Ji (ok:=fun _:Int=>True) (ke:=ii) LQ rfl) rfl ?_;rintro v6 H3 ⟨l3,o3⟩;refine nmI ?_;simp only[cA,nA];refine r8 y6 (hp.mono (l0.trans l3)) ?_;refine t6 (α:=Nat×List (Int×Value)) (fun⟨i,L⟩=>[ii (i:Nat)]) (fun⟨i,L⟩=>fun H'=>i<=p.length/\Pl (X'.or K') H'/\MKO (fun _:Int=>True) ii (X'.or K') H' v6 L/\(∀x∈L.map (·.1),x∈p)/\∀x∈p.take i,x∈L.map (·.1)) (fun⟨i,L⟩=>p.length-i) ((0,[])) rfl (⟨bJ _,l3,o3,(fun x h=>nomatch h),(fun x h=>nomatch h)⟩) fun⟨i,L⟩ H' hQ=> ?_;simp only[cA,nA];obtain⟨hi,l4,o4,hL1,uA⟩:=hQ;refine b9 (b9 ?_);refine g8 (b:=decide (((i:Nat):Int)<(p.length:Nat))) rfl (fun h=> ?_) (fun h=> ?_)
  ·replace h:=oDt h;have pO:i<p.length:=aA;obtain⟨x,hx,_⟩:=u6 pO;have hxk:=ho.lab x (aJ hx);refine r6 y6 (hp.mono (l0.trans l4)) hx fun _=> ?_;simp only[cA,nA];refine b9 ?_;refine j1 (bF (p:=x<0) aA) ?_;refine b9 ?_;refine s7 (jj 220) (j0 (bF (p:=x≥((k:Nat):Int)) aA) rfl) ?_;simp only[cA,nA];refine j4 (Up LQ (k:=x) (vs:=[v6,ii x,.bool true]) rfl rfl rfl rfl NI trivial l4 o4) rfl ?_;rintro _ H5 ⟨rfl,l5,o5,-⟩;refine nmI ?_;simp only[cA,nA];have zW:∀y,y∈(Dh L x (Value.bool true)).map (·.1)↔y=x\/y∈L.map (·.1):=fun y=>by
    constructor
    ·intro hy;obtain⟨q,hq,rfl⟩:=bK.1 hy;rcases iq (x:=q.1) (y:=q.2) hq with⟨h,_⟩|⟨_,h⟩
     ·exact .inl h
     ·exact .inr (bK.2 ⟨_,h,rfl⟩)
    ·rintro(rfl|hy)
     ·exact bK.2 ⟨_,ir,rfl⟩
     ·by_cases e:y=x
      ·subst e;exact bK.2 ⟨_,ir,rfl⟩
      ·obtain⟨q,hq,rfl⟩:=bK.1 hy;exact bK.2 ⟨_,LK (x:=q.1) (y:=q.2) hq e,rfl⟩
   have vC:∀y∈(Dh L x (Value.bool true)).map (·.1),y∈p:=fun y hy=>by
    rcases(zW y).1 hy with rfl|h
    ·exact aJ hx
    ·exact hL1 y h
   have zA:∀y∈p.take (i+1),y∈(Dh L x (Value.bool true)).map (·.1):=fun y hy=>by
    rw[take_snoc hx,bC,bA]at hy;rcases hy with hy|hy
    ·exact(zW y).2 (.inr (uA y hy))
    ·exact(zW y).2 (.inl hy)
   exact⟨(i+1,Dh L x (.bool true)),by show p.length-(i+1)<p.length-i;omega,(j7 (p6 rfl aA)),⟨by show i+1<=_;omega,l5,o5,vC,zA⟩⟩
  ·replace h:=oDf h;rw[aI aA]at uA;refine j6 (c7w (vs:=[v6]) rfl rfl NI o4.mk) rfl ?_;simp only[cA,nA];have pB:L.length=k:=c7x o4.mk.keys.1 (fun x hx=>ho.lab x (hL1 x hx)) (fun d hd=>uA _ (ho.all d hd));refine b9 (b9 ?_);refine s7 (jj 220) (j0 (Za (a:=((L.length:Nat):Int)) (b:=((k:Nat):Int)) aA) rfl) ?_;simp only[cA,nA];exact c9 rfl ⟨l0.trans l4,rfl⟩
 ·exact fun _ _ _ _ _ _ _ h=>h.elim
def jk (hv:RoV dm n us):∀x∈us,0<=x.ppl/\x.ppl<=1000000000:=fun x hx=>by
 have hu:=hv.un x hx;have h1:=hu.p0;have h2:=hu.p1;split at h2<;>omega
def c7z (hr:RoR H w us) (hv:RoV dm n us) (hk:1<=k/\k<=8) (hp:SI H v p) (ho:PlOk n k p):Con prog 231 [coV dm w k,v] H fun r H'=>Pl H H'/\SI H' r (Bt (·.ppl) us p k n):=by
 refine g9 mixed d3C ?_;have oW:=hv.le;have sA:=hv.l64;have tQ:=ho.len;refine b4 (yh hr.one) ?_;refine b4 (hp.one) ?_;refine i9 (c2d hr hv hk hp ho) (j0 rfl (Bz rfl hp.cells)) fun H1 l1=> ?_;simp only[cA,nA];refine Nz el_int (m:=k) (z:=0) aB rfl rfl rfl aA rfl fun v3 H2 l2 o2 _=> ?_;simp only[cA,nA];refine b4 (o2.se.one) ?_;refine g5 (NG hr.one) rfl ?_;rintro _ _ ⟨b,hb,rfl,rfl⟩;refine nmI ?_;simp only[cA,nA];refine Hz (X:=H2) (K:=Gg dm b w k) (Ro:=H) (fun pre vals X'=>Pl H1 X'/\vals=[]/\SO H1 X' 3 1 (fun z:Int=>[ii z]) v3 (Bt (·.ppl) us p k pre.length)) (fun _ _ _=>False) (NH hr hv) NF (NE hb) rfl (fun _ _ _ h=>l1.trans h.1) ⟨l2,rfl,by rw[bR,c1Y];exact o2⟩ ?_ ?_ ?_
 ·rintro pre xs vals X' ⟨u,x,hx,tG,hR,rfl⟩ _ ⟨lX,rfl,oX⟩;refine⟨rfl,?_⟩;simp only[cA,nA];refine b4 (La u) ?_;obtain⟨y,hy,_⟩:=u6 (show pre.length<p.length by omega);obtain⟨uK,hyk⟩:=ho.lab y (aJ hy);obtain⟨d,rfl⟩:∃d:Nat,y=((d:Nat):Int):=⟨y.toNat,aA⟩;have hdk:d<k:=aA;have pV:=ND (p:=p) (f:=Un.ppl) aA (jk hv) d pre.length;have hxb:=jk hv x (aJ hx);have hup:=hR.ppl;refine By y6 rfl rfl rfl rfl aF (hp.mono (l1.trans lX)) hy (j0 (Bz rfl hp.cells) rfl) aF fun _=> ?_;simp only[cA,nA];refine By el_int rfl rfl rfl rfl aF oX.se (Yz (f:=Un.ppl) (us:=us) (p:=p) (i:=pre.length) hdk) (j0 (Bz rfl oX.se.cells) rfl) aF fun _=> ?_;simp only[cA,nA];refine b9 (b9 ?_);refine Dl el_int (a:=Br Un.ppl us p pre.length d+u.ppl) rfl rfl rfl rfl aF aF lX oX (by rw[Qx];exact hdk) (j0 (Bz rfl oX.se.cells) rfl) (fun _=>j0 rfl (Qo rfl rfl aA aA)) rfl fun p5 u5 H5 l5 o5 _=> ?_;simp only[cA,nA];have e5:(Bt Un.ppl us p k pre.length).set d (Br Un.ppl us p pre.length d+u.ppl)=Bt Un.ppl us p k (pre.length+1):=by rw[c1Z hy hx,hup]
  rw[e5]at o5;exact⟨l5,rfl,by rw[aL];exact o5⟩
 ·rintro xs vals X' K' hxn hd _ ⟨lX,rfl,oX⟩;simp only[cA,nA];have l0:Pl X' (X'.or K'):=PH.le_or _ _;exact c9 (Bz rfl oX.se.cells) ⟨(l1.trans lX).trans l0,by rw[<-hxn];exact oX.se.mono l0⟩
 ·exact fun _ _ _ _ _ _ _ h=>h.elim
end
end Go.Z
namespace Go.GS
def Ff (a:Int) (l:List Int):Int:=l.foldl (fun m x=>if x>m then x else m) a
def NJ {lo hi:Int}:∀(l:List Int) (a:Int),lo<=a/\a<=hi->(∀x∈l,lo<=x/\x<=hi)->lo<=Ff a l/\Ff a l<=hi:=by
 intro l;induction l with
 |nil=>intro a h _;exact h
 |cons x l ih=>
  intro a h hl;have hx:=hl x aD;exact ih _ (by dsimp only;split<;>omega) (fun y hy=>hl y (by simp[hy]))
def c2e (a x:Int) (l:List Int):Ff a (l++[x])=if x>Ff a l then x else Ff a l:=by
 unfold Ff;rw[List.foldl_append];rfl
def b4L (a:Int):Rat.divInt a 1=(a:Rat):=by rw[Rat.divInt_eq_div];grind
end Go.GS
namespace Go.Z
open Proofs.Tryz RowKit RX GS RZ WD
section
variable {dm:Dm} {H B:PH} {n k:Nat} {us:List Un} {w:Value} {u v:Value} {p:List Int}
def yi:Ag prog 28 4:=⟨aB,aB,aB⟩
def Jj:Sc prog 49:=⟨aB,aB,aB⟩
def c2f:q8 prog 229=true:=aB
def e0C:Ii prog 228 263 33 36 20 ((prog.funcs[228]?).getD default) ((prog.funcs[263]?).getD default) (Gz ((prog.funcs[263]?).getD default).body):=⟨aB,aB,aB,aB,aB,aB,aB,aB,aB,aB⟩
def e2q:CcT prog 33 36 (.slice none 0 0):=⟨aB,aB,aB,aB,aB,aB,aB,fun _=>oDt aB⟩
def e2r:CcT prog 46 36 (.agg (Array.replicate 16 (.int .u64 0))):=⟨aB,aB,aB,aB,aB,aB,aB,fun h=>absurd (show p8 prog 46=true by kernel_rfl) (by rw[h];decide)⟩
def e2s (a b:Nat):(shv a b).cells.size=prog.cellsOf 46/\i8 (shv a b).cells/\rdV prog 46 (shv a b).cells=shv a b:=by
 have h1:p8 prog 46=true:=aB;have h2:prog.cellsOf 46=16:=aB;refine⟨by rw[h2];exact(r4 a b).1,(r4 a b).2,?_⟩;unfold rdV;rw[h1];rfl
def e2t {H:PH} {v:Value} {l:List Int} (h:SI H v l):v.cells.size=prog.cellsOf 33/\i8 v.cells/\rdV prog 33 v.cells=v:=by
 have h1:p8 prog 33=false:=aB;have h2:prog.cellsOf 33=1:=aB;refine⟨by rw[h2];exact h.one.1,h.one.2,?_⟩;unfold rdV;rw[h1,h.cells];rfl
structure NK (dm:Dm) (H:PH) (a b c:Nat) (w v:Value) (k:Nat):Prop where
 ro:H a=some (.cells #[ii (dm.g:Nat),ii (dm.p:Nat),ii (dm.l:Nat),w] 28 (0,0))
 nk:H b=some (.cells #[ii (k:Nat)] 3 (0,0))
 pl:H c=some (.cells #[v] 49 (0,0))
def c2g {a b c:Nat} (hc:NK dm H a b c w v k) (hr:RoR H w us) (hv:RoV dm n us) (hk:1<=k/\k<=8) (hp:SI H v p) (ho:PlOk n k p):Con prog 229 [.pointer (some ⟨a,0,none⟩),.pointer (some ⟨b,0,none⟩),.pointer (some ⟨c,0,none⟩)] H fun r H'=>Pl H H'/\SI H' r (Bt (·.ppl) us p k n):=by
 refine g9 mixed c7v ?_;refine s5 (vs:=[ii (dm.g:Nat),ii (dm.p:Nat),ii (dm.l:Nat),w]) yi rfl rfl hc.ro rfl aD rfl ?_;simp only[cA,nA];refine i7 sc_int rfl rfl hc.nk rfl rfl ?_;simp only[cA,nA];refine i7 Jj rfl rfl hc.pl rfl rfl ?_;simp only[cA,nA];refine i9 (c2b hr hv hk) rfl fun H1 l1=> ?_;simp only[cA,nA];refine g5 (c7z (hr.mono l1) hv hk (hp.mono l1) ho) rfl ?_;rintro r H2 ⟨l2,h2⟩;refine⟨(fun _=>l2),?_⟩;simp only[cA,nA];exact c9 rfl ⟨l1.trans l2,h2⟩
def c7A (hr:RoR H w us) (hv:RoV dm n us) (hk:1<=k/\k<=8) (hp:SI H v p) (ho:PlOk n k p):Con prog 180 [rov dm w,v,ii (k:Nat)] H fun r H'=>Pl H H'/\∃t,r= .tuple #[t,ii 0]/\SI H' t (Bt (·.ppl) us p k n):=by
 refine g9 mixed d3D ?_;refine b4 (Oi hr.one) ?_;refine o0 (cs:= #[ii (dm.g:Nat),ii (dm.p:Nat),ii (dm.l:Nat),w]) rfl fun a ha=> ?_;simp only[cA,nA];refine b4 (hp.one) ?_;refine o0 (cs:= #[v]) hp.cells fun c hc=> ?_;simp only[cA,nA];refine b4 (el_int.vcells _) ?_;refine o0 (cs:= #[ii (k:Nat)]) rfl fun b hb=> ?_;simp only[cA,nA];refine x5 (Ai (vs:=[.pointer (some ⟨a,0,none⟩),.pointer (some ⟨b,0,none⟩),.pointer (some ⟨c,0,none⟩)]) rfl rfl) rfl ?_;simp only[cA,nA];have la:=PH.le_put ha (.cells #[ii (dm.g:Nat),ii (dm.p:Nat),ii (dm.l:Nat),w] 28 (0,0));have lc:=PH.le_put hc (.cells #[v] 49 (0,0));have lb:=PH.le_put hb (.cells #[ii (k:Nat)] 3 (0,0));have l0:=(la.trans lc).trans lb;have tA:NK dm _ a b c w v k:=⟨lb _ _ (lc _ _ (PH.put_self _ _ _)),PH.put_self _ _ _,lb _ _ (PH.put_self _ _ _)⟩;refine g5 (Va (caps:=[.pointer (some ⟨a,0,none⟩),.pointer (some ⟨b,0,none⟩),.pointer (some ⟨c,0,none⟩)]) mixed e0C e2q c2f (c2g tA (hr.mono l0) hv hk (hp.mono l0) ho) (fun _ _ h=>e2t h.2)) rfl ?_;rintro _ H4 ⟨t,⟨l4,ht⟩,rfl⟩;refine nmI ?_;simp only[cA,nA];refine g7 (g7 ?_);exact c9 rfl ⟨l0.trans l4,t,rfl,ht⟩
end
end Go.Z
namespace Go.GS
def PlOk.ok {n k:Nat} {p:List Int} (h:PlOk n k p) (h1:1<=n) (sA:n<=64):LabOk p (k:Nat)/\Cb p k:=by
 refine⟨⟨h.lab,by rw[h.len];omega,by rw[h.len];exact sA⟩,fun d hd e=> ?_⟩;obtain⟨i,hi⟩:=eJ.1 (h.all d hd);have oV:=(aH.1 hi).1;have:bit (Fz p d) i=true:=by unfold Fz;rw[gu,oDd oV,oDd hi];rfl
 rw[e,Ej]at this;cases this
def Jk (es:List (Nat×Nat)) (p:List Int):Nat:=es.countP fun e=>decide (p[e.1]?≠p[e.2]?)
end Go.GS
namespace Go.Z
open Proofs.Tryz RowKit RX GS RZ WD
section
variable {H B:PH} {n k:Nat} {es:List (Nat×Nat)} {w:Value} {u v:Value} {p:List Int}
def c2h (hw:SG H w es) (hg:GV n es) (hu:SI H u p) (hk:1<=k/\k<=8) (ho:PlOk n k p):Con prog 129 [gv n w,u,ii (k:Nat)] H fun r H'=>Pl H H'/\∃b z,r= .tuple #[.pointer (some ⟨b,0,none⟩),ii 0]/\H' b=some (.cells #[ii (n:Nat),w,u,z] 296 (0,0)):=by
 refine g9 mixed JH ?_;obtain⟨hL,hU⟩:=ho.ok hg.n1 hg.n64;refine b4 (Be hw) ?_;refine i9 (Fv hw hg) rfl fun H1 l1=> ?_;simp only[cA,nA];refine b9 ?_;refine j1 (bF (p:=(0:Int)≠0) aD) ?_;refine b9 ?_;refine j1 (bF (p:=((k:Nat):Int)<1) aA) ?_;refine j1 (bF (p:=((k:Nat):Int)>8) aA) ?_;refine r8 y6 (hu.mono l1) ?_;refine b9 (b9 ?_);refine j1 (Za (a:=((p.length:Nat):Int)) (b:=((n:Nat):Int)) (by have:=ho.len;omega)) ?_;refine s7 (je (hu.mono l1) (k:Nat)) rfl ?_;simp only[cA,nA];refine b9 ?_;refine j1 (by show Value.bool (!decide (LabOk p (k:Nat)))=_;rw[oDd hL];rfl) ?_;refine g5 (xy aA (hu.mono l1) hL) rfl ?_;rintro _ H2 ⟨l2,z,rfl,hz⟩;refine nmI ?_;simp only[cA,nA];refine g7 (g7 (b9 ?_));refine j1 (by show Value.bool (!decide (Cb p k))=_;rw[oDd hU];rfl) ?_;refine b4 ((hu.mono l1).one) ?_;refine b4 ((hz hU).one) ?_;refine o0 (cs:=_) rfl fun b hb=> ?_;simp only[cA,nA];have xH:=hz hU;obtain⟨_,a,c,rfl,_⟩:=id xH;obtain⟨_,a2,c2,rfl,_⟩:=id hu;exact c9 rfl ⟨(l1.trans l2).trans (PH.le_put hb _),b,_,rfl,by rw[PH.put_self];rfl⟩
def d7z:FA prog 296 0 0:=⟨aB,oDt aB,aB,aB,oDt aB⟩
def NL:FA prog 296 1 2:=⟨aB,oDt aB,aB,aB,oDt aB⟩
def d7A:FA prog 25 1 1:=⟨aB,oDt aB,aB,aB,oDt aB⟩
def d7B:Sc prog 23:=⟨aB,aB,aB⟩
def c2i {es:List (Nat×Nat)} {p:List Int} {i:Nat} {e:Nat×Nat} (h:es[i]? =some e):Jk (es.take (i+1)) p=Jk (es.take i) p+if p[e.1]?≠p[e.2]? then 1 else 0:=by
 unfold Jk;rw[take_snoc h,List.countP_append];simp[List.countP_cons]
def yj {es:List (Nat×Nat)} {p:List Int}:Jk es p<=es.length:=List.countP_le_length
def c2j (hw:SG H w es) (hg:GV n es) (hu:SI H u p) (hk:1<=k/\k<=8) (ho:PlOk n k p):j5 prog 272 [gv n w,u,ii (k:Nat)] H (.tuple #[ii (Jk es p:Nat),ii 0]):=by
 refine g9 mixed d3E ?_;have qP:=hg.len;have tQ:=ho.len;refine b4 (Be hw) ?_;refine g5 (c2h hw hg hu hk ho) rfl ?_;rintro _ H1 ⟨l1,b,z,rfl,hb⟩;refine nmI ?_;simp only[cA,nA];refine g7 (g7 (b9 ?_));refine j1 (bF (p:=(0:Int)≠0) aD) ?_;refine j9 ?_;simp only[cA,nA];refine i0 d7z ?_;simp only[cA,nA];refine i0 d7A ?_;simp only[cA,nA];refine i7 d7B rfl rfl hb rfl rfl ?_;simp only[cA,nA];refine r8 el_edge (hw.mono l1) ?_;refine Jg (α:=Nat) (fun i=>[ii (Jk (es.take i) p:Nat),ii (i:Nat)]) (fun i=>i<=es.length) (fun i=>es.length-i) (0) rfl ((bJ _)) fun i hQ=> ?_;simp only[cA,nA];refine b9 (b9 ?_);refine g8 (b:=decide (((i:Nat):Int)<(es.length:Nat))) rfl (fun h=> ?_) (fun h=> ?_)
 ·replace h:=oDt h;have pO:i<es.length:=aA;obtain⟨e,he,_⟩:=u6 pO;have hed:=hg.ed _ (aJ he);have rZ:=yj (es:=es.take i) (p:=p);rw[bD]at rZ;refine r6 el_edge (hw.mono l1) he fun _=> ?_;simp only[cA,nA];refine b4 (el_edge.vcells e) ?_;refine j9 ?_;simp only[cA,nA];refine i0 NL ?_;simp only[cA,nA];refine i7 Jj rfl rfl hb rfl rfl ?_;simp only[cA,nA];obtain⟨x,hx,_⟩:=u6 (show e.1<p.length by omega);obtain⟨y,hy,_⟩:=u6 (show e.2<p.length by omega);refine r6 y6 (hu.mono l1) hx fun _=> ?_;simp only[cA,nA];refine j9 ?_;simp only[cA,nA];refine i0 NL ?_;simp only[cA,nA];refine i7 Jj rfl rfl hb rfl rfl ?_;simp only[cA,nA];refine r6 y6 (hu.mono l1) hy fun _=> ?_;simp only[cA,nA];have uO:=c2i (p:=p) he;rw[hx,hy]at uO;refine b9 (b9 ?_);refine y7 (p:=(x≠y)) (by show Value.bool (x !=y)=_;rw[bN]) (fun sO=> ?_) fun sO=> ?_
  ·rw[if_pos (by simpa using sO)]at uO;refine b9 ?_;exact⟨(i+1),by show es.length-(i+1)<es.length-i;omega,(j0 (by rw[uO];exact p6 rfl aA) (p6 rfl aA)),⟨pO,rfl⟩⟩
  ·rw[if_neg (by simpa using sO)]at uO;exact⟨(i+1),by show es.length-(i+1)<es.length-i;omega,(j0 (by rw[uO];rfl) (p6 rfl aA)),⟨pO,rfl⟩⟩
 ·replace h:=oDf h;rw[aI aA];exact c9 rfl ⟨l1,rfl⟩
end
end Go.Z
namespace Go.Proofs
open Shelf
def Tryz.srtM_ren:Go.Shelf.Ren:=⟨fun|14=>101|20=>155|21=>156|22=>157|23=>158|24=>159|25=>160|26=>161|27=>162|46=>223|47=>224|48=>225|49=>226|50=>227|15=>102|57=>262|28=>163|29=>164|n=>n,fun|24=>61|22=>38|3=>3|25=>134|4=>4|0=>0|46=>257|45=>256|50=>211|66=>328|39=>191|55=>42|70=>332|76=>369|77=>370|53=>263|5=>5|9=>9|n=>n,fun|n=>n⟩
def Tryz.srtM:Go.Proofs.SlLaysF0.n14 prog Tryz.srtM_ren:={
 mixed:=aB
 f14:=⟨f101.name,aC,Tryz.func101.trans (congrArg some aB)⟩
 f15:=Tryz.func102.trans (congrArg some aB)
 f20:=⟨f155.name,aC,Tryz.func155.trans (congrArg some aB)⟩
 f21:=⟨f156.name,aC,Tryz.func156.trans (congrArg some aB)⟩
 f22:=⟨f157.name,aC,Tryz.func157.trans (congrArg some aB)⟩
 f23:=⟨f158.name,aC,Tryz.func158.trans (congrArg some aB)⟩
 f24:=⟨f159.name,aC,Tryz.func159.trans (congrArg some aB)⟩
 f25:=⟨f160.name,aC,Tryz.func160.trans (congrArg some aB)⟩
 f26:=⟨f161.name,aC,Tryz.func161.trans (congrArg some aB)⟩
 f27:=⟨f162.name,aC,Tryz.func162.trans (congrArg some aB)⟩
 f28:=Tryz.func163.trans (congrArg some aB)
 f29:=Tryz.func164.trans (congrArg some aB)
 f46:=⟨f223.name,aC,Tryz.func223.trans (congrArg some aB)⟩
 f47:=Tryz.func224.trans (congrArg some aB)
 f48:=Tryz.func225.trans (congrArg some aB)
 f49:=⟨f226.name,aC,Tryz.func226.trans (congrArg some aB)⟩
 f50:=⟨f227.name,aC,Tryz.func227.trans (congrArg some aB)⟩
 f57:=⟨f262.name,aC,Tryz.func262.trans (congrArg some aB)⟩
 t0:=Tryz.underlying0
 a0:=Tryz.isAgg0
 z0:=Tryz.sizeOf0
 v0:=Tryz.zeroValue0
 t3:=Tryz.underlying3
 a3:=Tryz.isAgg3
 z3:=Tryz.sizeOf3
 v3:=Tryz.zeroValue3
 t4:=Tryz.underlying4
 a4:=Tryz.isAgg4
 z4:=Tryz.sizeOf4
 v4:=Tryz.zeroValue4
 t5:=Tryz.underlying5
 a5:=Tryz.isAgg5
 z5:=Tryz.sizeOf5
 v5:=Tryz.zeroValue5
 t9:=Tryz.underlying9
 a9:=Tryz.isAgg9
 z9:=Tryz.sizeOf9
 v9:=Tryz.zeroValue9
 t22:=Tryz.underlying38
 a22:=Tryz.isAgg38
 z22:=Tryz.sizeOf38
 v22:=Tryz.zeroValue38
 t25:=Tryz.underlying134
 a25:=Tryz.isAgg134
 z25:=Tryz.sizeOf134
 v25:=Tryz.zeroValue134
 t39:=Tryz.underlying191
 a39:=Tryz.isAgg191
 z39:=Tryz.sizeOf191
 v39:=Tryz.zeroValue191
 t45:=Tryz.underlying256
 a45:=Tryz.isAgg256
 z45:=Tryz.sizeOf256
 v45:=Tryz.zeroValue256
 t46:=Tryz.underlying257
 a46:=Tryz.isAgg257
 z46:=Tryz.sizeOf257
 v46:=Tryz.zeroValue257
 t50:=Tryz.underlying211
 a50:=Tryz.isAgg211
 z50:=Tryz.sizeOf211
 v50:=Tryz.zeroValue211
 t53:=Tryz.underlying263
 a53:=Tryz.isAgg263
 z53:=Tryz.sizeOf263
 v53:=Tryz.zeroValue263
 t55:=Tryz.underlying42
 a55:=Tryz.isAgg42
 z55:=Tryz.sizeOf42
 v55:=Tryz.zeroValue42
 t66:=Tryz.underlying328
 a66:=Tryz.isAgg328
 z66:=Tryz.sizeOf328
 v66:=Tryz.zeroValue328
 t70:=Tryz.underlying332
 a70:=Tryz.isAgg332
 z70:=Tryz.sizeOf332
 v70:=Tryz.zeroValue332
 t76:=Tryz.underlying369
 a76:=Tryz.isAgg369
 z76:=Tryz.sizeOf369
 v76:=Tryz.zeroValue369
 t77:=Tryz.underlying370
 a77:=Tryz.isAgg370
 z77:=Tryz.sizeOf370
 v77:=Tryz.zeroValue370}
end Go.Proofs
namespace Go.RX
open Proofs Shelf RowKit Lib Go.Sort
def c7B {w w':World} (h:Ext w w'):∃q os',w'=grow (w.drewN q) os':=by
 refine⟨w'.drawn-w.drawn,w'.heap.extract w.heap.size w'.heap.size,?_⟩;have hs:=h.size;have hd:=h.dr;have hh:w'.heap=w.heap++w'.heap.extract w.heap.size w'.heap.size:=by
  apply Array.ext_getElem?;intro k;by_cases hk:k<w.heap.size
  ·rw[dQ hk,h.blk k hk]
  ·rw[Array.getElem?_append_right aA,Array.getElem?_extract];split
   ·congr 1;omega
   ·rw[Array.getElem?_eq_none];omega
 have h1:=h.os;have h2:=h.tape;have h3:=h.output;obtain⟨hp',tp',dr',os',out'⟩:=w';obtain⟨hp,tp,dr,os,out⟩:=w;simp only at h1 h2 h3 hh hd;subst h1 h2 h3;simp only[grow,World.drewN];congr 1;omega
section
variable {P:Program} {α:Type} [Inhabited α] {enc:α->Value} {H B:PH} {blk:Nat} {cur:Array Value} {T:TypeId} {d:Array α}
def NM {w:World} (hw:H.In w) (hb:H blk=some (.cells cur T (0,0))) (n:Nat) (dk:Array α) (os:Array Obj):Step H w (H.put blk (.cells (putCells enc 0 dk cur) T (0,0))) (sortWorld enc w blk 0 n dk os):=by
 have wJ:=hw _ _ hb;have oV:=y5 wJ;have qI:(w.heap.modify blk (onCells (putCells enc 0 dk))).size=w.heap.size:=aD;have pI:∀k,k<w.heap.size->k≠blk->(w.heap.modify blk (onCells (putCells enc 0 dk))++os)[k]? =w.heap[k]?:=fun k hk h=>by
  rw[dQ aA,lJ,if_neg (fun e=>h e.symm)]
 refine⟨rfl,rfl,rfl,by show w.heap.size<=(w.heap.modify blk (onCells (putCells enc 0 dk))++os).size;simp,fun k hk hn=> ?_,fun k ob hk=> ?_,fun k hk=> ?_,Nat.le_add_right _ _⟩
 ·exact pI k hk (fun e=>by rw[e,hb]at hn;cases hn)
 ·show(w.heap.modify blk (onCells (putCells enc 0 dk))++os)[k]? =_;unfold PH.put at hk;split at hk
  ·rename_i e;subst e;cases hk;rw[dQ aA,lJ,if_pos rfl,wJ];rfl
  ·rename_i e;rw[pI k (y5 (hw _ _ hk)) e];exact hw _ _ hk
 ·unfold PH.put at hk;split at hk
  ·rename_i e;subst e;left;rw[hb];simp
  ·exact .inl hk
end
def one_of {α:Type} {ce:α->List Value} (h1:∀x,∀v∈ce x,n8 v=true):∀x,∀v∈ce x,v.oneCell'=true:=fun x v hv=>by rw[qc];exact h1 x v hv
section
variable {P:Program} {α:Type} [Inhabited α] {ce:α->List Value} {k:Nat} {H B:PH}
def NN {d:Array α} (hk:∀x,(ce x).length=k):(flatK ce k d).toList=d.toList.flatMap ce:=by
 have hl:(d.toList.flatMap ce).length=d.size*k:=by rw[Hv hk,bU]
 apply bG;intro t;by_cases ht:t<d.size*k
 ·have k0:0<k:=Nat.pos_of_ne_zero fun e=>by subst e;simp at ht
  have hi:t/k<d.size:=Nat.div_lt_of_lt_mul (by rw[eX];exact ht);have hm:t%k<k:=cO _ k0;have e1:(flatK ce k d).toList[t]? =some ((ce d[t/k]!)[t%k]!):=by
   unfold flatK;rw[fL,Array.getElem?_map,Array.getElem?_range];simp[ht]
  rw[e1];have e2:d.toList[t/k]? =some d[t/k]!:=by rw[fL,cI hi,getElem!_pos d _ hi]
  have e3:=vf hk e2;have e4:=congrArg (fun z=>z[t%k]?) e3;change (((d.toList.flatMap ce).drop (t/k*k)).take k)[t%k]? =(ce d[t/k]!)[t%k]? at e4;rw[dU hm,dI,show t/k*k+t%k=t by rw[eX];exact Nat.div_add_mod t k]at e4;rw[e4];have h9:t%k<(ce d[t/k]!).length:=by rw[hk];exact hm
  rw[aG h9,getElem!_pos (ce d[t/k]!) (t%k) h9]
 ·rw[aP (by simp;omega),aP aA]
def c2k {α:Type} [Inhabited α] {enc:α->Value} (d:Array α) (c:Array Value) (h:d.size<=c.size):(putCells enc 0 d c).toList.take d.size=d.toList.map enc:=by
 apply bG;intro i;by_cases hi:i<d.size
 ·rw[dU hi,fL];unfold putCells;rw[Array.getElem?_mapIdx,cI aA];simp[hi]
 ·rw[aP (by simp;omega),aP (by simp;omega)]
def c2l {blk:Nat} {cur:Array Value} {T:TypeId} {g:Nat} {cb:Array Value} {cf:α->α->Int} {size:Nat} {w:World} (hw:H.In w) (hb:H blk=some (.cells cur T (0,0))) (oW:Pl B H) (hn:B blk=none) (h:∀x y,j5 P g (.agg (ce x).toArray:: .agg (ce y).toArray::cb.toList) B (.int .i64 (cf x y))):CmpLays P g cb ce k cf blk 0 size w:=fun m os dk _ x y=>by
 have hs:=NM (enc:=id) hw hb m (flatK ce k dk) os;have hB:B.In (sortWorldK ce k w blk 0 m dk os):=fun b ob hk=>hs.holds b ob (by
  rw[PH.put_ne _ _ (fun e=>by rw[e,hn]at hk;cases hk)];exact oW _ _ hk)
 have h1:=h x y _ hB;have ha:(Value.agg (ce x).toArray:: .agg (ce y).toArray::cb.toList).toArray= #[.agg (ce x).toArray,.agg (ce y).toArray]++cb:=by
  rw[<-cF];simp
 rw[ha]at h1;refine h1.mono fun e w' ⟨v,H',he,pU,hl,hv⟩=>⟨by rw[he,hv],c7B (pU.toExt hB hl)⟩
def c2m {blk:Nat} {cur:Array Value} {T:TypeId} {l:List α} {w:World} (hk:∀x,(ce x).length=k) (wJ:w.heap[blk]? =some (.cells cur T (0,0))) (xO:cur.toList.take (l.length*k)=l.flatMap ce):HoldsK ce k w blk 0 l.toArray:=fun j hj=>by
 rw[size_flatK]at hj;have zO:j<l.length*k:=by simpa using hj
 have hf:(flatK ce k l.toArray).toList=l.flatMap ce:=by rw[NN hk]
 have uY:cur.toList[j]? =some (id (flatK ce k l.toArray)[j]!):=by
  have:(cur.toList.take (l.length*k))[j]? =cur.toList[j]?:=dU zO;rw[<-this,xO,<-hf,fL,cI (by rw[size_flatK];exact hj),getElem!_pos _ j (by rw[size_flatK];exact hj)];rfl
 constructor
 ·rw[bP];unfold World.cell?;simp only[wJ];rw[if_neg aD,<-fL,uY]
 ·unfold World.frozen?;simp[wJ]
def c2n {blk cap:Nat} {cur:Array Value} {e:TypeId} {l:List α} {d':Array α} {cf:α->α->Int} (hk:∀x,(ce x).length=k) (hB:B blk=none) (qL:l.length<=cap) (qO:cap<=maxLen) (sE:cur.size=cap*k) (oW:Pl B H) (hp:PermIn 0 l.length l.toArray d') (hs:SortedIn (ltOf cf) 0 l.length d'):
  Pl B (H.put blk (.cells (putCells id 0 (flatK ce k d') cur) e (0,0)))/\∃m:List α,m.Perm l/\m.Pairwise (fun a b=>¬cf b a<0)/\SO B (H.put blk (.cells (putCells id 0 (flatK ce k d') cur) e (0,0))) e k ce (.slice (some ⟨blk,0,none⟩) l.length cap) m:=by
 have qI:d'.size=l.length:=by have:=hp.1;simpa using this
 have rQ:d'.toList.Perm l:=by
  have:=hp.2.2;have e1:d'.extract 0 l.length=d':=by rw[<-qI];simp
  have e2:l.toArray.extract 0 l.length=l.toArray:=by
   have:l.length=l.toArray.size:=aD;rw[this];simp
  rw[e1,e2]at this;simpa using this
 refine⟨fun i ob hi=> ?_,d'.toList,rQ,?_,?_⟩
 ·rw[PH.put_ne _ _ (fun e=>by rw[e,hB]at hi;cases hi)];exact oW _ _ hi
 ·rw[cS];intro i j hi hj uQ;have:=hs i j (bJ _) uQ (by simp at hj;omega);unfold ltOf at this;rw[decide_eq_false_iff_not]at this;rw[getElem!_pos d' i (by simpa using hi),getElem!_pos d' j (by simpa using hj)]at this;simpa using this
 ·have hln:d'.toList.length=l.length:=by rw[bU,qI]
  refine⟨Hv hk _,.inr ⟨blk,cap,putCells id 0 (flatK ce k d') cur,by rw[hln],hB,PH.put_self _ _ _,by rw[hln];exact qL,qO,by unfold putCells;rw[Array.size_mapIdx,sE],?_⟩⟩;have xJ:l.length*k<=cap*k:=bQ _ qL;have:=c2k (enc:=id) (flatK ce k d') cur (by rw[size_flatK,qI,sE];exact xJ);rw[size_flatK,qI]at this;rw[hln,this,List.map_id,NN hk]
def c7C {ρ:Ren} (L:SlLaysF0.n14 P ρ) (aE:∀w,(isAgg (ρ.t 24)).run P w= .ok true w) (zE:∀w,(Go.sizeOf (ρ.t 24)).run P w= .ok k w) (hk:∀x,(ce x).length=k) (h1:∀x,∀v∈ce x,n8 v=true) {cf:α->α->Int} (hO:SWO (ltOf cf)) {g:Nat} {cb:Array Value} (eg:q8 P g=true)
  {e:TypeId} {v:Value} {l:List α} (oW:Pl B H) (ho:SO B H e k ce v l) (h0:l≠[]) (hl:l.length<4611686018427387904) (h:∀x y,j5 P g (.agg (ce x).toArray:: .agg (ce y).toArray::cb.toList) B (.int .i64 (cf x y))) (lim:Nat) (a4o:lim<4611686018427387904):
  Con P (ρ.f 14) [v,.int .i64 0,.int .i64 (l.length:Nat),.int .i64 (lim:Nat),.func (.func g) #[] cb] H fun _ H'=>Pl B H'/\∃m:List α,m.Perm l/\m.Pairwise (fun a b=>¬cf b a<0)/\SO B H' e k ce v m:=by
 obtain⟨h2,⟨_,h3⟩|⟨blk,cap,cur,rfl,hB,hH,qL,qO,sE,hc4⟩⟩:=ho
 ·exact absurd (aV h3) h0
 intro w hw;have wJ:=hw _ _ hH;have wI:l.toArray.size=l.length:=aD;have hHK:=c2m hk wJ hc4;have hc:=AnyQ.pdqsortCmpFunc_all L k aE zE ce cf g cb hO blk 0 cap l.toArray w (Jw eg) (c2l hw hH oW hB h) ⟨hk,one_of h1,hHK,y5 wJ⟩ (l.length+1) 0 l.length lim l.toArray w aA rfl (SWK.start hHK) (bJ _) (by rw[wI];exact aS _) (by rw[wI];exact hl) a4o (.inl rfl);rw[wI]at hc;have hsr:=pdq_sorts (ltOf cf) hO l.toArray 0 l.length lim true true (bJ _) (by rw[wI];exact aS _) (Or.inl rfl);refine hc.mono fun en w' ⟨he,n,os,qS⟩=>⟨.tuple #[],_,he,by rw[qS];exact NM (enc:=id) hw hH n (flatK ce k _) os,c2n hk hB qL qO sE oW hsr.1 hsr.2⟩
end
def Rds.opn' {P:Program} {o:Oper} {vs:List Value} {H:PH} {v:Value} (h:Rds P o vs H v):Opn P o vs H fun u H'=>u=v/\H'=H:=fun w hw=>by
 unfold Stp;have:=h w hw;rw[this];exact⟨_,Step.refl hw,rfl,rfl⟩
def nxV (b:Bool) (x y:Value):Value:=if b then .tuple #[.bool true,x,y]else .tuple #[.bool false]
def NP (b:Bool) (x y:Value):∃vs,nxV b x y= .tuple vs/\0<vs.size:=by cases b<;>exact⟨_,rfl,aD⟩
def jl (b:Bool) (x y:Value):(match nxV b x y with| .tuple vs=>vs.getD 0 undef|_=>undef)= .bool b:=by cases b<;>rfl
section
variable {κ:Type} {ok:κ->Prop} {ke:κ->Value}
def NQ {H H':PH} {v:Value} {q r clock:Nat} {es:List (κ×Value×Nat)} {seen:List Nat} (h:(left es seen=[]/\v= .tuple #[.bool false]/\H'=H)\/∃p∈left es seen,v= .tuple #[.bool true,ke p.1,p.2.1]/\H'=H.put q (.mapIter (some r) clock (seen++[p.2.2]).toArray clock)):
  ∃b x y,v=nxV b x y/\((b=false/\left es seen=[]/\H'=H)\/(b=true/\∃p∈left es seen,x=ke p.1/\y=p.2.1/\H'=H.put q (.mapIter (some r) clock (seen++[p.2.2]).toArray clock))):=by
 rcases h with⟨h1,h2,h3⟩|⟨p,h1,h2,h3⟩
 ·exact⟨false,undef,undef,h2,.inl ⟨rfl,h1,h3⟩⟩
 ·exact⟨true,_,_,h2,.inr ⟨rfl,p,h1,rfl,rfl,h3⟩⟩
def NR {a b:Nat} (h:a≠b):gP a b=false:=by
 rw[Bool.eq_false_iff];intro e;exact h (Nat.eq_of_beq_eq_true e)
def NS (es:List (κ×Value×Nat)):left es []=es:=by
 unfold left;exact jT.2 fun x _=>rfl
def c2p (es:List (κ×Value×Nat)) (seen:List Nat) (b:Nat):left es (seen++[b])=(left es seen).filter fun p=> !gP p.2.2 b:=by
 unfold left;rw[List.filter_filter];refine List.filter_congr fun p _=> ?_;rw[List.any_append];simp[Bool.and_comm]
def NT {es:List (κ×Value×Nat)} {seen:List Nat} {p:κ×Value×Nat} (hn:(es.map (·.2.2)).Nodup) (hp:p∈left es seen):∃a b,left es seen=a++p::b/\left es (seen++[p.2.2])=a++b:=by
 obtain⟨a,b,h⟩:=List.append_of_mem hp;refine⟨a,b,h,?_⟩;have hs:(left es seen).map (·.2.2)|>.Nodup:=(List.filter_sublist.map _).nodup hn;rw[c2p,h,List.filter_append,dZ aD];rw[h,bI,aU,eI,eD]at hs;obtain⟨h1,⟨h2,h3⟩,h4⟩:=hs;congr 1
 ·refine jT.2 fun x hx=> ?_;have:=h4 _ (bK.2 ⟨x,hx,rfl⟩) p.2.2 aD;rw[NR this];rfl
 ·refine jT.2 fun x hx=> ?_;have:x.2.2≠p.2.2:=fun e=>h2 (bK.2 ⟨x,hx,e⟩);rw[NR this];rfl
end
end Go.RX

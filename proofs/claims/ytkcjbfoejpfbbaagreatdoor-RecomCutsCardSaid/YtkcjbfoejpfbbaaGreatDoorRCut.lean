/- The law RecomCuts of chapter 32 returns true for every argument, and leaves them as they were: its tied card. -/
import Derived.Test.YtkcjbfoejpfbbaaGreatDoorRzW
import Derived.Test.YtkcjbfoejpfbbaaGreatDoorGuG
import Derived.Test.YtkcjbfoejpfbbaaGreatDoorOpA
import Derived.Test.YtkcjbfoejpfbbaaGreatDoorCards
import Derived.Test.YtkcjbfoejpfbbaaGreatDoorTie
import Derived.Lay
import Derived.LaidOnce
import Derived.SevenTiedAt
import Derived.HandedShaped
namespace Go.Proofs.YtkcjbfoejpfbbaaGreatDoor
open Go.Proofs.Tryz
open Go.ChangeShapes Go.WideShapes Go.ChangeAt Go.RowKit Go.RX Go.GS Go.OP
theorem c6d:ownKnob prog.godebug=none:=by kernel_rfl
theorem c2L:laidOutB prog=true:=by kernel_rfl
theorem b6x {W:World} (h:laidMet prog Rows.recomCutsRow.laid W):Tb (fun b=>W.heap[b]?):=by
 obtain⟨ps,⟨g,t,cs,fuel,p,q,hg,ht,hvar,hd,_,_⟩,_⟩:=h
 have hg0:prog.globalNamed "math/bits.deBruijn64tab" =some 0:=by kernel_rfl
 obtain rfl:=Option.some.inj (hg0.symm.trans hg)
 have ht0:(prog.globals[0]?).map (·.type)=some 237:=by kernel_rfl
 obtain rfl:=Option.some.inj (ht0.symm.trans ht)
 have hcs:=b1w (k:= .u8) (e:=5) (n:=64) (vals:=tabL.map fun n:Nat=>(n:Int)) (by kernel_rfl) (by kernel_rfl) (by kernel_rfl) (by kernel_rfl) hd
 unfold World.var? at hvar
 rw[hg0]at hvar
 simp only[Option.bind_some]at hvar
 split at hvar
 ·rename_i c T fz hh
  simp only[Option.some.injEq]at hvar;subst hvar
  refine⟨T,fz,?_⟩
  show W.heap[0]? =_
  rw[hh]
  congr 2
  rw[<-Array.toList_inj,hcs,List.map_map]
  rfl
 ·cases hvar
section
variable {H:Type} {enc:TypeId×Value->H} {W:World} {base:Nat} {spare:Nat->Bool} {held:Bool} {fuel:Nat}
theorem a3Z {cs:List Value} {x:DataW H×List MemPlace} (h:DataW.trod enc prog W base spare held fuel 5 cs=some x):∃c,cs=c8 c/\c<256:=by
 obtain⟨n,e,_,hw⟩:=DataW.trod_int (k:= .u8) (by kernel_rfl) h
 obtain⟨m,rfl,hm⟩:=d4N hw
 exact⟨m,e,hm⟩
theorem c2M {cs:List Value} {x:DataW H×List MemPlace} (h:DataW.trod enc prog W base spare held fuel 27 cs=some x):∃e:Nat×Nat,cs=bc e/\True:=by
 have hu:prog.underlying 27=some (.array 2 5):=by kernel_rfl
 have hc:prog.cellsOf 5=1:=by kernel_rfl
 have hc2:prog.cellsOf 27=2:=by kernel_rfl
 obtain⟨xs,m,_,_,hl,hx,hi⟩:=DataW.trod_array hu h
 rw[hc2]at hl
 rw[hc]at hi
 match cs,hl with
 |[c0,c1],_=>
  have h0:=hi 0 (by omega)
  have h1:=hi 1 (by omega)
  rw[List.getElem?_eq_getElem (by omega)]at h0 h1
  obtain⟨a,e0,_⟩:=a3Z h0
  obtain⟨b,e1,_⟩:=a3Z h1
  simp only[Nat.zero_mul,Nat.one_mul,List.drop_zero,List.drop_succ_cons,List.take_succ_cons,List.take_zero,c8,List.singleton_inj]at e0 e1
  subst e0;subst e1
  exact⟨(a,b),rfl,trivial⟩
theorem c2N {cs:List Value} {x:DataW H×List MemPlace} (h:DataW.trod enc prog W base spare held fuel 26 cs=some x):∃w l,cs=[w]/\SE (fun b=>W.heap[b]?) 1 c8 w l/\∀c∈l,c<256:=by
 obtain⟨w,n,xs,rfl,hs,hd⟩:=c2K (e:=5) (sz:=1) (by kernel_rfl) (by kernel_rfl) (by omega) h
 obtain⟨l,hl,hp⟩:=b5B (ce:=c8) (p:=fun c=>c<256) hs fun i hi=>by
  obtain⟨y,m,hm⟩:=hd i hi
  exact a3Z hm
 exact⟨w,l,rfl,hl,hp⟩
theorem d1F {cs:List Value} {x:DataW H×List MemPlace} (h:DataW.trod enc prog W base spare held fuel 23 cs=some x):∃w l,cs=[w]/\SE (fun b=>W.heap[b]?) 2 bc w l:=by
 obtain⟨w,n,xs,rfl,hs,hd⟩:=c2K (e:=27) (sz:=2) (by kernel_rfl) (by kernel_rfl) (by omega) h
 obtain⟨l,hl,_⟩:=b5B (ce:=bc) (p:=fun _=>True) hs fun i hi=>by
  obtain⟨y,m,hm⟩:=hd i hi
  exact c2M hm
 exact⟨w,l,rfl,hl⟩
set_option maxRecDepth 100000 in
theorem c6e {r:Reach} {b0:Nat} {v:Value} {d:DataW H} {p:List MemPlace} (hv:Value.okWide prog W r b0 29 v) (h:DataW.Trod enc prog W base spare held 29 v d p):
  ∃da db dc dk s0 s1 tr s wv cu more wl0 cuts,v=cv da db dc s wv cu dk s0 s1 tr/\SE (fun b=>W.heap[b]?) 2 bc s more/\SE (fun b=>W.heap[b]?) 1 c8 wv wl0/\SE (fun b=>W.heap[b]?) 1 c8 cu cuts/\(∀c∈cuts,c<256)/\tr<256:=by
 have ht:prog.underlying 29=some (.struct (a1d prog 29)):=by kernel_rfl
 have hg:prog.underlying 25=some (.struct (a1d prog 25)):=by kernel_rfl
 obtain⟨cs,rfl⟩:=OP.okWide_struct (fs:=a1d prog 29) (by kernel_rfl) hv
 obtain⟨m,hm⟩:=h
 have hl:(Value.agg cs).cells.toList.length=10:=by
  obtain⟨xs,n,_,_,hl,hlen,hf⟩:=DataW.trod_struct ht hm
  rw[hl];kernel_rfl
 obtain⟨y0,m0,h0⟩:=a1h (k:=6) (T:=25) (o:=0) (c:=4) 0 ht (by kernel_rfl) (by omega) (by kernel_rfl) (by kernel_rfl) (by kernel_rfl) hm
 obtain⟨y1,m1,h1⟩:=a1h (k:=6) (T:=26) (o:=4) (c:=1) 1 ht (by kernel_rfl) (by omega) (by kernel_rfl) (by kernel_rfl) (by kernel_rfl) hm
 obtain⟨y2,m2,h2⟩:=a1h (k:=6) (T:=26) (o:=5) (c:=1) 2 ht (by kernel_rfl) (by omega) (by kernel_rfl) (by kernel_rfl) (by kernel_rfl) hm
 obtain⟨y3,m3,h3⟩:=a1h (k:=6) (T:=5) (o:=6) (c:=1) 3 ht (by kernel_rfl) (by omega) (by kernel_rfl) (by kernel_rfl) (by kernel_rfl) hm
 obtain⟨y4,m4,h4⟩:=a1h (k:=6) (T:=27) (o:=7) (c:=2) 4 ht (by kernel_rfl) (by omega) (by kernel_rfl) (by kernel_rfl) (by kernel_rfl) hm
 obtain⟨y5,m5,h5⟩:=a1h (k:=6) (T:=5) (o:=9) (c:=1) 5 ht (by kernel_rfl) (by omega) (by kernel_rfl) (by kernel_rfl) (by kernel_rfl) hm
 obtain⟨g0,n0,k0⟩:=a1h (k:=4) (T:=5) (o:=0) (c:=1) 0 hg (by kernel_rfl) (by omega) (by kernel_rfl) (by kernel_rfl) (by kernel_rfl) h0
 obtain⟨g1,n1,k1⟩:=a1h (k:=4) (T:=5) (o:=1) (c:=1) 1 hg (by kernel_rfl) (by omega) (by kernel_rfl) (by kernel_rfl) (by kernel_rfl) h0
 obtain⟨g2,n2,k2⟩:=a1h (k:=4) (T:=22) (o:=2) (c:=1) 2 hg (by kernel_rfl) (by omega) (by kernel_rfl) (by kernel_rfl) (by kernel_rfl) h0
 obtain⟨g3,n3,k3⟩:=a1h (k:=4) (T:=23) (o:=3) (c:=1) 3 hg (by kernel_rfl) (by omega) (by kernel_rfl) (by kernel_rfl) (by kernel_rfl) h0
 obtain⟨a0,e0,_⟩:=a3Z k0
 obtain⟨a1,e1,_⟩:=a3Z k1
 obtain⟨z2,e2,_,w2⟩:=DataW.trod_int (k:= .u16) (by kernel_rfl) k2
 obtain⟨a2,rfl,_⟩:=d1E w2
 obtain⟨w3,l3,e3,s3⟩:=d1F k3
 obtain⟨w4,l4,e4,s4,_⟩:=c2N h1
 obtain⟨w5,l5,e5,s5,p5⟩:=c2N h2
 obtain⟨a6,e6,_⟩:=a3Z h3
 obtain⟨a7,e7,_⟩:=c2M h4
 obtain⟨a9,e9,q9⟩:=a3Z h5
 obtain⟨cs⟩:=cs
 change cs.length=10 at hl
 simp only[Value.cells]at e0 e1 e2 e3 e4 e5 e6 e7 e9
 match cs,hl with
 |[c0,c1,c2,c3,c4,c5,c6,c7,c8',c9],_=>
  simp only[List.drop_zero,List.drop_succ_cons,List.take_succ_cons,List.take_zero,c8,bc,List.cons.injEq,and_true]at e0 e1 e2 e3 e4 e5 e6 e7 e9
  obtain⟨e7,e8⟩:=e7
  subst e0 e1 e2 e3 e4 e5 e6 e7 e8 e9
  exact⟨a0,a1,a2,a6,a7.1,a7.2,a9,_,_,_,l3,l4,l5,rfl,s3,s4,s5,p5,q9⟩
theorem d1G {n:Int} (h:(Lit.int .u32 n).wf=true):∃m:Nat,n=(m:Int)/\m<4294967296:=by
 have:=bounds_u32 h
 exact⟨n.toNat,by omega,by omega⟩
end
theorem a2i {H:Type} {enc:TypeId×Value->H} {a:Assume} {C:Checked} {os:Os} {f:FuncId} {fn:Func} {s:ChangeSpec} {conds:List PathCond} {apart fresh handsOn again:Bool} {X:World->Array Value->Prop}
  (hX:∀(w w':World) (args:Array Value),w.heap=w'.heap->X w args->X w' args)
  (own:ownKnob C.prog.godebug=none) (started:os.Started) (noInit:C.prog.inits.idxOf? f=none) (hfn:C.prog.funcs[f]? =some fn)
  (witness:∃(w:World) (tape:Tape) (i:Input),w.os=os/\(w.forCall tape i).Shaped C.prog/\i.vars=[]/\Input.okWide C.prog (w.forCall tape i) .any w.heap.size f i/\
   ((s.pre enc C.prog fn conds apart (w.forCall tape i).memory i.args/\X (w.forCall tape i).memory i.args)/\sizedMet enc C.prog fn (OpenSpec.ofChange s) apart (w.forCall tape i).memory i.args)/\a.holds C.prog (lone (Frame.enter C.prog f i.args .normal) [] (w.forCall tape i)))
  (contract:∀(W:World) (base:Nat) (args:Array Value) (ds gs:List (DataW H)) (before:List MemPlace),
   (∀(j:Nat) t v,fn.params[j]? =some t->args[j]? =some v->Value.okWide C.prog W .any base t v)->
   DataW.Whole enc C.prog fn.params.toList s.vars apart W args.toList ds gs before->
   X W args->W.ShapedOpen C.prog->
   Calls C.prog f args W fun e W'=>∃v,e= .returned v/\s.post enc C.prog fn apart fresh handsOn again W args v W'):
  ReturnsInHanded a C os f .any (fun w args=>(s.pre enc C.prog fn conds apart w args/\X w args)/\sizedMet enc C.prog fn (OpenSpec.ofChange s) apart w args) (s.post enc C.prog fn apart fresh handsOn again):=by
 refine returnsInHanded_of_calls own started noInit witness ?_
 intro w tape i _ hsh _ hok hpre _
 obtain⟨_,_,_,fn',hfn',_,_,_,_,hval⟩:=hok
 have e:fn'=fn:=Option.some.inj (hfn'.symm.trans hfn)
 subst e
 obtain⟨⟨⟨ds,gs,before,hw,_⟩,hx⟩,_⟩:=hpre
 have hw':=DataW.Whole.of_heap (w':=w.forCall tape i) (by rfl) hw
 refine(contract (w.forCall tape i) w.heap.size i.args ds gs before hval hw' (hX _ _ _ (by rfl) hx) hsh).mono fun e W' ⟨v,he,hp⟩=> ?_
 subst he
 exact ChangeSpec.post_blind hp
set_option maxRecDepth 100000 in
theorem a5A (os:Os) (started:os.Started) (H:Type) (enc:TypeId×Value->H):
  ReturnsInHanded {} Tryz.checked os 6 .any (fun w args=>(Rows.recomCutsSpec.pre enc prog f6 [] false w args/\laidMetH prog Rows.recomCutsRow.laid w)/\sizedMet enc prog f6 (OpenSpec.ofChange Rows.recomCutsSpec) false w args)
   (Rows.recomCutsSpec.post enc prog f6 false true false false):=by
 refine a2i (C:=Tryz.checked) (X:=fun w _=>laidMetH prog Rows.recomCutsRow.laid w) (fun _ _ _ hh h=>h.of_heap hh) c6d started (by kernel_rfl) Tryz.func6
  (ChangeSpec.witness_shaped (enc:=enc) (C:=Tryz.checked) (os:=os) (X:=fun w _=>laidMetH prog Rows.recomCutsRow.laid w) false (World.laidAll prog os Rows.recomCutsRow.laid) #[.agg #[.int .u8 0,.int .u8 0,.int .u16 0,.slice none 0 0,.slice none 0 0,.slice none 0 0,.int .u8 0,.int .u8 0,.int .u8 0,.int .u8 0],.int .u32 0] 8 (World.laidAll_os _ _ _)
   (World.shaped_of_ZipB (by kernel_rfl) (by kernel_rfl)) (by kernel_rfl) (by kernel_rfl) (by kernel_rfl)
   (by rw[MakeChecks.laidMetH_plain _ _ _ (by kernel_rfl)];exact laidMet_laidAll _ (by kernel_rfl) (by kernel_rfl))) ?_
 intro W base args ds gs before hval0 hW hX hSh
 have hval:∀(j:Nat) t v,f6.params[j]? =some t->args[j]? =some v->Value.okWide prog W .any base t v:=hval0
 have hTb:=b6x (W:=W) (by rw[<-MakeChecks.laidMetH_plain _ _ _ (by kernel_rfl)];exact hX)
 have hW':=hW
 obtain⟨p,q,hA0,hV,rfl,hfz,hnd⟩:=hW
 have hA:DataW.TrodAll enc prog W 0 (fun _=>true) true f6.params.toList args.toList ds p:=hA0
 rw[Tryz.params6]at hA hval
 obtain⟨v0,vs0,d0,ds0,p0,q0,hargs,rfl,rfl,h0,r0⟩:=trodAll_cons hA
 obtain⟨v1,vs1,d1,ds1,p1,q1,rfl,rfl,rfl,h1,r1⟩:=trodAll_cons r0
 obtain⟨rfl,rfl,rfl⟩:=trodAll_nil r1
 obtain rfl:args= #[v0,v1]:=by cases args;simp_all
 obtain⟨rfl,rfl⟩:=trodVars_none hV
 have lt0:∀x∈p0,x.block<W.heap.size:=by obtain⟨m,hm⟩:=h0;exact DataW.trod_lt m _ _ _ hm
 have lt1:∀x∈p1,x.block<W.heap.size:=by obtain⟨m,hm⟩:=h1;exact DataW.trod_lt m _ _ _ hm
 obtain⟨da,db,dc,dk,s0,s1,tr,s,wv,cu,more,wl0,cuts,rfl,hs,hwv,hcu,hc256,htr⟩:=c6e (hval 0 _ v0 rfl rfl) h0
 obtain⟨m1,rfl,-,-,wf1⟩:=open_int (k:= .u32) (by kernel_rfl) (hval 1 _ v1 rfl rfl) h1
 obtain⟨n1,rfl,hi1⟩:=d1G wf1
 clear hA0 hval0
 have hcon:Con prog 6 [cv da db dc s wv cu dk s0 s1 tr,.int .u32 (n1:Nat)] (fun b=>W.heap[b]?) fun v H'=>v= .bool true/\PH.le (fun b=>W.heap[b]?) H':=(c6c (dk:=dk) (s0:=s0) (s1:=s1) (da:=da) (db:=db) (dc:=dc) hTb (c5o hTb) hs hwv hcu hc256 htr hi1).mono fun u H' ⟨g1,g2⟩=>⟨g2,g1⟩
 refine(d1D hcon (W:=W) (H:=fun b=>W.heap[b]?) (fun b o hb=>hb)).mono fun e W' ⟨he,bel⟩=> ?_
 subst he
 exact⟨_,rfl,_,_,_,[],_,[],hW',trodAll_mk1 (shut_bool (by kernel_rfl) _),(trodAll_cons_mk (Below.trod c2L (by kernel_rfl) (of_decide_eq_true (by kernel_rfl)) h0 bel lt0) (trodAll_cons_mk (Below.trod c2L (by kernel_rfl) (of_decide_eq_true (by kernel_rfl)) h1 bel lt1) trodAll_mk0)),rfl,bel.frame _,fun h=>by cases h⟩
theorem a7v:Rows.recomCutsRow.holds Tryz.pinned (OpenSpec.ofChange Rows.recomCutsSpec):=
 OpenClaim.holds_of_wide 6 f6 rfl rfl rfl rfl rfl rfl rfl ⟨rfl,rfl,rfl,rfl,rfl⟩ rfl rfl rfl rfl rfl (by kernel_rfl) Tryz.func6 (by kernel_rfl)
  (of_decide_eq_true (by kernel_rfl)) (by unfold Func.isWrapper;first|(rw[if_pos (by decide+kernel)];kernel_rfl)|(rw[if_neg (by decide+kernel)];exact⟨rfl,rfl⟩))
  (fun os started H enc _=>a5A os started H enc)
theorem recomCuts_card:Rows.RecomCutsCardSaid:=
 Claim7.holds_tied_plain_at .later [] [.data] true (true, "f62926286bec12e336df17def1f06c66bf4c443f4d8b505c65e328383a5e3781") false a7v (fun _ h=>by cases h) (by kernel_rfl) (fun _ h=>by cases h) recomCuts_row_tie rfl ⟨rfl,rfl⟩ (by kernel_rfl) rfl
  (fun f fn hf hfn=>by
   obtain rfl:f=6:=Option.some.inj ((show prog.funcNamed "wardmote/wardmotelaw32.RecomCuts" =some 6 by kernel_rfl).symm.trans hf)|>.symm
   obtain rfl:fn=f6:=(Option.some.inj (Tryz.func6.symm.trans hfn)).symm
   exact⟨by kernel_rfl,fun j t ht=>by
    have hm:t∈f6.params.toList:=Array.mem_toList_iff.2 (Array.mem_of_getElem? ht)
    have hall:(f6.params.toList.all fun u=> !prog.wantsStandIn u)=true:=by kernel_rfl
    exact(show prog.wantsStandIn t=false by simpa using List.all_eq_true.1 hall t hm)⟩)
  (by kernel_rfl)
#print axioms recomCuts_card
end Go.Proofs.YtkcjbfoejpfbbaaGreatDoor

/- Arguments of laws as values: slices of numbers, and of pairs; a table that is laid. -/
import Derived.Test.YtmannekkmdockaaGreatDoorGsD
import Derived.WalkKit
import Derived.ProofKit
import Derived.OpenShut
import Derived.ShutString
import Derived.ChangeOld
import Derived.Below
import Derived.MakeChecks
import Derived.Deep.Slices
import Derived.Deep.Strs
import Derived.Test.YtmannekkmdockaaGreatDoorGtJ
import Derived.Test.YtmannekkmdockaaGreatDoorGtL
import Derived.Test.YtmannekkmdockaaGreatDoorCards
import Derived.Test.YtmannekkmdockaaGreatDoorTie
import Derived.Lay
import Derived.LaidOnce
import Derived.SevenTiedAt
import Derived.HandedShaped
namespace Go.OP
open Go.ChangeShapes Go.WideShapes Go.ChangeAt Go.RowKit Go.RX
theorem okWide_struct {P:Program} {w:World} {r:Reach} {base:Nat} {t:TypeId} {fs:Array Field} {v:Value} (ht:P.underlying t=some (.struct fs)) (h:Value.okWide P w r base t v):∃cs,v= .agg cs:=by
 simp only[Value.okWide,ht]at h
 obtain⟨cs,h1,_⟩:=h
 exact⟨cs,h1⟩
section
variable {Hh:Type} {enc:TypeId×Value->Hh} {W:World} {base:Nat} {spare:Nat->Bool} {held:Bool} {fuel:Nat} {P:Program}
theorem b7f {α:Type} {H:PH} {sz:Nat} {ce:α->List Value} {p:α->Prop} {w:Value}:∀{n:Nat} {xs:List Value},Sl H sz w n xs->(∀i,i<n->∃a,(xs.drop (i*sz)).take sz=ce a/\p a)->∃l:List α,SE H sz ce w l/\∀a∈l,p a:=by
 intro n xs h hc
 have key:∀(n:Nat) (xs:List Value),xs.length=n*sz->(∀i,i<n->∃a,(xs.drop (i*sz)).take sz=ce a/\p a)->∃l:List α,l.length=n/\xs=l.flatMap ce/\∀a∈l,p a:=by
  intro n
  induction n with
  |zero=>intro xs hl _;exact⟨[],rfl,List.eq_nil_of_length_eq_zero (by simpa using hl),fun a ha=>by cases ha⟩
  |succ n ih=>
   intro xs hl hc
   rw[Nat.succ_mul]at hl
   obtain⟨a,h1,h2⟩:=hc 0 (by omega)
   rw[Nat.zero_mul,List.drop_zero]at h1
   obtain⟨l,l1,l2,l3⟩:=ih (xs.drop sz) (by rw[List.length_drop];omega) fun i hi=>by
    obtain⟨b,g1,g2⟩:=hc (i+1) (by omega)
    exact⟨b,by rw[List.drop_drop,<-g1];congr 2;rw[Nat.succ_mul];omega,g2⟩
   exact⟨a::l,by simp[l1],by rw[List.flatMap_cons,<-l2,<-h1,List.take_append_drop],fun b hb=>by
    rcases List.mem_cons.1 hb with rfl|hb
    ·exact h2
    ·exact l3 b hb⟩
 obtain⟨l,l1,l2,l3⟩:=key n xs h.1 hc
 subst l1;subst l2
 exact⟨l,h,l3⟩
end
open Go.ChangeShapes Go.WideShapes Go.ChangeAt Go.RowKit Go.RX
theorem b3s {H:Type} {enc:TypeId×Value->H} {P:Program} {W:World} {base:Nat} {sp:Nat->Bool} {held:Bool} {fuel n:Nat} {t e:TypeId} {k:IntKind} {cs:List Value} {vals:List Int} {q:List MemPlace}
  (hu:P.underlying t=some (.array n e)) (he:P.underlying e=some (.int k)) (hc:P.cellsOf e=1) (hct:P.cellsOf t=n) (h:DataW.trod enc P W base sp held fuel t cs=some (.agg (vals.map fun n=> .lit (.int k n)),q)):cs=vals.map fun n=> .int k n:=by
 obtain⟨xs,m,_,hx,hl,hxl,hi⟩:=DataW.trod_array hu h
 rw[hct]at hl
 rw[hc]at hi
 have hx:=congrArg Prod.fst hx
 simp only[DataW.agg.injEq]at hx
 have hvl:vals.length=n:=by have:=congrArg List.length hx;simp only[List.length_map]at this;omega
 apply List.ext_getElem?
 intro i
 by_cases h1:i<n
 ·have h2:=hi i h1
  rw[Nat.mul_one]at h2
  have hxi:i<xs.length:=by omega
  rw[List.getElem?_eq_getElem hxi]at h2
  obtain⟨z,h3,h4,_⟩:=DataW.trod_int he h2
  have h5:=congrArg (fun l:List Value=>l[0]?) h3
  simp only[List.getElem?_take,List.getElem?_drop,Nat.add_zero,List.getElem?_cons_zero]at h5
  have h6:=congrArg (fun l:List (DataW H)=>l[i]?) hx
  simp only[List.getElem?_map,List.getElem?_eq_getElem hxi,Option.map_some,h4]at h6
  have hvi:i<vals.length:=by omega
  rw[List.getElem?_eq_getElem hvi]at h6
  simp only[Option.map_some,Option.some.injEq,DataW.lit.injEq,Lit.int.injEq,true_and]at h6
  rw[List.getElem?_map,List.getElem?_eq_getElem hvi,Option.map_some,h6]
  simpa using h5
 ·rw[List.getElem?_eq_none (by omega),List.getElem?_eq_none (by simp;omega)]
end Go.OP
/- The law RecomReversible of chapter 32 returns true for every argument, and leaves them as they were: its tied card. -/
namespace Go.Proofs.YtmannekkmdockaaGreatDoor
open Go.Proofs.Tryz
open Go.ChangeShapes Go.WideShapes Go.ChangeAt Go.RowKit Go.RX Go.GS Go.OP
theorem c3D:ownKnob prog.godebug=none:=by kernel_rfl
theorem c7n:laidOutB prog=true:=by kernel_rfl
theorem b8y {W:World} (h:laidMet prog Rows.recomReversibleRow.laid W):Tb (fun b=>W.heap[b]?):=by
 obtain⟨ps,⟨g,t,cs,fuel,p,q,hg,ht,hvar,hd,_,_⟩,_⟩:=h
 have hg0:prog.globalNamed "math/bits.deBruijn64tab" =some 0:=by kernel_rfl
 obtain rfl:=Option.some.inj (hg0.symm.trans hg)
 have ht0:(prog.globals[0]?).map (·.type)=some 274:=by kernel_rfl
 obtain rfl:=Option.some.inj (ht0.symm.trans ht)
 have hcs:=b3s (k:= .u8) (e:=5) (n:=64) (vals:=tabL.map fun n:Nat=>(n:Int)) (by kernel_rfl) (by kernel_rfl) (by kernel_rfl) (by kernel_rfl) hd
 unfold World.var? at hvar
 rw[hg0]at hvar
 simp only[Option.bind_some]at hvar
 split at hvar
 ·rename_i c T fz hh
  simp only[Option.some.injEq]at hvar;subst hvar
  refine⟨T,fz,?_⟩
  show W.heap[0]? =_
  rw[hh]
  congr 2
  rw[<-Array.toList_inj,hcs,List.map_map]
  rfl
 ·cases hvar
section
variable {H:Type} {enc:TypeId×Value->H} {W:World} {base:Nat} {spare:Nat->Bool} {held:Bool} {fuel:Nat}
theorem a5b {cs:List Value} {x:DataW H×List MemPlace} (h:DataW.trod enc prog W base spare held fuel 5 cs=some x):∃c,cs=c8 c/\c<256:=by
 obtain⟨n,e,_,hw⟩:=DataW.trod_int (k:= .u8) (by kernel_rfl) h
 obtain⟨m,rfl,hm⟩:=d4b hw
 exact⟨m,e,hm⟩
theorem c3E {cs:List Value} {x:DataW H×List MemPlace} (h:DataW.trod enc prog W base spare held fuel 27 cs=some x):∃e:Nat×Nat,cs=bc e/\True:=by
 have hu:prog.underlying 27=some (.array 2 5):=by kernel_rfl
 have hc:prog.cellsOf 5=1:=by kernel_rfl
 have hc2:prog.cellsOf 27=2:=by kernel_rfl
 obtain⟨xs,m,_,_,hl,hx,hi⟩:=DataW.trod_array hu h
 rw[hc2]at hl
 rw[hc]at hi
 match cs,hl with
 |[c0,c1],_=>
  have h0:=hi 0 (by omega)
  have h1:=hi 1 (by omega)
  rw[List.getElem?_eq_getElem (by omega)]at h0 h1
  obtain⟨a,e0,_⟩:=a5b h0
  obtain⟨b,e1,_⟩:=a5b h1
  simp only[Nat.zero_mul,Nat.one_mul,List.drop_zero,List.drop_succ_cons,List.take_succ_cons,List.take_zero,c8,List.singleton_inj]at e0 e1
  subst e0;subst e1
  exact⟨(a,b),rfl,trivial⟩
theorem c3F {cs:List Value} {x:DataW H×List MemPlace} (h:DataW.trod enc prog W base spare held fuel 26 cs=some x):∃w l,cs=[w]/\SE (fun b=>W.heap[b]?) 1 c8 w l/\∀c∈l,c<256:=by
 obtain⟨w,n,xs,rfl,hs,hd⟩:=c0r (e:=5) (sz:=1) (by kernel_rfl) (by kernel_rfl) (by omega) h
 obtain⟨l,hl,hp⟩:=b7f (ce:=c8) (p:=fun c=>c<256) hs fun i hi=>by
  obtain⟨y,m,hm⟩:=hd i hi
  exact a5b hm
 exact⟨w,l,rfl,hl,hp⟩
theorem d2W {cs:List Value} {x:DataW H×List MemPlace} (h:DataW.trod enc prog W base spare held fuel 23 cs=some x):∃w l,cs=[w]/\SE (fun b=>W.heap[b]?) 2 bc w l:=by
 obtain⟨w,n,xs,rfl,hs,hd⟩:=c0r (e:=27) (sz:=2) (by kernel_rfl) (by kernel_rfl) (by omega) h
 obtain⟨l,hl,_⟩:=b7f (ce:=bc) (p:=fun _=>True) hs fun i hi=>by
  obtain⟨y,m,hm⟩:=hd i hi
  exact c3E hm
 exact⟨w,l,rfl,hl⟩
set_option maxRecDepth 100000 in
theorem c7o {r:Reach} {b0:Nat} {v:Value} {d:DataW H} {p:List MemPlace} (hv:Value.okWide prog W r b0 29 v) (h:DataW.Trod enc prog W base spare held 29 v d p):
  ∃da db dc dk s0 s1 tr s wv cu more wl0 cuts,v=cv da db dc s wv cu dk s0 s1 tr/\SE (fun b=>W.heap[b]?) 2 bc s more/\SE (fun b=>W.heap[b]?) 1 c8 wv wl0/\SE (fun b=>W.heap[b]?) 1 c8 cu cuts/\(∀c∈cuts,c<256)/\tr<256:=by
 have ht:prog.underlying 29=some (.struct (fieldsOf prog 29)):=by kernel_rfl
 have hg:prog.underlying 25=some (.struct (fieldsOf prog 25)):=by kernel_rfl
 obtain⟨cs,rfl⟩:=OP.okWide_struct (fs:=fieldsOf prog 29) (by kernel_rfl) hv
 obtain⟨m,hm⟩:=h
 have hl:(Value.agg cs).cells.toList.length=10:=by
  obtain⟨xs,n,_,_,hl,hlen,hf⟩:=DataW.trod_struct ht hm
  rw[hl];kernel_rfl
 obtain⟨y0,m0,h0⟩:=a1m (k:=6) (T:=25) (o:=0) (c:=4) 0 ht (by kernel_rfl) (by omega) (by kernel_rfl) (by kernel_rfl) (by kernel_rfl) hm
 obtain⟨y1,m1,h1⟩:=a1m (k:=6) (T:=26) (o:=4) (c:=1) 1 ht (by kernel_rfl) (by omega) (by kernel_rfl) (by kernel_rfl) (by kernel_rfl) hm
 obtain⟨y2,m2,h2⟩:=a1m (k:=6) (T:=26) (o:=5) (c:=1) 2 ht (by kernel_rfl) (by omega) (by kernel_rfl) (by kernel_rfl) (by kernel_rfl) hm
 obtain⟨y3,m3,h3⟩:=a1m (k:=6) (T:=5) (o:=6) (c:=1) 3 ht (by kernel_rfl) (by omega) (by kernel_rfl) (by kernel_rfl) (by kernel_rfl) hm
 obtain⟨y4,m4,h4⟩:=a1m (k:=6) (T:=27) (o:=7) (c:=2) 4 ht (by kernel_rfl) (by omega) (by kernel_rfl) (by kernel_rfl) (by kernel_rfl) hm
 obtain⟨y5,m5,h5⟩:=a1m (k:=6) (T:=5) (o:=9) (c:=1) 5 ht (by kernel_rfl) (by omega) (by kernel_rfl) (by kernel_rfl) (by kernel_rfl) hm
 obtain⟨g0,n0,k0⟩:=a1m (k:=4) (T:=5) (o:=0) (c:=1) 0 hg (by kernel_rfl) (by omega) (by kernel_rfl) (by kernel_rfl) (by kernel_rfl) h0
 obtain⟨g1,n1,k1⟩:=a1m (k:=4) (T:=5) (o:=1) (c:=1) 1 hg (by kernel_rfl) (by omega) (by kernel_rfl) (by kernel_rfl) (by kernel_rfl) h0
 obtain⟨g2,n2,k2⟩:=a1m (k:=4) (T:=22) (o:=2) (c:=1) 2 hg (by kernel_rfl) (by omega) (by kernel_rfl) (by kernel_rfl) (by kernel_rfl) h0
 obtain⟨g3,n3,k3⟩:=a1m (k:=4) (T:=23) (o:=3) (c:=1) 3 hg (by kernel_rfl) (by omega) (by kernel_rfl) (by kernel_rfl) (by kernel_rfl) h0
 obtain⟨a0,e0,_⟩:=a5b k0
 obtain⟨a1,e1,_⟩:=a5b k1
 obtain⟨z2,e2,_,w2⟩:=DataW.trod_int (k:= .u16) (by kernel_rfl) k2
 obtain⟨a2,rfl,_⟩:=c9F w2
 obtain⟨w3,l3,e3,s3⟩:=d2W k3
 obtain⟨w4,l4,e4,s4,_⟩:=c3F h1
 obtain⟨w5,l5,e5,s5,p5⟩:=c3F h2
 obtain⟨a6,e6,_⟩:=a5b h3
 obtain⟨a7,e7,_⟩:=c3E h4
 obtain⟨a9,e9,q9⟩:=a5b h5
 obtain⟨cs⟩:=cs
 change cs.length=10 at hl
 simp only[Value.cells]at e0 e1 e2 e3 e4 e5 e6 e7 e9
 match cs,hl with
 |[c0,c1,c2,c3,c4,c5,c6,c7,c8',c9],_=>
  simp only[List.drop_zero,List.drop_succ_cons,List.take_succ_cons,List.take_zero,c8,bc,List.cons.injEq,and_true]at e0 e1 e2 e3 e4 e5 e6 e7 e9
  obtain⟨e7,e8⟩:=e7
  subst e0 e1 e2 e3 e4 e5 e6 e7 e8 e9
  exact⟨a0,a1,a2,a6,a7.1,a7.2,a9,_,_,_,l3,l4,l5,rfl,s3,s4,s5,p5,q9⟩
end
theorem a2A {H:Type} {enc:TypeId×Value->H} {a:Assume} {C:Checked} {os:Os} {f:FuncId} {fn:Func} {s:ChangeSpec} {conds:List PathCond} {apart fresh handsOn again:Bool} {X:World->Array Value->Prop}
  (hX:∀(w w':World) (args:Array Value),w.heap=w'.heap->X w args->X w' args)
  (own:ownKnob C.prog.godebug=none) (started:os.Started) (noInit:C.prog.inits.idxOf? f=none) (hfn:C.prog.funcs[f]? =some fn)
  (witness:∃(w:World) (tape:Tape) (i:Input),w.os=os/\(w.forCall tape i).Shaped C.prog/\i.vars=[]/\Input.okWide C.prog (w.forCall tape i) .any w.heap.size f i/\
   ((s.pre enc C.prog fn conds apart (w.forCall tape i).memory i.args/\X (w.forCall tape i).memory i.args)/\sizedMet enc C.prog fn (OpenSpec.ofChange s) apart (w.forCall tape i).memory i.args)/\a.holds C.prog (lone (Frame.enter C.prog f i.args .normal) [] (w.forCall tape i)))
  (contract:∀(W:World) (base:Nat) (args:Array Value) (ds gs:List (DataW H)) (before:List MemPlace),
   (∀(j:Nat) t v,fn.params[j]? =some t->args[j]? =some v->Value.okWide C.prog W .any base t v)->
   DataW.Whole enc C.prog fn.params.toList s.vars apart W args.toList ds gs before->
   X W args->W.ShapedOpen C.prog->
   Calls C.prog f args W fun e W'=>∃v,e= .returned v/\s.post enc C.prog fn apart fresh handsOn again W args v W'):
  ReturnsInHanded a C os f .any (fun w args=>(s.pre enc C.prog fn conds apart w args/\X w args)/\sizedMet enc C.prog fn (OpenSpec.ofChange s) apart w args) (s.post enc C.prog fn apart fresh handsOn again):=by
 refine returnsInHanded_of_calls own started noInit witness ?_
 intro w tape i _ hsh _ hok hpre _
 obtain⟨_,_,_,fn',hfn',_,_,_,_,hval⟩:=hok
 have e:fn'=fn:=Option.some.inj (hfn'.symm.trans hfn)
 subst e
 obtain⟨⟨⟨ds,gs,before,hw,_⟩,hx⟩,_⟩:=hpre
 have hw':=DataW.Whole.of_heap (w':=w.forCall tape i) (by rfl) hw
 refine(contract (w.forCall tape i) w.heap.size i.args ds gs before hval hw' (hX _ _ _ (by rfl) hx) hsh).mono fun e W' ⟨v,he,hp⟩=> ?_
 subst he
 exact ChangeSpec.post_blind hp
set_option maxRecDepth 100000 in
theorem a3O (os:Os) (started:os.Started) (H:Type) (enc:TypeId×Value->H):
  ReturnsInHanded {} Tryz.checked os 6 .any (fun w args=>(Rows.recomReversibleSpec.pre enc prog f6 [] false w args/\laidMetH prog Rows.recomReversibleRow.laid w)/\sizedMet enc prog f6 (OpenSpec.ofChange Rows.recomReversibleSpec) false w args)
   (Rows.recomReversibleSpec.post enc prog f6 false true false false):=by
 refine a2A (C:=Tryz.checked) (X:=fun w _=>laidMetH prog Rows.recomReversibleRow.laid w) (fun _ _ _ hh h=>h.of_heap hh) c3D started (by kernel_rfl) Tryz.func6
  (ChangeSpec.witness_shaped (enc:=enc) (C:=Tryz.checked) (os:=os) (X:=fun w _=>laidMetH prog Rows.recomReversibleRow.laid w) false (World.laidAll prog os Rows.recomReversibleRow.laid) #[.agg #[.int .u8 0,.int .u8 0,.int .u16 0,.slice none 0 0,.slice none 0 0,.slice none 0 0,.int .u8 0,.int .u8 0,.int .u8 0,.int .u8 0]] 8 (World.laidAll_os _ _ _)
   (World.shaped_of_ZipB (by kernel_rfl) (by kernel_rfl)) (by kernel_rfl) (by kernel_rfl) (by kernel_rfl)
   (by rw[MakeChecks.laidMetH_plain _ _ _ (by kernel_rfl)];exact laidMet_laidAll _ (by kernel_rfl) (by kernel_rfl))) ?_
 intro W base args ds gs before hval0 hW hX hSh
 have hval:∀(j:Nat) t v,f6.params[j]? =some t->args[j]? =some v->Value.okWide prog W .any base t v:=hval0
 have hTb:=b8y (W:=W) (by rw[<-MakeChecks.laidMetH_plain _ _ _ (by kernel_rfl)];exact hX)
 have hW':=hW
 obtain⟨p,q,hA0,hV,rfl,hfz,hnd⟩:=hW
 have hA:DataW.TrodAll enc prog W 0 (fun _=>true) true f6.params.toList args.toList ds p:=hA0
 rw[Tryz.params6]at hA hval
 obtain⟨v0,vs0,d0,ds0,p0,q0,hargs,rfl,rfl,h0,r0⟩:=trodAll_cons hA
 obtain⟨rfl,rfl,rfl⟩:=trodAll_nil r0
 obtain rfl:args= #[v0]:=by cases args;simp_all
 obtain⟨rfl,rfl⟩:=trodVars_none hV
 have lt0:∀x∈p0,x.block<W.heap.size:=by obtain⟨m,hm⟩:=h0;exact DataW.trod_lt m _ _ _ hm
 obtain⟨da,db,dc,dk,s0,s1,tr,s,wv,cu,more,wl0,cuts,rfl,hs,hwv,hcu,hc256,htr⟩:=c7o (hval 0 _ v0 rfl rfl) h0
 clear hA0 hval0
 have hcon:Con prog 6 [cv da db dc s wv cu dk s0 s1 tr] (fun b=>W.heap[b]?) fun v H'=>v= .bool true/\PH.le (fun b=>W.heap[b]?) H':=(d2V (dk:=dk) (s0:=s0) (s1:=s1) (da:=da) (db:=db) (dc:=dc) hTb (c3B hTb) hs hwv hcu hc256 htr).mono fun u H' ⟨g1,g2⟩=>⟨g2,g1⟩
 refine(c9E hcon (W:=W) (H:=fun b=>W.heap[b]?) (fun b o hb=>hb)).mono fun e W' ⟨he,bel⟩=> ?_
 subst he
 exact⟨_,rfl,_,_,_,[],_,[],hW',trodAll_mk1 (shut_bool (by kernel_rfl) _),(trodAll_cons_mk (Below.trod c7n (by kernel_rfl) (of_decide_eq_true (by kernel_rfl)) h0 bel lt0) trodAll_mk0),rfl,bel.frame _,fun h=>by cases h⟩
theorem a4A:Rows.recomReversibleRow.holds Tryz.pinned (OpenSpec.ofChange Rows.recomReversibleSpec):=
 OpenClaim.holds_of_wide 6 f6 rfl rfl rfl rfl rfl rfl rfl ⟨rfl,rfl,rfl,rfl,rfl⟩ rfl rfl rfl rfl rfl (by kernel_rfl) Tryz.func6 (by kernel_rfl)
  (of_decide_eq_true (by kernel_rfl)) (by unfold Func.isWrapper;first|(rw[if_pos (by decide+kernel)];kernel_rfl)|(rw[if_neg (by decide+kernel)];exact⟨rfl,rfl⟩))
  (fun os started H enc _=>a3O os started H enc)
theorem recomReversible_card:Rows.RecomReversibleCardSaid:=
 Claim7.holds_tied_plain_at .later [] [.data] true (true, "35a9207884f540d2c801eb13bce3493b5ae7cf7b1170880cd0022f19ffa927af") false a4A (fun _ h=>by cases h) (by kernel_rfl) (fun _ h=>by cases h) recomReversible_row_tie rfl ⟨rfl,rfl⟩ (by kernel_rfl) rfl
  (fun f fn hf hfn=>by
   obtain rfl:f=6:=Option.some.inj ((show prog.funcNamed "wardmote/wardmotelaw32.RecomReversible" =some 6 by kernel_rfl).symm.trans hf)|>.symm
   obtain rfl:fn=f6:=(Option.some.inj (Tryz.func6.symm.trans hfn)).symm
   exact⟨by kernel_rfl,fun j t ht=>by
    have hm:t∈f6.params.toList:=Array.mem_toList_iff.2 (Array.mem_of_getElem? ht)
    have hall:(f6.params.toList.all fun u=> !prog.wantsStandIn u)=true:=by kernel_rfl
    exact(show prog.wantsStandIn t=false by simpa using List.all_eq_true.1 hall t hm)⟩)
  (by kernel_rfl)
#print axioms recomReversible_card
end Go.Proofs.YtmannekkmdockaaGreatDoor

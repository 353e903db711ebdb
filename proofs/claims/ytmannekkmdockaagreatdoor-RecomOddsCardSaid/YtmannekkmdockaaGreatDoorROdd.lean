/- The law RecomOdds of chapter 32 returns true for every argument, and leaves them as they were: its tied card. -/
import Derived.Test.YtmannekkmdockaaGreatDoorOpA
import Derived.Test.YtmannekkmdockaaGreatDoorCards
import Derived.Test.YtmannekkmdockaaGreatDoorTie
import Derived.Lay
import Derived.LaidOnce
import Derived.SevenTiedAt
import Derived.HandedShaped
open List renaming cons->kY,drop_succ_cons->jF,take_succ_cons->kH,take_zero->jJ
open Option renaming some->fC
set_option maxRecDepth 100000
namespace Go.Proofs.YtmannekkmdockaaGreatDoor
open Go.Z
open Proofs.Tryz ChangeShapes WideShapes ChangeAt RowKit RX GS OP
theorem c6F:ownKnob prog.godebug=none:=aB
theorem qu:laidOutB prog=true:=aB
theorem c0F {W:World} (h:laidMet prog Rows.recomOddsRow.laid W):Tb (fun b=>W.heap[b]?):=by
 obtain⟨ps,⟨g,t,cs,fuel,p,q,hg,ht,uQ,hd,_,_⟩,_⟩:=h;have rZ:prog.globalNamed "math/bits.deBruijn64tab" =some 0:=aB;obtain rfl:=fC.inj (rZ.symm.trans hg);have ht0:(prog.globals[0]?).map (·.type)=some 274:=aB;obtain rfl:=fC.inj (ht0.symm.trans ht);have qM:=b4P (k:= .u8) (e:=5) (n:=64) (vals:=tabL.map fun n:Nat=>(n:Int)) aB aB aB aB hd;unfold World.var? at uQ;rw[rZ]at uQ;simp only[Option.bind_some]at uQ;split at uQ
 ·rename_i c T fz hh;simp only[dM]at uQ;subst uQ;refine⟨T,fz,?_⟩;show W.heap[0]? =_;rw[hh];congr 2;rw[<-cI,qM,cZ];rfl
 ·cases uQ
section
variable {H:Type} {enc:TypeId×Value->H} {W:World} {base:Nat} {spare:Nat->Bool} {tD:Bool} {fuel:Nat}
theorem Ny {cs:List Value} {x:DataW H×List MemPlace} (h:DataW.trod enc prog W base spare tD fuel 5 cs=some x):∃c,cs=c8 c/\c<256:=by
 obtain⟨n,e,_,hw⟩:=DataW.trod_int (k:= .u8) aB h;obtain⟨m,rfl,hm⟩:=d9p hw;exact⟨m,e,hm⟩
theorem WR {cs:List Value} {x:DataW H×List MemPlace} (h:DataW.trod enc prog W base spare tD fuel 27 cs=some x):∃e:Nat×Nat,cs=bc e/\True:=by
 have hu:prog.underlying 27=some (.array 2 5):=aB;have hc:prog.cellsOf 5=1:=aB;have rY:prog.cellsOf 27=2:=aB;obtain⟨xs,m,_,_,hl,hx,hi⟩:=DataW.trod_array hu h;rw[rY]at hl;rw[hc]at hi
 match cs,hl with
 |[c0,c1],_=>
  have h0:=hi 0 aA;have h1:=hi 1 aA;rw[aJ aA]at h0 h1;obtain⟨a,e0,_⟩:=Ny h0;obtain⟨b,e1,_⟩:=Ny h1;simp only[cD,cM,cH,jF,kH,jJ,c8,List.singleton_inj]at e0 e1;subst e0;subst e1;exact⟨(a,b),rfl,trivial⟩
theorem WS {cs:List Value} {x:DataW H×List MemPlace} (h:DataW.trod enc prog W base spare tD fuel 26 cs=some x):∃w l,cs=[w]/\SE (fun b=>W.heap[b]?) 1 c8 w l/\∀c∈l,c<256:=by
 obtain⟨w,n,xs,rfl,hs,hd⟩:=EH (e:=5) (sz:=1) aB aB aA h;obtain⟨l,hl,hp⟩:=EI (ce:=c8) (p:=fun c=>c<256) hs fun i hi=>by
  obtain⟨y,m,hm⟩:=hd i hi;exact Ny hm
 exact⟨w,l,rfl,hl,hp⟩
theorem d6n {cs:List Value} {x:DataW H×List MemPlace} (h:DataW.trod enc prog W base spare tD fuel 23 cs=some x):∃w l,cs=[w]/\SE (fun b=>W.heap[b]?) 2 bc w l:=by
 obtain⟨w,n,xs,rfl,hs,hd⟩:=EH (e:=27) (sz:=2) aB aB aA h;obtain⟨l,hl,_⟩:=EI (ce:=bc) (p:=fun _=>True) hs fun i hi=>by
  obtain⟨y,m,hm⟩:=hd i hi;exact WR hm
 exact⟨w,l,rfl,hl⟩
theorem d0x {r:Reach} {b0:Nat} {v:Value} {d:DataW H} {p:List MemPlace} (hv:Value.okWide prog W r b0 29 v) (h:DataW.Trod enc prog W base spare tD 29 v d p):
  ∃da db dc dk s0 s1 tr s wv cu more wl0 cuts,v=cv da db dc s wv cu dk s0 s1 tr/\SE (fun b=>W.heap[b]?) 2 bc s more/\SE (fun b=>W.heap[b]?) 1 c8 wv wl0/\SE (fun b=>W.heap[b]?) 1 c8 cu cuts/\(∀c∈cuts,c<256)/\tr<256:=by
 have ht:prog.underlying 29=some (.struct (fieldsOf prog 29)):=aB;have hg:prog.underlying 25=some (.struct (fieldsOf prog 25)):=aB;obtain⟨cs,rfl⟩:=OP.okWide_struct (fs:=fieldsOf prog 29) aB hv;obtain⟨m,hm⟩:=h;have hl:(Value.agg cs).cells.toList.length=10:=by
  obtain⟨xs,n,_,_,hl,qD,hf⟩:=DataW.trod_struct ht hm;rw[hl];kernel_rfl
 obtain⟨y0,m0,h0⟩:=Ij (k:=6) (T:=25) (o:=0) (c:=4) 0 ht aB aA aB aB aB hm;obtain⟨y1,m1,h1⟩:=Ij (k:=6) (T:=26) (o:=4) (c:=1) 1 ht aB aA aB aB aB hm;obtain⟨y2,m2,h2⟩:=Ij (k:=6) (T:=26) (o:=5) (c:=1) 2 ht aB aA aB aB aB hm;obtain⟨y3,m3,h3⟩:=Ij (k:=6) (T:=5) (o:=6) (c:=1) 3 ht aB aA aB aB aB hm;obtain⟨y4,m4,h4⟩:=Ij (k:=6) (T:=27) (o:=7) (c:=2) 4 ht aB aA aB aB aB hm;obtain⟨y5,m5,h5⟩:=Ij (k:=6) (T:=5) (o:=9) (c:=1) 5 ht aB aA aB aB aB hm;obtain⟨g0,n0,k0⟩:=Ij (k:=4) (T:=5) (o:=0) (c:=1) 0 hg aB aA aB aB aB h0;obtain⟨g1,n1,k1⟩:=Ij (k:=4) (T:=5) (o:=1) (c:=1) 1 hg aB aA aB aB aB h0;obtain⟨g2,n2,k2⟩:=Ij (k:=4) (T:=22) (o:=2) (c:=1) 2 hg aB aA aB aB aB h0;obtain⟨g3,n3,k3⟩:=Ij (k:=4) (T:=23) (o:=3) (c:=1) 3 hg aB aA aB aB aB h0;obtain⟨a0,e0,_⟩:=Ny k0;obtain⟨a1,e1,_⟩:=Ny k1;obtain⟨z2,e2,_,w2⟩:=DataW.trod_int (k:= .u16) aB k2;obtain⟨a2,rfl,_⟩:=WQ w2;obtain⟨w3,l3,e3,s3⟩:=d6n k3;obtain⟨w4,l4,e4,s4,_⟩:=WS h1;obtain⟨w5,l5,e5,s5,p5⟩:=WS h2;obtain⟨a6,e6,_⟩:=Ny h3;obtain⟨a7,e7,_⟩:=WR h4;obtain⟨a9,e9,q9⟩:=Ny h5;obtain⟨cs⟩:=cs;change cs.length=10 at hl;simp only[Value.cells]at e0 e1 e2 e3 e4 e5 e6 e7 e9
 match cs,hl with
 |[c0,c1,c2,c3,c4,c5,c6,c7,c8',c9],_=>
  simp only[cH,jF,kH,jJ,c8,bc,kY.injEq,and_true]at e0 e1 e2 e3 e4 e5 e6 e7 e9;obtain⟨e7,e8⟩:=e7;subst e0 e1 e2 e3 e4 e5 e6 e7 e8 e9;exact⟨a0,a1,a2,a6,a7.1,a7.2,a9,_,_,_,l3,l4,l5,rfl,s3,s4,s5,p5,q9⟩
theorem c6I {r:Reach} {b0:Nat} {v:Value} {d:DataW H} {p:List MemPlace} (hv:Value.okWide prog W r b0 31 v) (h:DataW.Trod enc prog W base spare tD 31 v d p):∃bw ba bz,v=bn bw ba bz/\ba<256:=by
 have ht:prog.underlying 31=some (.struct (fieldsOf prog 31)):=aB;obtain⟨cs,rfl⟩:=OP.okWide_struct (fs:=fieldsOf prog 31) aB hv;obtain⟨m,hm⟩:=h;have hl:(Value.agg cs).cells.toList.length=3:=by
  obtain⟨xs,n,_,_,hl,qD,hf⟩:=DataW.trod_struct ht hm;rw[hl];kernel_rfl
 obtain⟨y0,m0,h0⟩:=Ij (k:=3) (T:=5) (o:=0) (c:=1) 0 ht aB aA aB aB aB hm;obtain⟨y1,m1,h1⟩:=Ij (k:=3) (T:=5) (o:=1) (c:=1) 1 ht aB aA aB aB aB hm;obtain⟨y2,m2,h2⟩:=Ij (k:=3) (T:=3) (o:=2) (c:=1) 2 ht aB aA aB aB aB hm;obtain⟨a0,e0,_⟩:=Ny h0;obtain⟨a1,e1,q1⟩:=Ny h1;obtain⟨z2,e2,_,_⟩:=DataW.trod_int (k:= .i64) aB h2;obtain⟨cs⟩:=cs;change cs.length=3 at hl;simp only[Value.cells]at e0 e1 e2
 match cs,hl with
 |[c0,c1,c2],_=>
  simp only[cH,jF,kH,jJ,c8,kY.injEq,and_true]at e0 e1 e2;subst e0 e1 e2;exact⟨a0,a1,z2,rfl,q1⟩
theorem c6J {r:Reach} {b0:Nat} {v:Value} {d:DataW H} {p:List MemPlace} (hv:Value.okWide prog W r b0 33 v) (h:DataW.Trod enc prog W base spare tD 33 v d p):∃l,SI (fun b=>W.heap[b]?) v l:=by
 have hu:prog.underlying 33=some (.slice 3):=aB;obtain⟨m,hm⟩:=h;obtain⟨w,n,xs,e1,hs,hd⟩:=EH (e:=3) (sz:=1) hu aB aA hm;rw[OP.okWide_slice hu hv]at e1;obtain rfl:v=w:=by simpa using e1
 obtain⟨l,hl,_⟩:=EI (ce:=fun z:Int=>[ii z]) (p:=fun _=>True) hs fun i hi=>by
  obtain⟨y,m,hm⟩:=hd i hi;obtain⟨z,e,_⟩:=DataW.trod_int (k:= .i64) aB hm;exact⟨z,e,trivial⟩
 exact⟨l,hl⟩
end
theorem a2N {H:Type} {enc:TypeId×Value->H} {a:Assume} {C:Checked} {os:Os} {f:FuncId} {fn:Func} {s:ChangeSpec} {conds:List PathCond} {apart fresh yL again:Bool} {X:World->Array Value->Prop}
  (hX:∀(w w':World) (args:Array Value),w.heap=w'.heap->X w args->X w' args)
  (own:ownKnob C.prog.godebug=none) (started:os.Started) (noInit:C.prog.inits.idxOf? f=none) (hfn:C.prog.funcs[f]? =some fn)
  (witness:∃(w:World) (tape:Tape) (i:Input),w.os=os/\(w.forCall tape i).Shaped C.prog/\i.vars=[]/\Input.okWide C.prog (w.forCall tape i) .any w.heap.size f i/\
   ((s.pre enc C.prog fn conds apart (w.forCall tape i).memory i.args/\X (w.forCall tape i).memory i.args)/\sizedMet enc C.prog fn (OpenSpec.ofChange s) apart (w.forCall tape i).memory i.args)/\a.holds C.prog (lone (Frame.enter C.prog f i.args .normal) [] (w.forCall tape i)))
  (contract:∀(W:World) (base:Nat) (args:Array Value) (ds gs:List (DataW H)) (before:List MemPlace),
   (∀(j:Nat) t v,fn.params[j]? =some t->args[j]? =some v->Value.okWide C.prog W .any base t v)->
   DataW.Whole enc C.prog fn.params.toList s.vars apart W args.toList ds gs before->
   X W args->W.ShapedOpen C.prog->
   Calls C.prog f args W fun e W'=>∃v,e= .returned v/\s.post enc C.prog fn apart fresh yL again W args v W'):
  ReturnsInHanded a C os f .any (fun w args=>(s.pre enc C.prog fn conds apart w args/\X w args)/\sizedMet enc C.prog fn (OpenSpec.ofChange s) apart w args) (s.post enc C.prog fn apart fresh yL again):=by
 refine returnsInHanded_of_calls own started noInit witness ?_;intro w tape i _ hsh _ hok qG _;obtain⟨_,_,_,fn',a6u,_,_,_,_,rH⟩:=hok;have e:fn'=fn:=fC.inj (a6u.symm.trans hfn);subst e;obtain⟨⟨⟨ds,gs,before,hw,_⟩,hx⟩,_⟩:=qG;have rP:=DataW.Whole.of_heap (w':=w.forCall tape i) (by rfl) hw;refine(contract (w.forCall tape i) w.heap.size i.args ds gs before rH rP (hX _ _ _ (by rfl) hx) hsh).mono fun e W' ⟨v,he,hp⟩=> ?_;subst he;exact ChangeSpec.post_blind hp
theorem a7N (os:Os) (started:os.Started) (H:Type) (enc:TypeId×Value->H):
  ReturnsInHanded {} Tryz.checked os 3 .any (fun w args=>(Rows.recomOddsSpec.pre enc prog f3 [] false w args/\laidMetH prog Rows.recomOddsRow.laid w)/\sizedMet enc prog f3 (OpenSpec.ofChange Rows.recomOddsSpec) false w args)
   (Rows.recomOddsSpec.post enc prog f3 false true false false):=by
 refine a2N (C:=Tryz.checked) (X:=fun w _=>laidMetH prog Rows.recomOddsRow.laid w) (fun _ _ _ hh h=>h.of_heap hh) c6F started aB Tryz.func3
  (ChangeSpec.witness_shaped (enc:=enc) (C:=Tryz.checked) (os:=os) (X:=fun w _=>laidMetH prog Rows.recomOddsRow.laid w) false (World.laidAll prog os Rows.recomOddsRow.laid) #[.agg #[.int .u8 0,.int .u8 0,.int .u16 0,.slice none 0 0,.slice none 0 0,.slice none 0 0,.int .u8 0,.int .u8 0,.int .u8 0,.int .u8 0],.agg #[.int .u8 0,.int .u8 0,.int .i64 0],.slice none 0 0,.int .u16 0] 8 (World.laidAll_os _ _ _)
   (World.shaped_of_ZipB aB aB) aB aB aB
   (by rw[MakeChecks.laidMetH_plain _ _ _ aB];exact laidMet_laidAll _ aB aB)) ?_
 intro W base args ds gs before a1d hW hX hSh;have rH:∀(j:Nat) t v,f3.params[j]? =some t->args[j]? =some v->Value.okWide prog W .any base t v:=a1d;have hTb:=c0F (W:=W) (by rw[<-MakeChecks.laidMetH_plain _ _ _ aB];exact hX);have hW':=hW;obtain⟨p,q,hA0,hV,rfl,hfz,tM⟩:=hW;have hA:DataW.TrodAll enc prog W 0 (fun _=>true) true f3.params.toList args.toList ds p:=hA0;rw[Tryz.params3]at hA rH;obtain⟨v0,vs0,d0,ds0,p0,q0,rF,rfl,rfl,h0,r0⟩:=trodAll_cons hA;obtain⟨v1,vs1,d1,ds1,p1,q1,rfl,rfl,rfl,h1,r1⟩:=trodAll_cons r0;obtain⟨v2,vs2,d2,ds2,p2,q2,rfl,rfl,rfl,h2,r2⟩:=trodAll_cons r1;obtain⟨v3,vs3,d3,ds3,p3,q3,rfl,rfl,rfl,h3,r3⟩:=trodAll_cons r2;obtain⟨rfl,rfl,rfl⟩:=trodAll_nil r3;obtain rfl:args= #[v0,v1,v2,v3]:=by cases args;simp_all
 obtain⟨rfl,rfl⟩:=trodVars_none hV;have lt0:∀x∈p0,x.block<W.heap.size:=by obtain⟨m,hm⟩:=h0;exact DataW.trod_lt m _ _ _ hm
 have lt1:∀x∈p1,x.block<W.heap.size:=by obtain⟨m,hm⟩:=h1;exact DataW.trod_lt m _ _ _ hm
 have lt2:∀x∈p2,x.block<W.heap.size:=by obtain⟨m,hm⟩:=h2;exact DataW.trod_lt m _ _ _ hm
 have lt3:∀x∈p3,x.block<W.heap.size:=by obtain⟨m,hm⟩:=h3;exact DataW.trod_lt m _ _ _ hm
 obtain⟨da,db,dc,dk,s0,s1,tr,s,wv,cu,more,wl0,cuts,rfl,hs,hwv,hcu,wS,wG⟩:=d0x (rH 0 _ v0 rfl rfl) h0;obtain⟨bw,ba,bz,rfl,hba⟩:=c6I (rH 1 _ v1 rfl rfl) h1;obtain⟨lr,hr⟩:=c6J (rH 2 _ v2 rfl rfl) h2;obtain⟨m3,rfl,-,-,wf3⟩:=open_int (k:= .u16) aB (rH 3 _ v3 rfl rfl) h3;obtain⟨n3,rfl,hi3⟩:=WQ wf3;clear hA0 a1d;have a0x:Con prog 3 [cv da db dc s wv cu dk s0 s1 tr,bn bw ba bz,v2,.int .u16 (n3:Nat)] (fun b=>W.heap[b]?) fun v H'=>v= .bool true/\Pl (fun b=>W.heap[b]?) H':=(d6l (dk:=dk) (s0:=s0) (s1:=s1) (da:=da) (db:=db) (dc:=dc) (bw:=bw) (bz:=bz) hTb (c5W hTb) hs hwv hcu wS wG hba hr hi3).mono fun u H' ⟨g1,g2⟩=>⟨g2,g1⟩;refine(d6m a0x (W:=W) (H:=fun b=>W.heap[b]?) (fun b o hb=>hb)).mono fun e W' ⟨he,bel⟩=> ?_;subst he;exact⟨_,rfl,_,_,_,[],_,[],hW',trodAll_mk1 (shut_bool aB _),(trodAll_cons_mk (Below.trod qu aB (oDt aB) h0 bel lt0) (trodAll_cons_mk (Below.trod qu aB (oDt aB) h1 bel lt1) (trodAll_cons_mk (Below.trod qu aB (oDt aB) h2 bel lt2) (trodAll_cons_mk (Below.trod qu aB (oDt aB) h3 bel lt3) trodAll_mk0)))),rfl,bel.frame _,fun h=>by cases h⟩
theorem b0n:Rows.recomOddsRow.holds Tryz.pinned (OpenSpec.ofChange Rows.recomOddsSpec):=
 OpenClaim.holds_of_wide 3 f3 rfl rfl rfl rfl rfl rfl rfl ⟨rfl,rfl,rfl,rfl,rfl⟩ rfl rfl rfl rfl rfl aB Tryz.func3 aB
  (oDt aB) (by unfold Func.isWrapper;first|(rw[if_pos (by decide+kernel)];kernel_rfl)|(rw[if_neg (by decide+kernel)];exact⟨rfl,rfl⟩))
  (fun os started H enc _=>a7N os started H enc)
theorem recomOdds_card:Rows.RecomOddsCardSaid:=
 Claim7.holds_tied_plain_at .later [] [.data] true (true, "35a9207884f540d2c801eb13bce3493b5ae7cf7b1170880cd0022f19ffa927af") false b0n (fun _ h=>by cases h) aB (fun _ h=>by cases h) recomOdds_row_tie rfl ⟨rfl,rfl⟩ aB rfl
  (fun f fn hf hfn=>by
   obtain rfl:f=3:=fC.inj ((show prog.funcNamed "wardmote/wardmotelaw32.RecomOdds" =some 3 by kernel_rfl).symm.trans hf)|>.symm;obtain rfl:fn=f3:=(fC.inj (Tryz.func3.symm.trans hfn)).symm;exact⟨aB,fun j t ht=>by
    have hm:t∈f3.params.toList:=Array.mem_toList_iff.2 (Array.mem_of_getElem? ht);have rC:(f3.params.toList.all fun u=> !prog.wantsStandIn u)=true:=aB;exact(show prog.wantsStandIn t=false by simpa using dE.1 rC t hm)⟩)
  aB
#print axioms recomOdds_card
end Go.Proofs.YtmannekkmdockaaGreatDoor

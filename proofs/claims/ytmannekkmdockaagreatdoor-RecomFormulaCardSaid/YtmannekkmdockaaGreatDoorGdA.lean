/- All spanning trees: how many at most, and that there is one. -/
import Derived.Test.YtmannekkmdockaaGreatDoorGcC
import Derived.Test.YtmannekkmdockaaGreatDoorRzB
namespace Go.GS
def inB (set:Nat) (e:Nat×Nat):Bool:=bit set e.1&&bit set e.2
def a4l (es:List (Nat×Nat)) (set i:Nat):Nat:=((es.drop i).filter (inB set)).length
theorem b0o {es:List (Nat×Nat)} {set i:Nat} {e:Nat×Nat} (h:es[i]? =some e) (hb:inB set e=true):a4l es set i=a4l es set (i+1)+1:=by
 obtain⟨hi,rfl⟩:=List.getElem?_eq_some_iff.1 h
 unfold a4l
 rw[List.drop_eq_getElem_cons hi,List.filter_cons,if_pos hb];rfl
theorem b0p (es:List (Nat×Nat)) (set i:Nat):a4l es set (i+1)<=a4l es set i:=by
 unfold a4l
 by_cases hi:i<es.length
 ·rw[List.drop_eq_getElem_cons hi,List.filter_cons]
  split
  ·simp
  ·exact Nat.le_refl _
 ·rw[List.drop_eq_nil_of_le (by omega),List.drop_eq_nil_of_le (by omega)];exact Nat.le_refl _
theorem b1Z (es:List (Nat×Nat)) (set:Nat) {i j:Nat} (h:i<=j):a4l es set j<=a4l es set i:=by
 induction h with
 |refl=>exact Nat.le_refl _
 |step _ ih=>exact Nat.le_trans (b0p es set _) ih
def Spn (es:List (Nat×Nat)) (set:Nat) (b:List Int) (j:Nat):Prop:=∀x y,bit set x=true->bit set y=true->Rch (etl es b++(es.drop j).filter (inB set)) set x y
theorem b0q {L L':List (Nat×Nat)} {set:Nat} (h:∀e∈L,bit set e.1=true->bit set e.2=true->Rch L' set e.1 e.2) {x y:Nat} (hx:bit set x=true) (hr:Rch L set x y):Rch L' set x y:=by
 induction hr with
 |base=>exact .base
 |step h1 ha hz ih=>
  have hy:=h1.mem hx
  obtain⟨e,he,⟨rfl,rfl⟩|⟨rfl,rfl⟩⟩:=ha
  ·exact ih.trans (h e he hy hz)
  ·exact ih.trans ((h e he hz hy).symm hz)
theorem a6z {L:List (Nat×Nat)} {set:Nat} {e:Nat×Nat} (he:e∈L) (h2:bit set e.2=true):Rch L set e.1 e.2:=Rch.base.step ⟨e,he,.inl ⟨rfl,rfl⟩⟩ h2
theorem Spn.start {es:List (Nat×Nat)} {set:Nat} (h:Cn es set):Spn es set [] 0:=by
 intro x y hx hy
 refine b0q (fun e he h1 h2=>a6z ?_ h2) hx (h.all hx hy)
 rw[List.drop_zero,List.mem_append]
 exact .inr (List.mem_filter.2 ⟨he,by unfold inB;rw[h1,h2];rfl⟩)
theorem Spn.skip {es:List (Nat×Nat)} {set j:Nat} {b:List Int} {e:Nat×Nat} (h:Spn es set b j) (he:es[j]? =some e) (hn:inB set e=false):Spn es set b (j+1):=by
 obtain⟨hi,rfl⟩:=List.getElem?_eq_some_iff.1 he
 intro x y hx hy
 have:=h x y hx hy
 rw[List.drop_eq_getElem_cons hi,List.filter_cons,if_neg (by rw[hn];decide)]at this
 exact this
theorem Spn.cyc {es:List (Nat×Nat)} {set j:Nat} {b:List Int} {e:Nat×Nat} (h:Spn es set b j) (he:es[j]? =some e) (hr:Rch (etl es b) set e.1 e.2):Spn es set b (j+1):=by
 obtain⟨hi,rfl⟩:=List.getElem?_eq_some_iff.1 he
 intro x y hx hy
 refine b0q (fun a ha h1 h2=> ?_) hx (h x y hx hy)
 rw[List.drop_eq_getElem_cons hi,List.filter_cons]at ha
 have key:a∈etl es b++(es.drop (j+1)).filter (inB set)\/a=es[j]:=by
  rw[List.mem_append]at ha⊢
  rcases ha with ha|ha
  ·exact .inl (.inl ha)
  ·split at ha
   ·rcases List.mem_cons.1 ha with rfl|ha
    ·exact .inr rfl
    ·exact .inl (.inr ha)
   ·exact .inl (.inr ha)
 rcases key with ha|rfl
 ·exact a6z ha h2
 ·exact b0q (fun a ha h1 h2=>a6z (List.mem_append_left _ ha) h2) h1 hr
theorem Spn.take {es:List (Nat×Nat)} {set j:Nat} {b:List Int} (h:Spn es set b j) (hj:j<es.length):Spn es set (b++[(j:Int)]) (j+1):=by
 intro x y hx hy
 refine b0q (fun a ha h1 h2=>a6z ?_ h2) hx (h x y hx hy)
 have hE:Ed es (j:Int)=es[j]:=by
  have:=a3K hj
  rw[List.getElem?_eq_getElem hj]at this
  exact(Option.some.inj this).symm
 rw[a2A,hE]
 rw[List.drop_eq_getElem_cons hj,List.filter_cons]at ha
 simp only[List.mem_append,List.mem_singleton]at ha⊢
 rcases ha with ha|ha
 ·exact .inl (.inl ha)
 ·split at ha
  ·rcases List.mem_cons.1 ha with rfl|ha
   ·exact .inl (.inr rfl)
   ·exact .inr ha
  ·exact .inr ha
theorem Spn.end {es:List (Nat×Nat)} {set j:Nat} {b:List Int} (hs:set<M64) (h0:set≠0) (h:Spn es set b j) (hj:es.length<=j) (hin:Inn set (etl es b)) (hac:Acy (etl es b) (etl es b).length):(etl es b).length+1=card set:=by
 have h1:One (lab (etl es b)) set:=fun x y hx hy=>by
  rw[a3J hin hx hy]
  have:=h x y hx hy
  rw[List.drop_eq_nil_of_le hj,List.filter_nil,List.append_nil]at this
  exact this
 have h2:=(a7G (Lb.lab (etl es b)) hs h0 (a2Y hin)).2 h1
 have h3:=a5G hs hin (etl es b).length (Nat.le_refl _)
 rw[List.take_length,h2,(a3I _ (Nat.le_refl _)).2 hac]at h3
 omega
structure Beg (es:List (Nat×Nat)) (set:Nat) (b:List Int):Prop where
 asc:b.Pairwise (· < ·)
 ok:∀i∈b,OkI es set i
 acy:Acy (etl es b) (etl es b).length
theorem Beg.nil (es:List (Nat×Nat)) (set:Nat):Beg es set []:=⟨List.Pairwise.nil,(fun a ha=>by cases ha),(fun i e hi=>by cases hi)⟩
theorem Beg.inn {es:List (Nat×Nat)} {set:Nat} {b:List Int} (h:Beg es set b):Inn set (etl es b):=by
 intro e he
 unfold etl at he
 rw[List.mem_map]at he
 obtain⟨i,hi,rfl⟩:=he
 exact(h.ok i hi).2.2
theorem Beg.tree {es:List (Nat×Nat)} {set:Nat} {b:List Int} (h:Beg es set b) (hl:b.length+1=card set):TreeOk es set b:=
 ⟨h.asc,h.ok,by have:=h.acy;rw[show(etl es b).length=b.length from List.length_map _]at this;exact this,hl⟩
theorem Beg.snoc {es:List (Nat×Nat)} {set:Nat} {b:List Int} {j:Nat} (hs:set<M64) (h:Beg es set b) (hlt:∀i∈b,i<(j:Int)) (hok:OkI es set (j:Nat)) (hr:bit (a7H (etl es b) (Ed es (j:Nat)).1) (Ed es (j:Nat)).2=false):Beg es set (b++[(j:Int)]):=by
 refine⟨b3x h.asc hlt,?_,?_⟩
 ·intro i hi
  rw[List.mem_append,List.mem_singleton]at hi
  rcases hi with hi|rfl
  ·exact h.ok i hi
  ·exact hok
 ·rw[a2A,List.length_append]
  refine h.acy.snoc fun he=> ?_
  have hL:∀e∈etl es b,e.1<64/\e.2<64:=fun e he=>⟨a1q hs (h.inn e he).1,a1q hs (h.inn e he).2⟩
  have hcl:=a2C hL (a1q hs hok.2.2.1)
  rw[a3J h.inn hok.2.2.1 hok.2.2.2,<-a5d hs h.inn hok.2.2.1,<-hcl.2,hr]at he
  cases he
theorem Beg.cyc {es:List (Nat×Nat)} {set:Nat} {b:List Int} {j:Nat} (hs:set<M64) (h:Beg es set b) (hok:OkI es set (j:Nat)) (hr:bit (a7H (etl es b) (Ed es (j:Nat)).1) (Ed es (j:Nat)).2=true):Rch (etl es b) set (Ed es (j:Nat)).1 (Ed es (j:Nat)).2:=by
 have hL:∀e∈etl es b,e.1<64/\e.2<64:=fun e he=>⟨a1q hs (h.inn e he).1,a1q hs (h.inn e he).2⟩
 have hcl:=a2C hL (a1q hs hok.2.2.1)
 rw[<-a5d hs h.inn hok.2.2.1]
 exact(hcl.2 _).1 hr
theorem Beg.len {es:List (Nat×Nat)} {set:Nat} {b:List Int} (hs:set<M64) (h0:set≠0) (h:Beg es set b):b.length+1<=card set:=by
 have h3:=a5G hs h.inn (etl es b).length (Nat.le_refl _)
 rw[List.take_length,(a3I _ (Nat.le_refl _)).2 h.acy,show(etl es b).length=b.length from List.length_map _]at h3
 obtain⟨x,r,_,hx,hx64,_⟩:=b3y hs h0
 have:0<cnt (lab (etl es b)) set:=by
  have hm:lab (etl es b) x∈((List.range 64).filter fun x=>bit set x&&decide (lab (etl es b) x=x)):=by
   have hin:=a2Y h.inn x hx
   rw[List.mem_filter]
   exact⟨List.mem_range.2 (a1q hs hin),by rw[hin,(Lb.lab (etl es b)).idm];simp⟩
  exact List.length_pos_of_mem hm
 omega
end Go.GS
/- Chapter 32: all spanning trees. -/
namespace Go.Proofs.YtmannekkmdockaaGreatDoor
open Go.Proofs.Tryz
open Go.RowKit Go.RX Go.GS
abbrev Slc:=Option Addr×Nat×Nat
def vs (s:Slc):Value:= .slice s.1 s.2.1 s.2.2
theorem b2a:El prog 100 32 1 false (fun s:Slc=>[vs s]) vs where
 und:=by kernel_rfl
 has:=by kernel_rfl
 cel:=by kernel_rfl
 agg:=by kernel_rfl
 pos:=by decide
 one1:=fun _=>rfl
 small:=by decide
 inf:=⟨(prog.info? 32).getD default,vs (none,0,0),by kernel_rfl,by kernel_rfl,by kernel_rfl,rfl,of_decide_eq_true (by kernel_rfl)⟩
 len:=fun _=>rfl
 val:=fun _=>rfl
 cells:=fun _=>rfl
 one:=fun x c hc=>by simp at hc;subst hc;rfl
theorem a3L {H:PH} {sz:Nat} {α:Type} {ce:α->List Value} {v:Value} {l:List α} (h:SE H sz ce v l):∃s,v=vs s:=by
 obtain⟨_,a,c,h2,_⟩:=h;exact⟨(a,l.length,c),h2⟩
theorem b5k {H0 H H':PH} {α:Type} {ce:α->List Value} {v:Value} {l:List α} (h:SO H0 H 3 1 ce v l) (hp:H'=H\/∃g ob,H0 g=none/\H'=H.put g ob/\(H g=none\/∃cs,H g=some (.cells cs 32 (0,0)))):SO H0 H' 3 1 ce v l:=by
 rcases hp with rfl|⟨g,ob,_,rfl,hg⟩
 ·exact h
 ·obtain⟨h1,h2|⟨g',cap,cur,h2,h3,h4,h5⟩⟩:=h
  ·exact⟨h1,.inl h2⟩
  ·refine⟨h1,.inr ⟨g',cap,cur,h2,h3,?_,h5⟩⟩
   rw[PH.put_ne _ _ (fun e=> ?_)]
   ·exact h4
   ·subst e
    rcases hg with hg|⟨cs,hg⟩
    ·rw[hg]at h4;cases h4
    ·rw[hg]at h4
     injection h4 with h4
     injection h4 with _ h4 _
     exact absurd h4 (by decide)
def a0Q (b:List Int):Nat:=match b.getLast? with|none=>0|some x=>x.toNat+1
theorem a7J (b:List Int) (j:Nat):a0Q (b++[(j:Int)])=j+1:=by
 unfold a0Q;rw[List.getLast?_append];rfl
set_option maxHeartbeats 1000000 in
theorem b7b {n:Nat} {es:List (Nat×Nat)} {set:Nat} (hg:GV n es) (hs:set<2^n) (h0:set≠0) (h36:a4l es set 0<=36):∀(k:Nat) (b:List Int) (u:Value) (H:PH) {w:Value},es.length-a0Q b<=k->SG H w es->SI H u b->Beg es set b->
  Con prog 86 [gv n w,uv set,u] H fun r H'=>PH.le H H'/\∃l,SO H H' 32 1 (fun s:Slc=>[vs s]) r l/\(∀s∈l,∃t,SO H H' 3 1 (fun z:Int=>[ii z]) (vs s) t/\TreeOk es set t)/\l.length<=2^a4l es set (a0Q b)/\(Spn es set b (a0Q b)->l≠[]):=by
 have hs':=a1g hg.n64 hs
 have hes:=hg.len
 have h64:=hg.n64
 intro k
 induction k using Nat.strongRecOn with
 |_ k ih0=>
 intro b u H w hk hw hu hB
 have hval:∀i∈b,0<=i/\i.toNat<es.length:=fun i hi=>⟨(hB.ok i hi).1,(hB.ok i hi).2.1⟩
 have hbl:=hB.len hs' h0
 have hc64:=a1W set
 have ih:∀m,m<es.length-a0Q b->∀(b:List Int) (u:Value) (H:PH) {w:Value},es.length-a0Q b<=m->SG H w es->SI H u b->Beg es set b->Con prog 86 [gv n w,uv set,u] H fun r H'=>PH.le H H'/\∃l,SO H H' 32 1 (fun s:Slc=>[vs s]) r l/\(∀s∈l,∃t,SO H H' 3 1 (fun z:Int=>[ii z]) (vs s) t/\TreeOk es set t)/\l.length<=2^a4l es set (a0Q b)/\(Spn es set b (a0Q b)->l≠[]):=fun m hm=>ih0 m (by omega)
 refine a0b mixed c0a (by kernel_rfl) rfl ?_
 refine a0a (a0S hw) ?_
 refine a0g el_int rfl rfl hu rfl ?_
 refine a0I (b6X hs') rfl ?_
 simp only[cA,nA]
 refine a0a ⟨_,rfl⟩ ?_
 refine a0a ⟨_,rfl⟩ ?_
 refine a0e (b:=decide (b.length+1=card set)) (by show Value.bool (((b.length:Nat):Int)==intOf (D prog _ (.op2 .sub .i64 (.v 4) (.k (.int .i64 1)))))=_;rw[b4O (x:=(card set:Nat)) (y:=1) rfl rfl (by omega) (by omega)];show Value.bool (((b.length:Nat):Int)==((card set:Nat):Int)-1)=_;rw[bE];congr 1;apply decide_eq_decide.2;omega) (fun hne=> ?_) (fun hne=> ?_)
 ·replace hne:=of_decide_eq_true hne
  refine a3g el_int rfl rfl fun v1 H1 l1 o1 _=> ?_
  simp only[cA,nA]
  refine a1k el_int rfl rfl rfl l1 o1 (hu.mono l1) (by simp;omega) rfl rfl fun v2 H2 l2 o2 _=> ?_
  simp only[cA,nA]
  obtain⟨s,rfl⟩:=a3L o2.se
  refine a1T b2a (a:=s) rfl rfl rfl fun v3 H3 l3 o3 _=> ?_
  simp only[cA,nA]
  exact a0c rfl ⟨l2.trans l3,[s],o3.less l2,fun s' hs'=>by rw[List.mem_singleton]at hs';subst hs';exact⟨b,o2.mono l3,hB.tree hne⟩,Nat.one_le_two_pow,fun _ h=>by cases h⟩
 ·replace hne:=of_decide_eq_false hne
  refine a0g el_int rfl rfl hu rfl ?_
  refine a0a ⟨_,rfl⟩ ?_
  refine a0e (b:=decide (((b.length:Nat):Int)>0)) rfl (fun h1=> ?_) (fun h1=> ?_)
  ·replace h1:=of_decide_eq_true h1
   obtain⟨m,hm⟩:∃m,b.length=m+1:=⟨b.length-1,by omega⟩
   have hbm:b[m]? =some b[m]:=List.getElem?_eq_getElem (by omega)
   have hgl:b.getLast? =some b[m]:=by rw[List.getLast?_eq_getElem?,show b.length-1=m by omega];exact hbm
   have hvm:=hval b[m] (List.getElem_mem _)
   have hfo0:a0Q b=b[m].toNat+1:=by unfold a0Q;rw[hgl]
   have hlt:∀i∈b,i<(a0Q b:Nat):=by
    intro i hi
    obtain⟨q,hq,rfl⟩:=List.mem_iff_getElem.1 hi
    have:b[q]<=b[m]:=by
     by_cases e:q=m
     ·subst e;exact Int.le_refl _
     ·exact Int.le_of_lt (List.pairwise_iff_getElem.1 hB.asc q m hq (by omega) (by omega))
    omega
   have hfl:a0Q b<=es.length:=by omega
   refine a0g el_int rfl rfl hu rfl ?_
   refine a0a ⟨_,rfl⟩ ?_
   refine a0i el_int rfl rfl rfl rfl (fun _=>rfl) hu hbm (a1l rfl (by rw[b4O (x:=(b.length:Nat)) (y:=1) rfl rfl (by omega) (by omega)];show ii _=ii _;congr 1;omega)) (fun _=>rfl) fun _=> ?_
   simp only[cA,nA]
   refine a0a ⟨_,rfl⟩ ?_
   refine a0k (α:=Value×List Slc×Nat) (fun⟨v,l,j⟩=>[v,ii (j:Nat)]) (fun⟨v,l,j⟩=>fun H'=>j<=es.length/\a0Q b<=j/\PH.le H H'/\SO H H' 32 1 (fun s:Slc=>[vs s]) v l/\(∀s∈l,∃t,SO H H' 3 1 (fun z:Int=>[ii z]) (vs s) t/\TreeOk es set t)/\l.length+2^a4l es set j<=2^a4l es set (a0Q b)/\(Spn es set b (a0Q b)->l≠[]\/Spn es set b j)) (fun⟨v,l,j⟩=>es.length-j) ((.slice none 0 0,[],a0Q b)) (a1l rfl (by rw[b9h (x:=b[m]) (y:=1) rfl rfl (by omega) (by omega)];show ii _=ii _;congr 1;omega)) (⟨hfl,Nat.le_refl _,PH.le.refl _,SO.nil _ _ _ _ _,(fun s hs=>by cases hs),by simp,(fun h=> .inr h)⟩) fun⟨v,l,j⟩ H' hQ=> ?_
   simp only[cA,nA]
   obtain⟨hj,hfj,l1,o1,htr,hcn,hsp⟩:=hQ
   refine a0g el_edge rfl rfl (hw.mono l1) rfl ?_
   refine a0a ⟨_,rfl⟩ ?_
   refine a0a ⟨_,rfl⟩ ?_
   refine a0e (b:=decide (((j:Nat):Int)<(es.length:Nat))) rfl (fun h9=> ?_) (fun h9=> ?_)
   ·replace h9:=of_decide_eq_true h9
    have hj':j<es.length:=by omega
    have hem:=a3K hj'
    have hed:=hg.mem hem
    have hpw:2^a4l es set (j+1)<=2^a4l es set j:=Nat.pow_le_pow_right (by decide) (b0p es set j)
    refine a0I (a8T (hw.mono l1) hg hs' (j:Nat)) rfl ?_
    simp only[cA,nA]
    refine a0a ⟨_,rfl⟩ ?_
    refine a0e (b:= !decide (OkI es set (j:Nat))) rfl (fun h2=> ?_) (fun h2=> ?_)
    ·skip
     exact⟨(v,l,j+1),by show es.length-(j+1)<es.length-j;omega,(a1l rfl (a0r rfl (by omega))),⟨hj',by show a0Q b<=j+1;omega,l1,o1,htr,Nat.le_trans (Nat.add_le_add_left hpw _) hcn,fun hS=>(hsp hS).imp (fun h=>h) fun h=>h.skip hem (Bool.eq_false_iff.2 fun hb=>by unfold inB at hb;rw[Bool.and_eq_true]at hb;rw[decide_eq_true (show OkI es set (j:Nat)from⟨by omega,by rw[Int.toNat_natCast];exact hj',hb.1,hb.2⟩)]at h2;cases h2)⟩⟩
    ·skip
     have hok:OkI es set (j:Nat):=by simpa using h2
     have hin:inB set (Ed es (j:Nat))=true:=by unfold inB;rw[hok.2.2.1,hok.2.2.2];rfl
     refine a5H rfl rfl rfl rfl rfl (fun _=>rfl) (fun _=>rfl) (fun _=>rfl) (hw.mono l1) hem rfl (fun _=>rfl) (fun _ _=>rfl) fun _ _=> ?_
     simp only[cA,nA]
     refine a5I rfl rfl rfl rfl rfl (fun _=>rfl) (fun _=>rfl) (fun _=>rfl) (hw.mono l1) hem rfl (fun _=>rfl) (fun _ _=>rfl) fun _ _=> ?_
     simp only[cA,nA]
     refine a0I (a8U (hw.mono l1) hg (hu.mono l1) hval (x:=(Ed es (j:Nat)).1) (by omega)) rfl ?_
     simp only[cA,nA]
     have hR:=(a2C (L:=etl es b) (a8S hg hval) (x:=(Ed es (j:Nat)).1) (by omega)).1
     refine a0s (a0X hR (by omega)) rfl ?_
     simp only[cA,nA]
     refine a0a ⟨_,rfl⟩ ?_
     refine a0e (b:=bit (a7H (etl es b) (Ed es (j:Nat)).1) (Ed es (j:Nat)).2) rfl (fun h3=> ?_) (fun h3=> ?_)
     ·skip
      exact⟨(v,l,j+1),by show es.length-(j+1)<es.length-j;omega,(a1l rfl (a0r rfl (by omega))),⟨hj',by show a0Q b<=j+1;omega,l1,o1,htr,Nat.le_trans (Nat.add_le_add_left hpw _) hcn,fun hS=>(hsp hS).imp (fun h=>h) fun h=>h.cyc hem (hB.cyc hs' hok h3)⟩⟩
     ·skip
      have hB':=hB.snoc hs' (fun i hi=>by have:=hlt i hi;omega) hok h3
      have hfo:a0Q (b++[(j:Int)])=j+1:=a7J b j
      refine b4R el_int rfl rfl fun b1 hb1=> ?_
      simp only[cA,nA]
      refine b1O el_int rfl rfl rfl (PH.put_self _ _ _) (hu.mono (l1.trans (PH.le_put hb1 _))) (by omega) rfl fun v2 H2 l2 _ o2=> ?_
      simp only[cA,nA]
      have o2:=o2 H' (PH.le_put hb1 _) hb1
      refine b4S el_int (a:=(j:Int)) rfl rfl rfl fun b3 hb3=> ?_
      simp only[cA,nA]
      refine a1k el_int rfl rfl rfl (((PH.le_put hb1 _).trans l2).trans (PH.le_put hb3 _)) (o2.mono (PH.le_put hb3 _)) (b4M (l:=[(j:Int)]) (PH.put_self _ _ _) rfl rfl (show 1<=maxLen by decide)) (by show b.length+1<=_;omega) rfl rfl fun v4 H4 l4 o4 _=> ?_
      simp only[cA,nA]
      have lc4:PH.le H H4:=l1.trans l4
      refine a0d (ih (es.length-(j+1)) (by omega) (b++[(j:Int)]) v4 H4 (by rw[hfo];exact Nat.le_refl _) (hw.mono lc4) o4.se hB') rfl ?_
      rintro r2 H5 ⟨l5,t2,o5,htr5,hlen5,hsp5⟩
      refine⟨fun h=>(nomatch h),?_⟩
      simp only[cA,nA]
      rw[hfo]at hlen5 hsp5
      have hic:=b0o hem hin
      have hpw2:2^a4l es set j=2*2^a4l es set (j+1):=by rw[hic,Nat.pow_succ,Nat.mul_comm]
      have h36':2^a4l es set (a0Q b)<=2^36:=Nat.pow_le_pow_right (by decide) (Nat.le_trans (b1Z es set (Nat.zero_le _)) h36)
      refine a2t b2a rfl rfl rfl (lc4.trans l5) (o1.mono (l4.trans l5)) o5.se (by omega) rfl rfl fun v6 H6 l6 o6 hput=> ?_
      simp only[cA,nA]
      exact⟨(v6,l++t2,j+1),by show es.length-(j+1)<es.length-j;omega,(a1l rfl (a0r rfl (by omega))),⟨hj',by show a0Q b<=j+1;omega,l6,o6,(fun s hs=>by rw[List.mem_append]at hs;rcases hs with hs|hs;(obtain⟨t,ho,ht⟩:=htr s hs;exact⟨t,b5k (ho.mono (l4.trans l5)) hput,ht⟩);(obtain⟨t,ho,ht⟩:=htr5 s hs;exact⟨t,b5k (ho.less lc4) hput,ht⟩)),by rw[List.length_append];show _+2^a4l es set (j+1)<=_;omega,fun hS=> .inl (by rcases hsp hS with h|h;(exact fun e=>h (List.append_eq_nil_iff.1 e).1);(exact fun e=>hsp5 (h.take hj') (List.append_eq_nil_iff.1 e).2))⟩⟩
   ·replace h9:=of_decide_eq_false h9
    exact a0c rfl ⟨l1,l,o1,htr,Nat.le_trans (Nat.le_add_right _ _) hcn,fun hS=>(hsp hS).elim (fun h=>h) fun h=>absurd (by have:=h.end hs' h0 (by omega) hB.inn hB.acy;rw[show(etl es b).length=b.length from List.length_map _]at this;exact this) hne⟩
  ·replace h1:=of_decide_eq_false h1
   have hb0:b=[]:=List.eq_nil_of_length_eq_zero (by omega)
   have hfo0:a0Q b=0:=by rw[hb0];rfl
   have hlt:∀i∈b,i<(a0Q b:Nat):=fun i hi=>by rw[hb0]at hi;cases hi
   have hfl:a0Q b<=es.length:=by omega
   refine a0k (α:=Value×List Slc×Nat) (fun⟨v,l,j⟩=>[v,ii (j:Nat)]) (fun⟨v,l,j⟩=>fun H'=>j<=es.length/\a0Q b<=j/\PH.le H H'/\SO H H' 32 1 (fun s:Slc=>[vs s]) v l/\(∀s∈l,∃t,SO H H' 3 1 (fun z:Int=>[ii z]) (vs s) t/\TreeOk es set t)/\l.length+2^a4l es set j<=2^a4l es set (a0Q b)/\(Spn es set b (a0Q b)->l≠[]\/Spn es set b j)) (fun⟨v,l,j⟩=>es.length-j) ((.slice none 0 0,[],a0Q b)) (a1l rfl (by rw[hfo0];rfl)) (⟨hfl,Nat.le_refl _,PH.le.refl _,SO.nil _ _ _ _ _,(fun s hs=>by cases hs),by simp,(fun h=> .inr h)⟩) fun⟨v,l,j⟩ H' hQ=> ?_
   simp only[cA,nA]
   obtain⟨hj,hfj,l1,o1,htr,hcn,hsp⟩:=hQ
   refine a0g el_edge rfl rfl (hw.mono l1) rfl ?_
   refine a0a ⟨_,rfl⟩ ?_
   refine a0a ⟨_,rfl⟩ ?_
   refine a0e (b:=decide (((j:Nat):Int)<(es.length:Nat))) rfl (fun h9=> ?_) (fun h9=> ?_)
   ·replace h9:=of_decide_eq_true h9
    have hj':j<es.length:=by omega
    have hem:=a3K hj'
    have hed:=hg.mem hem
    have hpw:2^a4l es set (j+1)<=2^a4l es set j:=Nat.pow_le_pow_right (by decide) (b0p es set j)
    refine a0I (a8T (hw.mono l1) hg hs' (j:Nat)) rfl ?_
    simp only[cA,nA]
    refine a0a ⟨_,rfl⟩ ?_
    refine a0e (b:= !decide (OkI es set (j:Nat))) rfl (fun h2=> ?_) (fun h2=> ?_)
    ·skip
     exact⟨(v,l,j+1),by show es.length-(j+1)<es.length-j;omega,(a1l rfl (a0r rfl (by omega))),⟨hj',by show a0Q b<=j+1;omega,l1,o1,htr,Nat.le_trans (Nat.add_le_add_left hpw _) hcn,fun hS=>(hsp hS).imp (fun h=>h) fun h=>h.skip hem (Bool.eq_false_iff.2 fun hb=>by unfold inB at hb;rw[Bool.and_eq_true]at hb;rw[decide_eq_true (show OkI es set (j:Nat)from⟨by omega,by rw[Int.toNat_natCast];exact hj',hb.1,hb.2⟩)]at h2;cases h2)⟩⟩
    ·skip
     have hok:OkI es set (j:Nat):=by simpa using h2
     have hin:inB set (Ed es (j:Nat))=true:=by unfold inB;rw[hok.2.2.1,hok.2.2.2];rfl
     refine a5H rfl rfl rfl rfl rfl (fun _=>rfl) (fun _=>rfl) (fun _=>rfl) (hw.mono l1) hem rfl (fun _=>rfl) (fun _ _=>rfl) fun _ _=> ?_
     simp only[cA,nA]
     refine a5I rfl rfl rfl rfl rfl (fun _=>rfl) (fun _=>rfl) (fun _=>rfl) (hw.mono l1) hem rfl (fun _=>rfl) (fun _ _=>rfl) fun _ _=> ?_
     simp only[cA,nA]
     refine a0I (a8U (hw.mono l1) hg (hu.mono l1) hval (x:=(Ed es (j:Nat)).1) (by omega)) rfl ?_
     simp only[cA,nA]
     have hR:=(a2C (L:=etl es b) (a8S hg hval) (x:=(Ed es (j:Nat)).1) (by omega)).1
     refine a0s (a0X hR (by omega)) rfl ?_
     simp only[cA,nA]
     refine a0a ⟨_,rfl⟩ ?_
     refine a0e (b:=bit (a7H (etl es b) (Ed es (j:Nat)).1) (Ed es (j:Nat)).2) rfl (fun h3=> ?_) (fun h3=> ?_)
     ·skip
      exact⟨(v,l,j+1),by show es.length-(j+1)<es.length-j;omega,(a1l rfl (a0r rfl (by omega))),⟨hj',by show a0Q b<=j+1;omega,l1,o1,htr,Nat.le_trans (Nat.add_le_add_left hpw _) hcn,fun hS=>(hsp hS).imp (fun h=>h) fun h=>h.cyc hem (hB.cyc hs' hok h3)⟩⟩
     ·skip
      have hB':=hB.snoc hs' (fun i hi=>by have:=hlt i hi;omega) hok h3
      have hfo:a0Q (b++[(j:Int)])=j+1:=a7J b j
      refine b4R el_int rfl rfl fun b1 hb1=> ?_
      simp only[cA,nA]
      refine b1O el_int rfl rfl rfl (PH.put_self _ _ _) (hu.mono (l1.trans (PH.le_put hb1 _))) (by omega) rfl fun v2 H2 l2 _ o2=> ?_
      simp only[cA,nA]
      have o2:=o2 H' (PH.le_put hb1 _) hb1
      refine b4S el_int (a:=(j:Int)) rfl rfl rfl fun b3 hb3=> ?_
      simp only[cA,nA]
      refine a1k el_int rfl rfl rfl (((PH.le_put hb1 _).trans l2).trans (PH.le_put hb3 _)) (o2.mono (PH.le_put hb3 _)) (b4M (l:=[(j:Int)]) (PH.put_self _ _ _) rfl rfl (show 1<=maxLen by decide)) (by show b.length+1<=_;omega) rfl rfl fun v4 H4 l4 o4 _=> ?_
      simp only[cA,nA]
      have lc4:PH.le H H4:=l1.trans l4
      refine a0d (ih (es.length-(j+1)) (by omega) (b++[(j:Int)]) v4 H4 (by rw[hfo];exact Nat.le_refl _) (hw.mono lc4) o4.se hB') rfl ?_
      rintro r2 H5 ⟨l5,t2,o5,htr5,hlen5,hsp5⟩
      refine⟨fun h=>(nomatch h),?_⟩
      simp only[cA,nA]
      rw[hfo]at hlen5 hsp5
      have hic:=b0o hem hin
      have hpw2:2^a4l es set j=2*2^a4l es set (j+1):=by rw[hic,Nat.pow_succ,Nat.mul_comm]
      have h36':2^a4l es set (a0Q b)<=2^36:=Nat.pow_le_pow_right (by decide) (Nat.le_trans (b1Z es set (Nat.zero_le _)) h36)
      refine a2t b2a rfl rfl rfl (lc4.trans l5) (o1.mono (l4.trans l5)) o5.se (by omega) rfl rfl fun v6 H6 l6 o6 hput=> ?_
      simp only[cA,nA]
      exact⟨(v6,l++t2,j+1),by show es.length-(j+1)<es.length-j;omega,(a1l rfl (a0r rfl (by omega))),⟨hj',by show a0Q b<=j+1;omega,l6,o6,(fun s hs=>by rw[List.mem_append]at hs;rcases hs with hs|hs;(obtain⟨t,ho,ht⟩:=htr s hs;exact⟨t,b5k (ho.mono (l4.trans l5)) hput,ht⟩);(obtain⟨t,ho,ht⟩:=htr5 s hs;exact⟨t,b5k (ho.less lc4) hput,ht⟩)),by rw[List.length_append];show _+2^a4l es set (j+1)<=_;omega,fun hS=> .inl (by rcases hsp hS with h|h;(exact fun e=>h (List.append_eq_nil_iff.1 e).1);(exact fun e=>hsp5 (h.take hj') (List.append_eq_nil_iff.1 e).2))⟩⟩
   ·replace h9:=of_decide_eq_false h9
    exact a0c rfl ⟨l1,l,o1,htr,Nat.le_trans (Nat.le_add_right _ _) hcn,fun hS=>(hsp hS).elim (fun h=>h) fun h=>absurd (by have:=h.end hs' h0 (by omega) hB.inn hB.acy;rw[show(etl es b).length=b.length from List.length_map _]at this;exact this) hne⟩
end Go.Proofs.YtmannekkmdockaaGreatDoor

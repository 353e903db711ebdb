/- Spanning trees, part 2. -/
import Derived.Test.YtmannekkmdockaaGreatDoorGcB
import Derived.Test.YtmannekkmdockaaGreatDoorGsM
namespace Go.GS
theorem sub_le {a b:Nat} (h:∀y,bit b y=true->bit a y=true):b<=a:=by
 have:b=a&&&b:=a0F fun y=>by
  rw[a1R]
  cases hb:bit b y with
  |false=>simp
  |true=>simp[h y hb]
 rw[this];exact Nat.and_le_left
instance (es:List (Nat×Nat)) (set:Nat) (i:Int):Decidable (OkI es set i):=inferInstanceAs (Decidable (_/\_/\_/\_))
theorem a9M {n:Nat} {es:List (Nat×Nat)} (hg:GV n es) {t:List Int} (ht:∀i∈t,0<=i/\i.toNat<es.length):∀e∈etl es t,e.1<64/\e.2<64:=by
 intro e he
 have h64:=hg.n64
 unfold etl at he
 rw[List.mem_map]at he
 obtain⟨i,hi,rfl⟩:=he
 obtain⟨h1,h2⟩:=ht i hi
 have:=a4d (es:=es) h2
 rw[Int.toNat_of_nonneg h1]at this
 have:=hg.mem this
 omega
theorem c1O {L:List (Nat×Nat)} {set x:Nat} (hs:set<M64) (h:Inn set L) (hx:bit set x=true):∀y,bit (a8t L x) y=true->bit set y=true:=by
 have hL:∀e∈L,e.1<64/\e.2<64:=fun e he=>⟨a1r hs (h e he).1,a1r hs (h e he).2⟩
 intro y hy
 have hr:=((a2N hL (a1r hs hx)).2 y).1 hy
 rw[a5z hs h hx]at hr
 exact hr.mem hx
theorem a9d {set:Nat} (hs:set<M64) (h0:set≠0):∃x r,els set=x::r/\bit set x=true/\x<64/\∀j,j<x->bit set j=false:=by
 cases h:els set with
 |nil=>exact absurd (a8f hs h) h0
 |cons x r=>obtain⟨h1,h2,h3⟩:=a5o h;exact⟨x,r,rfl,h1,h2,h3⟩
def a2V (es:List (Nat×Nat)) (set:Nat) (t:List Int) (k:Int):Nat:=a8t (etl es (t.filter fun i=>decide (i≠k))) ((els set).headD 64)
noncomputable def c1P (es:List (Nat×Nat)) (wl:List Int) (lo hi:Int) (set:Nat) (t l:List Int):List Int:=l.filter fun k=>alB es wl lo hi (a2V es set t k)&&alB es wl lo hi (sdf set (a2V es set t k))
theorem b1l {es:List (Nat×Nat)} {set:Nat} {t:List Int} (hs:set<M64) (h0:set≠0) (ht:TreeOk es set t) (k:Int):∀y,bit (a2V es set t k) y=true->bit set y=true:=by
 obtain⟨x,r,hel,hx,_⟩:=a9d hs h0
 unfold a2V
 rw[hel]
 refine c1O hs (fun e he=>ht.inn e ?_) hx
 unfold etl at he⊢
 rw[List.mem_map]at he⊢
 obtain⟨i,hi,rfl⟩:=he
 exact⟨i,(List.mem_filter.1 hi).1,rfl⟩
theorem a8u {a b n:Nat} (hb:b<2^n) (h:∀y,bit a y=true->bit b y=true):a<2^n:=Nat.lt_of_le_of_lt (sub_le h) hb
end Go.GS
/- Chapter 32: balanced edges, on both sides. -/
namespace Go.Proofs.YtmannekkmdockaaGreatDoor
open Go.Proofs.Tryz
open Go.RowKit Go.RX Go.GS
section
variable {H H0:PH} {u v w wts:Value} {p wl t:List Int} {n:Nat} {es:List (Nat×Nat)} {lo hi ds k:Int} {set x:Nat}
theorem c1Q (hT:Tb H) (hw:SG H w es) (hg:GV n es) (hu:SI H u t) (h0:set≠0/\set<2^n) (ht:TreeOk es set t) (hk:k∈t):a3M prog 114 [gv n w,uv set,u,ii k] H (.tuple #[uv (a2V es set t k),uv (sdf set (a2V es set t k)),ii 0]):=by
 refine a0b mixed d1b (by kernel_rfl) rfl ?_
 have hs:=a1g hg.n64 h0.2
 obtain⟨x,r,hel,hx,hx64,hlx⟩:=a9d hs h0.1
 have hsd:a2V es set t k=a8t (etb es t k) x:=by unfold a2V;rw[hel];rfl
 have hcl:=a2N (L:=etb es t k) (x:=x) (a9M hg fun i hi=>by have:=ht.ok i (List.mem_filter.1 hi).1;exact⟨this.1,this.2.1⟩) hx64
 refine a0a (a0T hw) ?_
 refine a0n (b2P hw hg hs hu) rfl fun H1 l1=> ?_
 simp only[cA,nA]
 rw[b6h h0 ht]
 refine a0a ⟨_,rfl⟩ ?_
 refine a0j (bF (p:=(0:Int)≠0) (by simp)) ?_
 refine a0P (d0C (hu.mono l1) k) rfl ?_
 simp only[cA,nA]
 refine a0a ⟨_,rfl⟩ ?_
 refine a0j (by show Value.bool (!t.contains k)=_;rw[List.contains_iff_mem.2 hk];rfl) ?_
 refine a0P (b5J (hT.mono l1) hs) rfl ?_
 simp only[cA,nA]
 rw[show tz set=x from by simp[tz,hel]]
 refine a0P (c6d (hw.mono l1) hg (hu.mono l1) (fun i hi=>⟨(ht.ok i hi).1,(ht.ok i hi).2.1⟩) hx64) rfl ?_
 simp only[cA,nA]
 refine a0a ⟨_,rfl⟩ ?_
 refine a0a ⟨_,rfl⟩ ?_
 exact a0c rfl ⟨l1,by rw[hsd];show Value.tuple #[_,D prog _ (.op2 .andNot .u64 (.v 1) (.v 7)),_]=_;rw[a9H rfl rfl hs hcl.1];rfl⟩
theorem c6e (hc:Chn H n w wts es wl) (hu:SI H u t) (h0:set≠0/\set<2^n) (ht:TreeOk es set t):Con prog 84 [chv wts lo hi ds n w,uv set,u] H fun r H'=>PH.le H H'/\SI H' r (c1P es wl lo hi set t t):=by
 refine a0b mixed d0H (by kernel_rfl) rfl ?_
 have hl:=hu.len
 have hs:=a1g hc.ok.n64 h0.2
 have hc64:=a2d set
 have htl:=ht.len
 refine a0a (a6h (a0z hc.wt) (a0z hc.gr) _ _ _ _) ?_
 refine a0h el_int rfl rfl hu rfl ?_
 refine a0k (α:=Nat×Value) (fun⟨i,v⟩=>[v,ii (i:Nat)]) (fun⟨i,v⟩=>fun H'=>i<=t.length/\PH.le H H'/\SO H H' 3 1 (fun z:Int=>[ii z]) v (c1P es wl lo hi set t (t.take i))) (fun⟨i,v⟩=>t.length-i) ((0,.slice none 0 0)) rfl (⟨Nat.zero_le _,PH.le.refl _,SO.nil _ _ _ _ _⟩) fun⟨i,v⟩ H' hQ=> ?_
 simp only[cA,nA]
 obtain⟨hi',l1,o1⟩:=hQ
 refine a0a ⟨_,rfl⟩ ?_
 refine a0a ⟨_,rfl⟩ ?_
 refine a0e (b:=decide (((i:Nat):Int)<(t.length:Nat))) rfl (fun h=> ?_) (fun h=> ?_)
 ·replace h:=of_decide_eq_true h
  have hi'':i<t.length:=by omega
  obtain⟨x,hx,hdx⟩:=a0B hi''
  have hlen:(c1P es wl lo hi set t (t.take i)).length<=i:=Nat.le_trans (List.length_filter_le _ _) (by rw[List.length_take];omega)
  have hsub:=b1l hs h0.1 ht x
  have hA:=a8u h0.2 hsub
  have hB:sdf set (a2V es set t x)<2^n:=a8u h0.2 fun y hy=>by rw[a0p,Bool.and_eq_true]at hy;exact hy.1
  have hst:c1P es wl lo hi set t (t.take (i+1))=if alB es wl lo hi (a2V es set t x)&&alB es wl lo hi (sdf set (a2V es set t x))then c1P es wl lo hi set t (t.take i)++[x]else c1P es wl lo hi set t (t.take i):=by
   rw[take_snoc hx];unfold c1P;rw[List.filter_append,List.filter_cons,List.filter_nil]
   split
   ·rfl
   ·rw[List.append_nil]
  refine a0i el_int rfl rfl rfl rfl (fun _=>rfl) (hu.mono l1) hx rfl (fun _=>rfl) fun _=> ?_
  simp only[cA,nA]
  refine a0n (c1Q (k:=x) (hc.tb.mono l1) (hc.gr.mono l1) hc.ok (hu.mono l1) h0 ht (List.mem_of_getElem? hx)) rfl fun H2 l2=> ?_
  simp only[cA,nA]
  refine a0a ⟨_,rfl,by simp⟩ ?_
  refine a0a ⟨_,rfl,by simp⟩ ?_
  refine a0a ⟨_,rfl,by simp⟩ ?_
  refine a0n (a4a (lo:=lo) (hi:=hi) (ds:=ds) (hc.mono (l1.trans l2)) hA) rfl fun H3 l3=> ?_
  simp only[cA,nA]
  refine a0a ⟨_,rfl⟩ ?_
  refine a0e (b:=alB es wl lo hi (a2V es set t x)) rfl (fun b1=> ?_) (fun b1=> ?_)
  ·skip
   refine a0n (a4a (lo:=lo) (hi:=hi) (ds:=ds) (hc.mono ((l1.trans l2).trans l3)) hB) rfl fun H4 l4=> ?_
   simp only[cA,nA]
   refine a0a ⟨_,rfl⟩ ?_
   refine a0e (b:=alB es wl lo hi (sdf set (a2V es set t x))) rfl (fun b2=> ?_) (fun b2=> ?_)
   ·skip
    refine a3k el_int rfl rfl rfl (fun _=>rfl) (fun _=>rfl) (((l1.trans l2).trans l3).trans l4) (o1.mono ((l2.trans l3).trans l4)) (by omega) rfl (fun _=>rfl) rfl fun q v2 H5 l5 o5=> ?_
    simp only[cA,nA]
    exact⟨(i+1,v2),by show t.length-(i+1)<t.length-i;omega,(a1s rfl (a0w rfl (by omega))),⟨hi'',l5,by rw[hst,b1,b2];exact o5⟩⟩
   ·skip
    exact⟨(i+1,v),by show t.length-(i+1)<t.length-i;omega,(a1s rfl (a0w rfl (by omega))),⟨hi'',((l1.trans l2).trans l3).trans l4,by rw[hst,b1,b2];exact o1.mono ((l2.trans l3).trans l4)⟩⟩
  ·skip
   exact⟨(i+1,v),by show t.length-(i+1)<t.length-i;omega,(a1s rfl (a0w rfl (by omega))),⟨hi'',(l1.trans l2).trans l3,by rw[hst,b1];exact o1.mono (l2.trans l3)⟩⟩
 ·replace h:=of_decide_eq_false h
  rw[List.take_of_length_le (by omega)]at o1
  exact a0c rfl ⟨l1,o1.se⟩
def d8c (H:PH) (n:Nat) (es:List (Nat×Nat)) (wl:List Int) (lo hi ds:Int) (set:Nat) (t:List Int) (r:Value):Prop:=
 ∃v l e,r= .tuple #[v,ii e]/\SI H v l/\e=(if bdE n wl lo hi ds≠0 then bdE n wl lo hi ds else trE n es set t)/\l=(if e≠0 then[]else c1P es wl lo hi set t t)
theorem b6j (hT:Tb H) (hw:SG H w es) (hg:GV n es) (hwt:SI H wts wl) (hu:SI H u t) (hs:set<M64):Con prog 37 [gv n w,bv wts lo hi ds,uv set,u] H fun r H'=>PH.le H H'/\d8c H' n es wl lo hi ds set t r:=by
 refine a0b mixed d0J (by kernel_rfl) rfl ?_
 refine a0a (a0T hw) ?_
 refine a0a (a2J (a0z hwt) _ _ _) ?_
 refine a0n (a5x hw hg hwt) rfl fun H1 l1=> ?_
 simp only[cA,nA]
 refine a0a ⟨_,rfl⟩ ?_
 refine a0e (b:=decide (bdE n wl lo hi ds≠0)) (bN _ _) (fun h=> ?_) (fun h=> ?_)
 ·replace h:=of_decide_eq_true h
  exact a0c rfl ⟨l1,_,[],_,rfl,SE.nil _ _ _,(if_pos h).symm,by rw[if_pos h]⟩
 ·replace h:=of_decide_eq_false h
  have h0:bdE n wl lo hi ds=0:=Classical.byContradiction h
  have hb:=a9J h0
  refine a0n (b2P (hw.mono l1) hg hs (hu.mono l1)) rfl fun H2 l2=> ?_
  simp only[cA,nA]
  refine a0a ⟨_,rfl⟩ ?_
  refine a0e (b:=decide (trE n es set t≠0)) (bN _ _) (fun h2=> ?_) (fun h2=> ?_)
  ·replace h2:=of_decide_eq_true h2
   exact a0c rfl ⟨l1.trans l2,_,[],_,rfl,SE.nil _ _ _,(if_neg h).symm,by rw[if_pos h2]⟩
  ·replace h2:=of_decide_eq_false h2
   have h2:trE n es set t=0:=Classical.byContradiction h2
   obtain⟨hset,hok⟩:=c6c h2
   refine a0d (c6e (lo:=lo) (hi:=hi) (ds:=ds) (u:=u) (t:=t) (⟨hT.mono (l1.trans l2),hw.mono (l1.trans l2),hg,hwt.mono (l1.trans l2),hb.1,hb.2.2.2.2.2⟩:Chn H2 n w wts es wl) (hu.mono (l1.trans l2)) hset hok) rfl ?_
   rintro r H3 ⟨l3,hr⟩
   refine⟨fun h=>(nomatch h),?_⟩
   simp only[cA,nA]
   exact a0c rfl ⟨(l1.trans l2).trans l3,_,_,0,rfl,hr,by rw[if_neg h,h2],by rw[if_neg (by simp)]⟩
theorem a9N (hw:SG H w es) (hg:GV n es) (hs:set<M64) (i:Int):Asks prog 142 [gv n w,uv set,ii i] H (.bool (decide (OkI es set i))):=by
 refine a0b mixed c1B (by kernel_rfl) rfl ?_
 have h64:=hg.n64
 refine a0a (a0T hw) ?_
 refine a0a ⟨_,rfl⟩ ?_
 refine a0e (b:=decide (i≥0)) rfl (fun h=> ?_) (fun h=> ?_)
 ·replace h:=of_decide_eq_true h
  refine a0h el_edge rfl rfl hw rfl ?_
  refine a0a ⟨_,rfl⟩ ?_
  refine a0e (b:=decide (i<(es.length:Nat))) rfl (fun h2=> ?_) (fun h2=> ?_)
  ·replace h2:=of_decide_eq_true h2
   obtain⟨m,rfl⟩:∃m:Nat,i=(m:Int):=⟨i.toNat,by omega⟩
   have hem:=a4d (es:=es) (m:=m) (by omega)
   have hed:=hg.mem hem
   refine a6k rfl rfl rfl rfl rfl (fun _=>rfl) (fun _=>rfl) (fun _=>rfl) hw hem rfl (fun _=>rfl) (fun _ _=>rfl) fun _ _=> ?_
   simp only[cA,nA]
   refine a0u (a0Y hs (by omega)) rfl ?_
   simp only[cA,nA]
   refine a0a ⟨_,rfl⟩ ?_
   refine a0e (b:=bit set (Ed es (m:Nat)).1) rfl (fun b1=> ?_) (fun b1=> ?_)
   ·skip
    refine a6l rfl rfl rfl rfl rfl (fun _=>rfl) (fun _=>rfl) (fun _=>rfl) hw hem rfl (fun _=>rfl) (fun _ _=>rfl) fun _ _=> ?_
    simp only[cA,nA]
    refine a0u (a0Y hs (by omega)) rfl ?_
    simp only[cA,nA]
    exact a0c rfl ⟨rfl,by refine congrArg Value.bool ?_;rw[Bool.eq_iff_iff,decide_eq_true_iff];exact⟨fun hb=>⟨by omega,by rw[Int.toNat_natCast];omega,b1,hb⟩,fun hk=>hk.2.2.2⟩⟩
   ·skip
    exact a0c rfl ⟨rfl,by rw[decide_eq_false (fun hk:OkI es set (m:Nat)=>by rw[hk.2.2.1]at b1;cases b1)];rfl⟩
  ·replace h2:=of_decide_eq_false h2
   exact a0c rfl ⟨rfl,by rw[decide_eq_false (fun hk:OkI es set i=>by have:=hk.1;have:=hk.2.1;omega)];rfl⟩
 ·replace h:=of_decide_eq_false h
  exact a0c rfl ⟨rfl,by rw[decide_eq_false (fun hk:OkI es set i=>by have:=hk.1;omega)];rfl⟩
theorem a9O (hw:SG H w es) (hg:GV n es) (hu:SI H u t) (ht:∀i∈t,0<=i/\i.toNat<es.length) (hx:x<64):Asks prog 143 [gv n w,u,ii (x:Nat)] H (uv (a8t (etl es t) x)):=by
 refine a0b mixed c1C (by kernel_rfl) rfl ?_
 have h64:=hg.n64
 have hl:=hu.len
 have hL:=a9M hg ht
 refine a0a (a0T hw) ?_
 refine a0u (a1i hx) rfl ?_
 simp only[cA,nA]
 refine a0K (α:=Nat) (fun r=>[uv (a2U a1u (etl es t) r (2^x)),ii (r:Nat)]) (fun r=>r<=64) (fun r=>64-r) (0) rfl (Nat.zero_le _) fun r hQ=> ?_
 simp only[cA,nA]
 refine a0a ⟨_,rfl⟩ ?_
 refine a0e (b:=decide (((r:Nat):Int)<64)) rfl (fun h=> ?_) (fun h=> ?_)
 ·replace h:=of_decide_eq_true h
  have hS:=(a1C (set:=a1u) hL (a0S hx) r).1
  generalize hSe:a2U a1u (etl es t) r (2^x)=S at hS
  refine a0K (α:=Nat) (fun j=>[uv (rnd a1u (etl es (t.take j)) S),ii (j:Nat)]) (fun j=>j<=t.length) (fun j=>t.length-j) (0) rfl (Nat.zero_le _) fun j hQ2=> ?_
  simp only[cA,nA]
  refine a0h el_int rfl rfl hu rfl ?_
  refine a0a ⟨_,rfl⟩ ?_
  refine a0a ⟨_,rfl⟩ ?_
  refine a0e (b:=decide (((j:Nat):Int)<(t.length:Nat))) rfl (fun h2=> ?_) (fun h2=> ?_)
  ·replace h2:=of_decide_eq_true h2
   have hj':j<t.length:=by omega
   obtain⟨y,hy,hdy⟩:=a0B hj'
   obtain⟨hy1,hy2⟩:=ht y (List.mem_of_getElem? hy)
   obtain⟨m,rfl⟩:∃m:Nat,y=(m:Int):=⟨y.toNat,by omega⟩
   rw[Int.toNat_natCast]at hy2
   have hem:=a4d (es:=es) (m:=m) (by omega)
   have hed:=hg.mem hem
   have hR:=b2I (set:=a1u) (a9M hg (t:=t.take j) fun i hi=>ht i (List.mem_of_mem_take hi)) hS
   have hst:rnd a1u (etl es (t.take (j+1))) S=rst a1u (rnd a1u (etl es (t.take j)) S) (Ed es (m:Nat)):=by rw[take_snoc hy,a2L,b1k]
   rw[a7e (by omega) (by omega),<-Nat.or_assoc]at hst
   generalize rnd a1u (etl es (t.take j)) S=R at hR hst
   refine a0i el_int rfl rfl rfl rfl (fun _=>rfl) hu hy rfl (fun _=>rfl) fun _=> ?_
   simp only[cA,nA]
   refine a6k rfl rfl rfl rfl rfl (fun _=>rfl) (fun _=>rfl) (fun _=>rfl) hw hem rfl (fun _=>rfl) (fun _ _=>rfl) fun _ _=> ?_
   simp only[cA,nA]
   refine a0i el_int rfl rfl rfl rfl (fun _=>rfl) hu hy rfl (fun _=>rfl) fun _=> ?_
   simp only[cA,nA]
   refine a6l rfl rfl rfl rfl rfl (fun _=>rfl) (fun _=>rfl) (fun _=>rfl) hw hem rfl (fun _=>rfl) (fun _ _=>rfl) fun _ _=> ?_
   simp only[cA,nA]
   refine a0u (a0Y hR (by omega)) rfl ?_
   simp only[cA,nA]
   refine a0a ⟨_,rfl⟩ ?_
   refine a0e (b:=bit R (Ed es (m:Nat)).1) rfl (fun b3=> ?_) (fun b3=> ?_)
   ·skip
    refine a0u (a1i (n:=(Ed es (m:Nat)).1) (by omega)) rfl ?_
    simp only[cA,nA]
    refine a0a ⟨_,rfl⟩ ?_
    refine a0a ⟨_,rfl⟩ ?_
    refine a0u (a1i (n:=(Ed es (m:Nat)).2) (by omega)) rfl ?_
    simp only[cA,nA]
    refine a0a ⟨_,rfl⟩ ?_
    exact⟨j+1,by omega,(a1s (by rw[hst,if_pos (by rw[b3];rfl)];exact a9G (a9G rfl rfl hR (a0S (by omega))) rfl (a6d hR (a0S (by omega))) (a0S (by omega))) (a0w rfl (by omega))),⟨by omega,rfl⟩⟩
   ·skip
    refine a0u (a0Y hR (by omega)) rfl ?_
    simp only[cA,nA]
    refine a0a ⟨_,rfl⟩ ?_
    refine a0e (b:=bit R (Ed es (m:Nat)).2) rfl (fun b4=> ?_) (fun b4=> ?_)
    ·skip
     refine a0u (a1i (n:=(Ed es (m:Nat)).1) (by omega)) rfl ?_
     simp only[cA,nA]
     refine a0a ⟨_,rfl⟩ ?_
     refine a0a ⟨_,rfl⟩ ?_
     refine a0u (a1i (n:=(Ed es (m:Nat)).2) (by omega)) rfl ?_
     simp only[cA,nA]
     refine a0a ⟨_,rfl⟩ ?_
     exact⟨j+1,by omega,(a1s (by rw[hst,if_pos (by rw[b3,b4];rfl)];exact a9G (a9G rfl rfl hR (a0S (by omega))) rfl (a6d hR (a0S (by omega))) (a0S (by omega))) (a0w rfl (by omega))),⟨by omega,rfl⟩⟩
    ·skip
     exact⟨j+1,by omega,(a1s (by rw[hst,if_neg (by rw[b3,b4];decide)];rfl) (a0w rfl (by omega))),⟨by omega,rfl⟩⟩
  ·replace h2:=of_decide_eq_false h2
   have hje:t.take j=t:=List.take_of_length_le (by omega)
   exact⟨r+1,by omega,(a1s (by rw[show a2U a1u (etl es t) (r+1) (2^x)=rnd a1u (etl es t) S from by rw[<-hSe];rfl,hje];rfl) (a0w rfl (by omega))),⟨by omega,rfl⟩⟩
 ·replace h:=of_decide_eq_false h
  have hre:r=64:=by omega
  exact a0c rfl ⟨rfl,by rw[hre];rfl⟩
end
end Go.Proofs.YtmannekkmdockaaGreatDoor
/- All spanning trees: how many at most, and that there is one. -/
namespace Go.GS
def inB (set:Nat) (e:Nat×Nat):Bool:=bit set e.1&&bit set e.2
def a4F (es:List (Nat×Nat)) (set i:Nat):Nat:=((es.drop i).filter (inB set)).length
theorem b1m {es:List (Nat×Nat)} {set i:Nat} {e:Nat×Nat} (h:es[i]? =some e) (hb:inB set e=true):a4F es set i=a4F es set (i+1)+1:=by
 obtain⟨hi,rfl⟩:=List.getElem?_eq_some_iff.1 h
 unfold a4F
 rw[List.drop_eq_getElem_cons hi,List.filter_cons,if_pos hb];rfl
theorem b1n (es:List (Nat×Nat)) (set i:Nat):a4F es set (i+1)<=a4F es set i:=by
 unfold a4F
 by_cases hi:i<es.length
 ·rw[List.drop_eq_getElem_cons hi,List.filter_cons]
  split
  ·simp
  ·exact Nat.le_refl _
 ·rw[List.drop_eq_nil_of_le (by omega),List.drop_eq_nil_of_le (by omega)];exact Nat.le_refl _
theorem b2Q (es:List (Nat×Nat)) (set:Nat) {i j:Nat} (h:i<=j):a4F es set j<=a4F es set i:=by
 induction h with
 |refl=>exact Nat.le_refl _
 |step _ ih=>exact Nat.le_trans (b1n es set _) ih
def Spn (es:List (Nat×Nat)) (set:Nat) (b:List Int) (j:Nat):Prop:=∀x y,bit set x=true->bit set y=true->Rch (etl es b++(es.drop j).filter (inB set)) set x y
theorem b1o {L L':List (Nat×Nat)} {set:Nat} (h:∀e∈L,bit set e.1=true->bit set e.2=true->Rch L' set e.1 e.2) {x y:Nat} (hx:bit set x=true) (hr:Rch L set x y):Rch L' set x y:=by
 induction hr with
 |base=>exact .base
 |step h1 ha hz ih=>
  have hy:=h1.mem hx
  obtain⟨e,he,⟨rfl,rfl⟩|⟨rfl,rfl⟩⟩:=ha
  ·exact ih.trans (h e he hy hz)
  ·exact ih.trans ((h e he hz hy).symm hz)
theorem a7f {L:List (Nat×Nat)} {set:Nat} {e:Nat×Nat} (he:e∈L) (h2:bit set e.2=true):Rch L set e.1 e.2:=Rch.base.step ⟨e,he,.inl ⟨rfl,rfl⟩⟩ h2
theorem Spn.start {es:List (Nat×Nat)} {set:Nat} (h:Cn es set):Spn es set [] 0:=by
 intro x y hx hy
 refine b1o (fun e he h1 h2=>a7f ?_ h2) hx (h.all hx hy)
 rw[List.drop_zero,List.mem_append]
 exact .inr (List.mem_filter.2 ⟨he,by unfold inB;rw[h1,h2];rfl⟩)
theorem Spn.skip {es:List (Nat×Nat)} {set j:Nat} {b:List Int} {e:Nat×Nat} (h:Spn es set b j) (he:es[j]? =some e) (hn:inB set e=false):Spn es set b (j+1):=by
 obtain⟨hi,rfl⟩:=List.getElem?_eq_some_iff.1 he
 intro x y hx hy
 have:=h x y hx hy
 rw[List.drop_eq_getElem_cons hi,List.filter_cons,if_neg (by rw[hn];decide)]at this
 exact this
theorem Spn.cyc {es:List (Nat×Nat)} {set j:Nat} {b:List Int} {e:Nat×Nat} (h:Spn es set b j) (he:es[j]? =some e) (hr:Rch (etl es b) set e.1 e.2):Spn es set b (j+1):=by
 obtain⟨hi,rfl⟩:=List.getElem?_eq_some_iff.1 he
 intro x y hx hy
 refine b1o (fun a ha h1 h2=> ?_) hx (h x y hx hy)
 rw[List.drop_eq_getElem_cons hi,List.filter_cons]at ha
 have key:a∈etl es b++(es.drop (j+1)).filter (inB set)\/a=es[j]:=by
  rw[List.mem_append]at ha⊢
  rcases ha with ha|ha
  ·exact .inl (.inl ha)
  ·split at ha
   ·rcases List.mem_cons.1 ha with rfl|ha
    ·exact .inr rfl
    ·exact .inl (.inr ha)
   ·exact .inl (.inr ha)
 rcases key with ha|rfl
 ·exact a7f ha h2
 ·exact b1o (fun a ha h1 h2=>a7f (List.mem_append_left _ ha) h2) h1 hr
theorem Spn.take {es:List (Nat×Nat)} {set j:Nat} {b:List Int} (h:Spn es set b j) (hj:j<es.length):Spn es set (b++[(j:Int)]) (j+1):=by
 intro x y hx hy
 refine b1o (fun a ha h1 h2=>a7f ?_ h2) hx (h x y hx hy)
 have hE:Ed es (j:Int)=es[j]:=by
  have:=a4d hj
  rw[List.getElem?_eq_getElem hj]at this
  exact(Option.some.inj this).symm
 rw[a2L,hE]
 rw[List.drop_eq_getElem_cons hj,List.filter_cons]at ha
 simp only[List.mem_append,List.mem_singleton]at ha⊢
 rcases ha with ha|ha
 ·exact .inl (.inl ha)
 ·split at ha
  ·rcases List.mem_cons.1 ha with rfl|ha
   ·exact .inl (.inr rfl)
   ·exact .inr ha
  ·exact .inr ha
theorem Spn.end {es:List (Nat×Nat)} {set j:Nat} {b:List Int} (hs:set<M64) (h0:set≠0) (h:Spn es set b j) (hj:es.length<=j) (hin:Inn set (etl es b)) (hac:Acy (etl es b) (etl es b).length):(etl es b).length+1=card set:=by
 have h1:One (lab (etl es b)) set:=fun x y hx hy=>by
  rw[a4c hin hx hy]
  have:=h x y hx hy
  rw[List.drop_eq_nil_of_le hj,List.filter_nil,List.append_nil]at this
  exact this
 have h2:=(a8s (Lb.lab (etl es b)) hs h0 (a3m hin)).2 h1
 have h3:=a6j hs hin (etl es b).length (Nat.le_refl _)
 rw[List.take_length,h2,(a4b _ (Nat.le_refl _)).2 hac]at h3
 omega
structure Beg (es:List (Nat×Nat)) (set:Nat) (b:List Int):Prop where
 asc:b.Pairwise (· < ·)
 ok:∀i∈b,OkI es set i
 acy:Acy (etl es b) (etl es b).length
theorem Beg.nil (es:List (Nat×Nat)) (set:Nat):Beg es set []:=⟨List.Pairwise.nil,(fun a ha=>by cases ha),(fun i e hi=>by cases hi)⟩
theorem Beg.inn {es:List (Nat×Nat)} {set:Nat} {b:List Int} (h:Beg es set b):Inn set (etl es b):=by
 intro e he
 unfold etl at he
 rw[List.mem_map]at he
 obtain⟨i,hi,rfl⟩:=he
 exact(h.ok i hi).2.2
theorem Beg.tree {es:List (Nat×Nat)} {set:Nat} {b:List Int} (h:Beg es set b) (hl:b.length+1=card set):TreeOk es set b:=
 ⟨h.asc,h.ok,by have:=h.acy;rw[show(etl es b).length=b.length from List.length_map _]at this;exact this,hl⟩
theorem Beg.snoc {es:List (Nat×Nat)} {set:Nat} {b:List Int} {j:Nat} (hs:set<M64) (h:Beg es set b) (hlt:∀i∈b,i<(j:Int)) (hok:OkI es set (j:Nat)) (hr:bit (a8t (etl es b) (Ed es (j:Nat)).1) (Ed es (j:Nat)).2=false):Beg es set (b++[(j:Int)]):=by
 refine⟨b4s h.asc hlt,?_,?_⟩
 ·intro i hi
  rw[List.mem_append,List.mem_singleton]at hi
  rcases hi with hi|rfl
  ·exact h.ok i hi
  ·exact hok
 ·rw[a2L,List.length_append]
  refine h.acy.snoc fun he=> ?_
  have hL:∀e∈etl es b,e.1<64/\e.2<64:=fun e he=>⟨a1r hs (h.inn e he).1,a1r hs (h.inn e he).2⟩
  have hcl:=a2N hL (a1r hs hok.2.2.1)
  rw[a4c h.inn hok.2.2.1 hok.2.2.2,<-a5z hs h.inn hok.2.2.1,<-hcl.2,hr]at he
  cases he
theorem Beg.cyc {es:List (Nat×Nat)} {set:Nat} {b:List Int} {j:Nat} (hs:set<M64) (h:Beg es set b) (hok:OkI es set (j:Nat)) (hr:bit (a8t (etl es b) (Ed es (j:Nat)).1) (Ed es (j:Nat)).2=true):Rch (etl es b) set (Ed es (j:Nat)).1 (Ed es (j:Nat)).2:=by
 have hL:∀e∈etl es b,e.1<64/\e.2<64:=fun e he=>⟨a1r hs (h.inn e he).1,a1r hs (h.inn e he).2⟩
 have hcl:=a2N hL (a1r hs hok.2.2.1)
 rw[<-a5z hs h.inn hok.2.2.1]
 exact(hcl.2 _).1 hr
theorem Beg.len {es:List (Nat×Nat)} {set:Nat} {b:List Int} (hs:set<M64) (h0:set≠0) (h:Beg es set b):b.length+1<=card set:=by
 have h3:=a6j hs h.inn (etl es b).length (Nat.le_refl _)
 rw[List.take_length,(a4b _ (Nat.le_refl _)).2 h.acy,show(etl es b).length=b.length from List.length_map _]at h3
 obtain⟨x,r,_,hx,hx64,_⟩:=a9d hs h0
 have:0<cnt (lab (etl es b)) set:=by
  have hm:lab (etl es b) x∈((List.range 64).filter fun x=>bit set x&&decide (lab (etl es b) x=x)):=by
   have hin:=a3m h.inn x hx
   rw[List.mem_filter]
   exact⟨List.mem_range.2 (a1r hs hin),by rw[hin,(Lb.lab (etl es b)).idm];simp⟩
  exact List.length_pos_of_mem hm
 omega
end Go.GS

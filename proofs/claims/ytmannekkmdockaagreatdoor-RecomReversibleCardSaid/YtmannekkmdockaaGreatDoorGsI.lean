/- Chapter 32: recom, part 1. -/
import Derived.Test.YtmannekkmdockaaGreatDoorGsM
import Derived.Test.YtmannekkmdockaaGreatDoorGmT
namespace Go.Proofs.YtmannekkmdockaaGreatDoor
open Go.Proofs.Tryz
open Go.RowKit Go.RX Go.GS
def bv (wts:Value) (lo hi ds:Int):Value:= .agg #[wts,ii lo,ii hi,ii ds]
def chv (wts:Value) (lo hi ds:Int) (n:Nat) (w:Value):Value:= .agg #[wts,ii lo,ii hi,ii ds,ii n,w]
theorem a0z {H:PH} {sz:Nat} {α:Type} {ce:α->List Value} {v:Value} {l:List α} (h:SE H sz ce v l):a8V v=true:=h.one.2 v (by rw[h.cells];simp)
theorem a2J {wts:Value} (h:a8V wts=true) (lo hi ds:Int):(bv wts lo hi ds).cells.size=4/\a0t (bv wts lo hi ds).cells:=by
 refine⟨rfl,fun c hc=> ?_⟩
 rw[bv,a1v]at hc
 simp only[List.mem_cons,List.not_mem_nil,or_false]at hc
 rcases hc with rfl|rfl|rfl|rfl
 ·exact h
 all_goals rfl
theorem a6h {wts w:Value} (h:a8V wts=true) (h2:a8V w=true) (lo hi ds:Int) (n:Nat):(chv wts lo hi ds n w).cells.size=6/\a0t (chv wts lo hi ds n w).cells:=by
 refine⟨rfl,fun c hc=> ?_⟩
 rw[chv,a1v]at hc
 simp only[List.mem_cons,List.not_mem_nil,or_false]at hc
 rcases hc with rfl|rfl|rfl|rfl|rfl|rfl
 ·exact h
 ·rfl
 ·rfl
 ·rfl
 ·rfl
 ·exact h2
theorem c1h:FA prog 109 0 0:=⟨by kernel_rfl,of_decide_eq_true (by kernel_rfl),by kernel_rfl,by kernel_rfl,of_decide_eq_true (by kernel_rfl)⟩
theorem d4z:FA prog 109 1 4:=⟨by kernel_rfl,of_decide_eq_true (by kernel_rfl),by kernel_rfl,by kernel_rfl,of_decide_eq_true (by kernel_rfl)⟩
theorem d6R:FA prog 39 0 0:=⟨by kernel_rfl,of_decide_eq_true (by kernel_rfl),by kernel_rfl,by kernel_rfl,of_decide_eq_true (by kernel_rfl)⟩
theorem d6S:FA prog 39 1 1:=⟨by kernel_rfl,of_decide_eq_true (by kernel_rfl),by kernel_rfl,by kernel_rfl,of_decide_eq_true (by kernel_rfl)⟩
theorem d6T:FA prog 39 2 2:=⟨by kernel_rfl,of_decide_eq_true (by kernel_rfl),by kernel_rfl,by kernel_rfl,of_decide_eq_true (by kernel_rfl)⟩
theorem d4A:FA prog 39 3 3:=⟨by kernel_rfl,of_decide_eq_true (by kernel_rfl),by kernel_rfl,by kernel_rfl,of_decide_eq_true (by kernel_rfl)⟩
theorem d4B:Sc prog 32:=⟨by kernel_rfl,by kernel_rfl,by kernel_rfl⟩
theorem d4C:Ag prog 37 2:=⟨by kernel_rfl,by kernel_rfl,by kernel_rfl⟩
theorem d4D:Ag prog 109 6:=⟨by kernel_rfl,by kernel_rfl,by kernel_rfl⟩
theorem c1i:a4B prog 105=true:=by kernel_rfl
theorem c1j:a4B prog 179=true:=by kernel_rfl
theorem c1k:a4B prog 108=true:=by kernel_rfl
section
variable {H:PH} {u v w wts:Value} {p wl:List Int} {n:Nat} {es:List (Nat×Nat)} {lo hi ds:Int} {set:Nat}
theorem c1l (x:Int):Asks prog 105 [ii x] H (.bool (decide (x<0)||decide (x>1000000000))):=by
 refine a0b mixed c5P (by kernel_rfl) rfl ?_
 refine a0a ⟨_,rfl⟩ ?_
 refine a0e (b:=decide (x<0)) rfl (fun h=> ?_) (fun h=> ?_)
 ·replace h:=of_decide_eq_true h
  exact a0c rfl ⟨rfl,by rw[decide_eq_true h];rfl⟩
 ·replace h:=of_decide_eq_false h
  exact a0c rfl ⟨rfl,by rw[decide_eq_false h];rfl⟩
theorem a6i {h:¬(wl.length=n/\0<=lo/\lo<=hi/\1<=ds/\ds<=8/\c7W wl)}:bdE n wl lo hi ds=320:=if_neg h
theorem a5x (hw:SG H w es) (hg:GV n es) (hwt:SI H wts wl):a3M prog 60 [gv n w,bv wts lo hi ds] H (ii (bdE n wl lo hi ds)):=by
 refine a0b mixed d0D (by kernel_rfl) rfl ?_
 refine a0a (a0T hw) ?_
 refine a0a (a2J (a0z hwt) _ _ _) ?_
 refine a0n (a5t hw hg) rfl fun H1 l1=> ?_
 simp only[cA,nA]
 refine a0a ⟨_,rfl⟩ ?_
 refine a0j (bF (p:=(0:Int)≠0) (by simp)) ?_
 refine a0h el_int rfl rfl (hwt.mono l1) rfl ?_
 refine a0a ⟨_,rfl⟩ ?_
 refine a0a ⟨_,rfl⟩ ?_
 refine a0e (b:=decide (wl.length≠n)) (by show Value.bool (((wl.length:Nat):Int) !=((n:Nat):Int))=_;rw[bN];congr 1;apply decide_eq_decide.2;omega) (fun h=> ?_) (fun h=> ?_)
 ·replace h:=of_decide_eq_true h
  exact a0c rfl ⟨l1,by rw[a6i (h:=fun e=>h e.1)];rfl⟩
 ·replace h:=of_decide_eq_false h
  refine a0a ⟨_,rfl⟩ ?_
  refine a0e (b:=decide (lo<0)) rfl (fun h2=> ?_) (fun h2=> ?_)
  ·replace h2:=of_decide_eq_true h2
   exact a0c rfl ⟨l1,by rw[a6i (h:=fun e=>by omega)];rfl⟩
  ·replace h2:=of_decide_eq_false h2
   refine a0a ⟨_,rfl⟩ ?_
   refine a0e (b:=decide (lo>hi)) rfl (fun h3=> ?_) (fun h3=> ?_)
   ·replace h3:=of_decide_eq_true h3
    exact a0c rfl ⟨l1,by rw[a6i (h:=fun e=>by omega)];rfl⟩
   ·replace h3:=of_decide_eq_false h3
    refine a0a ⟨_,rfl⟩ ?_
    refine a0e (b:=decide (ds<1)) rfl (fun h4=> ?_) (fun h4=> ?_)
    ·replace h4:=of_decide_eq_true h4
     exact a0c rfl ⟨l1,by rw[a6i (h:=fun e=>by omega)];rfl⟩
    ·replace h4:=of_decide_eq_false h4
     refine a0e (b:=decide (ds>8)) rfl (fun h5=> ?_) (fun h5=> ?_)
     ·replace h5:=of_decide_eq_true h5
      exact a0c rfl ⟨l1,by rw[a6i (h:=fun e=>by omega)];rfl⟩
     ·replace h5:=of_decide_eq_false h5
      refine a0n (c1b (caps:=[]) (q:=fun x=>decide (x<0)||decide (x>1000000000)) (hwt.mono l1) c1i (fun H' x _ _=>(c1l x).give)) rfl fun H2 l2=> ?_
      simp only[cA,nA]
      refine a0a ⟨_,rfl⟩ ?_
      refine a0e (b:=wl.any fun x=>decide (x<0)||decide (x>1000000000)) rfl (fun h6=> ?_) (fun h6=> ?_)
      ·skip
       rw[List.any_eq_true]at h6
       obtain⟨x,hx1,hx2⟩:=h6
       exact a0c rfl ⟨l1.trans l2,by rw[a6i (h:=fun e=>by have:=e.2.2.2.2.2 x hx1;simp at hx2;omega)];rfl⟩
      ·skip
       have hW:c7W wl:=by
        intro x hx
        rw[List.any_eq_false]at h6
        have:=h6 x hx
        simp at this;omega
       exact a0c rfl ⟨l1.trans l2,by rw[show bdE n wl lo hi ds=0 from if_pos ⟨by omega,by omega,by omega,by omega,by omega,hW⟩];rfl⟩
theorem b8c {b:Nat} {T:TypeId} {x:Nat} {y:Int} (hb:H b=some (.cells #[wts,ii lo,ii hi,ii ds,ii n,w] T (0,0))) (hwt:SI H wts wl) (hx:wl[x]? =some y):a3M prog 179 [ii (x:Nat),.pointer (some ⟨b,0,none⟩)] H (ii y):=by
 refine a0b mixed c5R (by kernel_rfl) rfl ?_
 refine a2H c1h rfl rfl rfl ?_
 simp only[cA,nA]
 refine a2H d6R rfl rfl rfl ?_
 simp only[cA,nA]
 refine a0L d4B rfl rfl hb rfl rfl ?_
 simp only[cA,nA]
 refine a0i el_int rfl rfl rfl rfl (fun _=>rfl) hwt hx rfl (fun _=>rfl) fun _=> ?_
 simp only[cA,nA]
 exact a0c rfl ⟨PH.le.refl _,rfl⟩
theorem c1m {f:FuncId} {caps:List Value} (hT:Tb H) (hs:set<M64) (hwl:c7W wl) (hsn:∀x,bit set x=true->x<wl.length) (hent:a4B prog f=true) (hf:∀H' x y,PH.le H H'->wl[x]? =some y->a3M prog f (ii (x:Nat)::caps) H' (ii y)):a3M prog 178 [uv set,.func (.func f) #[] caps.toArray] H (ii (c7V wl set)):=by
 refine a0b mixed d0G (by kernel_rfl) rfl ?_
 refine a0k (α:=Nat×Nat) (fun⟨k,s⟩=>[ii (((els set).take k).map fun x=>wl.getD x 0).sum,uv s]) (fun⟨k,s⟩=>fun H'=>PH.le H H'/\s<M64/\k<=(els set).length/\els s=(els set).drop k) (fun⟨k,s⟩=>(els set).length-k) ((0,set)) rfl (⟨PH.le.refl _,hs,Nat.zero_le _,rfl⟩) fun⟨k,s⟩ H' hQ=> ?_
 simp only[cA,nA]
 obtain⟨l1,hs',hk,he⟩:=hQ
 refine a0a ⟨_,rfl⟩ ?_
 refine a0e (b:=decide (s≠0)) (bN0 s) (fun h=> ?_) (fun h=> ?_)
 ·replace h:=of_decide_eq_true h
  obtain⟨x,r,hel⟩:∃x r,els s=x::r:=by
   cases hel:els s with
   |nil=>exact absurd (a8f hs' hel) h
   |cons x r=>exact⟨x,r,rfl⟩
  have htz:tz s=x:=by simp[tz,hel]
  have hk':k<(els set).length:=by
   apply Nat.lt_of_not_le;intro hh
   rw[List.drop_eq_nil_of_le hh,hel]at he;cases he
  obtain⟨y,hy,hdy⟩:=a0B hk'
  rw[<-he,hel]at hdy
  obtain⟨rfl,hr'⟩:=List.cons.inj hdy
  have hxl:=hsn x ((a1Y hs).1 (List.mem_of_getElem? hy))
  have hwx:wl[x]? =some wl[x]:=List.getElem?_eq_getElem hxl
  refine a0P (b5J (hT.mono l1) hs') rfl ?_
  simp only[cA,nA]
  rw[htz]
  refine a0l (a1O (f:=f) (caps:=caps.toArray) (vs:=[ii (x:Nat)]) rfl rfl rfl hent (hf _ x _ l1 hwx)) rfl ?_
  rintro _ H2 ⟨l2,rfl⟩
  refine⟨fun h=>(nomatch h),?_⟩
  simp only[cA,nA]
  have hbd:=c1f (((els set).take k).map fun x=>wl.getD x 0) (by
   intro z hz
   rw[List.mem_map]at hz
   obtain⟨a,ha,rfl⟩:=hz
   have ha':=hsn a ((a1Y hs).1 (List.mem_of_mem_take ha))
   rw[List.getD_eq_getElem?_getD,List.getElem?_eq_getElem ha']
   exact hwl _ (List.getElem_mem ha'))
  have h64:=a2d set
  have hlk:((((els set).take k).map fun x=>wl.getD x 0)).length<=64:=by
   rw[List.length_map,List.length_take];unfold card at h64;omega
  have hy2:=hwl _ (List.getElem_mem hxl)
  refine a0a ⟨_,rfl⟩ ?_
  refine a0a ⟨_,rfl⟩ ?_
  exact⟨(k+1,s&&&(s-1)),by show(els set).length-(k+1)<(els set).length-k;omega,(a1s (by rw[c0J rfl rfl (by omega) (by omega)];show ii _=ii (((els set).take (k+1)).map fun x=>wl.getD x 0).sum;rw[take_snoc hy,List.map_append,List.sum_append,List.map_cons,List.map_nil,List.sum_cons,List.sum_nil,Int.add_zero,List.getD_eq_getElem?_getD,hwx];rfl) (a4X rfl (b5M (B:=1) rfl rfl hs' (by omega)) hs' (Nat.lt_of_le_of_lt (Nat.sub_le _ _) hs'))),⟨l1.trans l2,b5H hs',hk',by rw[b5I hs' hel,hr']⟩⟩
 ·replace h:=of_decide_eq_false h
  have h0:s=0:=by omega
  rw[h0,b0U]at he
  have hk2:(els set).length<=k:=by
   apply Nat.le_of_not_lt;intro hh
   rw[List.drop_eq_getElem_cons hh]at he;cases he
  exact a0c rfl ⟨l1,by rw[List.take_of_length_le hk2];rfl⟩
structure Chn (H:PH) (n:Nat) (w wts:Value) (es:List (Nat×Nat)) (wl:List Int):Prop where
 tb:Tb H
 gr:SG H w es
 ok:GV n es
 wt:SI H wts wl
 len:wl.length=n
 wok:c7W wl
theorem Chn.mono {H':PH} (h:Chn H n w wts es wl) (hl:PH.le H H'):Chn H' n w wts es wl:=⟨h.tb.mono hl,h.gr.mono hl,h.ok,h.wt.mono hl,h.len,h.wok⟩
theorem a4a (hc:Chn H n w wts es wl) (hs:set<2^n):a3M prog 109 [chv wts lo hi ds n w,uv set] H (.bool (alB es wl lo hi set)):=by
 refine a0b mixed d0F (by kernel_rfl) rfl ?_
 have hs':=a1g hc.ok.n64 hs
 refine a0a (a6h (a0z hc.wt) (a0z hc.gr) _ _ _ _) ?_
 refine a1G (cs:= #[wts,ii lo,ii hi,ii ds,ii n,w]) rfl fun b hb=> ?_
 simp only[cA,nA]
 have l1:=PH.le_put hb (.cells #[wts,ii lo,ii hi,ii ds,ii n,w] 109 (0,0))
 have b1:=PH.put_self H b (.cells #[wts,ii lo,ii hi,ii ds,ii n,w] 109 (0,0))
 generalize H.put b (.cells #[wts,ii lo,ii hi,ii ds,ii n,w] 109 (0,0))=H1 at l1 b1
 have hc1:=hc.mono l1
 refine a3z (a1j (vs:=[.pointer (some ⟨b,0,none⟩)]) rfl rfl) rfl ?_
 simp only[cA,nA]
 refine a0n (c1m (caps:=[.pointer (some ⟨b,0,none⟩)]) (wl:=wl) hc1.tb hs' hc.wok (fun x hx=>by rw[hc.len];exact d0B hs hx) c1j (fun H' x y hl hx=>b8c (hl _ _ b1) (hc1.wt.mono hl) hx)) rfl fun H2 l2=> ?_
 simp only[cA,nA]
 have hc2:=hc1.mono l2
 have b2:=l2 _ _ b1
 refine a2H d4z rfl rfl rfl ?_
 simp only[cA,nA]
 refine a8i (vs:=[ii n,w]) d4C rfl rfl b2 rfl (by simp) rfl ?_
 simp only[cA,nA]
 refine a0n (c1d hc2.tb hc2.gr hc.ok hs') rfl fun H3 l3=> ?_
 simp only[cA,nA]
 have b3:=l3 _ _ b2
 rw[show d6m n es set= .tuple #[.bool (cnB es set),ii 0]from if_pos hs]
 refine a0a ⟨_,rfl,by simp⟩ ?_
 refine a0a ⟨_,rfl,by simp⟩ ?_
 refine a0a ⟨_,rfl⟩ ?_
 refine a0e (b:=cnB es set) rfl (fun h1=> ?_) (fun h1=> ?_)
 ·skip
  refine a2H c1h rfl rfl rfl ?_
  simp only[cA,nA]
  refine a2H d6S rfl rfl rfl ?_
  simp only[cA,nA]
  refine a0L sc_int rfl rfl b3 rfl rfl ?_
  simp only[cA,nA]
  refine a0a ⟨_,rfl⟩ ?_
  refine a0a ⟨_,rfl⟩ ?_
  refine a0e (b:=decide (c7V wl set≥lo)) rfl (fun h2=> ?_) (fun h2=> ?_)
  ·replace h2:=of_decide_eq_true h2
   refine a2H c1h rfl rfl rfl ?_
   simp only[cA,nA]
   refine a2H d6T rfl rfl rfl ?_
   simp only[cA,nA]
   refine a0L sc_int rfl rfl b3 rfl rfl ?_
   simp only[cA,nA]
   refine a0a ⟨_,rfl⟩ ?_
   exact a0c rfl ⟨(l1.trans l2).trans l3,by unfold alB;rw[h1,decide_eq_true h2];rfl⟩
  ·replace h2:=of_decide_eq_false h2
   exact a0c rfl ⟨(l1.trans l2).trans l3,by unfold alB;rw[h1,decide_eq_false h2];rfl⟩
 ·skip
  exact a0c rfl ⟨(l1.trans l2).trans l3,by unfold alB;rw[h1];rfl⟩
theorem b8d {b:Nat} {T:TypeId} (hc:Chn H n w wts es wl) (hb:H b=some (.cells #[wts,ii lo,ii hi,ii ds,ii n,w] T (0,0))) (hs:set<2^n):a3M prog 108 [uv set,.pointer (some ⟨b,0,none⟩)] H (.bool (!alB es wl lo hi set)):=by
 refine a0b mixed c5Q (by kernel_rfl) rfl ?_
 refine a8i (vs:=[wts,ii lo,ii hi,ii ds,ii n,w]) d4D rfl rfl hb rfl (by simp) rfl ?_
 simp only[cA,nA]
 refine a0n (a4a hc hs) rfl fun H1 l1=> ?_
 simp only[cA,nA]
 refine a0a ⟨_,rfl⟩ ?_
 exact a0c rfl ⟨l1,rfl⟩
theorem a8q (hc:Chn H n w wts es wl) (hu:SI H u p):a3M prog 61 [chv wts lo hi ds n w,u] H (.bool (a3L n es wl lo hi ds p)):=by
 refine a0b mixed d0E (by kernel_rfl) rfl ?_
 refine a0a (a6h (a0z hc.wt) (a0z hc.gr) _ _ _ _) ?_
 refine a1G (cs:= #[wts,ii lo,ii hi,ii ds,ii n,w]) rfl fun b hb=> ?_
 simp only[cA,nA]
 have l1:=PH.le_put hb (.cells #[wts,ii lo,ii hi,ii ds,ii n,w] 109 (0,0))
 have b1:=PH.put_self H b (.cells #[wts,ii lo,ii hi,ii ds,ii n,w] 109 (0,0))
 generalize H.put b (.cells #[wts,ii lo,ii hi,ii ds,ii n,w] 109 (0,0))=H1 at l1 b1
 have hc1:=hc.mono l1
 refine a2H d4z rfl rfl rfl ?_
 simp only[cA,nA]
 refine a8i (vs:=[ii n,w]) d4C rfl rfl b1 rfl (by simp) rfl ?_
 simp only[cA,nA]
 refine a2H c1h rfl rfl rfl ?_
 simp only[cA,nA]
 refine a2H d4A rfl rfl rfl ?_
 simp only[cA,nA]
 refine a0L sc_int rfl rfl b1 rfl rfl ?_
 simp only[cA,nA]
 refine a0n (c1e hc1.gr hc.ok (hu.mono l1) ds) rfl fun H2 l2=> ?_
 simp only[cA,nA]
 refine a0a ⟨_,rfl⟩ ?_
 refine a0e (b:=decide (plE n p ds≠0)) (bN _ _) (fun h=> ?_) (fun h=> ?_)
 ·replace h:=of_decide_eq_true h
  exact a0c rfl ⟨l1.trans l2,by unfold a3L;rw[decide_eq_false h];rfl⟩
 ·replace h:=of_decide_eq_false h
  have h0:plE n p ds=0:=Classical.byContradiction h
  have hp0:=c7U h0
  have hc2:=hc1.mono l2
  have b2:=l2 _ _ b1
  refine a2H c1h rfl rfl rfl ?_
  simp only[cA,nA]
  refine a2H d4A rfl rfl rfl ?_
  simp only[cA,nA]
  refine a0L sc_int rfl rfl b2 rfl rfl ?_
  simp only[cA,nA]
  obtain⟨k,rfl⟩:∃k:Nat,ds=(k:Int):=⟨ds.toNat,by omega⟩
  rw[Int.toNat_natCast]at hp0
  refine a0d (b1f (hu.mono (l1.trans l2)) k (by omega) (by omega) hp0.2.2.2.1 hp0.2.2.2.2) rfl ?_
  rintro _ H3 ⟨l3,z,rfl,hz⟩
  refine⟨fun h=>(nomatch h),?_⟩
  simp only[cA,nA]
  have hc3:=hc2.mono l3
  have b3:=l3 _ _ b2
  refine a0a ⟨_,rfl,by simp⟩ ?_
  refine a0a ⟨_,rfl,by simp⟩ ?_
  refine a3z (a1j (vs:=[.pointer (some ⟨b,0,none⟩)]) rfl rfl) rfl ?_
  simp only[cA,nA]
  refine a0n (c1c (caps:=[.pointer (some ⟨b,0,none⟩)]) (q:=fun s=> !alB es wl lo hi s) hz c1k (fun H' s hl hsm=>b8d (hc3.mono hl) (hl _ _ b3) (by have:=b1d hsm hp0.2.2.2.1.2.2;rw[hp0.2.2.1]at this;exact this))) rfl fun H4 l4=> ?_
  simp only[cA,nA]
  refine a0a ⟨_,rfl⟩ ?_
  exact a0c rfl ⟨((l1.trans l2).trans l3).trans l4,by unfold a3L;rw[decide_eq_true h0,Int.toNat_natCast,Bool.true_and];show Value.bool (!((masks p k).any fun s=> !alB es wl lo hi s))=_;rw[List.all_eq_not_any_not]⟩
theorem a8r (hT:Tb H) (hw:SG H w es) (hg:GV n es) (hwt:SI H wts wl) (hu:SI H u p):a3M prog 36 [gv n w,bv wts lo hi ds,u] H (.tuple #[.bool (decide (bdE n wl lo hi ds=0)&&a3L n es wl lo hi ds p),ii (bdE n wl lo hi ds)]):=by
 refine a0b mixed d0I (by kernel_rfl) rfl ?_
 refine a0a (a0T hw) ?_
 refine a0a (a2J (a0z hwt) _ _ _) ?_
 refine a0n (a5x hw hg hwt) rfl fun H1 l1=> ?_
 simp only[cA,nA]
 refine a0a ⟨_,rfl⟩ ?_
 refine a0e (b:=decide (bdE n wl lo hi ds≠0)) (bN _ _) (fun h=> ?_) (fun h=> ?_)
 ·replace h:=of_decide_eq_true h
  exact a0c rfl ⟨l1,by rw[decide_eq_false h];rfl⟩
 ·replace h:=of_decide_eq_false h
  have h0:bdE n wl lo hi ds=0:=Classical.byContradiction h
  have hb:=a9J h0
  refine a0n (a8q (lo:=lo) (hi:=hi) (ds:=ds) (p:=p) (u:=u) ⟨hT.mono l1,hw.mono l1,hg,hwt.mono l1,hb.1,hb.2.2.2.2.2⟩ (hu.mono l1)) rfl fun H2 l2=> ?_
  simp only[cA,nA]
  exact a0c rfl ⟨l1.trans l2,by rw[decide_eq_true h0,h0];rfl⟩
end
end Go.Proofs.YtmannekkmdockaaGreatDoor
/- Search by rounds over all edges. -/
namespace Go.GS
def rst (set s:Nat) (e:Nat×Nat):Nat:=if bit set e.1&&bit set e.2&&(bit s e.1||bit s e.2)then s|||2^e.1|||2^e.2 else s
def rnd (set:Nat) (L:List (Nat×Nat)) (s:Nat):Nat:=L.foldl (rst set) s
def a2U (set:Nat) (L:List (Nat×Nat)):Nat->Nat->Nat
 |0,s=>s
 |n+1,s=>rnd set L (a2U set L n s)
def Clo (set:Nat) (L:List (Nat×Nat)) (s:Nat):Prop:=∀e∈L,bit set e.1=true->bit set e.2=true->(bit s e.1=true\/bit s e.2=true)->bit s e.1=true/\bit s e.2=true
theorem a5y {set s:Nat} {e:Nat×Nat} {y:Nat} (h:bit s y=true):bit (rst set s e) y=true:=by
 unfold rst
 split
 ·rw[a0G,a0G,h];rfl
 ·exact h
theorem d4E {set s:Nat} {e:Nat×Nat} (h:s<M64) (h1:e.1<64) (h2:e.2<64):rst set s e<M64:=by
 unfold rst
 split
 ·exact a6d (a6d h (a0S h1)) (a0S h2)
 ·exact h
theorem a2K {set:Nat} {L:List (Nat×Nat)}:∀{s y:Nat},bit s y=true->bit (rnd set L s) y=true:=by
 induction L with
 |nil=>intro s y h;exact h
 |cons e L ih=>intro s y h;exact ih (a5y h)
theorem b2I {set:Nat} {L:List (Nat×Nat)} (hL:∀e∈L,e.1<64/\e.2<64):∀{s:Nat},s<M64->rnd set L s<M64:=by
 induction L with
 |nil=>intro s h;exact h
 |cons e L ih=>intro s h;exact ih (fun a ha=>hL a (List.mem_cons_of_mem _ ha)) (d4E h (hL e (by simp)).1 (hL e (by simp)).2)
theorem c5X {set s:Nat} {e:Nat×Nat} (h:rst set s e=s) (h1:bit set e.1=true) (h2:bit set e.2=true) (h3:bit s e.1=true\/bit s e.2=true):bit s e.1=true/\bit s e.2=true:=by
 unfold rst at h
 rw[if_pos (by rcases h3 with h3|h3<;>simp[h1,h2,h3])]at h
 rw[<-h]
 simp[a0G,a0v]
theorem b4p {set:Nat} {L:List (Nat×Nat)}:∀{s:Nat},rnd set L s=s->Clo set L s:=by
 induction L with
 |nil=>intro s _ e he;cases he
 |cons e L ih=>
  intro s h
  have h1:rst set s e=s:=by
   apply a0F
   intro y
   cases hy:bit s y with
   |true=>exact a5y hy
   |false=>
    cases hz:bit (rst set s e) y with
    |false=>rfl
    |true=>
     have:bit (rnd set (e::L) s) y=true:=a2K (L:=L) hz
     rw[h,hy]at this;cases this
  have h2:rnd set L s=s:=by
   have:rnd set (e::L) s=rnd set L (rst set s e):=rfl
   rw[this,h1]at h;exact h
  intro a ha
  rcases List.mem_cons.1 ha with rfl|ha
  ·exact c5X h1
  ·exact ih h2 a ha
theorem c1n {set:Nat} {L:List (Nat×Nat)} {s:Nat} (h:Clo set L s):rnd set L s=s:=by
 induction L with
 |nil=>rfl
 |cons e L ih=>
  have h1:rst set s e=s:=by
   unfold rst
   split
   ·rename_i hc
    simp only[Bool.and_eq_true,Bool.or_eq_true]at hc
    obtain⟨h2,h3⟩:=h e (by simp) hc.1.1 hc.1.2 hc.2
    apply a0F
    intro y
    rw[a0G,a0G,a0v,a0v]
    by_cases e1:e.1=y
    ·subst e1;simp[h2]
    ·by_cases e2:e.2=y
     ·subst e2;simp[h3]
     ·simp[e1,e2]
   ·rfl
  show rnd set L (rst set s e)=s
  rw[h1]
  exact ih fun a ha=>h a (List.mem_cons_of_mem _ ha)
def ins (L:List (Nat×Nat)) (s:Nat):Nat:=(L.filter fun e=>bit s e.1&&bit s e.2).length
theorem c7X {α:Type} {p q:α->Bool} (h:∀x,p x=true->q x=true) (l:List α):(l.filter p).length<=(l.filter q).length:=by
 induction l with
 |nil=>exact Nat.le_refl _
 |cons a l ih=>
  rw[List.filter_cons,List.filter_cons]
  split
  ·rename_i hp;rw[if_pos (h a hp)];simp;exact ih
  ·split
   ·simp;omega
   ·exact ih
theorem d4F {α:Type} {p q:α->Bool} (h:∀x,p x=true->q x=true) {x:α} (hq:q x=true) (hp:p x=false):∀l:List α,x∈l->(l.filter p).length<(l.filter q).length:=by
 intro l
 induction l with
 |nil=>intro h;cases h
 |cons a l ih=>
  intro hx
  rw[List.filter_cons,List.filter_cons]
  rcases List.mem_cons.1 hx with rfl|hx
  ·rw[if_neg (by simp[hp]),if_pos hq];have:=c7X h l;simp;omega
  ·have:=ih hx
   split
   ·rename_i hpa;rw[if_pos (h a hpa)];simp;exact this
   ·split
    ·simp;omega
    ·exact this
theorem d0R {L:List (Nat×Nat)} {s:Nat} (h:L.length<=ins L s):∀e∈L,bit s e.1=true/\bit s e.2=true:=by
 have:(L.filter fun e=>bit s e.1&&bit s e.2).length=L.length:=Nat.le_antisymm (List.length_filter_le _ _) h
 rw[List.length_filter_eq_length_iff]at this
 intro e he
 simpa using this e he
theorem d0S {set:Nat} {L0:List (Nat×Nat)}:∀{L:List (Nat×Nat)} {s:Nat},(∀e∈L,e∈L0)->rnd set L s=s\/ins L0 s<ins L0 (rnd set L s):=by
 intro L
 induction L with
 |nil=>intro s _;exact .inl rfl
 |cons e L ih=>
  intro s hL
  have hm:∀x:Nat×Nat,(bit s x.1&&bit s x.2)=true->(bit (rst set s e) x.1&&bit (rst set s e) x.2)=true:=by
   intro x hx
   rw[Bool.and_eq_true]at hx⊢
   exact⟨a5y hx.1,a5y hx.2⟩
  by_cases h1:rst set s e=s
  ·have:rnd set (e::L) s=rnd set L s:=by show rnd set L (rst set s e)=_;rw[h1]
   rw[this]
   exact ih fun a ha=>hL a (List.mem_cons_of_mem _ ha)
  ·right
   have h2:(bit s e.1&&bit s e.2)=false:=by
    cases hc:(bit s e.1&&bit s e.2)with
    |false=>rfl
    |true=>
     exfalso
     apply h1
     rw[Bool.and_eq_true]at hc
     apply a0F
     intro y
     cases hy:bit s y with
     |true=>exact a5y hy
     |false=>
      unfold rst
      split
      ·rw[a0G,a0G,a0v,a0v,hy]
       by_cases e1:e.1=y
       ·rw[<-e1,hc.1]at hy;cases hy
       ·by_cases e2:e.2=y
        ·rw[<-e2,hc.2]at hy;cases hy
        ·simp[e1,e2]
      ·exact hy
   have h3:(bit (rst set s e) e.1&&bit (rst set s e) e.2)=true:=by
    unfold rst
    split
    ·simp[a0G,a0v]
    ·rename_i hc
     exact absurd (by unfold rst;rw[if_neg hc]) h1
   have h4:ins L0 s<ins L0 (rst set s e):=d4F hm h3 h2 L0 (hL e (by simp))
   have h5:ins L0 (rst set s e)<=ins L0 (rnd set L (rst set s e)):=c7X (fun x hx=>by
    rw[Bool.and_eq_true]at hx⊢
    exact⟨a2K hx.1,a2K hx.2⟩) L0
   exact Nat.lt_of_lt_of_le h4 h5
theorem c5Y (set:Nat) (L:List (Nat×Nat)) (s:Nat):∀n,Clo set L (a2U set L n s)\/n<=ins L (a2U set L n s):=by
 intro n
 induction n with
 |zero=>exact .inr (Nat.zero_le _)
 |succ n ih=>
  rcases ih with h|h
  ·left;show Clo set L (rnd set L _);rw[c1n h];exact h
  ·rcases d0S (set:=set) (L0:=L) (L:=L) (s:=a2U set L n s) (fun _ h=>h)with h1|h1
   ·left;show Clo set L (rnd set L _);rw[h1];exact b4p h1
   ·right;show n+1<=ins L (rnd set L _);omega
theorem b1h (set:Nat) (L:List (Nat×Nat)) (s:Nat):Clo set L (a2U set L L.length s):=by
 rcases c5Y set L s L.length with h|h
 ·exact h
 ·exact fun e he _ _ _=>d0R h e he
theorem a1C {set:Nat} {L:List (Nat×Nat)} (hL:∀e∈L,e.1<64/\e.2<64) {s:Nat} (hs:s<M64):∀n,a2U set L n s<M64/\(Clo set L (a2U set L n s)\/n<=card (a2U set L n s)):=by
 intro n
 induction n with
 |zero=>exact⟨hs,.inr (Nat.zero_le _)⟩
 |succ n ih=>
  refine⟨b2I hL ih.1,?_⟩
  rcases ih.2 with h|h
  ·left;show Clo set L (rnd set L _);rw[c1n h];exact h
  ·by_cases h1:rnd set L (a2U set L n s)=a2U set L n s
   ·left;show Clo set L (rnd set L _);rw[h1];exact b4p h1
   ·right
    obtain⟨x,hx1,hx2⟩:=b2H (fun e=>h1 e.symm) (fun y hy=>a2K (set:=set) (L:=L) hy)
    have:=b1b (fun y hy=>a2K (set:=set) (L:=L) hy) hx1 hx2 (a1r (b2I hL ih.1) hx1)
    show n+1<=card (rnd set L _);omega
theorem c1o {set:Nat} {L:List (Nat×Nat)} {s y:Nat} (h:bit s y=true):∀n,bit (a2U set L n s) y=true:=by
 intro n
 induction n with
 |zero=>exact h
 |succ n ih=>exact a2K ih
theorem d0T {es:List (Nat×Nat)} {set s x:Nat} {e:Nat×Nat} (he:e∈es) (h:∀y,bit s y=true->Rch es set x y):∀y,bit (rst set s e) y=true->Rch es set x y:=by
 intro y hy
 unfold rst at hy
 split at hy
 ·rename_i hc
  simp only[Bool.and_eq_true,Bool.or_eq_true]at hc
  have a1:adj es e.1 e.2:=⟨e,he,.inl ⟨rfl,rfl⟩⟩
  have r1:Rch es set x e.1:=hc.2.elim (h _) fun h2=>(h _ h2).step a1.symm hc.1.1
  have r2:Rch es set x e.2:=hc.2.elim (fun h1=>(h _ h1).step a1 hc.1.2) (h _)
  rw[a0G,a0G,a0v,a0v,Bool.or_eq_true,Bool.or_eq_true]at hy
  rcases hy with(hy|hy)|hy
  ·exact h y hy
  ·have:=of_decide_eq_true hy;subst this;exact r1
  ·have:=of_decide_eq_true hy;subst this;exact r2
 ·exact h y hy
theorem d0U {es:List (Nat×Nat)} {set x:Nat}:∀{L:List (Nat×Nat)} {s:Nat},(∀e∈L,e∈es)->(∀y,bit s y=true->Rch es set x y)->∀y,bit (rnd set L s) y=true->Rch es set x y:=by
 intro L
 induction L with
 |nil=>intro s _ h;exact h
 |cons e L ih=>intro s hL h;exact ih (fun a ha=>hL a (List.mem_cons_of_mem _ ha)) (d0T (hL e (by simp)) h)
theorem b2J {es:List (Nat×Nat)} {set x n:Nat} (hx:bit set x=true) (h64:a2U set es n (2^x)<M64) (hc:Clo set es (a2U set es n (2^x))):CL es set x (a2U set es n (2^x)):=by
 refine⟨h64,fun y=>⟨?_,fun hy=> ?_⟩⟩
 ·have:∀m y,bit (a2U set es m (2^x)) y=true->Rch es set x y:=by
   intro m
   induction m with
   |zero=>intro y hy;have hy:bit (2^x) y=true:=hy;rw[a0v]at hy;have:=of_decide_eq_true hy;subst this;exact .base
   |succ m ih=>exact d0U (fun _ h=>h) ih
  exact this n y
 ·induction hy with
  |base=>exact c1o (by rw[a0v];simp) n
  | @step u v h1 ha hz ih=>
   have hu:=h1.mem hx
   obtain⟨e,he,⟨rfl,rfl⟩|⟨rfl,rfl⟩⟩:=ha
   ·exact(hc e he hu hz (.inl ih)).2
   ·exact(hc e he hz hu (.inr ih)).1
end Go.GS

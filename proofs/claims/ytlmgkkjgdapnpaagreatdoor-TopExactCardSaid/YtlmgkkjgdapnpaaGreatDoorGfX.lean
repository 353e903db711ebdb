/- Spreads: Below. -/
import Derived.Test.YtlmgkkjgdapnpaaGreatDoorGfU
import Derived.Test.YtlmgkkjgdapnpaaGreatDoorGfS
namespace Go.Proofs.YtlmgkkjgdapnpaaGreatDoor
open Go.Proofs.Tryz
open Go.RowKit Go.RX Go.GS Go.RZ Go.WD
set_option maxRecDepth 100000
section
variable {H B:PH} {u v w e:Value} {l:List Rat} {m:List MaT} {i:Nat} {r:Rat}
def c7c (l:List Rat) (r:Rat) (m:List MaT):Nat:=((m.filter fun q=>decide (q.1.1<r)).map fun q=>l.count q.1.1).sum
def c8v (l:List Rat) (r:Rat) (m:List MaT):Nat:=if m.any (fun q=>decide (q.1.1=r))then l.count r else 0
theorem c2i (x:MaT):c7c l r (m++[x])=c7c l r m+if x.1.1<r then l.count x.1.1 else 0:=by
 unfold c7c
 rw[List.filter_append,List.map_append,List.sum_append]
 by_cases h:x.1.1<r
 ·rw[if_pos h,List.filter_cons_of_pos (by simpa using h)];simp
 ·rw[if_neg h,List.filter_cons_of_neg (by simpa using h)];simp
theorem c2j (x:MaT):c8v l r (m++[x])=if x.1.1=r then l.count r else c8v l r m:=by
 unfold c8v
 rw[List.any_append]
 by_cases h:x.1.1=r
 ·rw[if_pos h,if_pos (by simp[h])]
 ·rw[if_neg h]
  simp[h]
theorem d2U (i:Nat):c7c l r (m.take i)<=cuM l m i:=by
 unfold c7c cuM
 generalize m.take i=k
 induction k with
 |nil=>exact Nat.le_refl _
 |cons a k ih=>
  rw[List.map_cons,List.sum_cons,List.filter_cons]
  split
  ·rw[List.map_cons,List.sum_cons];omega
  ·omega
theorem d2V:c8v l r m<=l.length:=by
 unfold c8v
 split
 ·exact List.count_le_length
 ·exact Nat.zero_le _
theorem b2t {r:Rat} {v:Value} (hx:Rp H v r) (hr:Rg r):a1g prog 44 [v] H (.tuple #[shR r,ii 0]):=(a4o hx).mono fun u H' h=>⟨h.1,h.2.trans (a5V hr)⟩
theorem b2u (hu:SE H 32 ceM v m) (hT:TalP l m) (h0:0<l.length) (hl:l.length<=400) (hr:Rg r):a1g prog 10 [v,shR r] H (.tuple #[shR (qN (c7c l r m) l.length),shR (qN (c8v l r m) l.length),ii 0]):=by
 refine a0b mixed d2z (by kernel_rfl) rfl ?_
 have hall:=hT.all
 have hml:=hT.len
 have hub:∀i,c7c l r (m.take i)<=l.length:=fun i=>by
  have h1:=d2U (l:=l) (m:=m) (r:=r) i
  have h2:=c8u (l:=l) (m:=m) i
  omega
 have z0:((0:Int):Rat)=qN 0 l.length:=by
  unfold qN
  rw[Rat.divInt_eq_div]
  show(0:Rat)=_
  grind
 obtain⟨_,a,c,rfl,_⟩:=id hu
 refine a0a (a0s _ _) ?_
 refine a3w c2b (a:=(a,m.length,c)) rfl rfl rfl fun v2 H1 l1 o1 _=> ?_
 simp only[cA,nA]
 refine a3w a5D (a:=r) rfl rfl rfl fun v3 H2 l2 o2 _=> ?_
 simp only[cA,nA]
 refine a0h (b2s (o1.se.mono l2) o2.se (by simp) (by simp) (fun H' s hl' hs=>by rw[List.mem_singleton.1 hs];exact b6I (hu.mono (l1.trans (l2.trans hl'))) hT h0 hl) (fun x hx=>by rw[List.mem_singleton.1 hx];exact hr)) rfl fun H3 l3=> ?_
 simp only[cA,nA]
 refine a0a ⟨_,rfl⟩ ?_
 refine a0e (bF (p:=(0:Int)≠0) (by simp)) ?_
 refine a0d (a6c 0 (by omega) (by omega)) rfl ?_
 rintro v5 H4 ⟨l4,q4⟩
 refine⟨fun h=>(nomatch h),?_⟩
 simp only[cA,nA]
 refine a0d (a6c 0 (by omega) (by omega)) rfl ?_
 rintro v6 H5 ⟨l5,q5⟩
 refine⟨fun h=>(nomatch h),?_⟩
 simp only[cA,nA]
 refine a0a q4.rq ?_
 refine a0a q5.rq ?_
 rw[z0]at q4 q5
 have l05:=l1.trans (l2.trans (l3.trans (l4.trans l5)))
 refine a0j el_mass rfl rfl (hu.mono l05) rfl ?_
 simp only[cA,nA]
 refine a0o (α:=Nat×Value×Value) (fun⟨i,x,y⟩=>[ii (i:Nat),x,y]) (fun⟨i,x,y⟩=>fun H'=>i<=m.length/\PH.le H H'/\Rp H' x (qN (c7c l r (m.take i)) l.length)/\Rp H' y (qN (c8v l r (m.take i)) l.length)) (fun⟨i,x,y⟩=>m.length-i) ((0,v5,v6)) rfl (⟨Nat.zero_le _,l05,q4.mono l5,q5⟩) fun⟨i,x,y⟩ H' hQ=> ?_
 simp only[cA,nA]
 obtain⟨hi,lX,qx,qy⟩:=hQ
 refine a0a ⟨_,rfl⟩ ?_
 refine a0a ⟨_,rfl⟩ ?_
 refine a0f (b:=decide (((i:Nat):Int)<(m.length:Nat))) rfl (fun h=> ?_) (fun h=> ?_)
 ·replace h:=of_decide_eq_true h
  have hi':i<m.length:=by omega
  obtain⟨z,hz,_⟩:=a0t hi'
  have hzm:=List.mem_of_getElem? hz
  have hcc:l.count z.1.1<=l.length:=List.count_le_length
  have hUs:=c2i (l:=l) (r:=r) (m:=m.take i) z
  have hSs:=c2j (l:=l) (r:=r) (m:=m.take i) z
  rw[<-take_snoc hz]at hUs hSs
  have hub1:=hub i
  refine a0m el_mass rfl rfl rfl rfl (fun _=>rfl) (hu.mono lX) hz rfl (fun _=>rfl) fun _=> ?_
  simp only[cA,nA]
  refine a0a (a1C z) ?_
  refine a0d (a8s z.2.1) (congrArg (fun z=>[z]) (b2q z)) ?_
  rintro v13 H6 ⟨l6,q6⟩
  refine⟨(fun _=>l6),?_⟩
  simp only[cA,nA]
  refine a0d (a8s hr) rfl ?_
  rintro v14 H7 ⟨l7,q7⟩
  refine⟨(fun _=>l7),?_⟩
  simp only[cA,nA]
  refine a0d (a6T (q6.mono l7) q7 z.2.1 hr) rfl ?_
  rintro _ H8 ⟨l8,rfl⟩
  refine⟨(fun _=>l8),?_⟩
  simp only[cA,nA]
  have l68:=l6.trans (l7.trans l8)
  refine a0a ⟨_,rfl⟩ ?_
  refine a0f (b:=decide (sgR z.1.1 r<0)) rfl (fun h1=> ?_) (fun h1=> ?_)
  ·replace h1:=of_decide_eq_true h1
   have hlt:=sgR_neg.1 h1
   rw[if_pos hlt]at hUs
   rw[if_neg (fun e=>by rw[e]at hlt;exact Rat.lt_irrefl hlt)]at hSs
   refine a0d (b5q z) rfl ?_
   rintro v16 H9 ⟨l9,q9⟩
   refine⟨(fun _=>l9),?_⟩
   simp only[cA,nA]
   rw[hT.p hzm]at q9
   refine a0d (a5S (qx.mono (l68.trans l9)) q9 (b3N h0 (by omega) (by omega)) (b3N h0 (by omega) (by omega)) (by decide)) (a0R (a1W qx) rfl) ?_
   rintro v17 H10 ⟨l10,q10⟩
   refine⟨(fun _=>l10),?_⟩
   simp only[cA,nA]
   rw[c1S h0,<-hUs]at q10
   refine a0a q10.rq ?_
   exact⟨(i+1,v17,y),by show m.length-(i+1)<m.length-i;omega,(b2K (a0J rfl (by omega)) rfl rfl),⟨hi',lX.trans (l68.trans (l9.trans l10)),q10,by rw[hSs];exact qy.mono (l68.trans (l9.trans l10))⟩⟩
  ·replace h1:=of_decide_eq_false h1
   have hnl:¬z.1.1<r:=fun e=>h1 (sgR_neg.2 e)
   rw[if_neg hnl,Nat.add_zero]at hUs
   refine a0f (b:=decide (sgR z.1.1 r=0)) rfl (fun h2=> ?_) (fun h2=> ?_)
   ·replace h2:=of_decide_eq_true h2
    have heq:z.1.1=r:=by unfold sgR at h2;rw[if_neg hnl]at h2;exact Classical.byContradiction fun e=>by rw[if_neg e]at h2;cases h2
    rw[if_pos heq]at hSs
    refine a0d (b5q z) rfl ?_
    rintro v16 H9 ⟨l9,q9⟩
    refine⟨fun h=>(nomatch h),?_⟩
    simp only[cA,nA]
    rw[hT.p hzm,heq,<-hSs]at q9
    refine a0a q9.rq ?_
    exact⟨(i+1,x,v16),by show m.length-(i+1)<m.length-i;omega,(b2K (a0J rfl (by omega)) rfl rfl),⟨hi',lX.trans (l68.trans l9),by rw[hUs];exact qx.mono (l68.trans l9),q9⟩⟩
   ·replace h2:=of_decide_eq_false h2
    have hne:¬z.1.1=r:=fun e=>h2 (by rw[e];exact b5r r)
    rw[if_neg hne]at hSs
    exact⟨(i+1,x,y),by show m.length-(i+1)<m.length-i;omega,(b2K (a0J rfl (by omega)) rfl rfl),⟨hi',lX.trans l68,by rw[hUs];exact qx.mono l68,by rw[hSs];exact qy.mono l68⟩⟩
 ·replace h:=of_decide_eq_false h
  rw[List.take_of_length_le (by omega)]at qx qy
  have hU2:=hub m.length
  rw[List.take_length]at hU2
  have hS2:=d2V (l:=l) (r:=r) (m:=m)
  refine a0h (b2t qx (c1T h0 (by omega) (by omega))) (a1R (a1W qx)) fun H6 l6=> ?_
  simp only[cA,nA]
  refine a0a ⟨_,rfl,by simp⟩ ?_
  refine a0a ⟨_,rfl,by simp⟩ ?_
  refine a0a (a0s _ _) ?_
  refine a0h (b2t (qy.mono l6) (c1T h0 (by omega) (by omega))) (a1R (a1W qy)) fun H7 l7=> ?_
  simp only[cA,nA]
  refine a0a ⟨_,rfl,by simp⟩ ?_
  refine a0a ⟨_,rfl,by simp⟩ ?_
  refine a0a (a0s _ _) ?_
  refine a0a ⟨_,rfl⟩ ?_
  refine a0e (bF (p:=(0:Int)≠0) (by simp)) ?_
  refine a0a ⟨_,rfl⟩ ?_
  refine a0e (bF (p:=(0:Int)≠0) (by simp)) ?_
  exact a0c rfl ⟨lX.trans (l6.trans l7),rfl⟩
end
end Go.Proofs.YtlmgkkjgdapnpaaGreatDoor
/- Ensembles: a study that is opened. -/
namespace Go.GS
def wlU (us:List Un) (n:Nat):List Int:=(us.take n).map (·.ppl)
def a3n (us:List Un) (n:Nat):Bool:=(us.take n).any fun x=>decide (0<x.ppl)
end Go.GS
namespace Go.Proofs.YtlmgkkjgdapnpaaGreatDoor
open Go.Proofs.Tryz
open Go.RowKit Go.RX Go.GS Go.RZ Go.WD
set_option maxRecDepth 100000
section
variable {H B:PH} {n k ms lv who:Nat} {es:List (Nat×Nat)} {us:List Un} {w rw wts:Value} {lo hi:Int} {b:Nat} {lived:Bool}
theorem bEk (a b:Nat):Value.bool (((a:Nat):Int)==((b:Nat):Int))= .bool (decide (a=b)):=by
 rw[bE];congr 1;apply decide_eq_decide.2;omega
theorem a3C:Asks prog 52 [ii 0] H (.tuple #[]):=by
 refine a0b mixed c1M (by kernel_rfl) rfl ?_
 refine a0a ⟨_,rfl⟩ ?_
 refine a0e (bF (p:=(0:Int)≠0) (by simp)) ?_
 exact a0c rfl ⟨rfl,rfl⟩
theorem a4t (e:Int):Asks prog 47 [.bool false,ii e] H (.tuple #[]):=by
 refine a0b mixed c1L (by kernel_rfl) rfl ?_
 refine a0a ⟨_,rfl⟩ ?_
 refine a0e rfl ?_
 exact a0c rfl ⟨rfl,rfl⟩
theorem b5t (a b:Nat):Asks prog 71 [shv a b,ii 0] H (shv a b):=by
 refine a0b mixed d2K (by kernel_rfl) rfl ?_
 refine a0a (a0s a b) ?_
 refine a0a ⟨_,rfl⟩ ?_
 refine a0e (bF (p:=(0:Int)≠0) (by simp)) ?_
 exact a0c rfl ⟨rfl,rfl⟩
theorem c7d (v:Value):Asks prog 68 [v,ii 0] H v:=by
 refine a0b mixed d2J (by kernel_rfl) rfl ?_
 refine a0a ⟨_,rfl⟩ ?_
 refine a0e (bF (p:=(0:Int)≠0) (by simp)) ?_
 exact a0c rfl ⟨rfl,rfl⟩
theorem c7e (v:Value):Asks prog 50 [v,ii 0] H v:=by
 refine a0b mixed d2H (by kernel_rfl) rfl ?_
 refine a0a ⟨_,rfl⟩ ?_
 refine a0e (bF (p:=(0:Int)≠0) (by simp)) ?_
 exact a0c rfl ⟨rfl,rfl⟩
theorem c7f (v:Value):Asks prog 48 [v,ii 0] H v:=by
 refine a0b mixed d2G (by kernel_rfl) rfl ?_
 refine a0a ⟨_,rfl⟩ ?_
 refine a0e (bF (p:=(0:Int)≠0) (by simp)) ?_
 exact a0c rfl ⟨rfl,rfl⟩
theorem a3o:a1q prog 117=true:=by kernel_rfl
theorem a3p {a b:Nat} (h:a<b):Asks prog 117 [ii (a:Nat),ii (b:Nat)] H (.tuple #[]):=by
 refine a0b mixed c6M (by kernel_rfl) rfl ?_
 refine a0a ⟨_,rfl⟩ ?_
 refine a0e (bF (p:=((a:Nat):Int)<0) (by omega)) ?_
 refine a0a ⟨_,rfl⟩ ?_
 refine a0q (a4t 2) (a0R (bF (p:=((a:Nat):Int)≥((b:Nat):Int)) (by omega)) rfl) ?_
 simp only[cA,nA]
 exact a0c rfl ⟨rfl,rfl⟩
def stC (n k ms lv who:Nat) (w rw:Value) (lo hi:Int):List Value:=[ii (n:Nat),w,ii 2,ii 3,ii 2,rw,ii (k:Nat),ii lo,ii hi,ii (ms:Nat),ii (lv:Nat),ii (who:Nat)]
def stV (n k ms lv who:Nat) (w rw:Value) (lo hi:Int):Value:= .agg (stC n k ms lv who w rw lo hi).toArray
def woC (n k ms lv who:Nat) (w rw:Value) (lo hi:Int) (wts:Value) (lived:Bool):Array Value:= #[ii (n:Nat),w,ii 2,ii 3,ii 2,rw,ii (k:Nat),ii lo,ii hi,ii (ms:Nat),ii (lv:Nat),ii (who:Nat),wts,ii lo,ii hi,ii (k:Nat),.bool lived]
theorem a3D (h1:a3G w=true) (h2:a3G rw=true):(stV n k ms lv who w rw lo hi).cells.size=12/\a0p (stV n k ms lv who w rw lo hi).cells:=⟨rfl,fun c hc=>by
 simp[stV,stC,Value.cells]at hc
 rcases hc with rfl|rfl|rfl|rfl|rfl|rfl|rfl|rfl|rfl|rfl|rfl|rfl
 ·rfl
 ·exact h1
 ·rfl
 ·rfl
 ·rfl
 ·exact h2
 ·rfl
 ·rfl
 ·rfl
 ·rfl
 ·rfl
 ·rfl⟩
theorem a1H:FA prog 134 0 0:=⟨by kernel_rfl,of_decide_eq_true (by kernel_rfl),by kernel_rfl,by kernel_rfl,of_decide_eq_true (by kernel_rfl)⟩
theorem a4D:FA prog 134 1 12:=⟨by kernel_rfl,of_decide_eq_true (by kernel_rfl),by kernel_rfl,by kernel_rfl,of_decide_eq_true (by kernel_rfl)⟩
theorem a6z:FA prog 134 2 16:=⟨by kernel_rfl,of_decide_eq_true (by kernel_rfl),by kernel_rfl,by kernel_rfl,of_decide_eq_true (by kernel_rfl)⟩
theorem c2k:FA prog 37 0 0:=⟨by kernel_rfl,of_decide_eq_true (by kernel_rfl),by kernel_rfl,by kernel_rfl,of_decide_eq_true (by kernel_rfl)⟩
theorem b2v:FA prog 37 1 2:=⟨by kernel_rfl,of_decide_eq_true (by kernel_rfl),by kernel_rfl,by kernel_rfl,of_decide_eq_true (by kernel_rfl)⟩
theorem d5F:FA prog 37 2 6:=⟨by kernel_rfl,of_decide_eq_true (by kernel_rfl),by kernel_rfl,by kernel_rfl,of_decide_eq_true (by kernel_rfl)⟩
theorem b2w:FA prog 37 5 9:=⟨by kernel_rfl,of_decide_eq_true (by kernel_rfl),by kernel_rfl,by kernel_rfl,of_decide_eq_true (by kernel_rfl)⟩
theorem c2l:FA prog 37 6 10:=⟨by kernel_rfl,of_decide_eq_true (by kernel_rfl),by kernel_rfl,by kernel_rfl,of_decide_eq_true (by kernel_rfl)⟩
theorem c2m:FA prog 37 7 11:=⟨by kernel_rfl,of_decide_eq_true (by kernel_rfl),by kernel_rfl,by kernel_rfl,of_decide_eq_true (by kernel_rfl)⟩
theorem c8w:FA prog 35 2 2:=⟨by kernel_rfl,of_decide_eq_true (by kernel_rfl),by kernel_rfl,by kernel_rfl,of_decide_eq_true (by kernel_rfl)⟩
theorem a9o:FA prog 50 0 0:=⟨by kernel_rfl,of_decide_eq_true (by kernel_rfl),by kernel_rfl,by kernel_rfl,of_decide_eq_true (by kernel_rfl)⟩
theorem b5u:Ag prog 50 4:=⟨by kernel_rfl,by kernel_rfl,by kernel_rfl⟩
theorem c7g (hb:H b=some (.cells (woC n k ms lv who w rw lo hi wts lived) 134 (0,0))) (h1:1<=ms) (h8:ms<=8) (hl:lv<2) (hw:who<2) (hz:ms=1->lived=true):Asks prog 67 [.pointer (some ⟨b,0,none⟩)] H (.tuple #[]):=by
 refine a0b mixed c1O (by kernel_rfl) rfl ?_
 refine a0u (ad:=⟨b,0,none⟩) rfl rfl rfl ?_
 simp only[cA,nA]
 refine a0i a1H rfl rfl rfl ?_
 simp only[cA,nA]
 refine a0i b2w rfl rfl rfl ?_
 simp only[cA,nA]
 refine a0g sc_int rfl rfl hb rfl rfl ?_
 simp only[cA,nA]
 refine a0n (a0D (f:=117) (caps:= #[]) (vs:=[ii (ms:Nat),ii ((9:Nat):Int)]) rfl rfl rfl a3o (a3p (b:=9) (by omega))) rfl ?_
 rintro _ _ ⟨rfl,rfl⟩
 refine⟨fun h=>(nomatch h),?_⟩
 simp only[cA,nA]
 refine a0u (ad:=⟨b,0,none⟩) rfl rfl rfl ?_
 simp only[cA,nA]
 refine a0i a1H rfl rfl rfl ?_
 simp only[cA,nA]
 refine a0i b2w rfl rfl rfl ?_
 simp only[cA,nA]
 refine a0g sc_int rfl rfl hb rfl rfl ?_
 simp only[cA,nA]
 refine a0a ⟨_,rfl⟩ ?_
 refine a0e (d7c (a:=((ms:Nat):Int)) (by omega)) ?_
 refine a0f (b:=decide (ms=1)) (bEk ms 1) (fun m1=> ?_) (fun m1=> ?_)
 ·replace m1:=of_decide_eq_true m1
  refine a0u (ad:=⟨b,0,none⟩) rfl rfl rfl ?_
  simp only[cA,nA]
  refine a0i a6z rfl rfl rfl ?_
  simp only[cA,nA]
  refine a0g a3J rfl rfl hb rfl rfl ?_
  simp only[cA,nA]
  have hlv:=hz m1
  subst hlv
  refine a0a ⟨_,rfl⟩ ?_
  refine a0q (a4t 7) rfl ?_
  simp only[cA,nA]
  exact a0c rfl ⟨rfl,rfl⟩
 ·replace m1:=of_decide_eq_false m1
  refine a0f (b:=decide (ms=5)) (bEk ms 5) (fun m5=> ?_) (fun m5=> ?_)
  ·replace m5:=of_decide_eq_true m5
   refine a0u (ad:=⟨b,0,none⟩) rfl rfl rfl ?_
   simp only[cA,nA]
   refine a0i a1H rfl rfl rfl ?_
   simp only[cA,nA]
   refine a0i c2l rfl rfl rfl ?_
   simp only[cA,nA]
   refine a0g sc_int rfl rfl hb rfl rfl ?_
   simp only[cA,nA]
   refine a0u (ad:=⟨b,0,none⟩) rfl rfl rfl ?_
   simp only[cA,nA]
   refine a0i a1H rfl rfl rfl ?_
   simp only[cA,nA]
   refine a0i b2v rfl rfl rfl ?_
   simp only[cA,nA]
   refine a0i c8w rfl rfl rfl ?_
   simp only[cA,nA]
   refine a0g sc_int rfl rfl hb rfl rfl ?_
   simp only[cA,nA]
   refine a0n (a0D (f:=117) (caps:= #[]) (vs:=[ii (lv:Nat),ii ((2:Nat):Int)]) rfl rfl rfl a3o (a3p (b:=2) (by omega))) rfl ?_
   rintro _ _ ⟨rfl,rfl⟩
   refine⟨(fun _=>PH.le.refl _),?_⟩
   simp only[cA,nA]
   exact a0c rfl ⟨rfl,rfl⟩
  ·replace m5:=of_decide_eq_false m5
   refine a0f (b:=decide (ms=6)) (bEk ms 6) (fun m6=> ?_) (fun m6=> ?_)
   ·replace m6:=of_decide_eq_true m6
    refine a0u (ad:=⟨b,0,none⟩) rfl rfl rfl ?_
    simp only[cA,nA]
    refine a0i a1H rfl rfl rfl ?_
    simp only[cA,nA]
    refine a0i c2l rfl rfl rfl ?_
    simp only[cA,nA]
    refine a0g sc_int rfl rfl hb rfl rfl ?_
    simp only[cA,nA]
    refine a0u (ad:=⟨b,0,none⟩) rfl rfl rfl ?_
    simp only[cA,nA]
    refine a0i a1H rfl rfl rfl ?_
    simp only[cA,nA]
    refine a0i b2v rfl rfl rfl ?_
    simp only[cA,nA]
    refine a0i c8w rfl rfl rfl ?_
    simp only[cA,nA]
    refine a0g sc_int rfl rfl hb rfl rfl ?_
    simp only[cA,nA]
    refine a0n (a0D (f:=117) (caps:= #[]) (vs:=[ii (lv:Nat),ii ((2:Nat):Int)]) rfl rfl rfl a3o (a3p (b:=2) (by omega))) rfl ?_
    rintro _ _ ⟨rfl,rfl⟩
    refine⟨(fun _=>PH.le.refl _),?_⟩
    simp only[cA,nA]
    exact a0c rfl ⟨rfl,rfl⟩
   ·replace m6:=of_decide_eq_false m6
    refine a0f (b:=decide (ms=7)) (bEk ms 7) (fun m7=> ?_) (fun m7=> ?_)
    ·replace m7:=of_decide_eq_true m7
     refine a0u (ad:=⟨b,0,none⟩) rfl rfl rfl ?_
     simp only[cA,nA]
     refine a0i a1H rfl rfl rfl ?_
     simp only[cA,nA]
     refine a0i c2m rfl rfl rfl ?_
     simp only[cA,nA]
     refine a0g sc_int rfl rfl hb rfl rfl ?_
     simp only[cA,nA]
     refine a0u (ad:=⟨b,0,none⟩) rfl rfl rfl ?_
     simp only[cA,nA]
     refine a0i a1H rfl rfl rfl ?_
     simp only[cA,nA]
     refine a0i b2v rfl rfl rfl ?_
     simp only[cA,nA]
     refine a0i c8p rfl rfl rfl ?_
     simp only[cA,nA]
     refine a0g sc_int rfl rfl hb rfl rfl ?_
     simp only[cA,nA]
     refine a0n (a0D (f:=117) (caps:= #[]) (vs:=[ii (who:Nat),ii ((2:Nat):Int)]) rfl rfl rfl a3o (a3p (b:=2) (by omega))) rfl ?_
     rintro _ _ ⟨rfl,rfl⟩
     refine⟨(fun _=>PH.le.refl _),?_⟩
     simp only[cA,nA]
     exact a0c rfl ⟨rfl,rfl⟩
    ·replace m7:=of_decide_eq_false m7
     refine a0f (b:=decide (ms=8)) (bEk ms 8) (fun m8=> ?_) (fun m8=> ?_)
     ·replace m8:=of_decide_eq_true m8
      refine a0u (ad:=⟨b,0,none⟩) rfl rfl rfl ?_
      simp only[cA,nA]
      refine a0i a1H rfl rfl rfl ?_
      simp only[cA,nA]
      refine a0i c2m rfl rfl rfl ?_
      simp only[cA,nA]
      refine a0g sc_int rfl rfl hb rfl rfl ?_
      simp only[cA,nA]
      refine a0u (ad:=⟨b,0,none⟩) rfl rfl rfl ?_
      simp only[cA,nA]
      refine a0i a1H rfl rfl rfl ?_
      simp only[cA,nA]
      refine a0i b2v rfl rfl rfl ?_
      simp only[cA,nA]
      refine a0i c1w rfl rfl rfl ?_
      simp only[cA,nA]
      refine a0g sc_int rfl rfl hb rfl rfl ?_
      simp only[cA,nA]
      refine a0n (a0D (f:=117) (caps:= #[]) (vs:=[ii (who:Nat),ii ((3:Nat):Int)]) rfl rfl rfl a3o (a3p (b:=3) (by omega))) rfl ?_
      rintro _ _ ⟨rfl,rfl⟩
      refine⟨(fun _=>PH.le.refl _),?_⟩
      simp only[cA,nA]
      exact a0c rfl ⟨rfl,rfl⟩
     ·replace m8:=of_decide_eq_false m8
      exact a0c rfl ⟨rfl,rfl⟩
end
end Go.Proofs.YtlmgkkjgdapnpaaGreatDoor
/- Ensembles: opened, value, all. -/
namespace Go.GS
theorem b0y {us:List Un} {i:Nat} {x:Un} (h:us[i]? =some x):wlU us (i+1)=wlU us i++[x.ppl]:=by
 unfold wlU;rw[List.take_add_one,h,List.map_append];rfl
theorem a4f {us:List Un} {i:Nat} {x:Un} (h:us[i]? =some x):a3n us (i+1)=(a3n us i||decide (0<x.ppl)):=by
 unfold a3n;rw[List.take_add_one,h,List.any_append];simp
end Go.GS
namespace Go.Proofs.YtlmgkkjgdapnpaaGreatDoor
open Go.Proofs.Tryz
open Go.RowKit Go.RX Go.GS Go.RZ Go.WD
set_option maxRecDepth 100000
structure StOk (n k ms lv who:Nat) (es:List (Nat×Nat)) (us:List Un) (lo hi:Int):Prop where
 n6:n<=6
 gv:GV n es
 rv:RoV n us
 hk:1<=k/\k<=8
 m1:1<=ms
 m8:ms<=8
 lv:lv<2
 who:who<2
 bd:d4U n (wlU us n) lo hi (k:Nat)
structure StM (H:PH) (w rw:Value) (es:List (Nat×Nat)) (us:List Un):Prop where
 tb:Tb H
 gr:SG H w es
 ro:RoR H rw us
structure Wo (H:PH) (b n k ms lv who:Nat) (w rw:Value) (es:List (Nat×Nat)) (us:List Un) (lo hi:Int) (wts:Value):Prop where
 bk:H b=some (.cells (woC n k ms lv who w rw lo hi wts (a3n us n)) 134 (0,0))
 mm:StM H w rw es us
 wt:SI H wts (wlU us n)
section
variable {H B:PH} {n k ms lv who:Nat} {es:List (Nat×Nat)} {us:List Un} {w rw wts:Value} {lo hi:Int} {b:Nat}
theorem StM.mono {H':PH} (h:StM H w rw es us) (hl:PH.le H H'):StM H' w rw es us:=⟨h.tb.mono hl,h.gr.mono hl,h.ro.mono hl⟩
theorem Wo.mono {H':PH} (h:Wo H b n k ms lv who w rw es us lo hi wts) (hl:PH.le H H'):Wo H' b n k ms lv who w rw es us lo hi wts:=⟨hl _ _ h.bk,h.mm.mono hl,h.wt.mono hl⟩
theorem c8x:(a0G prog 4).cells= #[.bool false]:=by kernel_rfl
theorem c2n:(a0G prog 3).cells= #[ii 0]:=by kernel_rfl
def d2W (a b c:SV):SV:= .cat (.z 38) 1 (.cat (.sub (.put (.cat a 1 (.cat (.z 3) 1 (.z 3))) 1 1 b 0 noI) 0 2 0 noI) 2 c)
theorem d2X {a b c:SV} {ρ:List Value} (ha:D prog ρ a=ii lo) (hb:D prog ρ b=ii hi) (hc:D prog ρ c=ii (k:Nat)):D prog ρ (d2W a b c)=bv (.slice none 0 0) lo hi (k:Nat):=by
 unfold d2W
 simp only[D,ha,hb,hc,c1z,c2n]
 rfl
theorem c2o {a b c:SV} {ρ:List Value} (ha:D prog ρ a=ii lo) (hb:D prog ρ b=ii hi) (hc:D prog ρ c=ii (k:Nat)):Rq.holds prog ρ (.cells 4 (d2W a b c)):=by
 show(D prog ρ (d2W a b c)).cells.size=4/\a0p (D prog ρ (d2W a b c)).cells
 rw[d2X ha hb hc];exact a9h (wts:= .slice none 0 0) rfl lo hi (k:Nat)
theorem c8y {x a b c:SV} {ρ:List Value} (hx:D prog ρ x=stV n k ms lv who w rw lo hi) (ha:D prog ρ a=ii lo) (hb:D prog ρ b=ii hi) (hc:D prog ρ c=ii (k:Nat)):(D prog ρ (.cat (.ag x) 12 (.cat (d2W a b c) 4 (.z 4)))).cells=woC n k ms lv who w rw lo hi (.slice none 0 0) false:=by
 show(Value.agg ((Value.agg (D prog ρ x).cells).cells++(Value.agg ((D prog ρ (d2W a b c)).cells++(a0G prog 4).cells)).cells)).cells=_
 rw[d2X ha hb hc,hx,c8x]
 rfl
set_option maxHeartbeats 400000 in
theorem b0z (hM:StM H w rw es us) (hS:StOk n k ms lv who es us lo hi) (hz:ms=1->a3n us n=true):Con prog 20 [stV n k ms lv who w rw lo hi] H fun r H'=>PH.le H H'/\∃b wts,r= .pointer (some ⟨b,0,none⟩)/\Wo H' b n k ms lv who w rw es us lo hi wts:=by
 refine a0b mixed c1N (by kernel_rfl) rfl ?_
 have hv:=hS.rv
 have hle:=hv.le
 have h64:=hv.l64
 have hn6:=hS.n6
 obtain⟨ul,hwu,hlen,hun⟩:=id hM.ro
 refine a0a (a3D (a0I hM.gr) hM.ro.one) ?_
 refine a0h (a2f hM.gr hS.gv) rfl fun H1 l1=> ?_
 simp only[cA,nA]
 refine a0q (a3C) rfl ?_
 simp only[cA,nA]
 refine a0h (a3k (hM.ro.mono l1) hv) rfl fun H2 l2=> ?_
 simp only[cA,nA]
 refine a0q (a3C) rfl ?_
 simp only[cA,nA]
 have l02:=l1.trans l2
 refine a0a (el_int.vcells _) ?_
 refine a0a (el_int.vcells _) ?_
 refine a0a (el_int.vcells _) ?_
 refine a0a (c2o (lo:=lo) (hi:=hi) (k:=k) rfl rfl rfl) ?_
 refine a0A (cs:=woC n k ms lv who w rw lo hi (.slice none 0 0) false) (c8y (ms:=ms) (lv:=lv) (who:=who) (w:=w) (rw:=rw) (n:=n) (lo:=lo) (hi:=hi) (k:=k) rfl rfl rfl rfl) fun b hb=> ?_
 simp only[cA,nA]
 have lb:=PH.le_put hb (.cells (woC n k ms lv who w rw lo hi (.slice none 0 0) false) 134 (0,0))
 have hbb:=PH.put_self H2 b (.cells (woC n k ms lv who w rw lo hi (.slice none 0 0) false) 134 (0,0))
 generalize H2.put b (.cells (woC n k ms lv who w rw lo hi (.slice none 0 0) false) 134 (0,0))=H3 at lb hbb⊢
 have hHb:H b=none:=by
  cases e:H b with
  |none=>rfl
  |some o=>rw[l02 _ _ e]at hb;cases hb
 have l03:=l02.trans lb
 refine a0j a0U rfl rfl (hwu.mono l03) rfl ?_
 simp only[cA,nA]
 refine a0o (α:=Nat×Value) (fun⟨i,out⟩=>[ii (i:Nat)]) (fun⟨i,out⟩=>fun H'=>i<=us.length/\PH.le H H'/\H' b=some (.cells (woC n k ms lv who w rw lo hi out (a3n us (min i n))) 134 (0,0))/\SO H H' 3 1 (fun z:Int=>[ii z]) out (wlU us (min i n))) (fun⟨i,out⟩=>us.length-i) ((0,.slice none 0 0)) rfl (⟨Nat.zero_le _,l03,by rw[Nat.zero_min];exact hbb,by rw[Nat.zero_min];exact SO.nil _ _ _ _ _⟩) fun⟨i,out⟩ H' hQ=> ?_
 simp only[cA,nA]
 obtain⟨hiI,lX,hbX,oX⟩:=hQ
 refine a0a ⟨_,rfl⟩ ?_
 refine a0a ⟨_,rfl⟩ ?_
 refine a0f (b:=decide (((i:Nat):Int)<(ul.length:Nat))) rfl (fun h=> ?_) (fun h=> ?_)
 ·replace h:=of_decide_eq_true h
  have hiu:i<ul.length:=by omega
  obtain⟨u,hu,_⟩:=a0t hiu
  obtain⟨x,hx,_⟩:=a0t (show i<us.length by omega)
  have hUR:=hun i u x hu hx
  have hwt:u.wat=decide (n<=i):=hUR.wat.trans (hv.wat i x hx)
  have hxp:=a8l hv x (List.mem_of_getElem? hx)
  have hup:=hUR.ppl
  refine a0m a0U rfl rfl rfl rfl (fun _=>rfl) (hwu.mono lX) hu rfl (fun _=>rfl) fun _=> ?_
  simp only[cA,nA]
  refine a0a (a1O u) ?_
  refine a0a ⟨_,rfl⟩ ?_
  refine a0f (b:= !u.wat) rfl (fun hb2=> ?_) (fun hb2=> ?_)
  ·skip
   have hni:¬n<=i:=fun hh=>by rw[hwt,decide_eq_true hh]at hb2;cases hb2
   rw[show min i n=i by omega]at hbX oX
   have hmin:min (i+1) n=i+1:=by omega
   refine a0u (ad:=⟨b,0,none⟩) rfl rfl rfl ?_
   simp only[cA,nA]
   refine a0i a4D rfl rfl rfl ?_
   simp only[cA,nA]
   refine a0i a9o rfl rfl rfl ?_
   simp only[cA,nA]
   refine a0g a1S rfl rfl hbX rfl rfl ?_
   simp only[cA,nA]
   obtain⟨XB,xb1,xb2,xb3,xb4⟩:=a2C oX lX
   refine a0P el_int rfl rfl rfl (fun _=>rfl) (fun _=>rfl) xb2 xb3 (by unfold wlU;rw[List.length_map,List.length_take];omega) (show _=[ii u.ppl]from rfl) (fun _=>rfl) rfl fun pv2 v15 H7 l7 o7=> ?_
   simp only[cA,nA]
   obtain⟨_,a2,c2,rfl,_⟩:=id o7.se
   have hb7:=l7 _ _ ((xb4 b (fun cs=>by rw[hbX];simp only[ne_eq,Option.some.injEq,Obj.cells.injEq,not_and];intro _ e;exact absurd e.symm (by decide))).trans hbX)
   refine a0u (ad:=⟨b,0,none⟩) rfl rfl rfl ?_
   simp only[cA,nA]
   refine a0i a4D rfl rfl rfl ?_
   simp only[cA,nA]
   refine a0i a9o rfl rfl rfl ?_
   simp only[cA,nA]
   refine a1f (u:= .slice a2 (wlU us i++[u.ppl]).length c2) a1S rfl rfl rfl hb7 (by show 0+12+0<17;decide) rfl rfl rfl (fun h=>(nomatch h)) ?_
   simp only[cA,nA]
   change den _ _ _ _ _ _ (H7.put b (.cells (woC n k ms lv who w rw lo hi (.slice a2 (wlU us i++[u.ppl]).length c2) (a3n us i)) 134 (0,0)))
   have hleP:∀{Y:PH} {ob:Obj},PH.le H Y->PH.le H (Y.put b ob):=fun hy b' ob' hbb'=>by rw[PH.put_ne _ _ (fun e=>by subst e;rw[hHb]at hbb';cases hbb')];exact hy _ _ hbb'
   have l8:=hleP (ob:= .cells (woC n k ms lv who w rw lo hi (.slice a2 (wlU us i++[u.ppl]).length c2) (a3n us i)) 134 (0,0)) (xb1.trans l7)
   have o8:=(a1s (o7.less xb1) hb7 (show 3≠134 by decide)).mono (PH.cut_put H7 b (.cells (woC n k ms lv who w rw lo hi (.slice a2 (wlU us i++[u.ppl]).length c2) (a3n us i)) 134 (0,0)))
   have hb8:=PH.put_self H7 b (.cells (woC n k ms lv who w rw lo hi (.slice a2 (wlU us i++[u.ppl]).length c2) (a3n us i)) 134 (0,0))
   generalize H7.put b (.cells (woC n k ms lv who w rw lo hi (.slice a2 (wlU us i++[u.ppl]).length c2) (a3n us i)) 134 (0,0))=H8 at l8 o8 hb8⊢
   have hwlE:wlU us i++[u.ppl]=wlU us (i+1):=by rw[b0y hx,hup]
   rw[hwlE]at hb8 o8
   refine a0u (ad:=⟨b,0,none⟩) rfl rfl rfl ?_
   simp only[cA,nA]
   refine a0i a6z rfl rfl rfl ?_
   simp only[cA,nA]
   refine a0g a3J rfl rfl hb8 rfl rfl ?_
   simp only[cA,nA]
   refine a0a ⟨_,rfl⟩ ?_
   refine a0f (b:=a3n us i) rfl (fun hliv=> ?_) (fun hliv=> ?_)
   ·skip
    refine a0u (ad:=⟨b,0,none⟩) rfl rfl rfl ?_
    simp only[cA,nA]
    refine a0i a6z rfl rfl rfl ?_
    simp only[cA,nA]
    refine a1f (u:= .bool true) a3J rfl rfl rfl hb8 (by show 0+16<17;decide) rfl rfl rfl (fun h=>(nomatch h)) ?_
    simp only[cA,nA]
    change den _ _ _ _ _ _ (H8.put b (.cells (woC n k ms lv who w rw lo hi (.slice a2 (wlU us (i+1)).length c2) true) 134 (0,0)))
    exact⟨(i+1,.slice a2 (wlU us (i+1)).length c2),by show us.length-(i+1)<us.length-i;omega,(a1R (a0J rfl (by omega))),⟨by show i+1<=us.length;omega,hleP l8,by rw[hmin,a4f hx,hliv];exact PH.put_self _ _ _,by rw[hmin];exact(a1s o8 hb8 (show 3≠134 by decide)).mono (PH.cut_put _ _ _)⟩⟩
   ·skip
    refine a0a ⟨_,rfl⟩ ?_
    refine a0u (ad:=⟨b,0,none⟩) rfl rfl rfl ?_
    simp only[cA,nA]
    refine a0i a6z rfl rfl rfl ?_
    simp only[cA,nA]
    refine a1f (u:= .bool (decide (u.ppl>0))) a3J rfl rfl rfl hb8 (by show 0+16<17;decide) rfl rfl rfl (fun h=>(nomatch h)) ?_
    simp only[cA,nA]
    change den _ _ _ _ _ _ (H8.put b (.cells (woC n k ms lv who w rw lo hi (.slice a2 (wlU us (i+1)).length c2) (decide (u.ppl>0))) 134 (0,0)))
    exact⟨(i+1,.slice a2 (wlU us (i+1)).length c2),by show us.length-(i+1)<us.length-i;omega,(a1R (a0J rfl (by omega))),⟨by show i+1<=us.length;omega,hleP l8,by rw[hmin,a4f hx,hliv,<-hup];exact PH.put_self _ _ _,by rw[hmin];exact(a1s o8 hb8 (show 3≠134 by decide)).mono (PH.cut_put _ _ _)⟩⟩
  ·skip
   have hni:n<=i:=by rw[hwt]at hb2;simpa using hb2
   have hmin:min (i+1) n=min i n:=by omega
   exact⟨(i+1,out),by show us.length-(i+1)<us.length-i;omega,(a1R (a0J rfl (by omega))),⟨by show i+1<=us.length;omega,lX,by rw[hmin];exact hbX,by rw[hmin];exact oX⟩⟩
 ·replace h:=of_decide_eq_false h
  rw[show min i n=n by omega]at hbX oX
  refine a0u (ad:=⟨b,0,none⟩) rfl rfl rfl ?_
  simp only[cA,nA]
  refine a0i a4D rfl rfl rfl ?_
  simp only[cA,nA]
  refine a0i a9o rfl rfl rfl ?_
  simp only[cA,nA]
  refine a0g a1S rfl rfl hbX rfl rfl ?_
  simp only[cA,nA]
  refine a0j el_int rfl rfl oX.se rfl ?_
  simp only[cA,nA]
  have hwl:(wlU us n).length=n:=hS.bd.len
  refine a0a ⟨_,rfl⟩ ?_
  refine a0a ⟨_,rfl⟩ ?_
  refine a0q (a4t 5) (a0R (d2g (a:=(((wlU us n).length:Nat):Int)) (b:=((n:Nat):Int)) (by omega)) rfl) ?_
  simp only[cA,nA]
  refine a0u (ad:=⟨b,0,none⟩) rfl rfl rfl ?_
  simp only[cA,nA]
  refine a0i a4D rfl rfl rfl ?_
  simp only[cA,nA]
  refine a0N (vs:=[out,ii lo,ii hi,ii (k:Nat)]) b5u rfl rfl hbX rfl (show 0+12+4<=17 by decide) rfl ?_
  simp only[cA,nA]
  refine a0h (a8e (hM.gr.mono lX) hS.gv (by omega) oX.se hS.bd) rfl fun H4 l4=> ?_
  simp only[cA,nA]
  refine a0q (a3C) rfl ?_
  simp only[cA,nA]
  refine a0q (c7g (l4 _ _ hbX) hS.m1 hS.m8 hS.lv hS.who hz) rfl ?_
  simp only[cA,nA]
  exact a0c rfl ⟨lX.trans l4,b,out,rfl,l4 _ _ hbX,hM.mono (lX.trans l4),oX.se.mono l4⟩
end
end Go.Proofs.YtlmgkkjgdapnpaaGreatDoor

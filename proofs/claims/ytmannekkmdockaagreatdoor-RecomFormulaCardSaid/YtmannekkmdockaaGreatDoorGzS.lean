/- Chapter 32: Go. -/
import Derived.Test.YtmannekkmdockaaGreatDoorGzF
import Derived.Test.YtmannekkmdockaaGreatDoorGtA
import Derived.Shelf.SlGeneric
import Derived.Ground.SlsfProg
import Derived.Shelf.SlSortCmp.Whole1
import Derived.Test.YtmannekkmdockaaGreatDoorProg
namespace Go.Proofs.YtmannekkmdockaaGreatDoor
open Go.Proofs.Tryz
open Go.RowKit Go.RX Go.GS Go.RZ
open Go.WD (BP a1L wd rs toI HM sgI Rb)
set_option maxRecDepth 100000
section
variable {H:PH} {u v w wts:Value} {p p1 p2 wl:List Int} {n:Nat} {es:List (Nat×Nat)} {lo hi ds:Int} {l:List Slc}
theorem c5x {f:FuncId} {caps:List Value} {q:Slc->Bool} (hu:SE H 1 (fun s:Slc=>[vs s]) u l) (hent:a5r prog f=true) (hf:∀H' x,PH.le H H'->x∈l->a3y prog f (vs x::caps) H' (.bool (q x))):Con prog 144 [u,.func (.func f) #[] caps.toArray] H fun r H'=>PH.le H H'/\∃z:Int,r=ii z/\decide (z≥0)=l.any q:=by
 refine a0b mixed c8i (by kernel_rfl) rfl ?_
 have hl:=hu.len
 refine a0g a1X rfl rfl hu rfl ?_
 refine a0k (α:=Nat×Int) (fun⟨i,p⟩=>[ii p,ii (i:Nat)]) (fun⟨i,p⟩=>fun H'=>i<=l.length/\PH.le H H'/\(l.take i).any q=false) (fun⟨i,p⟩=>l.length-i) ((0,0)) rfl (⟨Nat.zero_le _,PH.le.refl _,rfl⟩) fun⟨i,p⟩ H' hQ=> ?_
 simp only[cA,nA]
 obtain⟨hi,l1,hq⟩:=hQ
 refine a0a ⟨_,rfl⟩ ?_
 refine a0a ⟨_,rfl⟩ ?_
 refine a0e (b:=decide (((i:Nat):Int)<(l.length:Nat))) rfl (fun h=> ?_) (fun h=> ?_)
 ·replace h:=of_decide_eq_true h
  have hi':i<l.length:=by omega
  obtain⟨x,hx,hdx⟩:=a0u hi'
  refine a0i a1X rfl rfl rfl rfl (fun _=>rfl) (hu.mono l1) hx rfl (fun _=>rfl) fun _=> ?_
  simp only[cA,nA]
  refine a0l (a2R (f:=f) (caps:=caps.toArray) (vs:=[vs x]) rfl rfl rfl hent (hf _ x l1 (List.mem_of_getElem? hx))) rfl ?_
  rintro _ H2 ⟨l2,rfl⟩
  refine⟨fun h=>(nomatch h),?_⟩
  simp only[cA,nA]
  refine a0a ⟨_,rfl⟩ ?_
  refine a0e (b:=q x) rfl (fun hqx=> ?_) (fun hqx=> ?_)
  ·skip
   exact a0c rfl ⟨l1.trans l2,_,rfl,by rw[List.any_eq_true.2 ⟨x,List.mem_of_getElem? hx,hqx⟩];exact decide_eq_true (by omega)⟩
  ·skip
   exact⟨(i+1,p),by show l.length-(i+1)<l.length-i;omega,(a1l rfl (a0r rfl (by omega))),⟨hi',l1.trans l2,by rw[take_snoc hx,List.any_append,hq];simp[hqx]⟩⟩
 ·replace h:=of_decide_eq_false h
  rw[List.take_of_length_le (by omega)]at hq
  exact a0c rfl ⟨l1,_,rfl,by rw[hq];rfl⟩
theorem c1N {f:FuncId} {caps:List Value} {q:Slc->Bool} (hu:SE H 1 (fun s:Slc=>[vs s]) u l) (hent:a5r prog f=true) (hf:∀H' x,PH.le H H'->x∈l->a3y prog f (vs x::caps) H' (.bool (q x))):a3y prog 87 [u,.func (.func f) #[] caps.toArray] H (.bool (l.any q)):=by
 refine a0b mixed c8f (by kernel_rfl) rfl ?_
 refine a0d (c5x hu hent hf) rfl ?_
 rintro _ H1 ⟨l1,z,rfl,hz⟩
 refine⟨fun h=>(nomatch h),?_⟩
 simp only[cA,nA]
 refine a0a ⟨_,rfl⟩ ?_
 exact a0c rfl ⟨l1,hz ▸ rfl⟩
theorem c5y:a5r prog 61=true:=by kernel_rfl
theorem c1O:a5r prog 88=true:=by kernel_rfl
theorem c6R:Sc prog 138:=⟨by kernel_rfl,by kernel_rfl,by kernel_rfl⟩
def d4J (c:Value):Value:= .func (.func 61) #[c] #[]
theorem b7u {b:Nat} {T:TypeId} (hc:Chn H n w wts es wl) (hb:H b=some (.cells #[d4J (chv wts lo hi ds n w)] T (0,0))) (hu:SI H u p):a3y prog 88 [u,.pointer (some ⟨b,0,none⟩)] H (.bool (!a4B n es wl lo hi ds p)):=by
 refine a0b mixed c4j (by kernel_rfl) rfl ?_
 refine a0H c6R rfl rfl hb rfl rfl ?_
 simp only[cA,nA]
 refine a0l (Go.RZ.opn_callw (P:=prog) (ws:=[u]) (bs:= #[chv wts lo hi ds n w]) (caps:= #[]) (vs:=[d4J (chv wts lo hi ds n w),u]) rfl rfl rfl c5y (a7E (lo:=lo) (hi:=hi) (ds:=ds) hc hu)) rfl ?_
 rintro _ H2 ⟨l2,rfl⟩
 refine⟨fun h=>(nomatch h),?_⟩
 simp only[cA,nA]
 refine a0a ⟨_,rfl⟩ ?_
 exact a0c rfl ⟨l2,rfl⟩
noncomputable def smE (n:Nat) (es:List (Nat×Nat)) (wl:List Int) (lo hi ds:Int) (l:List (List Int)):Int:=if bdE n wl lo hi ds≠0 then bdE n wl lo hi ds else if 12<n then 3 else if l.any (fun p=> !a4B n es wl lo hi ds p)then 8 else 0
theorem b2w {cont:Slc->List Int} (hT:Tb H) (hw:SG H w es) (hg:GV n es) (hwt:SI H wts wl) (hu:SE H 1 (fun s:Slc=>[vs s]) v l) (hp:∀s∈l,SI H (vs s) (cont s)):a3y prog 46 [gv n w,bv wts lo hi ds,v] H (ii (smE n es wl lo hi ds (l.map cont))):=by
 refine a0b mixed c8X (by kernel_rfl) rfl ?_
 unfold smE
 refine a0a (a0S hw) ?_
 refine a0a (a2y (a0A hwt) _ _ _) ?_
 refine a0q (a5b hw hg hwt) rfl fun H1 l1=> ?_
 simp only[cA,nA]
 refine a0a ⟨_,rfl⟩ ?_
 refine a0e (b:=decide (bdE n wl lo hi ds≠0)) (bN _ _) (fun h0=> ?_) (fun h0=> ?_)
 ·replace h0:=of_decide_eq_true h0
  exact a0c rfl ⟨l1,by rw[if_pos h0];rfl⟩
 ·replace h0:=of_decide_eq_false h0
  have h0:=Classical.byContradiction h0
  rw[if_neg (fun h=>h h0)]
  refine a0a ⟨_,rfl⟩ ?_
  refine a0e (b:=decide (((n:Nat):Int)>12)) rfl (fun h1=> ?_) (fun h1=> ?_)
  ·replace h1:=of_decide_eq_true h1
   exact a0c rfl ⟨l1,by rw[if_pos (by omega)];rfl⟩
  ·replace h1:=of_decide_eq_false h1
   rw[if_neg (by omega)]
   have hb:=a8P h0
   refine a3j (b1V rfl) rfl ?_
   simp only[cA,nA]
   refine a1C (cs:= #[.nilFunc]) (by kernel_rfl) fun b hbb=> ?_
   simp only[cA,nA]
   refine a9Z (u:=d4J (chv wts lo hi ds n w)) c6R rfl rfl rfl (PH.put_self _ _ _) (by simp) rfl rfl rfl (fun h=>(nomatch h)) ?_
   simp only[cA,nA]
   rw[PH.put_put]
   have hb2:=PH.put_self H1 b (.cells #[d4J (chv wts lo hi ds n w)] 138 (0,0))
   refine a3j (a1i (vs:=[.pointer (some ⟨b,0,none⟩)]) rfl rfl) rfl ?_
   simp only[cA,nA]
   refine a0q (c1N (caps:=[.pointer (some ⟨b,0,none⟩)]) (q:=fun s=> !a4B n es wl lo hi ds (cont s)) ((hu.mono l1).mono (PH.le_put hbb _)) c1O (fun H' x hle hx=>b7u ((Chn.mono ⟨hT,hw,hg,hwt,hb.1,hb.2.2.2.2.2⟩ l1).mono ((PH.le_put hbb _).trans hle)) (hle _ _ hb2) ((hp x hx).mono (l1.trans ((PH.le_put hbb _).trans hle))))) rfl fun H3 l3=> ?_
   simp only[cA,nA]
   have hany:(l.map cont).any (fun p=> !a4B n es wl lo hi ds p)=l.any (fun s=> !a4B n es wl lo hi ds (cont s)):=by rw[List.any_map];rfl
   rw[hany]
   refine a0a ⟨_,rfl⟩ ?_
   refine a0e (b:=(l.any fun s=> !a4B n es wl lo hi ds (cont s))) rfl (fun hq=> ?_) (fun hq=> ?_)
   ·skip
    exact a0c rfl ⟨l1.trans ((PH.le_put hbb _).trans l3),by rw[if_pos hq];rfl⟩
   ·skip
    exact a0c rfl ⟨l1.trans ((PH.le_put hbb _).trans l3),by rw[if_neg (by rw[hq];simp)];rfl⟩
theorem c6S {q:List Int} (h1:SI H u p) (h2:SI H u q):p=q:=by
 obtain⟨a1,a,c,e1,b1,c1,d1⟩:=h1
 obtain⟨a2,a',c',e2,b2,c2,d2⟩:=h2
 rw[e1]at e2
 injection e2 with e3 e4 e5
 have hm:∀l:List Int,(l.flatMap fun z:Int=>[ii z])=l.map ii:=fun l=>by
  induction l with
  |nil=>rfl
  |cons a l ih=>rw[List.flatMap_cons,ih];rfl
 rcases d1 with d1|⟨b,o,cs,T,fz,f1,f2,f3⟩
 ·rw[List.eq_nil_of_length_eq_zero d1,List.eq_nil_of_length_eq_zero (l:=q) (by omega)]
 ·rcases d2 with d2|⟨b',o',cs',T',fz',g1,g2,g3⟩
  ·rw[List.eq_nil_of_length_eq_zero d2,List.eq_nil_of_length_eq_zero (l:=p) (by omega)]
  ·rw[<-e3,f1]at g1
   injection g1 with g1
   injection g1 with g4 g5
   subst g4 g5
   rw[f2]at g2
   injection g2 with g2
   injection g2 with g2
   subst g2
   rw[e4]at f3
   have h:=f3.symm.trans g3
   rw[hm,hm]at h
   exact(List.map_inj_right (f:=ii) fun x y h=>by injection h).1 h
theorem c1P {k:Nat} (h:a3G p k):k<=p.length:=by
 have:=a6D (l:=(List.range k).map fun d:Nat=>(d:Int)) (m:=p) (by
  rw[List.nodup_iff_pairwise_ne,List.pairwise_map]
  exact List.nodup_range.imp fun h e=>h (by omega)) fun x hx=>by
  obtain⟨d,hd,rfl⟩:=List.mem_map.1 hx
  exact mask_mem2.1 (h d (List.mem_range.1 hd))
 simpa using this
theorem c6T:∀w,(zeroValue 118).run prog w= .ok (.agg #[.bool false,.slice none 0 0,.bool false,.slice none 0 0]) w:=fun w=>by
 rfl
theorem c1Q {l:List (List Int)} (h:smE n es wl lo hi ds l=0):bdE n wl lo hi ds=0/\n<=12/\∀p∈l,a4B n es wl lo hi ds p=true:=by
 unfold smE at h
 split at h
 ·rename_i h1;exact absurd h h1
 ·rename_i h1
  split at h
  ·cases h
  ·rename_i h2
   split at h
   ·cases h
   ·rename_i h3
    refine⟨Classical.byContradiction h1,by omega,fun p hp=> ?_⟩
    cases hf:a4B n es wl lo hi ds p with
    |true=>rfl
    |false=>exact absurd (List.any_eq_true.2 ⟨p,hp,by rw[hf];rfl⟩) h3
theorem b6i (h:a4B n es wl lo hi ds p=true):∃k:Nat,ds=(k:Int)/\1<=k/\k<=8/\p.length=n/\LabOk p (k:Nat)/\a3G p k/\k<=n:=by
 unfold a4B at h
 rw[Bool.and_eq_true,decide_eq_true_eq]at h
 obtain⟨h1,h2,h3,h4,h5⟩:=c6s h.1
 obtain⟨k,rfl⟩:∃k:Nat,ds=(k:Int):=⟨ds.toNat,by omega⟩
 rw[Int.toNat_natCast]at h5
 exact⟨k,rfl,by omega,by omega,h3,h4,h5,h3 ▸ c1P h5⟩
theorem d4c {L:List (List Int×Rat)} {k:List Int} (h:k∉L.map (·.1)):vO L k=0:=by
 have:L.find? (fun x=>decide (x.1=k))=none:=List.find?_eq_none.2 fun x hx hk=>h (List.mem_map.2 ⟨x,hx,by simpa using hk⟩)
 unfold vO
 rw[this];rfl
noncomputable def goQ (es:List (Nat×Nat)) (wl:List Int) (lo hi:Int) (n k:Nat) (p q:List Int):Rat:=vO (a3v es wl lo hi n k (a0m p)) (a0v (a0m q))
noncomputable def goR (n:Nat) (es:List (Nat×Nat)) (wl:List Int) (lo hi ds:Int) (p q:List Int):Value:=if smE n es wl lo hi ds [p,q]≠0 then .tuple #[shv 0 0,ii (smE n es wl lo hi ds [p,q])]else a4g (goQ es wl lo hi n ds.toNat p q)
theorem c1R (r:Rat):∃(n d:Nat) (e:Int),a4g r= .tuple #[shv n d,ii e]:=by
 unfold a4g
 split
 ·exact⟨_,_,0,rfl⟩
 ·exact⟨_,_,6,rfl⟩
theorem a8f {k:Nat}:((a3v es wl lo hi n k p).map (·.1)).Nodup:=by
 unfold a3v
 split
 ·exact c1A b3Q _ _
 ·exact b3Q
theorem c1S {V:List (List Int×Value)} {L:List (List Int×Rat)} {κ:List Int} (hnd:(L.map (·.1)).Nodup) (hke:V.map (·.1)=L.map (·.1)) (hrp:∀k v q,(k,v)∈V->(k,q)∈L->Rp H v q):
  ∃b x,((b=false/\x= .agg #[.bool false,.slice none 0 0,.bool false,.slice none 0 0]/\κ∉V.map (·.1))\/(b=true/\(κ,x)∈V))/\(x.cells.size=4/\a0t x.cells)/\(b=true->Rp H x (vO L κ))/\(b=false->vO L κ=0):=by
 by_cases h:κ∈V.map (·.1)
 ·obtain⟨⟨k,x⟩,hx,rfl⟩:=List.mem_map.1 h
  have h':=h
  rw[hke]at h'
  obtain⟨⟨k',q⟩,hq,e⟩:=List.mem_map.1 h'
  simp only at e
  subst e
  have hr:=hrp _ _ _ hx hq
  exact⟨true,x,.inr ⟨rfl,hx⟩,hr.rq,fun _=>by rw[a6k hnd hq];exact hr,fun h=>by cases h⟩
 ·refine⟨false,_,.inl ⟨rfl,rfl,h⟩,⟨rfl,fun c hc=> ?_⟩,fun h=>(by cases h),fun _=>d4c (by rw[<-hke];exact h)⟩
  simp[Value.cells]at hc
  rcases hc with rfl|rfl|rfl|rfl<;>rfl
theorem c1T {q:List Int} (hT:Tb H) (hw:SG H w es) (hg:GV n es) (hwt:SI H wts wl) (hu:SI H u p) (hv:SI H v q):Con prog 16 [gv n w,bv wts lo hi ds,u,v] H fun r H'=>PH.le H H'/\r=goR n es wl lo hi ds p q:=by
 refine a0b mixed d2J (by kernel_rfl) rfl ?_
 obtain⟨s1,rfl⟩:=a3L hu
 obtain⟨s2,rfl⟩:=a3L hv
 have hcp:∀s∈[s1,s2],SI H (vs s) (if s=s1 then p else q):=fun s hs=>by
  split
  ·rename_i h;subst h;exact hu
  ·rename_i h
   rcases List.mem_cons.1 hs with h1|h1
   ·exact absurd h1 h
   ·rw[List.mem_singleton.1 h1];exact hv
 have hcm:[s1,s2].map (fun s=>if s=s1 then p else q)=[p,q]:=by
  show[if s1=s1 then p else q,if s2=s1 then p else q]=_
  rw[if_pos rfl]
  split
  ·rename_i h;subst h;rw[c6S hu hv]
  ·rfl
 unfold goR
 refine a0a (a0S hw) ?_
 refine a0a (a2y (a0A hwt) _ _ _) ?_
 refine a0W a1X (N:=2) (l:=[s1,s2]) (vs:=[vs s1,vs s2]) rfl (by decide) (by decide) rfl rfl rfl fun v4 H1 l1 o1 _=> ?_
 simp only[cA,nA]
 refine a0q (b2w (cont:=fun s=>if s=s1 then p else q) (hT.mono l1) (hw.mono l1) hg (hwt.mono l1) o1.se (fun s hs=>(hcp s hs).mono l1)) rfl fun H2 l2=> ?_
 simp only[cA,nA]
 rw[hcm]
 refine a0a ⟨_,rfl⟩ ?_
 refine a0e (b:=decide (smE n es wl lo hi ds [p,q]≠0)) (bN _ _) (fun h0=> ?_) (fun h0=> ?_)
 ·replace h0:=of_decide_eq_true h0
  exact a0c (congrArg (fun z=>Value.tuple #[z,ii (smE n es wl lo hi ds [p,q])]) b0C) ⟨l1.trans l2,by rw[if_pos h0]⟩
 ·replace h0:=of_decide_eq_false h0
  have h0:=Classical.byContradiction h0
  rw[if_neg (fun h=>h h0)]
  obtain⟨hb0,hn12,hft⟩:=c1Q h0
  have hb:=a8P hb0
  obtain⟨k,rfl,hk1,hk8,hpl,hL,hU,hkn⟩:=b6i (hft p (.head _))
  obtain⟨k',hk',-,-,hql,hL',hU',-⟩:=b6i (hft q (.tail _ (.head _)))
  obtain rfl:k=k':=by omega
  refine a0d (a5l (hu.mono (l1.trans l2)) ⟨fun x hx=>by have:=hL.1 x hx;omega,hL.2⟩) rfl ?_
  rintro _ H3 ⟨l3,z,rfl,hz⟩
  refine⟨fun h=>(nomatch h),?_⟩
  simp only[cA,nA]
  refine a0a ⟨_,rfl,by simp⟩ ?_
  refine a0a ⟨_,rfl,by simp⟩ ?_
  refine a0d (a5l (hv.mono ((l1.trans l2).trans l3)) ⟨fun x hx=>by have:=hL'.1 x hx;omega,hL'.2⟩) rfl ?_
  rintro _ H4 ⟨l4,z2,rfl,hz2⟩
  refine⟨fun h=>(nomatch h),?_⟩
  simp only[cA,nA]
  have l04:=((l1.trans l2).trans l3).trans l4
  refine a0a ⟨_,rfl,by simp⟩ ?_
  refine a0a ⟨_,rfl,by simp⟩ ?_
  refine a0d (b2q (p:=a0m p) (k:=k) (lo:=lo) (hi:=hi) ⟨hT.mono l04,hw.mono l04,hg,hwt.mono l04,hb.1,hb.2.2.2.2.2⟩ (hz.se.mono l4) hn12 hkn (by rw[a0T];exact hpl) hk1 hk8 (a3c hL hU) (a2l hL hU)) rfl ?_
  rintro v8 H5 ⟨l5,m5⟩
  refine⟨fun h=>(nomatch h),?_⟩
  simp only[cA,nA]
  refine a0d (a4f (hz2.se.mono l5) (by rw[a0T];omega)) rfl ?_
  rintro _ H6 ⟨l6,rfl⟩
  refine⟨fun h=>(nomatch h),?_⟩
  simp only[cA,nA]
  have hqz:∀z∈a0m q,0<=z/\z<9223372036854775808:=fun z hz=>by have:=(a3c hL' hU').1 z hz;omega
  obtain⟨V,hmo,hke,hrp⟩:=m5.mono l6
  obtain⟨b,x,hub,hx1,hx2,hx3⟩:∃b x,((b=false/\x= .agg #[.bool false,.slice none 0 0,.bool false,.slice none 0 0]/\a0v (a0m q)∉V.map (·.1))\/(b=true/\(a0v (a0m q),x)∈V))/\(x.cells.size=4/\a0t x.cells)/\(b=true->Rp H6 x (goQ es wl lo hi n k p q))/\(b=false->goQ es wl lo hi n k p q=0):=c1S (L:=a3v es wl lo hi n k (a0m p)) a8f hke hrp
  refine a0h (b5R b2m (vs:=[v8,kV (a0v (a0m q))]) (ok2:=true) (k:=a0v (a0m q)) (u:=x) (b:=b) rfl rfl rfl a5O (b2n (by rw[a0T];omega) hqz) c6T hmo.mk hub) rfl ?_
  simp only[cA,nA]
  refine a0a ⟨_,rfl,by simp⟩ ?_
  refine a0a ⟨_,rfl,by simp⟩ ?_
  refine a0a hx1 ?_
  refine a0a ⟨_,rfl⟩ ?_
  refine a0e (b:=b) rfl (fun hbb=> ?_) (fun hbb=> ?_)
  ·skip
   refine a0d (a4e (hx2 hbb)) (a3k (a9f (hx2 hbb))) ?_
   rintro u7 H7 ⟨l7,hu7⟩
   refine⟨fun h=>(nomatch h),?_⟩
   simp only[cA,nA]
   obtain⟨a7,d7,e7,ht7⟩:=c1R (goQ es wl lo hi n k p q)
   rw[ht7]at hu7
   subst hu7
   refine a0a ⟨_,rfl,by simp⟩ ?_
   refine a0a ⟨_,rfl,by simp⟩ ?_
   refine a0a (a1O a7 d7) ?_
   exact a0c rfl ⟨(l04.trans (l5.trans l6)).trans l7,by rw[Int.toNat_natCast,ht7];rfl⟩
  ·skip
   refine a0d (a5N 0 (by omega) (by omega)) rfl ?_
   rintro v9 H7 ⟨l7,q7⟩
   refine⟨fun h=>(nomatch h),?_⟩
   simp only[cA,nA]
   refine a0d (a4e q7) rfl ?_
   rintro u8 H8 ⟨l8,hu8⟩
   refine⟨fun h=>(nomatch h),?_⟩
   simp only[cA,nA]
   obtain⟨a7,d7,e7,ht7⟩:=c1R 0
   rw[show((0:Int):Rat)=0 from rfl,ht7]at hu8
   subst hu8
   refine a0a ⟨_,rfl,by simp⟩ ?_
   refine a0a ⟨_,rfl,by simp⟩ ?_
   refine a0a (a1O a7 d7) ?_
   exact a0c rfl ⟨((l04.trans (l5.trans l6)).trans l7).trans l8,by rw[Int.toNat_natCast,hx3 hbb,ht7];rfl⟩
end
end Go.Proofs.YtmannekkmdockaaGreatDoor
/- Chapter 32: the probabilities add up to 1 at most. -/
namespace Go.GS
theorem c6U {α:Type} {f g:α->Nat}:∀{l:List α},(∀x∈l,f x<=g x)->(l.map f).sum<=(l.map g).sum
 |[],_=>by simp
 |a::l,h=>by
  rw[List.map_cons,List.map_cons,List.sum_cons,List.sum_cons]
  have:=h a (by simp)
  have:=c6U (l:=l) fun x hx=>h x (by simp[hx])
  omega
theorem d4d {α:Type} {s:α->Rat} {c:Rat}:∀{l:List α},(∀x∈l,s x<=c)->sQ (l.map s)<=((l.length:Nat):Int)*c
 |[],_=>by simp only[List.map_nil,sQ,List.length_nil];show(0:Rat)<=0*c;rw[Rat.zero_mul];exact Rat.le_refl
 |a::l,h=>by
  have h1:=h a (by simp)
  have h2:=d4d (l:=l) fun x hx=>h x (by simp[hx])
  simp only[List.map_cons,sQ,List.length_cons]
  rw[show(((l.length+1:Nat):Int):Rat)=((l.length:Nat):Int)+1 from by push_cast;rfl]
  grind
theorem c1U {α β:Type} {f:α->List β} {g:β->Rat}:∀l:List α,sQ ((l.flatMap f).map g)=sQ (l.map fun a=>sQ ((f a).map g))
 |[]=>rfl
 |a::l=>by
  rw[List.flatMap_cons,List.map_append,c6N,List.map_cons,sQ,c1U l]
theorem c6V {α:Type} {f:α->Nat} {d:Rat}:∀l:List α,sQ (l.map fun a=>(((f a:Nat):Int):Rat)/d)=((((l.map f).sum:Nat):Int):Rat)/d
 |[]=>by simp only[List.map_nil,sQ,List.sum_nil];rw[Rat.div_def];show(0:Rat)=0*_;rw[Rat.zero_mul]
 |a::l=>by
  simp only[List.map_cons,sQ,List.sum_cons]
  rw[c6V l]
  push_cast
  rw[Rat.div_def,Rat.div_def,Rat.div_def,Rat.add_mul]
noncomputable def tn (es:List (Nat×Nat)) (S:Nat):Nat:=(trees es S).length
section
variable {es:List (Nat×Nat)} {S a:Nat}
theorem tn_tree:tn es S≠0↔∃t,TreeOk es S t:=by
 unfold tn
 constructor
 ·intro h
  obtain⟨t,ht⟩:=List.exists_mem_of_length_pos (Nat.pos_of_ne_zero h)
  exact⟨t,trees_mem.1 ht⟩
 ·rintro⟨t,ht⟩ e
  have:=trees_mem.2 ht
  rw[List.length_eq_zero_iff.1 e]at this;cases this
theorem d0K (hs:S<M64) (h0:S≠0) (ht:tn es S≠0) (hsub:∀y,bit a y=true->bit S y=true) (hl:bit a (lst S)=true) (hne:a≠S):0<d1z es a (sdf S a):=by
 obtain⟨t,hT⟩:=tn_tree.1 ht
 rw[<-c1E]
 refine Classical.byContradiction fun hc=>hne ?_
 have hc:(crs es a (sdf S a))=[]:=List.eq_nil_of_length_eq_zero (by omega)
 have hno:∀i∈t,btB a (sdf S a) (Ed es i)=false:=fun i hi=>by
  cases hb:btB a (sdf S a) (Ed es i)with
  |false=>rfl
  |true=>
   have ho:=hT.ok i hi
   have:i∈crs es a (sdf S a):=crs_mem.2 ⟨ho.1,ho.2.1,hb⟩
   rw[hc]at this;cases this
 have hr:∀y,Rch (etl es t) S (lst S) y->bit a y=true:=fun y hy=>by
  induction hy with
  |base=>exact hl
  |step _ ha hz ih=>
   obtain⟨e,he,h⟩:=ha
   obtain⟨i,hi,rfl⟩:=a1P he
   have hn:=hno i hi
   have ho:=hT.ok i hi
   unfold btB at hn
   simp only[a0y,ho.2.2.1,ho.2.2.2,Bool.true_and]at hn
   rcases h with⟨rfl,rfl⟩|⟨rfl,rfl⟩
   ·rw[ih]at hn;simpa using hn
   ·rw[ih]at hn;simpa using hn
 have hall:=(a3Q hT.inn).1 (hT.one hs h0)
 exact a0G fun y=>by
  rw[Bool.eq_iff_iff]
  exact⟨hsub y,fun hy=>hr y (hall _ _ (a7L hs h0) hy)⟩
end
end Go.GS
namespace Go.Proofs.YtmannekkmdockaaGreatDoor
open Go.Proofs.Tryz
open Go.RowKit Go.RX Go.GS Go.RZ
open Go.WD (BP a1L wd rs toI HM sgI Rb)
section
variable {es:List (Nat×Nat)} {wl:List Int} {lo hi:Int} {n k m S a:Nat} {p:List Int}
theorem a6q (hs:S<M64) (h0:S≠0):tN es S=((tn es S:Nat):Int):=by
 unfold tN tn
 rw[a5m,b5P,b2o hs h0]
theorem c1V (hs:S<M64) (h0:S≠0) (h:Cn es S):tn es S≠0:=fun e=>by
 have:=c5g hs h0 h
 have h2:=a6q (es:=es) hs h0
 unfold tN at h2
 omega
structure PrO (p:List Int) (n k:Nat) (pr:Nat×Nat):Prop where
 s2:unP p pr<2^n
 sM:unP p pr<M64
 s0:unP p pr≠0
 cd:card (unP p pr)<=n
theorem d5T (hU:a3G p k) (hpl:p.length=n) (hn:n<=64) {pr:Nat×Nat} (hpr:pr∈a0w k):PrO p n k pr:=by
 have hpk:=a5k hpr
 have hS:=a9h hpl hn pr
 exact⟨hS,a1g hn hS,fun e=>hU pr.1 (by omega) (by unfold unP at e;exact(Nat.or_eq_zero_iff.1 e).1),b3G hS hn⟩
theorem par_mem {pr:Nat×Nat}:a∈a8t es wl lo hi p pr↔tN es (unP p pr)≠0/\a∈a1E (unP p pr)/\alB es wl lo hi a=true/\alB es wl lo hi (sdf (unP p pr) a)=true/\a0v p≠a0v (a2s p pr a):=by
 unfold a8t
 split
 ·rename_i h;simp[h]
 ·rename_i h
  rw[List.mem_filter]
  unfold c5w
  simp[h]
theorem d4e {pr:Nat×Nat}:(a8t es wl lo hi p pr).Nodup:=by
 unfold a8t
 split
 ·exact List.nodup_nil
 ·exact(b6e _).filter _
theorem d0L {pr:Nat×Nat} (hP:PrO p n k pr) (ha:a∈a8t es wl lo hi p pr):tn es a*tn es (sdf (unP p pr) a)<=(c5q es (unP p pr) a).length:=by
 obtain⟨h1,h2,_⟩:=par_mem.1 ha
 obtain⟨s1,s2,s3⟩:=b0G hP.sM hP.s0 h2
 rw[d0B hP.sM hP.s0 s1 s2,<-Nat.mul_assoc]
 have hb:=d0K (es:=es) hP.sM hP.s0 (fun e=>h1 (by rw[a6q hP.sM hP.s0,e];rfl)) s1 s2 s3
 exact Nat.le_mul_of_pos_right _ hb
theorem c6W {pr:Nat×Nat} (hP:PrO p n k pr):((a8t es wl lo hi p pr).map fun a=>tn es a*tn es (sdf (unP p pr) a)).sum<=tn es (unP p pr)*(card (unP p pr)-1):=
 Nat.le_trans (c6U fun a ha=>d0L hP ha) (d0C d4e)
noncomputable def prQ (es:List (Nat×Nat)) (wl:List Int) (lo hi:Int) (n m:Nat) (p:List Int) (pr:Nat×Nat):Rat:=sQ ((a8t es wl lo hi p pr).map (b6g es n m p pr))
theorem b6j {pr:Nat×Nat} (hP:PrO p n k pr) (hn:n<=64) (ha:a∈a1E (unP p pr)):b6g es n m p pr a=(((tn es a*tn es (sdf (unP p pr) a):Nat):Int):Rat)/(((tn es (unP p pr)*((n-1)*m):Nat):Int):Rat):=by
 obtain⟨⟨a0,a2⟩,s0,s2⟩:=a7W hP.s2 hn hP.s0 ha
 unfold b6g c2u
 rw[a6q (a1g hn a2) a0,a6q (a1g hn s2) s0,a6q hP.sM hP.s0]
 push_cast
 rfl
theorem d4f {pr:Nat×Nat} (hP:PrO p n k pr) (hn:n<=64):prQ es wl lo hi n m p pr=(((((a8t es wl lo hi p pr).map fun a=>tn es a*tn es (sdf (unP p pr) a)).sum:Nat):Int):Rat)/(((tn es (unP p pr)*((n-1)*m):Nat):Int):Rat):=by
 unfold prQ
 rw[<-c6V]
 congr 1
 exact List.map_congr_left fun a ha=>b6j hP hn (par_mem.1 ha).2.1
theorem a8g {x:Nat} (h:0<x):(0:Rat)<((x:Nat):Int):=by exact_mod_cast h
theorem d4g {pr:Nat×Nat} (hP:PrO p n k pr) (hn:n<=64) (hm:0<m):prQ es wl lo hi n m p pr<=1/(((m:Nat):Int):Rat):=by
 have hm':=a8g hm
 by_cases h0:tn es (unP p pr)=0
 ·unfold prQ a8t
  rw[if_pos (by rw[a6q hP.sM hP.s0,h0];rfl)]
  show(0:Rat)<=_
  exact Rat.le_of_lt ((Rat.lt_div_iff hm').2 (by rw[Rat.zero_mul];decide))
 ·have h1:=c6W (es:=es) (wl:=wl) (lo:=lo) (hi:=hi) hP
  rw[d4f hP hn]
  generalize ((a8t es wl lo hi p pr).map fun a=>tn es a*tn es (sdf (unP p pr) a)).sum=N at h1
  by_cases hd:n-1=0
  ·have hcd:=hP.cd
   have hc:card (unP p pr)-1=0:=by omega
   rw[hc]at h1
   have:N=0:=by omega
   subst this
   rw[Rat.div_def]
   show(0:Rat)*_<=_
   rw[Rat.zero_mul]
   exact Rat.le_of_lt ((Rat.lt_div_iff hm').2 (by rw[Rat.zero_mul];decide))
  ·have hD:0<tn es (unP p pr)*((n-1)*m):=Nat.mul_pos (by omega) (Nat.mul_pos (by omega) hm)
   have h2:N*m<=tn es (unP p pr)*((n-1)*m):=by
    have hcd:=hP.cd
    have h3:tn es (unP p pr)*(card (unP p pr)-1)<=tn es (unP p pr)*(n-1):=Nat.mul_le_mul_left _ (by omega)
    rw[<-Nat.mul_assoc]
    exact Nat.mul_le_mul_right m (Nat.le_trans h1 h3)
   refine Rat.not_lt.1 fun hlt=> ?_
   rw[Rat.div_lt_iff hm',Rat.div_def,Rat.mul_assoc,Rat.mul_comm (_⁻¹),<-Rat.mul_assoc,<-Rat.div_def,Rat.lt_div_iff (a8g hD)]at hlt
   rw[Rat.one_mul]at hlt
   have:((tn es (unP p pr)*((n-1)*m):Nat):Int)<((N*m:Nat):Int):=by exact_mod_cast hlt
   omega
noncomputable def a6l (es:List (Nat×Nat)) (wl:List Int) (lo hi:Int) (n k:Nat) (p:List Int):Rat:=sQ ((a1G es wl lo hi n k p).map (·.2))
theorem d4h (hL:LabOk p (k:Nat)) (hU:a3G p k) (hc:a0m p=p) (hpl:p.length=n) (hn:n<=64):a6l es wl lo hi n k p=sQ ((a0w k).map fun pr=>prQ es wl lo hi n (a0w k).length p pr):=by
 unfold a6l
 rw[b2v hL hU hc hpl hn,List.map_map]
 unfold b0N
 rw[c1U]
 congr 1
 refine List.map_congr_left fun pr _=> ?_
 rw[List.map_map];rfl
theorem d5A {m:Nat} (h:0<m):(((m:Nat):Int):Rat)*(1/(((m:Nat):Int):Rat))=1:=by
 rw[Rat.div_def,Rat.one_mul,Rat.mul_inv_cancel]
 exact fun e=>by have:=a8g h;rw[e]at this;exact absurd this (by decide)
theorem d4i (hL:LabOk p (k:Nat)) (hU:a3G p k) (hc:a0m p=p) (hpl:p.length=n) (hn:n<=64):a6l es wl lo hi n k p<=1:=by
 rw[d4h hL hU hc hpl hn]
 rcases Nat.eq_zero_or_pos (a0w k).length with h|h
 ·rw[List.length_eq_zero_iff.1 h];show(0:Rat)<=1;decide
 ·have:=d4d (l:=a0w k) (s:=fun pr=>prQ es wl lo hi n (a0w k).length p pr) fun pr hpr=>d4g (d5T hU hpl hn hpr) hn h
  rwa[d5A h]at this
end
end Go.Proofs.YtmannekkmdockaaGreatDoor
/- slices.SortFunc of the shelf at this program: laid by the kit. -/
namespace Go.Proofs
open Go.Shelf
def Tryz.srtL_ren:Go.Shelf.Ren:=⟨fun|6=>48|15=>92|14=>91|28=>157|29=>117|20=>149|21=>150|22=>151|23=>152|24=>153|25=>154|26=>155|27=>156|46=>204|47=>205|48=>206|49=>207|50=>208|57=>241|n=>n,fun|22=>48|24=>33|25=>114|3=>3|39=>164|0=>0|53=>240|55=>54|4=>4|46=>234|45=>233|50=>141|5=>5|9=>9|66=>284|70=>288|76=>323|77=>103|n=>n,fun|n=>n⟩
theorem Tryz.srtL:Go.Proofs.SlLaysF.n6 prog Tryz.srtL_ren:={
 mixed:=by kernel_rfl
 f6:=⟨f48.name,by decide,Tryz.func48.trans (congrArg some (by kernel_rfl))⟩
 f14:=⟨f91.name,by decide,Tryz.func91.trans (congrArg some (by kernel_rfl))⟩
 f15:=Tryz.func92.trans (congrArg some (by kernel_rfl))
 f20:=⟨f149.name,by decide,Tryz.func149.trans (congrArg some (by kernel_rfl))⟩
 f21:=⟨f150.name,by decide,Tryz.func150.trans (congrArg some (by kernel_rfl))⟩
 f22:=⟨f151.name,by decide,Tryz.func151.trans (congrArg some (by kernel_rfl))⟩
 f23:=⟨f152.name,by decide,Tryz.func152.trans (congrArg some (by kernel_rfl))⟩
 f24:=⟨f153.name,by decide,Tryz.func153.trans (congrArg some (by kernel_rfl))⟩
 f25:=⟨f154.name,by decide,Tryz.func154.trans (congrArg some (by kernel_rfl))⟩
 f26:=⟨f155.name,by decide,Tryz.func155.trans (congrArg some (by kernel_rfl))⟩
 f27:=⟨f156.name,by decide,Tryz.func156.trans (congrArg some (by kernel_rfl))⟩
 f28:=Tryz.func157.trans (congrArg some (by kernel_rfl))
 f29:=Tryz.func117.trans (congrArg some (by kernel_rfl))
 f46:=⟨f204.name,by decide,Tryz.func204.trans (congrArg some (by kernel_rfl))⟩
 f47:=Tryz.func205.trans (congrArg some (by kernel_rfl))
 f48:=Tryz.func206.trans (congrArg some (by kernel_rfl))
 f49:=⟨f207.name,by decide,Tryz.func207.trans (congrArg some (by kernel_rfl))⟩
 f50:=⟨f208.name,by decide,Tryz.func208.trans (congrArg some (by kernel_rfl))⟩
 f57:=⟨f241.name,by decide,Tryz.func241.trans (congrArg some (by kernel_rfl))⟩
 t0:=Tryz.underlying0
 a0:=Tryz.isAgg0
 z0:=Tryz.sizeOf0
 v0:=Tryz.zeroValue0
 t3:=Tryz.underlying3
 a3:=Tryz.isAgg3
 z3:=Tryz.sizeOf3
 v3:=Tryz.zeroValue3
 t4:=Tryz.underlying4
 a4:=Tryz.isAgg4
 z4:=Tryz.sizeOf4
 v4:=Tryz.zeroValue4
 t5:=Tryz.underlying5
 a5:=Tryz.isAgg5
 z5:=Tryz.sizeOf5
 v5:=Tryz.zeroValue5
 t9:=Tryz.underlying9
 a9:=Tryz.isAgg9
 z9:=Tryz.sizeOf9
 v9:=Tryz.zeroValue9
 t22:=Tryz.underlying48
 a22:=Tryz.isAgg48
 z22:=Tryz.sizeOf48
 v22:=Tryz.zeroValue48
 a24:=Tryz.isAgg33
 z24:=Tryz.sizeOf33
 t25:=Tryz.underlying114
 a25:=Tryz.isAgg114
 z25:=Tryz.sizeOf114
 v25:=Tryz.zeroValue114
 t39:=Tryz.underlying164
 a39:=Tryz.isAgg164
 z39:=Tryz.sizeOf164
 v39:=Tryz.zeroValue164
 t45:=Tryz.underlying233
 a45:=Tryz.isAgg233
 z45:=Tryz.sizeOf233
 v45:=Tryz.zeroValue233
 t46:=Tryz.underlying234
 a46:=Tryz.isAgg234
 z46:=Tryz.sizeOf234
 v46:=Tryz.zeroValue234
 t50:=Tryz.underlying141
 a50:=Tryz.isAgg141
 z50:=Tryz.sizeOf141
 v50:=Tryz.zeroValue141
 t53:=Tryz.underlying240
 a53:=Tryz.isAgg240
 z53:=Tryz.sizeOf240
 v53:=Tryz.zeroValue240
 t55:=Tryz.underlying54
 a55:=Tryz.isAgg54
 z55:=Tryz.sizeOf54
 v55:=Tryz.zeroValue54
 t66:=Tryz.underlying284
 a66:=Tryz.isAgg284
 z66:=Tryz.sizeOf284
 v66:=Tryz.zeroValue284
 t70:=Tryz.underlying288
 a70:=Tryz.isAgg288
 z70:=Tryz.sizeOf288
 v70:=Tryz.zeroValue288
 t76:=Tryz.underlying323
 a76:=Tryz.isAgg323
 z76:=Tryz.sizeOf323
 v76:=Tryz.zeroValue323
 t77:=Tryz.underlying103
 a77:=Tryz.isAgg103
 z77:=Tryz.sizeOf103
 v77:=Tryz.zeroValue103}
end Go.Proofs

/- Chapter 32: a step, by the program. -/
import Derived.Test.YtkcjbfoejpfbbaaGreatDoorGyJ
namespace Go.GS
def b7v (c e m:Nat):Nat×Nat×Nat:=if e=0 then a1m c m else(0,c,e)
theorem c4K {s n:Nat} (h:0<n):(a1m s n).1<n:=by
 by_cases h0:(a1m s n).2.2=0
 ·exact a7u h0
 ·unfold a1m at h0⊢
  rw[if_neg (by omega)]at h0⊢
  cases hf:a7B n 200 s with
  |none=>exact h
  |some p=>rw[hf]at h0;exact absurd rfl h0
theorem d5m {s n:Nat} (h:(a1m s n).2.2≠0):(a1m s n).1=0:=by
 unfold a1m at h⊢
 split
 ·rfl
 ·rename_i hn
  rw[if_neg hn]at h
  cases hf:a7B n 200 s with
  |none=>rfl
  |some p=>rw[hf]at h;exact absurd rfl h
end Go.GS
namespace Go.Proofs.YtkcjbfoejpfbbaaGreatDoor
open Go.Proofs.Tryz
open Go.RowKit Go.RX Go.GS
theorem a7y:Sc prog 47:=⟨by kernel_rfl,by kernel_rfl,by kernel_rfl⟩
theorem a7J:FA prog 127 0 0:=⟨by kernel_rfl,of_decide_eq_true (by kernel_rfl),by kernel_rfl,by kernel_rfl,of_decide_eq_true (by kernel_rfl)⟩
theorem c4L:FA prog 127 1 6:=⟨by kernel_rfl,of_decide_eq_true (by kernel_rfl),by kernel_rfl,by kernel_rfl,of_decide_eq_true (by kernel_rfl)⟩
theorem b3t:FA prog 127 2 7:=⟨by kernel_rfl,of_decide_eq_true (by kernel_rfl),by kernel_rfl,by kernel_rfl,of_decide_eq_true (by kernel_rfl)⟩
theorem d7G:FA prog 38 0 0:=⟨by kernel_rfl,of_decide_eq_true (by kernel_rfl),by kernel_rfl,by kernel_rfl,of_decide_eq_true (by kernel_rfl)⟩
theorem b0m:a4w prog 131=true:=by kernel_rfl
def fwr (bw:Nat):Value:= .func (.func 131) #[.pointer (some ⟨bw,0,none⟩)] #[]
section
variable {H H0:PH} {u v w wts:Value} {p q wl t l:List Int} {n c e m bw:Nat} {es:List (Nat×Nat)} {lo hi ds:Int} {set x:Nat}
def rwc (wts:Value) (lo hi ds:Int) (n:Nat) (w:Value) (c e:Nat):Array Value:= #[wts,ii lo,ii hi,ii ds,ii (n:Nat),w,uv c,ii (e:Nat)]
def RwO (wts:Value) (lo hi ds:Int) (n:Nat) (w:Value) (c e:Nat):Obj:= .cells (rwc wts lo hi ds n w c e) 127 (0,0)
theorem SO.cut {α:Type} {e:TypeId} {sz:Nat} {ce:α->List Value} {v:Value} {l:List α} {X H:PH} {b:Nat} (h:SO X H e sz ce v l) (hX:X b≠none):SE (a1W H b) sz ce v l:=
 SO.se (H0:=X) (h.tr fun g ob h3 h4=>⟨h3,by unfold a1W;rw[if_neg (fun e=>by subst e;exact hX h3)];exact h4⟩)
theorem b0n {m:List Int} (hu:SI H u l) (hv:SI H v m):Asks prog 24 [u,v] H (.bool (decide (l=m))):=by
 refine a0j a0n b9H ?_
 have hl:=hu.len
 have hm:=hv.len
 refine a0p el_plan hu ?_
 refine a0p el_plan hv ?_
 refine a0a ?_
 refine a0a ?_
 refine a0o (p:=(l.length≠m.length)) (by show Value.bool (((l.length:Nat):Int) !=((m.length:Nat):Int))=_;rw[bN];congr 1;apply decide_eq_decide.2;omega) (fun h=> ?_) fun h=> ?_
 ·exact a0b rfl ⟨rfl,by rw[decide_eq_false (fun e=>h (by rw[e]))];rfl⟩
 ·have hlm:l.length=m.length:=by omega
  refine a0p el_plan hu ?_
  refine a0A (α:=Nat×Value) (fun⟨i,p⟩=>[p,ii (i:Nat)]) (fun⟨i,p⟩=>i<=l.length/\l.take i=m.take i) (fun⟨i,p⟩=>l.length-i) ((0,.bool false)) rfl (⟨Nat.zero_le _,rfl⟩) fun⟨i,p⟩ hQ=> ?_
  obtain⟨hi,hq⟩:=hQ
  refine a0a ?_
  refine a0a ?_
  refine a0e (b:=decide (((i:Nat):Int)<(l.length:Nat))) rfl (fun h2=> ?_) (fun h2=> ?_)
  ·replace h2:=of_decide_eq_true h2
   have hi':i<l.length:=by omega
   obtain⟨x,hx,hdx⟩:=a0q hi'
   refine a0t el_plan hu hx fun _=> ?_
   obtain⟨y,hy,hdy⟩:=a0q (l:=m) (i:=i) (by omega)
   refine a0t el_plan hv hy fun _=> ?_
   refine a0a ?_
   refine a0a ?_
   refine a0o (p:=(x≠y)) (bN x y) (fun hxy=> ?_) fun hxy=> ?_
   ·exact a0b rfl ⟨rfl,by rw[decide_eq_false (fun e=>hxy (by subst e;rw[hx]at hy;exact Option.some.inj hy))];rfl⟩
   ·have hxy:x=y:=Classical.byContradiction hxy
    exact⟨(i+1,p),by show l.length-(i+1)<l.length-i;omega,(a0F rfl (a0k rfl (by omega))),⟨⟨hi',by rw[take_snoc hx,take_snoc hy,hq,hxy]⟩,rfl⟩⟩
  ·replace h2:=of_decide_eq_false h2
   rw[List.take_of_length_le (by omega),List.take_of_length_le (by omega)]at hq
   exact a0b rfl ⟨rfl,by rw[decide_eq_true hq];rfl⟩
theorem b0o (hb:H bw=some (RwO wts lo hi ds n w c e)) (hc:c<M64) (hm:m<9223372036854775808):Con prog 131 [.pointer (some ⟨bw,0,none⟩),ii (m:Nat)] H fun u H'=>u=ii ((b7v c e m).1:Nat)/\PH.le (H.put bw (RwO wts lo hi ds n w (b7v c e m).2.1 (b7v c e m).2.2)) H':=by
 refine a0j a0n c2F ?_
 have hs':=a2B c m
 refine a1a ?_
 refine a0z b3t ?_
 refine a0D a7y rfl rfl hb rfl rfl ?_
 refine a0a ?_
 refine a0o (p:=(e≠0)) (bN0 e) (fun h=> ?_) fun h=> ?_
 ·exact a0b rfl ⟨by unfold b7v;rw[if_neg h];rfl,by unfold b7v;rw[if_neg h];exact b6X (a5L H bw) hb⟩
 ·have h0:e=0:=by omega
  subst h0
  rw[show b7v c 0 m=a1m c m from if_pos rfl]
  refine a1a ?_
  refine a0z c4L ?_
  refine a1D (vs:=[uv c]) a4U rfl rfl hb rfl (show 0+6+1<=8 by omega) rfl ?_
  refine a0v ((b5D c m ▸ b1T (s:=c) (z:=(m:Nat)) hc (by omega))) rfl fun H1 l1=> ?_
  refine a0m ?_
  refine a0m ?_
  refine a0m ?_
  refine a0c (a0W _) ?_
  refine a1a ?_
  refine a0z c4L ?_
  refine b3o (vs:=[uv (a1m c m).2.1]) a4U rfl rfl rfl (l1 _ _ hb) (by show 0+6+1<=8;omega) (by intro c hc;simp at hc;subst hc;rfl) rfl rfl ?_
  have hb2:=PH.put_self H1 bw (.cells (spl (rwc wts lo hi ds n w c 0) (0+6) [uv (a1m c m).2.1]) 127 (0,0))
  refine a1a ?_
  refine a0z b3t ?_
  refine a6J (u:=ii ((a1m c m).2.2:Nat)) a7y rfl rfl rfl hb2 (by show 0+7<8;omega) rfl rfl rfl (fun h=>(nomatch h)) ?_
  rw[PH.put_put]
  exact a0b rfl ⟨rfl,b6X (a8N l1 _) (PH.put_self _ _ _)⟩
theorem DraO.case {H':PH} {r:Value} {R:Nat ⊕ (List Int×Nat)} (h:DraO H H' r R):∃v c e t,r= .tuple #[v,chV c,ii (e:Nat)]/\OI H H' v t/\((e≠0/\R= .inl e/\c=0/\t=[])\/(e=0/\∃tr,R= .inr (tr,c)/\c<M64/\t=a5M tr)):=by
 cases R with
 |inl e=>obtain⟨h1,h2⟩:=h;exact⟨_,0,e,[],h2,SO.nil _ _ _ _ _,.inl ⟨h1,rfl,rfl,rfl⟩⟩
 |inr p=>
  obtain⟨tr,c⟩:=p
  obtain⟨h1,v,h3,h4⟩:=h
  exact⟨v,c,0,a5M tr,h3,h4,.inr ⟨rfl,tr,rfl,h1,rfl⟩⟩
theorem b2d {n:Nat} {es:List (Nat×Nat)} (hg:GV n es) (h64:n<=64) {set:Nat} (hs:set<M64):∀(k d:Nat) (tr:List Int) (c left:Nat) {tr':List Int} {c':Nat},k<=n->d<2^n->tr.length+1<=card d->a2l es set n k d tr c left= .inr (tr',c')->tr'.length<=n:=by
 intro k
 induction k with
 |zero=>
  intro d tr c left tr' c' hk hd ht h
  simp only[a2l,Sum.inr.injEq,Prod.mk.injEq]at h
  have:=b0f hd h64
  rw[<-h.1];omega
 |succ k ih=>
  intro d tr c left tr' c' hk hd ht h
  simp only[a2l]at h
  split at h
  ·split at h
   ·cases h
   ·rename_i l c1 left1 hW
    obtain⟨h1,h2,h3,h4,h5⟩:=c4l hg h64 hs (by omega) hd hW
    refine ih _ _ _ _ (by omega) h5 ?_ h
    have hpos:0<(a1u l).length:=by unfold a1u;simp
    rw[List.length_append,a5u];omega
  ·exact ih _ _ _ _ (by omega) hd ht h
def StR (wts:Value) (lo hi ds:Int) (n:Nat) (w:Value) (bw:Nat) (q:List Int) (H':PH) (r:Value) (R:Nat ⊕ (List Int×Bool×Nat)):Prop:=∃c e,H' bw=some (RwO wts lo hi ds n w c e)/\((e≠0/\R= .inl e)\/(e=0/\c<M64/\∃q' mv,R= .inr (q',mv,c)/\SI H' r q'/\mv= !decide (q=q')))
set_option maxHeartbeats 4000000 in
theorem c8o {k:Nat} (hb:H bw=some (RwO wts lo hi (k:Nat) n w c 0)) (hch:Chn (a1W H bw) n w wts es wl) (hu:SI (a1W H bw) u q) (hn:n<=9) (hql:q.length=n) (hk1:1<=k) (hk8:k<=8) (hL:LabOk q (k:Nat)) (hU:a8g q k) (hc:c<M64):
  Con prog 69 [.pointer (some ⟨bw,0,none⟩),u] H fun r H'=>PH.le (a1W H bw) H'/\StR wts lo hi (k:Nat) n w bw q H' r (stP n es wl lo hi k q c):=by
 refine a0j a0n c2R ?_
 have h64:n<=64:=by omega
 have hg:=hch.ok
 have hbn:H bw≠none:=by rw[hb];exact fun h=>nomatch h
 have hrefl:PH.le (H.put bw (RwO wts lo hi (k:Nat) n w c 0)) H:=b6X (a5L H bw) hb
 have hL8:LabOk q 8:=⟨fun x hx=>by have:=hL.1 x hx;omega,hL.2⟩
 have hdef:∀ca mm:Nat,b7v ca 0 mm=a1m ca mm:=fun ca mm=>if_pos rfl
 refine a3p (b1V rfl) rfl ?_
 simp only[cA,nA]
 refine a1a ?_
 simp only[cA,nA]
 refine a0z a7J ?_
 simp only[cA,nA]
 refine a0z b1B ?_
 simp only[cA,nA]
 refine a0z c0W ?_
 simp only[cA,nA]
 refine a0D sc_int rfl rfl hb rfl rfl ?_
 simp only[cA,nA]
 refine a0f (b5M hk8) rfl ?_
 rintro v8 H1 ⟨l1,h8⟩
 refine⟨fun h=>(nomatch h),?_⟩
 simp only[cA,nA]
 refine a1C el_edge rfl rfl h8.se rfl ?_
 simp only[cA,nA]
 refine a0u ((a9o (a:=((a2D k).length:Nat)) (b:=1) rfl rfl rfl).rds _) rfl ?_
 simp only[cA,nA]
 have hlen8:=c4o k hk8
 rw[show(if(1:Int)<(((a2D k).length:Nat):Int)then(1:Int)else(((a2D k).length:Nat):Int))=((min (a2D k).length 1:Nat):Int) by split<;>omega]
 have k1:=b1W hrefl l1
 refine a0i (α:=Nat×Nat) (fun⟨i,cc⟩=>[.slice none 0 0,ii (i:Nat)]) (fun⟨i,cc⟩=>fun H'=>(i=0/\cc=c/\H'=H1)\/(i=1/\cc<M64/\stP n es wl lo hi k q c= .inr (q,false,cc)/\PH.le (H.put bw (RwO wts lo hi (k:Nat) n w cc 0)) H')) (fun⟨i,cc⟩=>1-i) ((0,c)) rfl (.inl ⟨rfl,rfl,rfl⟩) fun⟨i,cc⟩ H' hQ=> ?_
 simp only[cA,nA]
 refine a0a ?_
 refine a0a ?_
 refine a0e (b:=decide (((i:Nat):Int)<((min (a2D k).length 1:Nat):Int))) rfl (fun hlt=> ?_) (fun hlt=> ?_)
 ·replace hlt:=of_decide_eq_true hlt
  obtain⟨rfl,rfl,rfl⟩:i=0/\cc=c/\H'=H1:=hQ.resolve_right (fun h=>by omega)
  have hLp:0<(a2D k).length:=by omega
  have hkne:k≠1:=fun e=>by subst e;rw[c8e]at hLp;cases hLp
  have hbx:=(a0K k1).2
  refine a1a ?_
  simp only[cA,nA]
  refine a0z a7J ?_
  simp only[cA,nA]
  refine a0z b1B ?_
  simp only[cA,nA]
  refine a0z c0W ?_
  simp only[cA,nA]
  refine a0D sc_int rfl rfl hbx rfl rfl ?_
  simp only[cA,nA]
  refine a0f (b5M hk8) rfl ?_
  rintro v18 H2 ⟨l2,h18⟩
  refine⟨fun h=>(nomatch h),?_⟩
  simp only[cA,nA]
  have k2:=b1W k1 l2
  have h1n:H' bw≠none:=by rw[hbx];exact fun h=>nomatch h
  have h18c:=SO.cut h18 h1n
  refine a0H (Go.RZ.opn_callw (P:=prog) (ws:=[ii ((a2D k).length:Nat)]) (bs:= #[.pointer (some ⟨bw,0,none⟩)]) (caps:= #[]) (vs:=[fwr bw,ii ((a2D k).length:Nat)]) rfl rfl rfl b0m (b0o (m:=(a2D k).length) (a0K k2).2 hc (by omega))) rfl ?_
  rintro v19 H3 ⟨rfl,l3⟩
  refine⟨fun h=>(nomatch h),?_⟩
  simp only[cA,nA]
  rw[hdef]at l3⊢
  have k3:=a4v k2 l3
  have hxL:=c4K (s:=cc) hLp
  obtain⟨pr,hpr,_⟩:=a0q hxL
  have hgp:(a2D k).getD (a1m cc (a2D k).length).1 (0,0)=pr:=by rw[List.getD_eq_getElem?_getD,hpr];rfl
  have hprk:=b5H (List.mem_of_getElem? hpr)
  have hst0:stP n es wl lo hi k q cc=if(a1m cc (a2D k).length).2.2≠0 then .inl (a1m cc (a2D k).length).2.2 else stA n es wl lo hi q pr (a1V q pr) (a1m cc (a2D k).length).2.1:=by unfold stP;rw[if_neg hkne,hgp]
  have hc1:=a2B cc (a2D k).length
  generalize hB1:a1m cc (a2D k).length=B1 at*
  obtain⟨x1,c1,e1⟩:=B1
  simp only at*
  refine a0t el_edge (h18c.mono (a0K l3).1) hpr fun _=> ?_
  simp only[cA,nA]
  refine a0c (el_edge.vcells pr) ?_
  have hb3:=(a0K k3).2
  have hq3:=hu.mono (a0K k3).1
  refine a1a ?_
  simp only[cA,nA]
  refine a0z a7J ?_
  simp only[cA,nA]
  refine a0z b1B ?_
  simp only[cA,nA]
  refine a0z c0W ?_
  simp only[cA,nA]
  refine a0D sc_int rfl rfl hb3 rfl rfl ?_
  simp only[cA,nA]
  refine a0f (b4O hq3 k hk1 hk8 hL hU) rfl ?_
  rintro r27 H4 ⟨l4,z,rfl,hz⟩
  refine⟨fun h=>(nomatch h),?_⟩
  simp only[cA,nA]
  have k4:=b1W k3 l4
  have hb4:=(a0K k4).2
  have hc4:=hch.mono (a0K k4).1
  refine a0m ?_
  refine a0m ?_
  refine a0t el_u64 hz (a5l q q.length (show pr.1<k by omega)) fun _=> ?_
  simp only[cA,nA]
  refine a0t el_u64 hz (a5l q q.length (show pr.2<k by omega)) fun _=> ?_
  simp only[cA,nA]
  refine a0a ?_
  refine a0a ?_
  refine a1a ?_
  simp only[cA,nA]
  refine a0z a7J ?_
  simp only[cA,nA]
  refine a0z b6p ?_
  simp only[cA,nA]
  refine a1D (vs:=[ii n,w]) c0X rfl rfl hb4 rfl (show 0+0+4+2<=8 by omega) rfl ?_
  simp only[cA,nA]
  have hm1:=a6O q (pr.1:Nat) (m:=q.length) (by omega)
  have hm2:=a6O q (pr.2:Nat) (m:=q.length) (by omega)
  have hm1':=a8e q (pr.1:Nat) (m:=q.length) (by omega)
  have hm2':=a8e q (pr.2:Nat) (m:=q.length) (by omega)
  have hun:a1V q pr<2^n:=by unfold a1V a8f;rw[<-hql];exact Nat.or_lt_two_pow hm1 hm2
  have hun0:a1V q pr≠0:=fun e=>by
   have h1:bit (a1V q pr)=bit 0:=by rw[e]
   obtain⟨x,g1,_⟩:=a6N (a:=0) (b:=a8f q (pr.1:Nat)) (fun e=>hU pr.1 (by omega) e.symm) (fun y hy=>by rw[a0P]at hy;cases hy)
   have h2:=congrFun h1 x
   rw[a0P,a1V,a8O,g1]at h2;cases h2
  have hun':=a0V h64 hun
  refine a0v (a7f hc4.tb hc4.gr hg hun') (a0F rfl (a4q rfl rfl hm1' hm2')) fun H5 l5=> ?_
  simp only[cA,nA]
  rw[show d2E n es (a1V q pr)= .tuple #[.bool (cnB es (a1V q pr)),ii 0]from if_pos hun]
  have k5:=b1W k4 l5
  have hb5:=(a0K k5).2
  refine a0m ?_
  refine a0m ?_
  refine a0a ?_
  refine a0e (b:= !cnB es (a1V q pr)) rfl (fun g1=> ?_) (fun g1=> ?_)
  ·skip
   exact a0b rfl ⟨(a0K k5).1,c1,e1,hb5,by
    by_cases h0:e1=0
    ·subst h0
     refine .inr ⟨rfl,hc1,q,false,?_,hu.mono (a0K k5).1,by simp⟩
     rw[hst0,if_neg (by simp)];unfold stA;rw[if_neg (by simpa using g1)]
    ·exact .inl ⟨h0,by rw[hst0,if_pos h0]⟩⟩
  ·skip
   have hcn:cnB es (a1V q pr)=true:=by simpa using g1
   refine a1a ?_
   simp only[cA,nA]
   refine a0z b3t ?_
   simp only[cA,nA]
   refine a0D a7y rfl rfl hb5 rfl rfl ?_
   simp only[cA,nA]
   refine a0a ?_
   refine a0o (p:=(e1≠0)) (bN0 e1) (fun g2=> ?_) fun g2=> ?_
   ·exact a0b rfl ⟨(a0K k5).1,c1,e1,hb5,.inl ⟨g2,by rw[hst0,if_pos g2]⟩⟩
   ·have h0:e1=0:=by omega
    subst h0
    rw[if_neg (by simp)]at hst0
    refine a1a ?_
    simp only[cA,nA]
    refine a0z a7J ?_
    simp only[cA,nA]
    refine a0z b6p ?_
    simp only[cA,nA]
    refine a1D (vs:=[ii n,w]) c0X rfl rfl hb5 rfl (show 0+0+4+2<=8 by omega) rfl ?_
    simp only[cA,nA]
    refine a1a ?_
    simp only[cA,nA]
    refine a0z c4L ?_
    simp only[cA,nA]
    refine a1D (vs:=[uv c1]) a4U rfl rfl hb5 rfl (show 0+6+1<=8 by omega) rfl ?_
    simp only[cA,nA]
    have hc5:=hch.mono (a0K k5).1
    obtain⟨x0,r0,hel,hx0b,_,_⟩:=b1c hun' hun0
    refine a0f (c8k hc5.tb hc5.gr hg hn hun0 hun hcn hc1 hel) (a5b rfl (a4q rfl rfl hm1' hm2') rfl) ?_
    rintro r47 H6 ⟨l6,hD⟩
    refine⟨fun _=>l6,?_⟩
    simp only[cA,nA]
    have hst1:stP n es wl lo hi k q cc=match a2l es (a1V q pr) n n (2^x0) [] c1 10000 with| .inl e=> .inl e| .inr (tr,c2)=>stB n es wl lo hi q pr (a1V q pr) (a5M tr) c2:=by rw[hst0];unfold stA;rw[if_pos hcn,show(els (a1V q pr)).headD 64=x0 by rw[hel];rfl];rfl
    obtain⟨v47,c2,e2,t,rfl,ht,hcase⟩:=DraO.case hD
    have hx0n:=b3c hun hx0b
    have hcar0:1<=card (2^x0):=by
     have:=a4Y [x0] 0 (by simp) (fun y hy=>by obtain rfl:=List.mem_singleton.1 hy;exact⟨a0P _,by omega⟩)
     have e:orL 0 [x0]=2^x0:=by unfold orL;simp
     rw[e]at this;simp at this;omega
    have htl:t.length<=1000/\c2<M64:=by
     rcases hcase with⟨_,_,h1,rfl⟩|⟨_,tr,hR,h1,rfl⟩
     ·subst h1;exact⟨Nat.zero_le _,a2s⟩
     ·have:=b2d hg h64 hun' n (2^x0) [] c1 10000 (Nat.le_refl _) (Nat.pow_lt_pow_right (by decide) hx0n) hcar0 hR
      rw[(a7w tr).1.length_eq];exact⟨by omega,h1⟩
    obtain⟨htl,hc2⟩:=htl
    have hst2:(e2≠0/\stP n es wl lo hi k q cc= .inl e2)\/(e2=0/\stP n es wl lo hi k q cc=stB n es wl lo hi q pr (a1V q pr) t c2):=by
     rcases hcase with⟨h1,hR,_,_⟩|⟨h1,tr,hR,_,rfl⟩
     ·exact .inl ⟨h1,by rw[hst1,hR]⟩
     ·exact .inr ⟨h1,by rw[hst1,hR]⟩
    have k6:=b1W k5 l6
    have hb6:=(a0K k6).2
    have h5n:H5 bw≠none:=by rw[hb5];exact fun h=>nomatch h
    have htc:=SO.cut ht h5n
    refine a0m ?_
    refine a0m ?_
    refine a0m ?_
    refine a0c (a0W c2) ?_
    refine a1a ?_
    simp only[cA,nA]
    refine a0z c4L ?_
    simp only[cA,nA]
    refine b3o (vs:=[uv c2]) a4U rfl rfl rfl hb6 (by show 0+6+1<=8;omega) (by intro c hc;simp at hc;subst hc;rfl) rfl rfl ?_
    simp only[cA,nA]
    have hb6':=PH.put_self H6 bw (.cells (spl (rwc wts lo hi (k:Nat) n w c1 0) (0+6) [uv c2]) 127 (0,0))
    refine a1a ?_
    simp only[cA,nA]
    refine a0z b3t ?_
    simp only[cA,nA]
    refine a6J (u:=ii (e2:Nat)) a7y rfl rfl rfl hb6' (by show 0+7<8;omega) rfl rfl rfl (fun h=>(nomatch h)) ?_
    simp only[cA,nA]
    rw[PH.put_put]
    show den prog _ _ _ _ (H6.put bw (RwO wts lo hi (k:Nat) n w c2 e2))
    have k7:PH.le (H.put bw (RwO wts lo hi (k:Nat) n w c2 e2)) (H6.put bw (RwO wts lo hi (k:Nat) n w c2 e2)):=a4v k6 (PH.le.refl _)
    have htc7:SI (H6.put bw (RwO wts lo hi (k:Nat) n w c2 e2)) v47 t:=htc.mono (b0b _ _ _)
    have htc7c:SI (a1W (H6.put bw (RwO wts lo hi (k:Nat) n w c2 e2)) bw) v47 t:=htc.mono (fun k o hk=>by
     unfold a1W at hk⊢
     by_cases e:k=bw
     ·rw[if_pos e]at hk;cases hk
     ·rw[if_neg e]at hk⊢;rw[PH.put_ne _ _ e];exact hk)
    generalize H6.put bw (RwO wts lo hi (k:Nat) n w c2 e2)=H7 at k7 htc7 htc7c⊢
    have hb7:=(a0K k7).2
    refine a1a ?_
    simp only[cA,nA]
    refine a0z a7J ?_
    simp only[cA,nA]
    refine a0z b6p ?_
    simp only[cA,nA]
    refine a0z d7G ?_
    simp only[cA,nA]
    refine a0D sc_int rfl rfl hb7 rfl rfl ?_
    simp only[cA,nA]
    have hn1:=hg.n1
    refine a0a ?_
    refine a0H (Go.RZ.opn_callw (P:=prog) (ws:=[ii ((n-1:Nat):Int)]) (bs:= #[.pointer (some ⟨bw,0,none⟩)]) (caps:= #[]) (vs:=[fwr bw,ii ((n-1:Nat):Int)]) rfl rfl rfl b0m (b0o (m:=n-1) hb7 hc2 (by omega))) (a0F rfl (a3D (p:=n) rfl hn1 (by omega))) ?_
    rintro v59 H8 ⟨rfl,l8⟩
    refine⟨fun h=>(nomatch h),?_⟩
    simp only[cA,nA]
    have k8:=a4v k7 l8
    have hc3:(b7v c2 e2 (n-1)).2.1<M64:=by unfold b7v;split;exact a2B _ _;exact hc2
    have hY:(e2≠0/\b7v c2 e2 (n-1)=(0,c2,e2))\/(e2=0/\b7v c2 e2 (n-1)=a1m c2 (n-1)):=by
     by_cases h:e2=0
     ·exact .inr ⟨h,if_pos h⟩
     ·exact .inl ⟨h,if_neg h⟩
    generalize b7v c2 e2 (n-1)=B3 at*
    obtain⟨y,c3,e3⟩:=B3
    simp only at*
    have hb8:=(a0K k8).2
    have hc8:=hch.mono (a0K k8).1
    have ht8:=htc7c.mono (a0K l8).1
    refine a1a ?_
    simp only[cA,nA]
    refine a0z a7J ?_
    simp only[cA,nA]
    refine a1D (vs:=[wts,ii lo,ii hi,ii (k:Nat),ii n,w]) c6T rfl rfl hb8 rfl (show 0+0+6<=8 by omega) rfl ?_
    simp only[cA,nA]
    refine a0f (c4E (lo:=lo) (hi:=hi) (ds:=(k:Nat)) hc8 ht8 ⟨hun0,hun⟩ htl) (a5b rfl (a4q rfl rfl hm1' hm2') rfl) ?_
    rintro v63 H9 ⟨l9,h63⟩
    refine⟨fun h=>(nomatch h),?_⟩
    simp only[cA,nA]
    have k9:=b1W k8 l9
    have hb9:=(a0K k9).2
    refine a0p el_int h63 ?_
    simp only[cA,nA]
    refine a0a ?_
    refine a0a ?_
    refine a0e (b:=decide (((y:Nat):Int)≥((a7C es wl lo hi (a1V q pr) t t).length:Nat))) rfl (fun g5=> ?_) (fun g5=> ?_)
    ·replace g5:=of_decide_eq_true g5
     exact a0b rfl ⟨(a0K k9).1,c3,e3,hb9,by
      rcases hst2 with⟨h1,h2⟩|⟨h1,h2⟩
      ·obtain⟨_,h3⟩:=hY.resolve_right (fun h=>h1 h.1)
       simp only[Prod.mk.injEq]at h3
       obtain⟨rfl,rfl,rfl⟩:=h3
       exact .inl ⟨h1,h2⟩
      ·obtain⟨_,h3⟩:=hY.resolve_left (fun h=>h.1 h1)
       by_cases h4:e3=0
       ·subst h4
        refine .inr ⟨rfl,hc3,q,false,?_,hu.mono (a0K k9).1,by simp⟩
        rw[h2];unfold stB;rw[<-h3,if_neg (by simp),if_pos (by simp only;omega)]
       ·exact .inl ⟨h4,by rw[h2];unfold stB;rw[<-h3,if_pos h4]⟩⟩
    ·replace g5:=of_decide_eq_false g5
     refine a1a ?_
     simp only[cA,nA]
     refine a0z b3t ?_
     simp only[cA,nA]
     refine a0D a7y rfl rfl hb9 rfl rfl ?_
     simp only[cA,nA]
     refine a0a ?_
     refine a0o (p:=(e3≠0)) (bN0 e3) (fun g6=> ?_) fun g6=> ?_
     ·exact a0b rfl ⟨(a0K k9).1,c3,e3,hb9,.inl ⟨g6,by
       rcases hst2 with⟨h1,h2⟩|⟨h1,h2⟩
       ·obtain⟨_,h3⟩:=hY.resolve_right (fun h=>h1 h.1)
        simp only[Prod.mk.injEq]at h3
        obtain⟨rfl,rfl,rfl⟩:=h3
        exact h2
       ·obtain⟨_,h3⟩:=hY.resolve_left (fun h=>h.1 h1)
        rw[h2];unfold stB;rw[<-h3,if_pos g6]⟩⟩
     ·have h30:e3=0:=by omega
      subst h30
      obtain⟨h20,hst3⟩:e2=0/\stP n es wl lo hi k q cc=stB n es wl lo hi q pr (a1V q pr) t c2:=hst2.resolve_left (fun h=>by
       obtain⟨_,h3⟩:=hY.resolve_right (fun h4=>h.1 h4.1)
       simp only[Prod.mk.injEq]at h3
       exact h.1 h3.2.2.symm)
      obtain⟨_,hBQ⟩:=hY.resolve_left (fun h=>h.1 h20)
      obtain⟨kk,hkk,_⟩:=a0q (l:=a7C es wl lo hi (a1V q pr) t t) (i:=y) (by omega)
      have hgk:(a7C es wl lo hi (a1V q pr) t t).getD y 0=kk:=by rw[List.getD_eq_getElem?_getD,hkk];rfl
      have hkt:kk∈t:=(List.mem_filter.1 (List.mem_of_getElem? hkk)).1
      have hst4:stP n es wl lo hi k q cc=stC es q pr (sdP es (a1V q pr) t kk) c3:=by rw[hst3];unfold stB;rw[<-hBQ,if_neg (by simp),if_neg (by simp only;omega)];simp only[hgk]
      have hc9:=hch.mono (a0K k9).1
      refine a1a ?_
      simp only[cA,nA]
      refine a0z a7J ?_
      simp only[cA,nA]
      refine a0z b6p ?_
      simp only[cA,nA]
      refine a1D (vs:=[ii n,w]) c0X rfl rfl hb9 rfl (show 0+0+4+2<=8 by omega) rfl ?_
      simp only[cA,nA]
      refine a0t el_int h63 hkk fun _=> ?_
      simp only[cA,nA]
      refine a0v (a8R (k:=kk) hc9.tb hc9.gr hg (ht8.mono l9) ⟨hun0,hun⟩ hkt) (c8z rfl (a4q rfl rfl hm1' hm2') rfl rfl) fun H10 l10=> ?_
      simp only[cA,nA]
      have k10:=b1W k9 l10
      have hb10:=(a0K k10).2
      have hc10:=hch.mono (a0K k10).1
      obtain⟨hA,hBs⟩:=b5J (es:=es) (t:=t) h64 ⟨hun0,hun⟩ kk
      refine a0m ?_
      refine a0m ?_
      refine a0m ?_
      refine a1a ?_
      simp only[cA,nA]
      refine a0z a7J ?_
      simp only[cA,nA]
      refine a1D (vs:=[wts,ii lo,ii hi,ii (k:Nat),ii n,w]) c6T rfl rfl hb10 rfl (show 0+0+6<=8 by omega) rfl ?_
      simp only[cA,nA]
      refine a0s (c8l (lo:=lo) (hi:=hi) (ds:=(k:Nat)) hc10.gr hg hc10.wt (a0V h64 hA) (a0V h64 hBs)) rfl ?_
      simp only[cA,nA]
      have hbl:a4c es (sdP es (a1V q pr) t kk).1 (sdP es (a1V q pr) t kk).2<=200:=Nat.le_trans (List.length_filter_le _ _) hg.len
      refine a0H (Go.RZ.opn_callw (P:=prog) (ws:=[ii ((a4c es (sdP es (a1V q pr) t kk).1 (sdP es (a1V q pr) t kk).2:Nat):Int)]) (bs:= #[.pointer (some ⟨bw,0,none⟩)]) (caps:= #[]) (vs:=[fwr bw,ii ((a4c es (sdP es (a1V q pr) t kk).1 (sdP es (a1V q pr) t kk).2:Nat):Int)]) rfl rfl rfl b0m (b0o (m:=a4c es (sdP es (a1V q pr) t kk).1 (sdP es (a1V q pr) t kk).2) hb10 hc3 (by omega))) rfl ?_
      rintro v79 H11 ⟨rfl,l11⟩
      refine⟨fun h=>(nomatch h),?_⟩
      simp only[cA,nA]
      rw[hdef]at l11⊢
      have k11:=a4v k10 l11
      have hb11:=(a0K k11).2
      have hc4':=a2B c3 (a4c es (sdP es (a1V q pr) t kk).1 (sdP es (a1V q pr) t kk).2)
      have hz0:=d5m (s:=c3) (n:=a4c es (sdP es (a1V q pr) t kk).1 (sdP es (a1V q pr) t kk).2)
      unfold stC at hst4
      generalize a1m c3 (a4c es (sdP es (a1V q pr) t kk).1 (sdP es (a1V q pr) t kk).2)=B4 at*
      obtain⟨zz,c4,e4⟩:=B4
      simp only at*
      refine a0a ?_
      refine a0o (p:=(zz=0)) (bE0 zz) (fun g7=> ?_) fun g7=> ?_
      ·refine a0f (c8m (hu.mono (a0K k11).1) hL8 (by omega) (by omega) (a0V h64 hA)) rfl ?_
       rintro v80 H12 ⟨l12,h80⟩
       refine⟨fun h=>(nomatch h),?_⟩
       simp only[cA,nA]
       have k12:=b1W k11 l12
       exact a0b rfl ⟨(a0K k12).1,c4,e4,(a0K k12).2,by
        by_cases h4:e4=0
        ·subst h4
         refine .inr ⟨rfl,hc4',_,_,?_,h80,rfl⟩
         rw[hst4,if_neg (by simp),if_neg (by simpa using g7)]
        ·exact .inl ⟨h4,by rw[hst4,if_pos h4]⟩⟩
      ·have h40:e4=0:=Classical.byContradiction fun e=>g7 (hz0 e)
       subst h40
       exact⟨(1,c4),by show 1-1<1-0;omega,(a0F rfl rfl),.inr ⟨rfl,hc4',by rw[hst4,if_neg (by simp),if_pos g7],k11⟩⟩
 ·replace hlt:=of_decide_eq_false hlt
  rcases hQ with⟨rfl,rfl,rfl⟩|⟨rfl,hcc,hR,k13⟩
  ·have hk1':k=1:=by
    apply Classical.byContradiction
    intro e
    have:=b5I ⟨k,by omega⟩ (by show 2<=k;omega)
    simp only at this
    omega
   exact a0b rfl ⟨(a0K k1).1,cc,0,(a0K k1).2,.inr ⟨rfl,hc,q,false,by unfold stP;rw[if_pos hk1'],hu.mono (a0K k1).1,by simp⟩⟩
  exact a0b rfl ⟨(a0K k13).1,cc,0,(a0K k13).2,.inr ⟨rfl,hcc,q,false,hR,hu.mono (a0K k13).1,by simp⟩⟩
end
end Go.Proofs.YtkcjbfoejpfbbaaGreatDoor
/- Chapter 32: Step, on both sides, and the law RecomSteps. -/
namespace Go.GS
def stI {α:Type}:Nat ⊕ α->Int ⊕ α
 | .inl e=> .inl (e:Int)
 | .inr x=> .inr x
noncomputable def a7K (n:Nat) (es:List (Nat×Nat)) (wl:List Int) (lo hi ds:Int) (p:List Int) (c:Nat):Int ⊕ (List Int×Bool×Nat):=
 if bdE n wl lo hi ds≠0 then .inl (bdE n wl lo hi ds)else if b2g n es wl lo hi ds p=true then stI (stP n es wl lo hi ds.toNat (canon p) c)else .inl 8
theorem c4M {n:Nat} {es:List (Nat×Nat)} {wl:List Int} {lo hi ds:Int} {p:List Int} (h:b2g n es wl lo hi ds p=true):1<=ds/\ds<=8/\p.length=n/\LabOk p ds/\a8g p ds.toNat:=by
 unfold b2g at h
 rw[Bool.and_eq_true]at h
 exact b8D (of_decide_eq_true h.1)
end Go.GS
namespace Go.Proofs.YtkcjbfoejpfbbaaGreatDoor
open Go.Proofs.Tryz
open Go.RowKit Go.RX Go.GS
section
variable {H H0:PH} {u v w wts:Value} {p q wl t l:List Int} {n c e m bw:Nat} {es:List (Nat×Nat)} {lo hi ds:Int} {set x:Nat}
def SteV (H':PH) (r:Value):Int ⊕ (List Int×Bool×Nat)->Prop
 | .inl e=>e≠0/\r= .tuple #[.slice none 0 0,.bool false,chV 0,ii e]
 | .inr (q,mv,c)=>c<M64/\∃v,r= .tuple #[v,.bool mv,chV c,ii 0]/\SI H' v q
theorem b2e (hT:Tb H) (hw:SG H w es) (hg:GV n es) (hwt:SI H wts wl) (hu:SI H u p) (hn:n<=9) (hc:c<M64):Con prog 22 [gv n w,bv wts lo hi ds,u,chV c] H fun r H'=>PH.le H H'/\SteV H' r (a7K n es wl lo hi ds p c):=by
 refine a0j a0n b4M ?_
 refine a0c (a0G hw) ?_
 refine a0c (a2L (a0T hwt) _ _ _) ?_
 refine a0c (a0W c) ?_
 refine a0v (c1c hw hg hwt) rfl fun H1 l1=> ?_
 simp only[cA,nA]
 refine a0a ?_
 refine a0o (p:=(bdE n wl lo hi ds≠0)) (bN _ _) (fun h=> ?_) fun h=> ?_
 ·exact a0b (by show Value.tuple #[.slice none 0 0,.bool false,a0O prog _,ii (bdE n wl lo hi ds)]=_;rw[a3e]) ⟨l1,by unfold a7K;rw[if_pos h];exact⟨h,rfl⟩⟩
 ·have hb0:bdE n wl lo hi ds=0:=Classical.byContradiction h
  have hbd:=c8A hb0
  have hF0:a7K n es wl lo hi ds p c=if b2g n es wl lo hi ds p=true then stI (stP n es wl lo hi ds.toNat (canon p) c)else .inl 8:=by unfold a7K;rw[if_neg h]
  refine a2i (cs:=rwc wts lo hi ds n w c 0) (by show(Value.agg ((Value.agg ((bv wts lo hi ds).cells++(gv n w).cells)).cells++(Value.agg ((chV c).cells++(a0O prog 47).cells)).cells)).cells=_;rw[d5c];rfl) fun bw hbw=> ?_
  simp only[cA,nA]
  have hB:∃B:PH,H1.put bw (RwO wts lo hi ds n w c 0)=B/\B bw=some (RwO wts lo hi ds n w c 0)/\PH.le H1 (a1W B bw):=⟨_,rfl,PH.put_self _ _ _,fun k o hk=>by
   unfold a1W
   have e:k≠bw:=fun e=>by subst e;rw[hbw]at hk;cases hk
   rw[if_neg e,PH.put_ne _ _ e];exact hk⟩
  obtain⟨B,hBe,hBb,hBc⟩:=hB
  show den prog _ _ _ _ (H1.put bw (RwO wts lo hi ds n w c 0))
  rw[hBe]
  have l1c:=l1.trans hBc
  have l1B:=l1c.trans (a5L B bw)
  have hchB:Chn B n w wts es wl:=⟨hT.mono l1B,hw.mono l1B,hg,hwt.mono l1B,hbd.1,hbd.2.2.2.2.2⟩
  refine a1a ?_
  simp only[cA,nA]
  refine a0z a7J ?_
  simp only[cA,nA]
  refine a1D (vs:=[wts,ii lo,ii hi,ii ds,ii n,w]) c6T rfl rfl hBb rfl (show 0+0+6<=8 by omega) rfl ?_
  simp only[cA,nA]
  refine a0v (c1e (lo:=lo) (hi:=hi) (ds:=ds) hchB (hu.mono l1B)) rfl fun H2 l2=> ?_
  simp only[cA,nA]
  refine a0a ?_
  refine a0e (b:= !b2g n es wl lo hi ds p) rfl (fun g1=> ?_) (fun g1=> ?_)
  ·skip
   exact a0b (by show Value.tuple #[.slice none 0 0,.bool false,a0O prog _,ii 8]=_;rw[a3e]) ⟨l1B.trans l2,by rw[hF0,if_neg (by simpa using g1)];exact⟨by decide,rfl⟩⟩
  ·skip
   have hfit:b2g n es wl lo hi ds p=true:=by simpa using g1
   rw[if_pos hfit]at hF0
   obtain⟨f1,f2,f3,f4,f5⟩:=c4M hfit
   obtain⟨k,rfl⟩:∃k:Nat,ds=(k:Int):=⟨ds.toNat,by omega⟩
   rw[Int.toNat_natCast]at f5 hF0
   have hL8:LabOk p 8:=⟨fun x hx=>by have:=f4.1 x hx;omega,f4.2⟩
   refine a0f (b5L (hu.mono (l1B.trans l2)) hL8) rfl ?_
   rintro r10 H3 ⟨l3,z,rfl,hz⟩
   refine⟨fun h=>(nomatch h),?_⟩
   simp only[cA,nA]
   have hb2:=l2 _ _ hBb
   have hb3:=l3 _ _ hb2
   have hzc:=SO.cut (b:=bw) hz (by rw[hb2];exact fun h=>nomatch h)
   have hc3:PH.le H (a1W H3 bw):=fun j o hj=>by
    have h1:=l1c _ _ hj
    have e:j≠bw:=fun e=>by subst e;unfold a1W at h1;rw[if_pos rfl]at h1;cases h1
    unfold a1W at h1⊢
    rw[if_neg e]at h1⊢
    exact l3 _ _ (l2 _ _ h1)
   refine a0m ?_
   refine a0m ?_
   refine a0f (c8o hb3 ⟨hT.mono hc3,hw.mono hc3,hg,hwt.mono hc3,hbd.1,hbd.2.2.2.2.2⟩ hzc hn (by rw[a5a];exact f3) (by omega) (by omega) (b1X f4 f5) (a8P f4 f5) hc) rfl ?_
   rintro v11 H5 ⟨l5,c',e',hb5,hcase⟩
   refine⟨fun h=>(nomatch h),?_⟩
   simp only[cA,nA]
   refine a1a ?_
   simp only[cA,nA]
   refine a0z b3t ?_
   simp only[cA,nA]
   refine a0D a7y rfl rfl hb5 rfl rfl ?_
   simp only[cA,nA]
   refine a0a ?_
   refine a0o (p:=(e'≠0)) (bN0 e') (fun g2=> ?_) fun g2=> ?_
   ·refine a1a ?_
    simp only[cA,nA]
    refine a0z b3t ?_
    simp only[cA,nA]
    refine a0D a7y rfl rfl hb5 rfl rfl ?_
    simp only[cA,nA]
    have hR:=(hcase.resolve_right (fun h=>g2 h.1)).2
    exact a0b (by show Value.tuple #[.slice none 0 0,.bool false,a0O prog _,ii (e':Nat)]=_;rw[a3e]) ⟨hc3.trans l5,by rw[hF0,hR];exact⟨by omega,rfl⟩⟩
   ·obtain⟨-,hc',q',mv,hR,hq',hmv⟩:=hcase.resolve_left (fun h=>h.1 (by omega))
    refine a1a ?_
    simp only[cA,nA]
    refine a0z c4L ?_
    simp only[cA,nA]
    refine a1D (vs:=[uv c']) a4U rfl rfl hb5 rfl (show 0+6+1<=8 by omega) rfl ?_
    simp only[cA,nA]
    refine a0s (b0n (hzc.mono l5) hq') rfl ?_
    simp only[cA,nA]
    refine a0a ?_
    refine a0c (a0W c') ?_
    exact a0b rfl ⟨hc3.trans l5,by rw[hF0,hR];exact⟨hc',v11,by rw[hmv];rfl,hq'⟩⟩
theorem DraR.case {H':PH} {r:Value} {R:Nat ⊕ (List Int×Nat)} (h:DraR H' r R):∃v c e t,r= .tuple #[v,chV c,ii (e:Nat)]/\SI H' v t/\((e≠0/\R= .inl e/\c=0)\/(e=0/\∃tr,R= .inr (tr,c)/\c<M64/\t=a5M tr)):=by
 cases R with
 |inl e=>obtain⟨h1,h2⟩:=h;exact⟨_,0,e,[],h2,SE.nil _ _ _,.inl ⟨h1,rfl,rfl⟩⟩
 |inr p=>
  obtain⟨tr,c⟩:=p
  obtain⟨h1,v,h3,h4⟩:=h
  exact⟨v,c,0,a5M tr,h3,h4,.inr ⟨rfl,tr,rfl,h1,rfl⟩⟩
set_option maxHeartbeats 2000000 in
theorem a8T (hT:Tb H) (hw:SG H w es) (hg:GV n es) (hwt:SI H wts wl) (hu:SI H u p) (hn:n<=9) (hc:c<M64):Con prog 23 [gv n w,bv wts lo hi ds,u,chV c] H fun r H'=>PH.le H H'/\SteV H' r (a7K n es wl lo hi ds p c):=by
 refine a0j a0n c4D ?_
 have h64:n<=64:=by omega
 refine a0c (a0G hw) ?_
 refine a0c (a2L (a0T hwt) _ _ _) ?_
 refine a0c (a0W c) ?_
 refine a0s (b6w hw hg hwt) rfl ?_
 simp only[cA,nA]
 refine a0a ?_
 refine a0o (p:=(bdE n wl lo hi ds≠0)) (bN _ _) (fun h=> ?_) fun h=> ?_
 ·exact a0b (by show Value.tuple #[.slice none 0 0,.bool false,a0O prog _,ii (bdE n wl lo hi ds)]=_;rw[a3e]) ⟨PH.le.refl _,by unfold a7K;rw[if_pos h];exact⟨h,rfl⟩⟩
 ·have hb0:bdE n wl lo hi ds=0:=Classical.byContradiction h
  have hbd:=c8A hb0
  have hF0:a7K n es wl lo hi ds p c=if b2g n es wl lo hi ds p=true then stI (stP n es wl lo hi ds.toNat (canon p) c)else .inl 8:=by unfold a7K;rw[if_neg h]
  refine a0v (b3d (lo:=lo) (hi:=hi) (ds:=ds) hw hg hwt hbd.1 hbd.2.2.2.2.2 hu) rfl fun H1 l1=> ?_
  simp only[cA,nA]
  refine a0a ?_
  refine a0e (b:= !b2g n es wl lo hi ds p) rfl (fun g1=> ?_) (fun g1=> ?_)
  ·skip
   exact a0b (by show Value.tuple #[.slice none 0 0,.bool false,a0O prog _,ii 8]=_;rw[a3e]) ⟨l1,by rw[hF0,if_neg (by simpa using g1)];exact⟨by decide,rfl⟩⟩
  ·skip
   have hfit:b2g n es wl lo hi ds p=true:=by simpa using g1
   rw[if_pos hfit]at hF0
   obtain⟨f1,f2,f3,f4,f5⟩:=c4M hfit
   obtain⟨k,rfl⟩:∃k:Nat,ds=(k:Int):=⟨ds.toNat,by omega⟩
   rw[Int.toNat_natCast]at f5 hF0
   have hL8:LabOk p 8:=⟨fun x hx=>by have:=f4.1 x hx;omega,f4.2⟩
   have hL:=b1X f4 f5
   have hU:=a8P f4 f5
   have hql:(canon p).length=n:=by rw[a5a];exact f3
   have hk8:k<=8:=by omega
   have hLq8:LabOk (canon p) 8:=⟨fun x hx=>by have:=hL.1 x hx;omega,hL.2⟩
   refine a0f (a8S (hu.mono l1) hL8) rfl ?_
   rintro r6 H2 ⟨l2,z,rfl,hz⟩
   refine⟨fun h=>(nomatch h),?_⟩
   simp only[cA,nA]
   generalize canon p=q at*
   have k2:=l1.trans l2
   refine a0m ?_
   refine a0m ?_
   refine a0a ?_
   refine a0o (p:=(k=1)) (d5l (p:=k) (q:=1) rfl rfl) (fun g2=> ?_) fun g2=> ?_
   ·exact a0b rfl ⟨k2,by rw[hF0];unfold stP;rw[if_pos g2];exact⟨hc,z,rfl,hz⟩⟩
   ·refine a0f (b7a hk8) rfl ?_
    rintro v7 H3 ⟨l3,h7⟩
    refine⟨fun h=>(nomatch h),?_⟩
    simp only[cA,nA]
    refine a1C el_edge rfl rfl h7.se rfl ?_
    simp only[cA,nA]
    have hlen8:=c4o k hk8
    have hLp:0<(a2D k).length:=b5I ⟨k,by omega⟩ (by show 2<=k;omega)
    refine a0v (a3a (n:=(a2D k).length) hc (by omega)) rfl fun H4 l4=> ?_
    simp only[cA,nA]
    refine a0m ?_
    refine a0m ?_
    refine a0m ?_
    refine a0c (a0W _) ?_
    have hst0:stP n es wl lo hi k q c=if(a1m c (a2D k).length).2.2≠0 then .inl (a1m c (a2D k).length).2.2 else stA n es wl lo hi q ((a2D k).getD (a1m c (a2D k).length).1 (0,0)) (a1V q ((a2D k).getD (a1m c (a2D k).length).1 (0,0))) (a1m c (a2D k).length).2.1:=by unfold stP;rw[if_neg g2]
    have hc1:=a2B c (a2D k).length
    have hxL:=c4K (s:=c) hLp
    generalize a1m c (a2D k).length=B1 at*
    obtain⟨x1,c1,e1⟩:=B1
    simp only at*
    have k4:=(k2.trans l3).trans l4
    refine a0a ?_
    refine a0o (p:=(e1≠0)) (bN0 e1) (fun g3=> ?_) fun g3=> ?_
    ·exact a0b (by show Value.tuple #[.slice none 0 0,.bool false,a0O prog _,ii (e1:Nat)]=_;rw[a3e]) ⟨k4,by rw[hF0,hst0,if_pos g3];exact⟨by omega,rfl⟩⟩
    ·rw[if_neg g3]at hst0
     obtain⟨pr,hpr,_⟩:=a0q hxL
     have hgp:(a2D k).getD x1 (0,0)=pr:=by rw[List.getD_eq_getElem?_getD,hpr];rfl
     rw[hgp]at hst0
     have hprk:=b5H (List.mem_of_getElem? hpr)
     refine a0t el_edge (h7.se.mono l4) hpr fun _=> ?_
     simp only[cA,nA]
     refine a0s (b7e (pr:=pr) (hz.mono (l3.trans l4)) (by omega)) rfl ?_
     simp only[cA,nA]
     have hm1:=a6O q (pr.1:Nat) (m:=q.length) (by omega)
     have hm2:=a6O q (pr.2:Nat) (m:=q.length) (by omega)
     have hun:a1V q pr<2^n:=by unfold a1V a8f;rw[<-hql];exact Nat.or_lt_two_pow hm1 hm2
     have hun0:a1V q pr≠0:=fun e=>by
      have h1:bit (a1V q pr)=bit 0:=by rw[e]
      obtain⟨x,g1,_⟩:=a6N (a:=0) (b:=a8f q (pr.1:Nat)) (fun e=>hU pr.1 (by omega) e.symm) (fun y hy=>by rw[a0P]at hy;cases hy)
      have h2:=congrFun h1 x
      rw[a0P,a1V,a8O,g1]at h2;cases h2
     have hun':=a0V h64 hun
     refine a0v (a2V (hw.mono k4) hg hun) rfl fun H5 l5=> ?_
     simp only[cA,nA]
     have k5:=k4.trans l5
     refine a0a ?_
     refine a0e (b:= !cnB es (a1V q pr)) rfl (fun g4=> ?_) (fun g4=> ?_)
     ·skip
      exact a0b rfl ⟨k5,by rw[hF0,hst0];unfold stA;rw[if_neg (by simpa using g4)];exact⟨hc1,z,rfl,hz.mono ((l3.trans l4).trans l5)⟩⟩
     ·skip
      have hcn:cnB es (a1V q pr)=true:=by simpa using g4
      obtain⟨x0,r0,hel,hx0b,_,_⟩:=b1c hun' hun0
      have hx0n:=b3c hun hx0b
      have hcar0:1<=card (2^x0):=by
       have:=a4Y [x0] 0 (by simp) (fun y hy=>by obtain rfl:=List.mem_singleton.1 hy;exact⟨a0P _,by omega⟩)
       have e:orL 0 [x0]=2^x0:=by unfold orL;simp
       rw[e]at this;simp at this;omega
      refine a0f (b7n (hw.mono k5) hg hn hun0 hun hcn hc1 hel) rfl ?_
      rintro r14 H6 ⟨l6,hD⟩
      refine⟨fun h=>(nomatch h),?_⟩
      simp only[cA,nA]
      have k6:=k5.trans l6
      have hst1:stP n es wl lo hi k q c=match a2l es (a1V q pr) n n (2^x0) [] c1 10000 with| .inl e=> .inl e| .inr (tr,c2)=>stB n es wl lo hi q pr (a1V q pr) (a5M tr) c2:=by rw[hst0];unfold stA;rw[if_pos hcn,show(els (a1V q pr)).headD 64=x0 by rw[hel];rfl];rfl
      obtain⟨v14,c2,e2,t,rfl,ht,hcase⟩:=DraR.case hD
      refine a0m ?_
      refine a0m ?_
      refine a0m ?_
      refine a0c (a0W c2) ?_
      refine a0a ?_
      refine a0o (p:=(e2≠0)) (bN0 e2) (fun g5=> ?_) fun g5=> ?_
      ·have hR2:=(hcase.resolve_right (fun h=>g5 h.1)).2.1
       exact a0b (by show Value.tuple #[.slice none 0 0,.bool false,a0O prog _,ii (e2:Nat)]=_;rw[a3e]) ⟨k6,by rw[hF0,hst1,hR2];exact⟨by omega,rfl⟩⟩
      ·obtain⟨-,tr,hR2,hc2,rfl⟩:=hcase.resolve_left (fun h=>h.1 (by omega))
       have hst2:stP n es wl lo hi k q c=stB n es wl lo hi q pr (a1V q pr) (a5M tr) c2:=by rw[hst1,hR2]
       have htl:(a5M tr).length<=1000:=by have:=b2d hg h64 hun' n (2^x0) [] c1 10000 (Nat.le_refl _) (Nat.pow_lt_pow_right (by decide) hx0n) hcar0 hR2;rw[(a7w tr).1.length_eq];omega
       generalize a5M tr=t at*
       have hn1:=hg.n1
       refine a0a ?_
       refine a0v (a3a (n:=n-1) hc2 (by omega)) (a0F rfl (a3D (p:=n) rfl hn1 (by omega))) fun H7 l7=> ?_
       simp only[cA,nA]
       refine a0m ?_
       refine a0m ?_
       refine a0m ?_
       refine a0c (a0W _) ?_
       have hc3:=a2B c2 (n-1)
       unfold stB at hst2
       generalize a1m c2 (n-1)=B3 at*
       obtain⟨y,c3,e3⟩:=B3
       simp only at*
       have k7:=k6.trans l7
       refine a0a ?_
       refine a0o (p:=(e3≠0)) (bN0 e3) (fun g6=> ?_) fun g6=> ?_
       ·exact a0b (by show Value.tuple #[.slice none 0 0,.bool false,a0O prog _,ii (e3:Nat)]=_;rw[a3e]) ⟨k7,by rw[hF0,hst2,if_pos g6];exact⟨by omega,rfl⟩⟩
       ·rw[if_neg g6]at hst2
        have hch7:Chn H7 n w wts es wl:=⟨hT.mono k7,hw.mono k7,hg,hwt.mono k7,hbd.1,hbd.2.2.2.2.2⟩
        have ht7:=ht.mono l7
        refine a0f (b3s (lo:=lo) (hi:=hi) (ds:=(k:Nat)) hch7 ht7 ⟨hun0,hun⟩ htl) rfl ?_
        rintro v16 H8 ⟨l8,h16⟩
        refine⟨fun h=>(nomatch h),?_⟩
        simp only[cA,nA]
        have k8:=k7.trans l8
        have hz8:=hz.mono (((((l3.trans l4).trans l5).trans l6).trans l7).trans l8)
        refine a0p el_int h16 ?_
        simp only[cA,nA]
        refine a0a ?_
        refine a0a ?_
        refine a0e (b:=decide (((y:Nat):Int)≥((a7C es wl lo hi (a1V q pr) t t).length:Nat))) rfl (fun g7=> ?_) (fun g7=> ?_)
        ·replace g7:=of_decide_eq_true g7
         exact a0b rfl ⟨k8,by rw[hF0,hst2,if_pos (by omega)];exact⟨hc3,z,rfl,hz8⟩⟩
        ·replace g7:=of_decide_eq_false g7
         rw[if_neg (by omega)]at hst2
         obtain⟨kk,hkk,_⟩:=a0q (l:=a7C es wl lo hi (a1V q pr) t t) (i:=y) (by omega)
         have hgk:(a7C es wl lo hi (a1V q pr) t t).getD y 0=kk:=by rw[List.getD_eq_getElem?_getD,hkk];rfl
         have hkt:kk∈t:=(List.mem_filter.1 (List.mem_of_getElem? hkk)).1
         rw[hgk]at hst2
         refine a0t el_int h16 hkk fun _=> ?_
         simp only[cA,nA]
         refine a0v (a5N (k:=kk) (hw.mono k8) hg (ht7.mono l8) ⟨hun0,hun⟩ hkt) rfl fun H9 l9=> ?_
         simp only[cA,nA]
         have k9:=k8.trans l9
         obtain⟨hA,hBs⟩:=b5J (es:=es) (t:=t) h64 ⟨hun0,hun⟩ kk
         refine a0m ?_
         refine a0m ?_
         refine a0m ?_
         refine a0s (b7b (hw.mono k9) hg (a0V h64 hA) (a0V h64 hBs)) rfl ?_
         simp only[cA,nA]
         have hbl:a4c es (sdP es (a1V q pr) t kk).1 (sdP es (a1V q pr) t kk).2<=200:=Nat.le_trans (List.length_filter_le _ _) hg.len
         refine a0v (a3a (n:=a4c es (sdP es (a1V q pr) t kk).1 (sdP es (a1V q pr) t kk).2) hc3 (by omega)) rfl fun H10 l10=> ?_
         simp only[cA,nA]
         refine a0m ?_
         refine a0m ?_
         refine a0m ?_
         refine a0c (a0W _) ?_
         have k10:=k9.trans l10
         have hc4:=a2B c3 (a4c es (sdP es (a1V q pr) t kk).1 (sdP es (a1V q pr) t kk).2)
         unfold stC at hst2
         generalize a1m c3 (a4c es (sdP es (a1V q pr) t kk).1 (sdP es (a1V q pr) t kk).2)=B4 at*
         obtain⟨zz,c4,e4⟩:=B4
         simp only at*
         refine a0a ?_
         refine a0o (p:=(e4≠0)) (bN0 e4) (fun g8=> ?_) fun g8=> ?_
         ·exact a0b (by show Value.tuple #[.slice none 0 0,.bool false,a0O prog _,ii (e4:Nat)]=_;rw[a3e]) ⟨k10,by rw[hF0,hst2,if_pos g8];exact⟨by omega,rfl⟩⟩
         ·rw[if_neg g8]at hst2
          have hz10:=hz8.mono (l9.trans l10)
          refine a0a ?_
          refine a0o (p:=(zz≠0)) (bN0 zz) (fun g9=> ?_) fun g9=> ?_
          ·exact a0b rfl ⟨k10,by rw[hF0,hst2,if_pos g9];exact⟨hc4,z,rfl,hz10⟩⟩
          ·rw[if_neg g9]at hst2
           refine a0I el_edge rfl rfl rfl rfl (fun _=>rfl) (h7.se.mono ((((((l4.trans l5).trans l6).trans l7).trans l8).trans l9).trans l10)) hpr rfl (fun _=>rfl) fun _=> ?_
           simp only[cA,nA]
           refine a0f (b7d hz10 hLq8 (by omega) (by omega) (a0V h64 hA)) rfl ?_
           rintro v25 H11 ⟨l11,h25⟩
           refine⟨fun h=>(nomatch h),?_⟩
           simp only[cA,nA]
           refine a0s (b7c (hz10.mono l11) h25) rfl ?_
           simp only[cA,nA]
           refine a0a ?_
           exact a0b rfl ⟨k10.trans l11,by rw[hF0,hst2];exact⟨hc4,v25,rfl,h25⟩⟩
end
end Go.Proofs.YtkcjbfoejpfbbaaGreatDoor
/- Chapter 32: the law RecomSteps returns true. -/
namespace Go.Proofs.YtkcjbfoejpfbbaaGreatDoor
open Go.Proofs.Tryz
open Go.RowKit Go.RX Go.GS
section
variable {H:PH} {n c:Nat} {w:Value} {es:List (Nat×Nat)}
def qOf:Int ⊕ (List Int×Bool×Nat)->List Int| .inl _=>[]| .inr x=>x.1
def d8G:Int ⊕ (List Int×Bool×Nat)->Bool| .inl _=>false| .inr x=>x.2.1
def cOf:Int ⊕ (List Int×Bool×Nat)->Nat| .inl _=>0| .inr x=>x.2.2
def eOf:Int ⊕ (List Int×Bool×Nat)->Int| .inl e=>e| .inr _=>0
theorem SteV.view {H:PH} {r:Value} {R:Int ⊕ (List Int×Bool×Nat)} (h:SteV H r R):∃v,r= .tuple #[v,.bool (d8G R),chV (cOf R),ii (eOf R)]/\SI H v (qOf R)/\cOf R<M64:=by
 cases R with
 |inl e=>exact⟨_,h.2,SE.nil _ _ _,a2s⟩
 |inr x=>obtain⟨q,mv,c⟩:=x;obtain⟨h1,v,h2,h3⟩:=h;exact⟨v,h2,h3,h1⟩
theorem d2x {s wv cu:Value} {more:List (Nat×Nat)} {wl0 cuts:List Nat} {da db dc dk s0 s1 tr bw ba:Nat} {bz:Int} (hT:Tb H) (hwork:a3Z prog 7 [] H (.bool true)) (hs:SE H 2 bc s more) (hwv:SE H 1 c8 wv wl0) (hcu:SE H 1 c8 cu cuts) (hc256:∀c∈cuts,c<256) (htr:tr<256) (hba:ba<256) (hc:c<M64):
  Con prog 4 [cv da db dc s wv cu dk s0 s1 tr,bn bw ba bz,chV c] H fun r H'=>PH.le H H'/\r= .bool true:=by
 refine a0j a0n d5j ?_
 refine a0c (c9n (a0T hs) (a0T hwv) (a0T hcu) _ _ _ _ _ _ _) ?_
 refine a0c ⟨rfl,fun c hc=>by rw[show D prog _ _=bn bw ba bz from rfl,bn,a1F]at hc;simp only[List.mem_cons,List.not_mem_nil,or_false]at hc;rcases hc with rfl|rfl|rfl<;>rfl⟩ ?_
 refine a0c (a0W c) ?_
 refine a0v (hwork) rfl fun H1 l1=> ?_
 simp only[cA,nA]
 refine a0a ?_
 refine a0l rfl ?_
 refine a0f (b6V (hs.mono l1) (hwv.mono l1) (hcu.mono l1) hc256 htr) rfl ?_
 rintro v4 H2 ⟨l2,n,w,es,wts,wl,lo,hi,k,u,p,rfl,hw,hg,hn9,hC,hwt,hwl,hk1,hk4,hu,hpl,hp8⟩
 refine⟨fun h=>(nomatch h),?_⟩
 simp only[cA,nA]
 have hn1:=hg.n1
 refine a0m ?_
 refine a0m ?_
 refine a0m ?_
 refine a0c (a0G hw) ?_
 refine a0c (a2L (a0T hwt) _ _ _) ?_
 refine a0f (c7C (x:=bw) (z:=bz) hba hw hg hwt hu (by omega) (by omega) (by omega) (by omega)) rfl ?_
 rintro v5 H3 ⟨l3,w',es',wts',wl',lo',hi',k',u',p',rfl,hw',hg',hwt',hu',hwl',hpl'⟩
 refine⟨fun h=>(nomatch h),?_⟩
 simp only[cA,nA]
 refine a0m ?_
 refine a0m ?_
 refine a0m ?_
 refine a0c (a0G hw') ?_
 refine a0c (a2L (a0T hwt') _ _ _) ?_
 have l13:=(l1.trans l2).trans l3
 refine a0f (b2e (hT.mono l13) hw' hg' hwt' hu' hn9 hc) rfl ?_
 rintro v6 H4 ⟨l4,hS⟩
 refine⟨fun h=>(nomatch h),?_⟩
 simp only[cA,nA]
 have k4:=l13.trans l4
 have hR:∃R,a7K n es' wl' lo' hi' k' p' c=R:=⟨_,rfl⟩
 obtain⟨R,hR⟩:=hR
 rw[hR]at hS
 obtain⟨a6,rfl,h6,hc6⟩:=SteV.view hS
 refine a0m ?_
 refine a0m ?_
 refine a0m ?_
 refine a0m ?_
 refine a0c (a0W _) ?_
 refine a0f (a8T (hT.mono k4) (hw'.mono l4) hg' (hwt'.mono l4) (hu'.mono l4) hn9 hc) rfl ?_
 rintro v7 H5 ⟨l5,hS7⟩
 refine⟨fun h=>(nomatch h),?_⟩
 simp only[cA,nA]
 rw[hR]at hS7
 obtain⟨a7,rfl,h7,_⟩:=SteV.view hS7
 refine a0m ?_
 refine a0m ?_
 refine a0m ?_
 refine a0m ?_
 refine a0c (a0W _) ?_
 refine a0s (b0n (h6.mono l5) h7) rfl ?_
 simp only[cA,nA]
 refine a0a ?_
 refine a0l (by show Value.bool (!decide True)=_;rfl) ?_
 refine a0a ?_
 refine a0a ?_
 refine a0l (d4N rfl rfl) ?_
 refine a0u (c9t rfl rfl rfl hc6 hc6) rfl ?_
 simp only[cA,nA]
 refine a0a ?_
 refine a0l (by show Value.bool (!decide True)=_;rfl) ?_
 refine a0a ?_
 refine a0a ?_
 refine a0l (c9o rfl rfl) ?_
 have k5:=k4.trans l5
 have l35:=(l3.trans l4).trans l5
 refine a0i (α:=Nat×List Int×Nat×Value) (fun⟨i,p2,c2,u2⟩=>[.bool false,u2,ii (i:Nat),chV c2]) (fun⟨i,p2,c2,u2⟩=>fun H'=>i<=6/\c2<M64/\PH.le H5 H'/\SI H' u2 p2) (fun⟨i,p2,c2,u2⟩=>6-i) ((0,p,c,u)) rfl (⟨Nat.zero_le _,hc,PH.le.refl _,hu.mono l35⟩) fun⟨i,p2,c2,u2⟩ H' hQ=> ?_
 simp only[cA,nA]
 obtain⟨hi6,hc2,l6,hu2⟩:=hQ
 have l26:=l35.trans l6
 have k6:=k5.trans l6
 refine a0a ?_
 refine a0e (b:=decide (((i:Nat):Int)<6)) rfl (fun h6i=> ?_) (fun h6i=> ?_)
 ·replace h6i:=of_decide_eq_true h6i
  refine a0f (b2e (hT.mono k6) (hw.mono l26) hg (hwt.mono l26) hu2 hn9 hc2) rfl ?_
  rintro v14 H7 ⟨l7,hS2⟩
  refine⟨fun h=>(nomatch h),?_⟩
  simp only[cA,nA]
  have hR2:∃R,a7K n es wl lo hi (k:Nat) p2 c2=R:=⟨_,rfl⟩
  obtain⟨R2,hR2⟩:=hR2
  rw[hR2]at hS2
  have k7:=k6.trans l7
  obtain⟨a14,rfl,h14,hc14⟩:=SteV.view hS2
  refine a0m ?_
  refine a0m ?_
  refine a0m ?_
  refine a0m ?_
  refine a0c (a0W _) ?_
  refine a0f (a8T (hT.mono k7) ((hw.mono l26).mono l7) hg ((hwt.mono l26).mono l7) (hu2.mono l7) hn9 hc2) rfl ?_
  rintro v15 H8 ⟨l8,hS15⟩
  refine⟨fun h=>(nomatch h),?_⟩
  simp only[cA,nA]
  rw[hR2]at hS15
  obtain⟨a15,rfl,h15,_⟩:=SteV.view hS15
  refine a0m ?_
  refine a0m ?_
  refine a0m ?_
  refine a0m ?_
  refine a0c (a0W _) ?_
  refine a0s (b0n (h14.mono l8) h15) rfl ?_
  simp only[cA,nA]
  refine a0a ?_
  refine a0l (by show Value.bool (!decide True)=_;rfl) ?_
  refine a0a ?_
  refine a0a ?_
  refine a0l (d4N rfl rfl) ?_
  refine a0u (c9t rfl rfl rfl hc14 hc14) rfl ?_
  simp only[cA,nA]
  refine a0a ?_
  refine a0l (by show Value.bool (!decide True)=_;rfl) ?_
  refine a0a ?_
  refine a0a ?_
  refine a0l (c9o rfl rfl) ?_
  refine a0o (p:=(eOf R2≠0)) (bN _ _) (fun h9=> ?_) fun h9=> ?_
  ·exact a0b rfl ⟨k7.trans l8,rfl⟩
  ·exact⟨(i+1,qOf R2,cOf R2,a15),by show 6-(i+1)<6-i;omega,(c8z rfl rfl (a0k rfl (by omega)) rfl),⟨by show i+1<=6;omega,hc14,(l6.trans l7).trans l8,h15⟩⟩
 ·replace h6i:=of_decide_eq_false h6i
  exact a0b rfl ⟨k6,rfl⟩
end
end Go.Proofs.YtkcjbfoejpfbbaaGreatDoor

/- Chapter 32: the walk of odds. -/
import Derived.Test.YtmannekkmdockaaGreatDoorGzC
namespace Go.GS
def a2h (p:List Int) (pr:Nat×Nat) (a:Nat):List Int:=a0x (a2C p (pr.1:Nat) (pr.2:Nat) a)
def unP (p:List Int) (pr:Nat×Nat):Nat:=a0o p (pr.1:Nat)|||a0o p (pr.2:Nat)
end Go.GS
namespace Go.Proofs.YtmannekkmdockaaGreatDoor
open Go.Proofs.Tryz
open Go.RowKit Go.RX Go.GS Go.RZ
open Go.WD (BP a1E wd rs toI HM sgI Rb)
set_option maxRecDepth 100000
noncomputable def c3J (es:List (Nat×Nat)) (n m S:Nat):Rat:=((tN es S:Int):Rat)*((((n-1)*m:Nat):Int):Rat)
noncomputable def a4z (es:List (Nat×Nat)) (wl:List Int) (lo hi:Int) (n m:Nat) (p:List Int) (pr:Nat×Nat) (L:List (List Int×Rat)) (a:Nat):List (List Int×Rat):=
 if alB es wl lo hi a=true/\alB es wl lo hi (sdf (unP p pr) a)=true/\a0r p≠a0r (a2h p pr a)then a6Q L (a0r (a2h p pr a)) ((((tN es a:Int):Rat)*((tN es (sdf (unP p pr) a):Int):Rat))/c3J es n m (unP p pr))else L
noncomputable def a3G (es:List (Nat×Nat)) (wl:List Int) (lo hi:Int) (n m:Nat) (p:List Int) (L:List (List Int×Rat)) (pr:Nat×Nat):List (List Int×Rat):=
 if tN es (unP p pr)=0 then L else(a1z (unP p pr)).foldl (a4z es wl lo hi n m p pr) L
noncomputable def a1J (es:List (Nat×Nat)) (wl:List Int) (lo hi:Int) (n k:Nat) (p:List Int):List (List Int×Rat):=(a0A k).foldl (a3G es wl lo hi n (a0A k).length p) []
def MR (B H:PH) (m:Value) (L:List (List Int×Rat)):Prop:=∃V,MKO okK kV B H m V/\V.map (·.1)=L.map (·.1)/\∀k v q,(k,v)∈V->(k,q)∈L->Rp H v q
theorem MR.mono {B H H':PH} {m:Value} {L:List (List Int×Rat)} (h:MR B H m L) (hl:PH.le H H'):MR B H' m L:=by
 obtain⟨V,h1,h2,h3⟩:=h
 exact⟨V,h1.mono hl,h2,fun k v q a b=>(h3 k v q a b).mono hl⟩
theorem c2O {H:PH} {v:Value} {q:Rat} {r c:Nat} {E:Array MapEntry} {ob:Obj} (hr:H r=some (.map E c)) (h:Rp H v q):Rp (H.put r ob) v q:=by
 obtain⟨w1,w2,rfl,⟨l1,h1,h2⟩,⟨l2,h3,h4⟩⟩:=h
 exact⟨w1,w2,rfl,⟨l1,⟨c2F hr h1.1,h1.2⟩,h2⟩,⟨l2,⟨c2F hr h3.1,h3.2⟩,h4⟩⟩
theorem c6Q {p:List Int} (hl:p.length<=64):∀z∈a0x p,0<=z/\z<9223372036854775808:=fun z hz=>by
 rw[a5E]at hz
 obtain⟨y,hy,rfl⟩:=List.mem_map.1 hz
 have h1:=List.idxOf_lt_length_of_mem ((a2a p [] y).2 (.inr hy))
 have h2:=List.Nodup.length_le_of_subset (a3o p [] List.nodup_nil) (l₂:=p) fun x hx=>((a2a p [] x).1 hx).resolve_left (by simp)
 omega
theorem c2P {α:Type} {H:PH} {r sz:Nat} {ce:α->List Value} {v:Value} {l:List α} (hr:∃E c,H r=some (.map E c)) (h:SE H sz ce v l):SE (a1B H r) sz ce v l:=by
 obtain⟨E,c,hr⟩:=hr
 obtain⟨h1,a,c',h2,h3,h4,h5⟩:=h
 refine⟨h1,a,c',h2,h3,h4,h5.imp id ?_⟩
 rintro⟨b,o,cs,T,fz,g1,g2,g3⟩
 exact⟨b,o,cs,T,fz,g1,by unfold a1B;rw[if_neg (fun e=>by subst e;rw[hr]at g2;cases g2)];exact g2,g3⟩
theorem d1Z {B H:PH} {r:Nat} {V:List (List Int×Value)} (h:MKO okK kV B H (.map (some r)) V):MKO okK kV (a1B H r) H (.map (some r)) V:=by
 obtain⟨r',es,c,h1,_,h3⟩:=h
 obtain rfl:r=r':=by injection h1 with h1;injection h1
 exact⟨r,es,c,rfl,a5B _ _,h3⟩
theorem MR.put {B H:PH} {r:Nat} {V:List (List Int×Value)} {L:List (List Int×Rat)} {k:List Int} {v:Value} {q:Rat} {ob:Obj} {E:Array MapEntry} {c:Nat} (hr:H r=some (.map E c)) (h2:V.map (·.1)=L.map (·.1)) (h3:∀k v q,(k,v)∈V->(k,q)∈L->Rp H v q) (hq:Rp H v q) (hm:MKO okK kV B (H.put r ob) (.map (some r)) (a6Q V k v)):MR B (H.put r ob) (.map (some r)) (a6Q L k q):=by
 refine⟨a6Q V k v,hm,c2H h2 k v q,fun k' v' q' h4 h5=>c2O hr ?_⟩
 rcases a5H h4 with⟨rfl,rfl⟩|⟨h6,h7⟩
 ·rcases a5H h5 with⟨_,rfl⟩|⟨h8,_⟩
  ·exact hq
  ·exact absurd rfl h8
 ·rcases a5H h5 with⟨h8,_⟩|⟨_,h9⟩
  ·exact absurd h8 h6
  ·exact h3 _ _ _ h7 h9
theorem d2a {B0 B H:PH} {m:Value} {L:List (List Int×Rat)} (h:MR B H m L) (hl:PH.le B0 B):MR B0 H m L:=by
 obtain⟨V,⟨r,es,c,h1,h4,h2⟩,h3⟩:=h
 refine⟨V,⟨r,es,c,h1,?_,h2⟩,h3⟩
 cases e:B0 r with
 |none=>rfl
 |some o=>rw[hl _ _ e]at h4;cases h4
theorem a6q:prog.underlying 107=some (.map 112 118):=by kernel_rfl
theorem b6N {p:List Int} {k d:Nat} (h:d<k):(masks p k)[d]? =some (a0o p (d:Nat)):=a8p p p.length h
section
variable {H:PH} {u w wts:Value} {p wl:List Int} {n k:Nat} {es:List (Nat×Nat)} {lo hi:Int}
theorem d2b {S:Nat} (hg:GV n es) (hn:n<=12) (h:S<2^n):Rb 160 ((tN es S:Int):Rat):=by
 have h1:=d1Y hg hn h
 have h2:=c2N es S
 refine⟨?_,by show 1<2^160;decide⟩
 show(tN es S).natAbs<2^160
 have:(BP 5:Nat)=2^160:=by unfold BP;rfl
 omega
theorem d5B {m:Nat} (h:m<2^16):Rb 16 (((m:Nat):Int):Rat):=⟨by show((m:Nat):Int).natAbs<2^16;omega,by show 1<2^16;decide⟩
theorem c6R (hc:Chn H n w wts es wl) (hu:SI H u p) (hn:n<=12) (hkn:k<=n) (hpl:p.length=n) (hk1:1<=k) (hk8:k<=8) (hL:LabOk p (k:Nat)) (hU:a3B p k):
  Con prog 89 [chv wts lo hi (k:Nat) n w,u] H fun r H'=>PH.le H H'/\MR H H' r (a1J es wl lo hi n k p):=by
 refine a0b mixed d0P (by kernel_rfl) rfl ?_
 have huc:=hu.cells
 have hL8:LabOk p 8:=⟨fun x hx=>by have:=hL.1 x hx;omega,hL.2⟩
 have hpz:∀z∈p,0<=z/\z<9223372036854775808:=fun z hz=>by have:=hL.1 z hz;omega
 have hn64:=hc.ok.n64
 have hlenD:(a0A k).length<=64:=by have:=b1x k k;have:k*k<=8*8:=Nat.mul_le_mul hk8 hk8;unfold a0A;omega
 refine a0a (a6h (a0z hc.wt) (a0z hc.gr) _ _ _ _) ?_
 refine a0a hu.one ?_
 refine a0l (c2J (ok:=okK) (ke:=kV) b3b rfl) rfl ?_
 rintro v2 H1 ⟨l1,o1⟩
 refine⟨fun h=>(nomatch h),?_⟩
 simp only[cA,nA]
 obtain⟨r,rfl⟩:∃r,v2= .map (some r):=by obtain⟨r,_,_,h,_⟩:=o1;exact⟨r,h⟩
 refine a0a ⟨rfl,fun c hc=>by simp[D,Value.cells]at hc;subst hc;rfl⟩ ?_
 refine a0d (b1f (hu.mono l1) k hk1 hk8 hL hU) (a1s (a6g rfl huc) rfl) ?_
 rintro _ H2 ⟨l2,z,rfl,hz⟩
 refine⟨fun h=>(nomatch h),?_⟩
 simp only[cA,nA]
 refine a0a ⟨_,rfl,by simp⟩ ?_
 refine a0a ⟨_,rfl,by simp⟩ ?_
 refine a0d (c6F hk8) rfl ?_
 rintro v4 H3 ⟨l3,h4⟩
 refine⟨fun h=>(nomatch h),?_⟩
 simp only[cA,nA]
 have hr3:∃E c,H3 r=some (.map E c):=by obtain⟨r',es',c',h,_,h2,_⟩:=(o1.mono (l2.trans l3));injection h with h;injection h with h;subst h;exact⟨_,_,h2⟩
 have hHr:H r=none:=by obtain⟨r',es',c',h,h2,_⟩:=o1;injection h with h;injection h with h;subst h;exact h2
 have hz3:SU (a1B H3 r) z (masks p k):=c2P hr3 (hz.mono l3)
 have h43:SE (a1B H3 r) 2 ec v4 (a0A k):=c2P hr3 h4.se
 have hHB:PH.le H (a1B H3 r):=fun b ob hb=>by unfold a1B;rw[if_neg (fun e=>by subst e;rw[hHr]at hb;cases hb)];exact(l1.trans (l2.trans l3)) _ _ hb
 have o3:MR (a1B H3 r) H3 (.map (some r)) []:=⟨[],d1Z (o1.mono (l2.trans l3)),rfl,fun k v q h=>by cases h⟩
 have hB3:PH.le (a1B H3 r) H3:=b2N H3 r
 generalize hBe:a1B H3 r=B at hz3 h43 hHB o3 hB3
 have hcB:=hc.mono hHB
 have huB:=hu.mono hHB
 refine a0h el_edge rfl rfl (h43.mono hB3) rfl ?_
 refine a0k (α:=Nat) (fun i=>[ii (i:Nat)]) (fun i=>fun H'=>i<=(a0A k).length/\PH.le B H'/\MR B H' (.map (some r)) (((a0A k).take i).foldl (a3G es wl lo hi n (a0A k).length p) [])) (fun i=>(a0A k).length-i) (0) rfl (⟨Nat.zero_le _,hB3,o3⟩) fun i H5 ⟨hi5,b5,m5⟩=> ?_
 simp only[cA,nA]
 refine a0a ⟨_,rfl⟩ ?_
 refine a0a ⟨_,rfl⟩ ?_
 refine a0e (b:=decide (((i:Nat):Int)<((a0A k).length:Nat))) rfl (fun h=> ?_) (fun h=> ?_)
 ·replace h:=of_decide_eq_true h
  have hi':i<(a0A k).length:=by omega
  obtain⟨pr,hpr,_⟩:=a0B hi'
  have hpk:=a5F (List.mem_of_getElem? hpr)
  refine a0i el_edge rfl rfl rfl rfl (fun _=>rfl) (h43.mono b5) hpr rfl (fun _=>rfl) fun _=> ?_
  simp only[cA,nA]
  have hA2:a0o p (pr.1:Nat)<2^n:=by rw[<-hpl];exact a5w p _ (by omega)
  have hB2:a0o p (pr.2:Nat)<2^n:=by rw[<-hpl];exact a5w p _ (by omega)
  have hAM:a0o p (pr.1:Nat)<M64:=a1g hn64 hA2
  have hBM:a0o p (pr.2:Nat)<M64:=a1g hn64 hB2
  have hS2:unP p pr<2^n:=Nat.or_lt_two_pow hA2 hB2
  have hSM:unP p pr<M64:=a1g hn64 hS2
  have hS0:unP p pr≠0:=fun e=>hU pr.1 (by omega) (by unfold unP at e;exact(Nat.or_eq_zero_iff.1 e).1)
  refine a0a (el_edge.vcells pr) ?_
  refine a0i el_u64 rfl rfl rfl rfl (fun _=>rfl) (hz3.mono b5) (b6N (by omega)) rfl (fun _=>rfl) fun _=> ?_
  simp only[cA,nA]
  refine a0i el_u64 rfl rfl rfl rfl (fun _=>rfl) (hz3.mono b5) (b6N (by omega)) rfl (fun _=>rfl) fun _=> ?_
  simp only[cA,nA]
  have hDS:∀ρ:List Value,D prog ρ (.v 10)=GS.uv (a0o p (pr.1:Nat))->D prog ρ (.v 12)=GS.uv (a0o p (pr.2:Nat))->D prog ρ (.op2 .or .u64 (.v 10) (.v 12))=GS.uv (unP p pr):=fun ρ h1 h2=>a9G h1 h2 hAM hBM
  refine a0a ⟨_,rfl⟩ ?_
  refine a0a ⟨_,rfl⟩ ?_
  refine a0d (b1A (lo:=lo) (hi:=hi) (ds:=(k:Nat)) (hcB.gr.mono b5) (a0z hcB.wt) hc.ok hn ⟨hS0,hS2⟩ (hcB.tb.mono b5)) (a1s rfl (hDS _ rfl rfl)) ?_
  rintro v13 H6 ⟨l6,q13⟩
  refine⟨fun h=>(nomatch h),?_⟩
  simp only[cA,nA]
  refine a0a q13.rq ?_
  obtain⟨w13,w13',hv13,hl13,-⟩:=q13.out
  subst hv13
  refine a0d (a3g hl13) rfl ?_
  rintro _ _ ⟨rfl,rfl⟩
  refine⟨fun h=>(nomatch h),?_⟩
  simp only[cA,nA]
  have htk:((a0A k).take (i+1)).foldl (a3G es wl lo hi n (a0A k).length p) []=a3G es wl lo hi n (a0A k).length p (((a0A k).take i).foldl (a3G es wl lo hi n (a0A k).length p) []) pr:=by rw[take_snoc hpr,List.foldl_append];rfl
  refine a0a ⟨_,rfl⟩ ?_
  refine a0e (b:=(sgI (tN es (unP p pr)) 0==0)) rfl (fun hz0=> ?_) (fun hz0=> ?_)
  ·skip
   have hz0:=sgI_zeroG.1 hz0
   exact⟨i+1,by omega,(a3K (a0w rfl (by omega))),⟨hi',b5.trans l6,by rw[htk,show a3G es wl lo hi n (a0A k).length p (((a0A k).take i).foldl (a3G es wl lo hi n (a0A k).length p) []) pr=((a0A k).take i).foldl (a3G es wl lo hi n (a0A k).length p) []from if_pos hz0];exact m5.mono l6⟩⟩
  ·skip
   have hz0:tN es (unP p pr)≠0:=fun e=>by rw[sgI_zeroG.2 e]at hz0;cases hz0
   have b6:=b5.trans l6
   refine a0a ⟨_,rfl⟩ ?_
   refine a0h el_edge rfl rfl (h43.mono b6) rfl ?_
   simp only[cA,nA]
   have hnk:2<=n:=by omega
   have hml:(n-1)*(a0A k).length<=11*64:=Nat.mul_le_mul (by omega) hlenD
   refine a0a ⟨_,rfl⟩ ?_
   refine a0d (a6p (((n-1)*(a0A k).length:Nat):Int) (by omega) (by omega)) (a3K (c8h (a:=n-1) (b:=(a0A k).length) (d5o rfl (by omega) (by omega)) rfl (by omega))) ?_
   rintro v16 H7 ⟨l7,q16⟩
   refine⟨(fun _=>l7),?_⟩
   simp only[cA,nA]
   have rS:=d2b hc.ok hn hS2
   have rm:=d5B (m:=(n-1)*(a0A k).length) (by omega)
   refine a0d (a4V (q13.mono l7) q16 rS rm (by omega)) rfl ?_
   rintro v17 H8 ⟨l8,q17⟩
   refine⟨(fun _=>l8),?_⟩
   simp only[cA,nA]
   refine a0a q17.rq ?_
   obtain⟨w17,w17',hv17,-,-⟩:=q17.out
   have hu0:c3J es n (a0A k).length (unP p pr)≠0:=by
    unfold c3J
    have h1:((tN es (unP p pr):Int):Rat)≠0:=fun e=>hz0 (by exact_mod_cast e)
    have h2:((((n-1)*(a0A k).length:Nat):Int):Rat)≠0:=fun e=>by
     have h3:(((n-1)*(a0A k).length:Nat):Int)=0:=by exact_mod_cast e
     have h4:0<(n-1)*(a0A k).length:=Nat.mul_pos (by omega) (by omega)
     omega
    exact fun e=>(Rat.mul_eq_zero.1 e).elim h1 h2
   have b8:=b6.trans (l7.trans l8)
   have m8:=m5.mono (l6.trans (l7.trans l8))
   have rU:Rb 176 (c3J es n (a0A k).length (unP p pr)):=rS.mul rm (by omega)
   refine a0d (c6P (H:=H8) (s:=unP p pr)) (a3K (hDS _ rfl rfl)) ?_
   rintro _ _ ⟨bp,hbp,rfl,rfl⟩
   refine⟨fun h=>(nomatch h),?_⟩
   simp only[cA,nA]
   refine b5G (X:=H8) (K:=a6U bp (unP p pr)) (Ro:=B) (fun pre vals X'=>PH.le B X'/\vals=[]/\MR B X' (.map (some r)) (((a1z (unP p pr)).take pre.length).foldl (a4z es wl lo hi n (a0A k).length p pr) (((a0A k).take i).foldl (a3G es wl lo hi n (a0A k).length p) []))/\Rp X' v17 (c3J es n (a0A k).length (unP p pr))) (fun _ _ _=>False) (c1s hSM) c1q (a8k _ hbp) rfl (fun _ _ _ h=>h.1) ⟨b8,rfl,m8,q17⟩ ?_ ?_ ?_
   ·rintro pre xs vals X2 ⟨a,ha,rfl⟩ _ ⟨x2,rfl,m2,q2⟩
    refine⟨rfl,?_⟩
    simp only[cA,nA]
    have hap:=List.mem_of_getElem? ha
    obtain⟨⟨a0,a2⟩,s0,s2⟩:=a8F hS2 hn64 hS0 hap
    have haM:=a1g hn64 a2
    have hst:((a1z (unP p pr)).take (pre.length+1)).foldl (a4z es wl lo hi n (a0A k).length p pr) (((a0A k).take i).foldl (a3G es wl lo hi n (a0A k).length p) [])=a4z es wl lo hi n (a0A k).length p pr (((a1z (unP p pr)).take pre.length).foldl (a4z es wl lo hi n (a0A k).length p pr) (((a0A k).take i).foldl (a3G es wl lo hi n (a0A k).length p) [])) a:=by rw[take_snoc ha,List.foldl_append];rfl
    generalize hL0:((a1z (unP p pr)).take pre.length).foldl (a4z es wl lo hi n (a0A k).length p pr) (((a0A k).take i).foldl (a3G es wl lo hi n (a0A k).length p) [])=L0 at m2 hst
    refine a0d (c6G (i:=pr.1) (k:=pr.2) (huB.mono x2) hL8 (by omega) (by omega) haM) (d3a (a6g rfl huc) rfl rfl rfl) ?_
    rintro v20 X3 ⟨l3',q20⟩
    refine⟨fun h=>(nomatch h),?_⟩
    simp only[cA,nA]
    have hql:(a2h p pr a).length=n:=by unfold a2h;rw[a0Q,a1t];exact hpl
    have hqz:=c6Q (p:=a2C p (pr.1:Nat) (pr.2:Nat) a) (by rw[a1t];omega)
    refine a0n (a4a (hcB.mono (x2.trans l3')) a2) rfl fun X4 l4'=> ?_
    simp only[cA,nA]
    refine a0a ⟨_,rfl⟩ ?_
    refine a0e (b:=alB es wl lo hi a) rfl (fun ha1=> ?_) (fun ha1=> ?_)
    ·skip
     refine a0a ⟨_,rfl⟩ ?_
     refine a0n (a4a (hcB.mono (x2.trans (l3'.trans l4'))) s2) (a1s rfl (a9H (hDS _ rfl rfl) rfl hSM haM)) fun X5 l5'=> ?_
     simp only[cA,nA]
     have l35:=l3'.trans (l4'.trans l5')
     refine a0a ⟨_,rfl⟩ ?_
     refine a0e (b:=alB es wl lo hi (sdf (unP p pr) a)) rfl (fun ha2=> ?_) (fun ha2=> ?_)
     ·skip
      refine a0d (a4w (huB.mono (x2.trans l35)) (by omega)) (a3K (a6g rfl huc)) ?_
      rintro _ X6 ⟨l6',rfl⟩
      refine⟨fun h=>(nomatch h),?_⟩
      simp only[cA,nA]
      have q20':SI X6 v20 (a2h p pr a):=q20.mono (l4'.trans (l5'.trans l6'))
      refine a0d (a4w q20' (by omega)) rfl ?_
      rintro _ X7 ⟨l7',rfl⟩
      refine⟨fun h=>(nomatch h),?_⟩
      simp only[cA,nA]
      refine a0g (d5A (vs:=[kV (a0r p),kV (a0r (a2h p pr a))]) b1g rfl rfl (b3c (by omega) hpz) (b3c (by omega) hqz)) rfl ?_
      simp only[cA,nA]
      refine a0a ⟨_,rfl⟩ ?_
      refine a0e (b:= !decide (a0r p=a0r (a2h p pr a))) rfl (fun ha3=> ?_) (fun ha3=> ?_)
      ·skip
       refine a0d (a4w (q20'.mono l7') (by omega)) rfl ?_
       rintro _ X8 ⟨l8',rfl⟩
       refine⟨(fun _=>l8'),?_⟩
       simp only[cA,nA]
       have l38:=l35.trans (l6'.trans (l7'.trans l8'))
       refine a0d (b1A (lo:=lo) (hi:=hi) (ds:=(k:Nat)) (hcB.gr.mono (x2.trans l38)) (a0z hcB.wt) hc.ok hn ⟨a0,a2⟩ (hcB.tb.mono (x2.trans l38))) rfl ?_
       rintro v27 X9 ⟨l9',q27⟩
       refine⟨(fun _=>l9'),?_⟩
       simp only[cA,nA]
       refine a0d (b1A (lo:=lo) (hi:=hi) (ds:=(k:Nat)) (hcB.gr.mono (x2.trans (l38.trans l9'))) (a0z hcB.wt) hc.ok hn ⟨s0,s2⟩ (hcB.tb.mono (x2.trans (l38.trans l9')))) (a1s rfl (a9H (hDS _ rfl rfl) rfl hSM haM)) ?_
       rintro v28 Xa ⟨la',q28⟩
       refine⟨(fun _=>la'),?_⟩
       simp only[cA,nA]
       have ra:=d2b hc.ok hn a2
       have rb:=d2b hc.ok hn s2
       refine a0d (a4V (q27.mono la') q28 ra rb (by omega)) rfl ?_
       rintro v29 Xb ⟨lb',q29⟩
       refine⟨(fun _=>lb'),?_⟩
       simp only[cA,nA]
       have l3b:=l38.trans (l9'.trans (la'.trans lb'))
       refine a0d (b7O q29 (q2.mono l3b) (ra.mul rb (m:=320) (by omega)) rU (by omega) hu0) (a1s rfl (a9V q2)) ?_
       rintro v30 Xc ⟨lc',q30⟩
       refine⟨(fun _=>lc'),?_⟩
       simp only[cA,nA]
       have l3c:=l3b.trans lc'
       obtain⟨V,mV,kVe,rV⟩:=m2.mono l3c
       refine a0l (b6L b3b (k:=a0r (a2h p pr a)) (v:=v30) (vs:=[.map (some r),kV (a0r (a2h p pr a)),v30]) rfl rfl rfl rfl a6q (b3c (by omega) hqz) (x2.trans l3c) mV) rfl ?_
       rintro _ _ ⟨rfl,b9,m9,g,ob,E,cc,hmg,-,hgm,rfl⟩
       refine⟨fun h=>(nomatch h),?_⟩
       simp only[cA,nA]
       obtain rfl:r=g:=by injection hmg with hmg;injection hmg
       exact⟨b9,rfl,by rw[List.length_append,List.length_singleton,hst];unfold a4z;rw[if_pos ⟨ha1,ha2,by simpa using ha3⟩];exact MR.put hgm kVe rV q30 m9,c2O hgm (q2.mono l3c)⟩
      ·skip
       exact⟨x2.trans (l35.trans (l6'.trans l7')),rfl,by rw[List.length_append,List.length_singleton,hst];unfold a4z;rw[if_neg (fun h=>h.2.2 (by simpa using ha3))];exact m2.mono (l35.trans (l6'.trans l7')),q2.mono (l35.trans (l6'.trans l7'))⟩
     ·skip
      exact⟨x2.trans l35,rfl,by rw[List.length_append,List.length_singleton,hst];unfold a4z;rw[if_neg (fun h=>by rw[h.2.1]at ha2;cases ha2)];exact m2.mono l35,q2.mono l35⟩
    ·skip
     exact⟨x2.trans (l3'.trans l4'),rfl,by rw[List.length_append,List.length_singleton,hst];unfold a4z;rw[if_neg (fun h=>by rw[h.1]at ha1;cases ha1)];exact m2.mono (l3'.trans l4'),q2.mono (l3'.trans l4')⟩
   ·rintro xs vals X2 K2 hxl hd _ ⟨x2,rfl,m2,q2⟩
    simp only[cA,nA]
    have hle:=PH.le_or X2 K2
    rw[List.take_of_length_le (show(a1z (unP p pr)).length<=xs.length by omega)]at m2
    exact⟨i+1,by omega,(a3K (a0w rfl (by omega))),⟨hi',x2.trans hle,by rw[htk];unfold a3G;rw[if_neg hz0];exact m2.mono hle⟩⟩
   ·exact fun _ _ _ _ _ _ _ h=>h.elim
 ·replace h:=of_decide_eq_false h
  have hie:i=(a0A k).length:=by omega
  rw[List.take_of_length_le (show(a0A k).length<=i by omega)]at m5
  exact a0c rfl ⟨hHB.trans b5,d2a m5 hHB⟩
end
end Go.Proofs.YtmannekkmdockaaGreatDoor
/- Chapter 32: probabilities: fractions, bounds, sums. -/
namespace Go.GS
def Qd (D B:Nat) (r:Rat):Prop:=∃A:Int,r=(A:Rat)/((D:Int):Rat)/\A.natAbs<=B
theorem Qd.sub {D B C:Nat} {r s:Rat} (h1:Qd D B r) (h2:Qd D C s):Qd D (B+C) (r-s):=by
 obtain⟨a,rfl,ha⟩:=h1
 obtain⟨b,rfl,hb⟩:=h2
 refine⟨a-b,?_,by omega⟩
 rw[Rat.intCast_sub];grind
theorem Qd.add {D B C:Nat} {r s:Rat} (h1:Qd D B r) (h2:Qd D C s):Qd D (B+C) (r+s):=by
 obtain⟨a,rfl,ha⟩:=h1
 obtain⟨b,rfl,hb⟩:=h2
 refine⟨a+b,?_,by omega⟩
 rw[Rat.intCast_add];grind
theorem Qd.le {D B C:Nat} {r:Rat} (h:Qd D B r) (hBC:B<=C):Qd D C r:=by
 obtain⟨a,h1,h2⟩:=h;exact⟨a,h1,by omega⟩
theorem Qd.zero (D:Nat):Qd D 0 0:=⟨0,by rw[Rat.div_def];show(0:Rat)=0*_;rw[Rat.zero_mul],by simp⟩
theorem Qd.one {D:Nat} (h:D≠0):Qd D D 1:=⟨(D:Int),by rw[Rat.div_def,Rat.mul_inv_cancel];exact_mod_cast h,by simp⟩
def sQ:List Rat->Rat
 |[]=>0
 |a::l=>a+sQ l
theorem c2Q (l m:List Rat):sQ (l++m)=sQ l+sQ m:=by
 induction l with
 |nil=>simp[sQ,Rat.zero_add]
 |cons a l ih=>simp only[List.cons_append,sQ,ih,Rat.add_assoc]
theorem c6S {D B:Nat}:∀{l:List Rat},(∀q∈l,Qd D B q)->Qd D (l.length*B) (sQ l)
 |[],_=>by simpa[sQ]using Qd.zero D
 |a::l,h=>by
  simp only[sQ,List.length_cons]
  exact((h a (by simp)).add (c6S fun q hq=>h q (by simp[hq]))).le (by rw[Nat.succ_mul];omega)
end Go.GS
namespace Go.Proofs.YtmannekkmdockaaGreatDoor
open Go.Proofs.Tryz
open Go.RowKit Go.RX Go.GS Go.RZ
open Go.WD (BP a1E wd rs toI HM sgI Rb)
set_option maxRecDepth 100000
theorem d2c {D B k:Nat} {r:Rat} (h:Qd D B r) (hD:D≠0) (hk:D<2^k) (hB:B<2^k):Rb k r:=by
 obtain⟨a,rfl,ha⟩:=h
 rw[<-Rat.divInt_eq_div]
 exact Go.WD.low_bound (by omega) (by omega) (by omega)
theorem a4h {α β:Type} {f:β->α->β} {Q:β->Prop}:∀{l:List α} {b:β},(∀b x,x∈l->Q b->Q (f b x))->Q b->Q (l.foldl f b)
 |[],_,_,h=>h
 |x::l,b,hs,h=>by
  rw[List.foldl_cons]
  exact a4h (fun b y hy=>hs b y (by simp[hy])) (hs b x (by simp) h)
theorem a8G {α β:Type} {f:List β->α->List β} {m:Nat}:∀{l:List α} {b:List β},(∀b x,x∈l->(f b x).length<=b.length+m)->(l.foldl f b).length<=b.length+l.length*m
 |[],_,_=>by simp
 |x::l,b,hs=>by
  rw[List.foldl_cons]
  have h1:=a8G (f:=f) (m:=m) (l:=l) (b:=f b x) (fun b y hy=>hs b y (List.mem_cons_of_mem _ hy))
  have h2:=hs b x (by simp)
  rw[List.length_cons,Nat.succ_mul];omega
theorem b6O {κ β:Type} (L:List (κ×β)) (k:κ) (v:β):(a6Q L k v).length<=L.length+1:=by
 unfold a6Q;split<;>simp
open Classical in
theorem c2R {κ β:Type} {L:List (κ×β)} (h:(L.map (·.1)).Nodup) (k:κ) (v:β):((a6Q L k v).map (·.1)).Nodup:=by
 unfold a6Q
 split
 ·rw[show(L.map fun p=>if p.1=k then(k,v)else p).map (·.1)=L.map (·.1)from by
   rw[List.map_map]
   refine List.map_congr_left fun p _=> ?_
   simp only[Function.comp]
   split
   ·rename_i e;exact e.symm
   ·rfl]
  exact h
 ·rename_i hk
  rw[List.map_append,List.nodup_append]
  refine⟨h,by simp,fun a ha b hb=> ?_⟩
  simp only[List.map_cons,List.map_nil,List.mem_singleton]at hb
  subst hb;intro e;subst e;exact hk ha
theorem b6P {rest least:Nat}:∀{n part:Nat},(b6f rest least n part).length<=n
 |0,_=>Nat.le_refl _
 |n+1,part=>by
  unfold b6f
  split
  ·simp
  ·simp only[List.length_cons];have:=b6P (rest:=rest) (least:=least) (n:=n) (part:=(part-1)&&&rest);omega
theorem c2S {S n:Nat} (h:S<2^n):(a1z S).length<=2^n:=by
 unfold a1z
 refine Nat.le_trans b6P ?_
 have:sdf S (a1c S)<2^n:=a8u h fun x hx=>by rw[a0p]at hx;simp at hx;exact hx.1
 omega
section
variable {es:List (Nat×Nat)} {wl:List Int} {lo hi:Int} {n k:Nat} {p:List Int}
structure Frc (es:List (Nat×Nat)) (wl:List Int) (lo hi:Int) (n k:Nat) (p:List Int) (x:List Int×Rat):Prop where
 ex:∃pr∈a0A k,∃a∈a1z (unP p pr),tN es (unP p pr)≠0/\alB es wl lo hi a=true/\alB es wl lo hi (sdf (unP p pr) a)=true/\a0r p≠a0r (a2h p pr a)/\x.1=a0r (a2h p pr a)/\x.2=(((tN es a:Int):Rat)*((tN es (sdf (unP p pr) a):Int):Rat))/c3J es n (a0A k).length (unP p pr)
theorem a7m:∀x∈a1J es wl lo hi n k p,Frc es wl lo hi n k p x:=by
 unfold a1J
 refine a4h (Q:=fun L=>∀x∈L,Frc es wl lo hi n k p x) (fun L pr hpr hL=> ?_) (fun x hx=>by cases hx)
 unfold a3G
 split
 ·exact hL
 ·rename_i h0
  refine a4h (Q:=fun L=>∀x∈L,Frc es wl lo hi n k p x) (fun L a ha hL=> ?_) hL
  unfold a4z
  split
  ·rename_i hc
   intro x hx
   obtain⟨x1,x2⟩:=x
   rcases a5H hx with⟨rfl,rfl⟩|⟨_,h⟩
   ·exact⟨pr,hpr,a,ha,h0,hc.1,hc.2.1,hc.2.2,rfl,rfl⟩
   ·exact hL _ h
  ·exact hL
theorem b4G:((a1J es wl lo hi n k p).map (·.1)).Nodup:=by
 unfold a1J
 refine a4h (b:=([]:List (List Int×Rat))) (Q:=fun L:List (List Int×Rat)=>(L.map (·.1)).Nodup) (fun L pr hpr hL=> ?_) List.nodup_nil
 unfold a3G
 split
 ·exact hL
 ·refine a4h (Q:=fun L:List (List Int×Rat)=>(L.map (·.1)).Nodup) (fun L a ha hL=> ?_) hL
  unfold a4z
  split
  ·exact c2R hL _ _
  ·exact hL
theorem b6Q (hU:∀pr∈a0A k,unP p pr<2^n):(a1J es wl lo hi n k p).length<=(a0A k).length*2^n:=by
 unfold a1J
 have:=a8G (f:=a3G es wl lo hi n (a0A k).length p) (l:=a0A k) (b:=[]) (m:=2^n) fun L pr hpr=>by
  unfold a3G
  split
  ·exact Nat.le_add_right _ _
  ·refine Nat.le_trans (a8G (f:=a4z es wl lo hi n (a0A k).length p pr) (l:=a1z (unP p pr)) (b:=L) (m:=1) fun L a ha=> ?_) ?_
   ·unfold a4z
    split
    ·exact b6O _ _ _
    ·omega
   ·have h2:=c2S (hU pr hpr)
    omega
 simpa using this
end
noncomputable def b8p (es:List (Nat×Nat)) (n m:Nat) (p:List Int) (pr:Nat×Nat):Nat:=if tN es (unP p pr)=0 then 1 else(tN es (unP p pr)).natAbs*((n-1)*m)
noncomputable def a6r (es:List (Nat×Nat)) (n m:Nat) (p:List Int):List (Nat×Nat)->Nat
 |[]=>1
 |pr::l=>b8p es n m p pr*a6r es n m p l
section
variable {es:List (Nat×Nat)} {n m:Nat} {p:List Int}
theorem b6R:∀{l:List (Nat×Nat)} {pr:Nat×Nat},pr∈l->b8p es n m p pr ∣ a6r es n m p l
 |x::l,pr,h=>by
  rcases List.mem_cons.1 h with rfl|h
  ·exact⟨_,rfl⟩
  ·exact Nat.dvd_trans (b6R h) ⟨b8p es n m p x,by simp only[a6r];rw[Nat.mul_comm]⟩
theorem a5I (h:0<(n-1)*m):∀l:List (Nat×Nat),0<a6r es n m p l
 |[]=>by simp[a6r]
 |x::l=>by
  simp only[a6r]
  refine Nat.mul_pos ?_ (a5I h l)
  unfold b8p
  split
  ·decide
  ·exact Nat.mul_pos (by omega) h
theorem c2T {K:Nat} (h:∀pr,b8p es n m p pr<=2^K):∀l:List (Nat×Nat),a6r es n m p l<=2^(K*l.length)
 |[]=>by simp[a6r]
 |x::l=>by
  simp only[a6r,List.length_cons]
  rw[Nat.mul_succ,Nat.pow_add,Nat.mul_comm (2^(K*l.length))]
  exact Nat.mul_le_mul (h x) (c2T h l)
end
end Go.Proofs.YtmannekkmdockaaGreatDoor

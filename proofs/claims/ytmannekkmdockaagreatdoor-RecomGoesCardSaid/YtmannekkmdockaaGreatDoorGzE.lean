/- Chapter 32: the walk of odds. -/
import Derived.Test.YtmannekkmdockaaGreatDoorGzC
open List renaming foldl_append->fO,foldl_cons->eP,length_append->aJ,length_cons->bA,length_singleton->cJ,mem_of_getElem?->aI,nodup_nil->dO,take_of_length_le->aK
open List.Nodup renaming length_le_of_subset->iT
open Nat renaming le_trans->aS,mul_comm->cE,mul_le_mul->cI,mul_pos->fK,succ_mul->mQ
set_option maxRecDepth 100000
namespace Go.GS
def Bl (p:List Int) (pr:Nat×Nat) (a:Nat):List Int:=n8 (Bj p (pr.1:Nat) (pr.2:Nat) a)
def unP (p:List Int) (pr:Nat×Nat):Nat:=j5 p (pr.1:Nat)|||j5 p (pr.2:Nat)
end Go.GS
namespace Go.Proofs.Z
open Go.Proofs.Tryz
open Go.RowKit Go.RX Go.GS Go.RZ
open Go.WD (BP Bf wd rs toI HM sgI Rb)
noncomputable def Ks (es:List (Nat×Nat)) (n m S:Nat):Rat:=((tN es S:Int):Rat)*((((n-1)*m:Nat):Int):Rat)
noncomputable def Gj (es:List (Nat×Nat)) (wl:List Int) (lo hi:Int) (n m:Nat) (p:List Int) (pr:Nat×Nat) (L:List (List Int×Rat)) (a:Nat):List (List Int×Rat):=
 if alB es wl lo hi a=true/\alB es wl lo hi (sdf (unP p pr) a)=true/\m7 p≠m7 (Bl p pr a)then Df L (m7 (Bl p pr a)) ((((tN es a:Int):Rat)*((tN es (sdf (unP p pr) a):Int):Rat))/Ks es n m (unP p pr))else L
noncomputable def Et (es:List (Nat×Nat)) (wl:List Int) (lo hi:Int) (n m:Nat) (p:List Int) (L:List (List Int×Rat)) (pr:Nat×Nat):List (List Int×Rat):=
 if tN es (unP p pr)=0 then L else(Bd (unP p pr)).foldl (Gj es wl lo hi n m p pr) L
noncomputable def Bt (es:List (Nat×Nat)) (wl:List Int) (lo hi:Int) (n k:Nat) (p:List Int):List (List Int×Rat):=(i7 k).foldl (Et es wl lo hi n (i7 k).length p) []
def MR (B H:PH) (m:Value) (L:List (List Int×Rat)):Prop:=∃V,MKO okK kV B H m V/\V.map (·.1)=L.map (·.1)/\∀k v q,(k,v)∈V->(k,q)∈L->Rp H v q
theorem MR.mono {B H H':PH} {m:Value} {L:List (List Int×Rat)} (h:MR B H m L) (hl:PH.le H H'):MR B H' m L:=by
 obtain⟨V,h1,h2,h3⟩:=h;exact⟨V,h1.mono hl,h2,fun k v q a b=>(h3 k v q a b).mono hl⟩
theorem QT {H:PH} {v:Value} {q:Rat} {r c:Nat} {E:Array MapEntry} {ob:Obj} (hr:H r=some (.map E c)) (h:Rp H v q):Rp (H.put r ob) v q:=by
 obtain⟨w1,w2,rfl,⟨l1,h1,h2⟩,⟨l2,h3,h4⟩⟩:=h;exact⟨w1,w2,rfl,⟨l1,⟨QI hr h1.1,h1.2⟩,h2⟩,⟨l2,⟨QI hr h3.1,h3.2⟩,h4⟩⟩
theorem c8R {p:List Int} (hl:p.length<=64):∀z∈n8 p,0<=z/\z<9223372036854775808:=fun z hz=>by
 rw[ah]at hz;obtain⟨y,hy,rfl⟩:=List.mem_map.1 hz;have h1:=List.idxOf_lt_length_of_mem ((Kp p [] y).2 (.inr hy));have h2:=iT (af p [] dO) (l₂:=p) fun x hx=>((Kp p [] x).1 hx).resolve_left (by simp);omega
theorem QU {α:Type} {H:PH} {r sz:Nat} {ce:α->List Value} {v:Value} {l:List α} (hr:∃E c,H r=some (.map E c)) (h:SE H sz ce v l):SE (j1 H r) sz ce v l:=by
 obtain⟨E,c,hr⟩:=hr;obtain⟨h1,a,c',h2,h3,h4,h5⟩:=h;refine⟨h1,a,c',h2,h3,h4,h5.imp id ?_⟩;rintro⟨b,o,cs,T,fz,g1,g2,g3⟩;exact⟨b,o,cs,T,fz,g1,by unfold j1;rw[if_neg (fun e=>by subst e;rw[hr]at g2;cases g2)];exact g2,g3⟩
theorem d4Q {B H:PH} {r:Nat} {V:List (List Int×Value)} (h:MKO okK kV B H (.map (some r)) V):MKO okK kV (j1 H r) H (.map (some r)) V:=by
 obtain⟨r',es,c,h1,_,h3⟩:=h;obtain rfl:r=r':=by injection h1 with h1;injection h1
 exact⟨r,es,c,rfl,ku _ _,h3⟩
theorem MR.put {B H:PH} {r:Nat} {V:List (List Int×Value)} {L:List (List Int×Rat)} {k:List Int} {v:Value} {q:Rat} {ob:Obj} {E:Array MapEntry} {c:Nat} (hr:H r=some (.map E c)) (h2:V.map (·.1)=L.map (·.1)) (h3:∀k v q,(k,v)∈V->(k,q)∈L->Rp H v q) (hq:Rp H v q) (hm:MKO okK kV B (H.put r ob) (.map (some r)) (Df V k v)):MR B (H.put r ob) (.map (some r)) (Df L k q):=by
 refine⟨Df V k v,hm,c4b h2 k v q,fun k' v' q' h4 h5=>QT hr ?_⟩;rcases ap h4 with⟨rfl,rfl⟩|⟨h6,h7⟩
 ·rcases ap h5 with⟨_,rfl⟩|⟨h8,_⟩
  ·exact hq
  ·exact absurd rfl h8
 ·rcases ap h5 with⟨h8,_⟩|⟨_,h9⟩
  ·exact absurd h8 h6
  ·exact h3 _ _ _ h7 h9
theorem d4R {B0 B H:PH} {m:Value} {L:List (List Int×Rat)} (h:MR B H m L) (hl:PH.le B0 B):MR B0 H m L:=by
 obtain⟨V,⟨r,es,c,h1,h4,h2⟩,h3⟩:=h;refine⟨V,⟨r,es,c,h1,?_,h2⟩,h3⟩;cases e:B0 r with
 |none=>rfl
 |some o=>rw[hl _ _ e]at h4;cases h4
theorem Ws:prog.underlying 107=some (.map 112 118):=by kernel_rfl
theorem QV {p:List Int} {k d:Nat} (h:d<k):(masks p k)[d]? =some (j5 p (d:Nat)):=Rw p p.length h
section
variable {H:PH} {u w wts:Value} {p wl:List Int} {n k:Nat} {es:List (Nat×Nat)} {lo hi:Int}
theorem AT {S:Nat} (hg:GV n es) (hn:n<=12) (h:S<2^n):Rb 160 ((tN es S:Int):Rat):=by
 have h1:=AO hg hn h;have h2:=av es S;refine⟨?_,by show 1<2^160;decide⟩;show(tN es S).natAbs<2^160;have:(BP 5:Nat)=2^160:=by unfold BP;rfl
 omega
theorem d8p {m:Nat} (h:m<2^16):Rb 16 (((m:Nat):Int):Rat):=⟨by show((m:Nat):Int).natAbs<2^16;omega,by show 1<2^16;decide⟩
set_option maxHeartbeats 1000000 in
theorem c8S (hc:Chn H n w wts es wl) (hu:SI H u p) (hn:n<=12) (rQ:k<=n) (qN:p.length=n) (tH:1<=k) (uN:k<=8) (hL:LabOk p (k:Nat)) (hU:Ak p k):
  Con prog 89 [chv wts lo hi (k:Nat) n w,u] H fun r H'=>PH.le H H'/\MR H H' r (Bt es wl lo hi n k p):=by
 refine j3 mixed d3C ?_;have huc:=hu.cells;have hL8:LabOk p 8:=⟨fun x hx=>by have:=hL.1 x hx;omega,hL.2⟩;have hpz:∀z∈p,0<=z/\z<9223372036854775808:=fun z hz=>by have:=hL.1 z hz;omega
 have uI:=hc.ok.n64;have a3n:(i7 k).length<=64:=by have:=lu k k;have:k*k<=8*8:=cI uN uN;unfold i7;omega
 refine d9 (Pe (Af hc.wt) (Af hc.gr) _ _ _ _) ?_;refine d9 hu.one ?_;refine r4 (c4d (ok:=okK) (ke:=kV) ar rfl) rfl ?_;rintro v2 H1 ⟨l1,o1⟩;refine nmI ?_;obtain⟨r,rfl⟩:∃r,v2= .map (some r):=by obtain⟨r,_,_,h,_⟩:=o1;exact⟨r,h⟩
 refine d9 ⟨rfl,fun c hc=>by simp[D,Value.cells]at hc;subst hc;rfl⟩ ?_;refine i6 (yb (hu.mono l1) k tH uN hL hU) (j4 (Ov rfl huc) rfl) ?_;rintro _ H2 ⟨l2,z,rfl,hz⟩;refine nmI ?_;refine i8 (i8 ?_);refine i6 (AB uN) rfl ?_;rintro v4 H3 ⟨l3,h4⟩;refine nmI ?_;have hr3:∃E c,H3 r=some (.map E c):=by obtain⟨r',es',c',h,_,h2,_⟩:=(o1.mono (l2.trans l3));injection h with h;injection h with h;subst h;exact⟨_,_,h2⟩
 have hHr:H r=none:=by obtain⟨r',es',c',h,h2,_⟩:=o1;injection h with h;injection h with h;subst h;exact h2
 have hz3:SU (j1 H3 r) z (masks p k):=QU hr3 (hz.mono l3);have h43:SE (j1 H3 r) 2 ec v4 (i7 k):=QU hr3 h4.se;have hHB:PH.le H (j1 H3 r):=fun b ob hb=>by unfold j1;rw[if_neg (fun e=>by subst e;rw[hHr]at hb;cases hb)];exact(l1.trans (l2.trans l3)) _ _ hb
 have o3:MR (j1 H3 r) H3 (.map (some r)) []:=⟨[],d4Q (o1.mono (l2.trans l3)),rfl,fun k v q h=>by cases h⟩;have hB3:PH.le (j1 H3 r) H3:=Jb H3 r;generalize hBe:j1 H3 r=B at hz3 h43 hHB o3 hB3;have zT:=hc.mono hHB;have huB:=hu.mono hHB;refine j7 el_edge (h43.mono hB3) ?_;refine s9 (α:=Nat) (fun i=>[ii (i:Nat)]) (fun i=>fun H'=>i<=(i7 k).length/\PH.le B H'/\MR B H' (.map (some r)) (((i7 k).take i).foldl (Et es wl lo hi n (i7 k).length p) [])) (fun i=>(i7 k).length-i) (0) rfl (⟨Nat.zero_le _,hB3,o3⟩) fun i H5 ⟨hi5,b5,m5⟩=> ?_;refine d4 (d4 ?_);refine i0 (b:=decide (((i:Nat):Int)<((i7 k).length:Nat))) rfl (fun h=> ?_) (fun h=> ?_)
 ·replace h:=oDt h;have pW:i<(i7 k).length:=by omega
  obtain⟨pr,qT,_⟩:=t7 pW;have yJ:=Ta (aI qT);refine j8 el_edge (h43.mono b5) qT fun _=> ?_;have hA2:j5 p (pr.1:Nat)<2^n:=by rw[<-qN];exact Ox p _ (by omega)
  have hB2:j5 p (pr.2:Nat)<2^n:=by rw[<-qN];exact Ox p _ (by omega)
  have hAM:j5 p (pr.1:Nat)<M64:=Ci uI hA2;have hBM:j5 p (pr.2:Nat)<M64:=Ci uI hB2;have hS2:unP p pr<2^n:=Nat.or_lt_two_pow hA2 hB2;have hSM:unP p pr<M64:=Ci uI hS2;have hS0:unP p pr≠0:=fun e=>hU pr.1 (by omega) (by unfold unP at e;exact(Nat.or_eq_zero_iff.1 e).1);refine d9 (el_edge.vcells pr) ?_;refine j8 el_u64 (hz3.mono b5) (QV (d:=pr.1) (by omega)) fun _=> ?_;refine j8 el_u64 (hz3.mono b5) (QV (d:=pr.2) (by omega)) fun _=> ?_;have hDS:∀ρ:List Value,D prog ρ (.v 10)=GS.uv (j5 p (pr.1:Nat))->D prog ρ (.v 12)=GS.uv (j5 p (pr.2:Nat))->D prog ρ (.op2 .or .u64 (.v 10) (.v 12))=GS.uv (unP p pr):=fun ρ h1 h2=>Cb h1 h2 hAM hBM;simp only[cA,nA];refine d4 (d4 ?_);refine i6 (AP (lo:=lo) (hi:=hi) (ds:=(k:Nat)) (zT.gr.mono b5) (Af zT.wt) hc.ok hn ⟨hS0,hS2⟩ (zT.tb.mono b5)) (j4 rfl (hDS _ rfl rfl)) ?_;rintro v13 H6 ⟨l6,q13⟩;refine nmI ?_;refine d9 q13.rq ?_;obtain⟨w13,w13',a6h,a6i,-⟩:=q13.out;subst a6h;refine i6 (Ut a6i) rfl ?_;rintro _ _ ⟨rfl,rfl⟩;refine nmI ?_;have zA:((i7 k).take (i+1)).foldl (Et es wl lo hi n (i7 k).length p) []=Et es wl lo hi n (i7 k).length p (((i7 k).take i).foldl (Et es wl lo hi n (i7 k).length p) []) pr:=by rw[take_snoc qT,fO];rfl
  simp only[cA,nA];refine d4 ?_;refine i0 (b:=(sgI (tN es (unP p pr)) 0==0)) rfl (fun uO=> ?_) (fun uO=> ?_)
  ·skip
   have uO:=sgI_zeroG.1 uO;exact⟨i+1,by omega,(z8 (i9 rfl (by omega))),⟨pW,b5.trans l6,by rw[zA,show Et es wl lo hi n (i7 k).length p (((i7 k).take i).foldl (Et es wl lo hi n (i7 k).length p) []) pr=((i7 k).take i).foldl (Et es wl lo hi n (i7 k).length p) []from if_pos uO];exact m5.mono l6⟩⟩
  ·skip
   have uO:tN es (unP p pr)≠0:=fun e=>by rw[sgI_zeroG.2 e]at uO;cases uO
   have b6:=b5.trans l6;refine d4 ?_;refine j7 el_edge (h43.mono b6) ?_;have hnk:2<=n:=by omega
   simp only[cA,nA];have hml:(n-1)*(i7 k).length<=11*64:=cI (by omega) a3n;refine d4 ?_;refine i6 (AQ (((n-1)*(i7 k).length:Nat):Int) (by omega) (by omega)) (z8 (PN (a:=n-1) (b:=(i7 k).length) (PY rfl (by omega) (by omega)) rfl (by omega))) ?_;rintro v16 H7 ⟨l7,q16⟩;refine⟨(fun _=>l7),?_⟩;have rS:=AT hc.ok hn hS2;have rm:=d8p (m:=(n-1)*(i7 k).length) (by omega);simp only[cA,nA];refine i6 (IX (q13.mono l7) q16 rS rm (by omega)) rfl ?_;rintro v17 H8 ⟨l8,q17⟩;refine⟨(fun _=>l8),?_⟩;refine d9 q17.rq ?_;obtain⟨w17,w17',a7j,-,-⟩:=q17.out;have hu0:Ks es n (i7 k).length (unP p pr)≠0:=by
    unfold Ks;have h1:((tN es (unP p pr):Int):Rat)≠0:=fun e=>uO (by exact_mod_cast e);have h2:((((n-1)*(i7 k).length:Nat):Int):Rat)≠0:=fun e=>by
     have h3:(((n-1)*(i7 k).length:Nat):Int)=0:=by exact_mod_cast e
     have h4:0<(n-1)*(i7 k).length:=fK (by omega) (by omega);omega
    exact fun e=>(Rat.mul_eq_zero.1 e).elim h1 h2
   have b8:=b6.trans (l7.trans l8);have m8:=m5.mono (l6.trans (l7.trans l8));have rU:Rb 176 (Ks es n (i7 k).length (unP p pr)):=rS.mul rm (by omega);simp only[cA,nA];refine i6 (c8Q (H:=H8) (s:=unP p pr)) (z8 (hDS _ rfl rfl)) ?_;rintro _ _ ⟨bp,hbp,rfl,rfl⟩;refine nmI ?_;refine Uy (X:=H8) (K:=Dh bp (unP p pr)) (Ro:=B) (fun pre vals X'=>PH.le B X'/\vals=[]/\MR B X' (.map (some r)) (((Bd (unP p pr)).take pre.length).foldl (Gj es wl lo hi n (i7 k).length p pr) (((i7 k).take i).foldl (Et es wl lo hi n (i7 k).length p) []))/\Rp X' v17 (Ks es n (i7 k).length (unP p pr))) (fun _ _ _=>False) (c2M hSM) c2K (xa _ hbp) rfl (fun _ _ _ h=>h.1) ⟨b8,rfl,m8,q17⟩ ?_ ?_ ?_
   ·rintro pre xs vals X2 ⟨a,ha,rfl⟩ _ ⟨x2,rfl,m2,q2⟩;refine⟨rfl,?_⟩;have qX:=aI ha;obtain⟨⟨a0,a2⟩,s0,s2⟩:=ax hS2 uI hS0 qX;have haM:=Ci uI a2;have qA:((Bd (unP p pr)).take (pre.length+1)).foldl (Gj es wl lo hi n (i7 k).length p pr) (((i7 k).take i).foldl (Et es wl lo hi n (i7 k).length p) [])=Gj es wl lo hi n (i7 k).length p pr (((Bd (unP p pr)).take pre.length).foldl (Gj es wl lo hi n (i7 k).length p pr) (((i7 k).take i).foldl (Et es wl lo hi n (i7 k).length p) [])) a:=by rw[take_snoc ha,fO];rfl
    generalize hL0:((Bd (unP p pr)).take pre.length).foldl (Gj es wl lo hi n (i7 k).length p pr) (((i7 k).take i).foldl (Et es wl lo hi n (i7 k).length p) [])=L0 at m2 qA;simp only[cA,nA];refine i6 (PX (i:=pr.1) (k:=pr.2) (huB.mono x2) hL8 (by omega) (by omega) haM) (Ot (Ov rfl huc) rfl rfl rfl) ?_;rintro v20 X3 ⟨l3',q20⟩;refine nmI ?_;have hql:(Bl p pr a).length=n:=by unfold Bl;rw[Ft,Jj];exact qN
    have hqz:=c8R (p:=Bj p (pr.1:Nat) (pr.2:Nat) a) (by rw[Jj];omega);refine x9 (Ry (zT.mono (x2.trans l3')) a2) rfl fun X4 l4'=> ?_;refine d4 ?_;refine i0 (b:=alB es wl lo hi a) rfl (fun ha1=> ?_) (fun ha1=> ?_)
    ·skip
     simp only[cA,nA];refine d4 ?_;refine x9 (Ry (zT.mono (x2.trans (l3'.trans l4'))) s2) (j4 rfl (Rk (hDS _ rfl rfl) rfl hSM haM)) fun X5 l5'=> ?_;have l35:=l3'.trans (l4'.trans l5');refine d4 ?_;refine i0 (b:=alB es wl lo hi (sdf (unP p pr) a)) rfl (fun rX=> ?_) (fun rX=> ?_)
     ·skip
      simp only[cA,nA];refine i6 (Wp (huB.mono (x2.trans l35)) (by omega)) (z8 (Ov rfl huc)) ?_;rintro _ X6 ⟨l6',rfl⟩;refine nmI ?_;have q20':SI X6 v20 (Bl p pr a):=q20.mono (l4'.trans (l5'.trans l6'));simp only[cA,nA];refine i6 (Wp q20' (by omega)) rfl ?_;rintro _ X7 ⟨l7',rfl⟩;refine nmI ?_;refine r7 (d8o (vs:=[kV (m7 p),kV (m7 (Bl p pr a))]) b1G rfl rfl (au (by omega) hpz) (au (by omega) hqz)) rfl ?_;refine d4 ?_;refine i0 (b:= !decide (m7 p=m7 (Bl p pr a))) rfl (fun zF=> ?_) (fun zF=> ?_)
      ·skip
       refine i6 (Wp (q20'.mono l7') (by omega)) rfl ?_;rintro _ X8 ⟨l8',rfl⟩;refine⟨(fun _=>l8'),?_⟩;have l38:=l35.trans (l6'.trans (l7'.trans l8'));refine i6 (AP (lo:=lo) (hi:=hi) (ds:=(k:Nat)) (zT.gr.mono (x2.trans l38)) (Af zT.wt) hc.ok hn ⟨a0,a2⟩ (zT.tb.mono (x2.trans l38))) rfl ?_;rintro v27 X9 ⟨l9',q27⟩;refine⟨(fun _=>l9'),?_⟩;refine i6 (AP (lo:=lo) (hi:=hi) (ds:=(k:Nat)) (zT.gr.mono (x2.trans (l38.trans l9'))) (Af zT.wt) hc.ok hn ⟨s0,s2⟩ (zT.tb.mono (x2.trans (l38.trans l9')))) (j4 rfl (Rk (hDS _ rfl rfl) rfl hSM haM)) ?_;rintro v28 Xa ⟨la',q28⟩;refine⟨(fun _=>la'),?_⟩;have ra:=AT hc.ok hn a2;have rb:=AT hc.ok hn s2;refine i6 (IX (q27.mono la') q28 ra rb (by omega)) rfl ?_;rintro v29 Xb ⟨lb',q29⟩;refine⟨(fun _=>lb'),?_⟩;have l3b:=l38.trans (l9'.trans (la'.trans lb'));refine i6 (O8 q29 (q2.mono l3b) (ra.mul rb (m:=320) (by omega)) rU (by omega) hu0) (j4 rfl (Wq q2)) ?_;rintro v30 Xc ⟨lc',q30⟩;refine⟨(fun _=>lc'),?_⟩;have l3c:=l3b.trans lc';obtain⟨V,mV,kVe,rV⟩:=m2.mono l3c;refine r4 (QL ar (k:=m7 (Bl p pr a)) (v:=v30) (vs:=[.map (some r),kV (m7 (Bl p pr a)),v30]) rfl rfl rfl rfl Ws (au (by omega) hqz) (x2.trans l3c) mV) rfl ?_;rintro _ _ ⟨rfl,b9,m9,g,ob,E,cc,hmg,-,uL,rfl⟩;refine nmI ?_;obtain rfl:r=g:=by injection hmg with hmg;injection hmg
       exact⟨b9,rfl,by rw[aJ,cJ,qA];unfold Gj;rw[if_pos ⟨ha1,rX,by simpa using zF⟩];exact MR.put uL kVe rV q30 m9,QT uL (q2.mono l3c)⟩
      ·skip
       exact⟨x2.trans (l35.trans (l6'.trans l7')),rfl,by rw[aJ,cJ,qA];unfold Gj;rw[if_neg (fun h=>h.2.2 (by simpa using zF))];exact m2.mono (l35.trans (l6'.trans l7')),q2.mono (l35.trans (l6'.trans l7'))⟩
     ·skip
      exact⟨x2.trans l35,rfl,by rw[aJ,cJ,qA];unfold Gj;rw[if_neg (fun h=>by rw[h.2.1]at rX;cases rX)];exact m2.mono l35,q2.mono l35⟩
    ·skip
     exact⟨x2.trans (l3'.trans l4'),rfl,by rw[aJ,cJ,qA];unfold Gj;rw[if_neg (fun h=>by rw[h.1]at ha1;cases ha1)];exact m2.mono (l3'.trans l4'),q2.mono (l3'.trans l4')⟩
   ·rintro xs vals X2 K2 tV hd _ ⟨x2,rfl,m2,q2⟩;simp only[cA,nA];have pP:=PH.le_or X2 K2;rw[aK (show(Bd (unP p pr)).length<=xs.length by omega)]at m2;exact⟨i+1,by omega,(z8 (i9 rfl (by omega))),⟨pW,x2.trans pP,by rw[zA];unfold Et;rw[if_neg uO];exact m2.mono pP⟩⟩
   ·exact fun _ _ _ _ _ _ _ h=>h.elim
 ·replace h:=oDf h;have uF:i=(i7 k).length:=by omega
  rw[aK (show(i7 k).length<=i by omega)]at m5;exact g8 rfl ⟨hHB.trans b5,d4R m5 hHB⟩
end
end Go.Proofs.Z
/- Chapter 32: probabilities: fractions, bounds, sums. -/
namespace Go.GS
def Qd (D B:Nat) (r:Rat):Prop:=∃A:Int,r=(A:Rat)/((D:Int):Rat)/\A.natAbs<=B
theorem Qd.sub {D B C:Nat} {r s:Rat} (h1:Qd D B r) (h2:Qd D C s):Qd D (B+C) (r-s):=by
 obtain⟨a,rfl,ha⟩:=h1;obtain⟨b,rfl,hb⟩:=h2;refine⟨a-b,?_,by omega⟩;rw[Rat.intCast_sub];grind
theorem Qd.add {D B C:Nat} {r s:Rat} (h1:Qd D B r) (h2:Qd D C s):Qd D (B+C) (r+s):=by
 obtain⟨a,rfl,ha⟩:=h1;obtain⟨b,rfl,hb⟩:=h2;refine⟨a+b,?_,by omega⟩;rw[Rat.intCast_add];grind
theorem Qd.le {D B C:Nat} {r:Rat} (h:Qd D B r) (hBC:B<=C):Qd D C r:=by
 obtain⟨a,h1,h2⟩:=h;exact⟨a,h1,by omega⟩
theorem Qd.zero (D:Nat):Qd D 0 0:=⟨0,by rw[Rat.div_def];show(0:Rat)=0*_;rw[Rat.zero_mul],by simp⟩
theorem Qd.one {D:Nat} (h:D≠0):Qd D D 1:=⟨(D:Int),by rw[Rat.div_def,Rat.mul_inv_cancel];exact_mod_cast h,by simp⟩
def sQ:List Rat->Rat
 |[]=>0
 |a::l=>a+sQ l
theorem QW (l m:List Rat):sQ (l++m)=sQ l+sQ m:=by
 induction l with
 |nil=>simp[sQ,Rat.zero_add]
 |cons a l ih=>simp only[List.cons_append,sQ,ih,Rat.add_assoc]
theorem mr {D B:Nat}:∀{l:List Rat},(∀q∈l,Qd D B q)->Qd D (l.length*B) (sQ l)
 |[],_=>by simpa[sQ]using Qd.zero D
 |a::l,h=>by
  simp only[sQ,bA];exact((h a (by simp)).add (mr fun q hq=>h q (by simp[hq]))).le (by rw[mQ];omega)
end Go.GS
namespace Go.Proofs.Z
open Go.Proofs.Tryz
open Go.RowKit Go.RX Go.GS Go.RZ
open Go.WD (BP Bf wd rs toI HM sgI Rb)
theorem AU {D B k:Nat} {r:Rat} (h:Qd D B r) (hD:D≠0) (hk:D<2^k) (hB:B<2^k):Rb k r:=by
 obtain⟨a,rfl,ha⟩:=h;rw[<-Rat.divInt_eq_div];exact Go.WD.low_bound (by omega) (by omega) (by omega)
theorem ay {α β:Type} {f:β->α->β} {Q:β->Prop}:∀{l:List α} {b:β},(∀b x,x∈l->Q b->Q (f b x))->Q b->Q (l.foldl f b)
 |[],_,_,h=>h
 |x::l,b,hs,h=>by
  rw[eP];exact ay (fun b y hy=>hs b y (by simp[hy])) (hs b x (by simp) h)
theorem AW {α β:Type} {f:List β->α->List β} {m:Nat}:∀{l:List α} {b:List β},(∀b x,x∈l->(f b x).length<=b.length+m)->(l.foldl f b).length<=b.length+l.length*m
 |[],_,_=>by simp
 |x::l,b,hs=>by
  rw[eP];have h1:=AW (f:=f) (m:=m) (l:=l) (b:=f b x) (fun b y hy=>hs b y (List.mem_cons_of_mem _ hy));have h2:=hs b x (by simp);rw[bA,mQ];omega
theorem QX {κ β:Type} (L:List (κ×β)) (k:κ) (v:β):(Df L k v).length<=L.length+1:=by
 unfold Df;split<;>simp
open Classical in
theorem QY {κ β:Type} {L:List (κ×β)} (h:(L.map (·.1)).Nodup) (k:κ) (v:β):((Df L k v).map (·.1)).Nodup:=by
 unfold Df;split
 ·rw[show(L.map fun p=>if p.1=k then(k,v)else p).map (·.1)=L.map (·.1)from by
   rw[List.map_map];refine List.map_congr_left fun p _=> ?_;simp only[Function.comp];split
   ·rename_i e;exact e.symm
   ·rfl]
  exact h
 ·rename_i hk;rw[List.map_append,List.nodup_append];refine⟨h,by simp,fun a ha b hb=> ?_⟩;simp only[List.map_cons,List.map_nil,List.mem_singleton]at hb;subst hb;intro e;subst e;exact hk ha
theorem QZ {rest least:Nat}:∀{n part:Nat},(Hg rest least n part).length<=n
 |0,_=>Nat.le_refl _
 |n+1,part=>by
  unfold Hg;split
  ·simp
  ·simp only[bA];have:=QZ (rest:=rest) (least:=least) (n:=n) (part:=(part-1)&&&rest);omega
theorem c4l {S n:Nat} (h:S<2^n):(Bd S).length<=2^n:=by
 unfold Bd;refine aS QZ ?_;have:sdf S (Bo S)<2^n:=Sj h fun x hx=>by rw[Ad]at hx;simp at hx;exact hx.1
 omega
section
variable {es:List (Nat×Nat)} {wl:List Int} {lo hi:Int} {n k:Nat} {p:List Int}
structure Frc (es:List (Nat×Nat)) (wl:List Int) (lo hi:Int) (n k:Nat) (p:List Int) (x:List Int×Rat):Prop where
 ex:∃pr∈i7 k,∃a∈Bd (unP p pr),tN es (unP p pr)≠0/\alB es wl lo hi a=true/\alB es wl lo hi (sdf (unP p pr) a)=true/\m7 p≠m7 (Bl p pr a)/\x.1=m7 (Bl p pr a)/\x.2=(((tN es a:Int):Rat)*((tN es (sdf (unP p pr) a):Int):Rat))/Ks es n (i7 k).length (unP p pr)
theorem my:∀x∈Bt es wl lo hi n k p,Frc es wl lo hi n k p x:=by
 unfold Bt;refine ay (Q:=fun L=>∀x∈L,Frc es wl lo hi n k p x) (fun L pr qT hL=> ?_) (fun x hx=>by cases hx);unfold Et;split
 ·exact hL
 ·rename_i h0;refine ay (Q:=fun L=>∀x∈L,Frc es wl lo hi n k p x) (fun L a ha hL=> ?_) hL;unfold Gj;split
  ·rename_i hc;intro x hx;obtain⟨x1,x2⟩:=x;rcases ap hx with⟨rfl,rfl⟩|⟨_,h⟩
   ·exact⟨pr,qT,a,ha,h0,hc.1,hc.2.1,hc.2.2,rfl,rfl⟩
   ·exact hL _ h
  ·exact hL
theorem AX:((Bt es wl lo hi n k p).map (·.1)).Nodup:=by
 unfold Bt;refine ay (b:=([]:List (List Int×Rat))) (Q:=fun L:List (List Int×Rat)=>(L.map (·.1)).Nodup) (fun L pr qT hL=> ?_) dO;unfold Et;split
 ·exact hL
 ·refine ay (Q:=fun L:List (List Int×Rat)=>(L.map (·.1)).Nodup) (fun L a ha hL=> ?_) hL;unfold Gj;split
  ·exact QY hL _ _
  ·exact hL
theorem RA (hU:∀pr∈i7 k,unP p pr<2^n):(Bt es wl lo hi n k p).length<=(i7 k).length*2^n:=by
 unfold Bt;have:=AW (f:=Et es wl lo hi n (i7 k).length p) (l:=i7 k) (b:=[]) (m:=2^n) fun L pr qT=>by
  unfold Et;split
  ·exact Nat.le_add_right _ _
  ·refine aS (AW (f:=Gj es wl lo hi n (i7 k).length p pr) (l:=Bd (unP p pr)) (b:=L) (m:=1) fun L a ha=> ?_) ?_
   ·unfold Gj;split
    ·exact QX _ _ _
    ·omega
   ·have h2:=c4l (hU pr qT);omega
 simpa using this
end
noncomputable def If (es:List (Nat×Nat)) (n m:Nat) (p:List Int) (pr:Nat×Nat):Nat:=if tN es (unP p pr)=0 then 1 else(tN es (unP p pr)).natAbs*((n-1)*m)
noncomputable def Cj (es:List (Nat×Nat)) (n m:Nat) (p:List Int):List (Nat×Nat)->Nat
 |[]=>1
 |pr::l=>If es n m p pr*Cj es n m p l
section
variable {es:List (Nat×Nat)} {n m:Nat} {p:List Int}
theorem RB:∀{l:List (Nat×Nat)} {pr:Nat×Nat},pr∈l->If es n m p pr ∣ Cj es n m p l
 |x::l,pr,h=>by
  rcases List.mem_cons.1 h with rfl|h
  ·exact⟨_,rfl⟩
  ·exact Nat.dvd_trans (RB h) ⟨If es n m p x,by simp only[Cj];rw[cE]⟩
theorem bf (h:0<(n-1)*m):∀l:List (Nat×Nat),0<Cj es n m p l
 |[]=>by simp[Cj]
 |x::l=>by
  simp only[Cj];refine fK ?_ (bf h l);unfold If;split
  ·decide
  ·exact fK (by omega) h
theorem RD {K:Nat} (h:∀pr,If es n m p pr<=2^K):∀l:List (Nat×Nat),Cj es n m p l<=2^(K*l.length)
 |[]=>by simp[Cj]
 |x::l=>by
  simp only[Cj,bA];rw[Nat.mul_succ,Nat.pow_add,cE (2^(K*l.length))];exact cI (h x) (RD h l)
end
end Go.Proofs.Z

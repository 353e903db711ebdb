/- Lemmas: chapter 32. -/
import Derived.Test.YtmannekkmdockaaGreatDoorGvI
open Int renaming toNat_of_nonneg->iI
open List renaming any_eq_true->jV,flatMap_append->jE,mem_cons_self->nI,mem_flatMap->fQ
set_option maxRecDepth 100000
namespace Go.Z
open Proofs.Tryz RowKit RX GS RZ
open WD (BP Bt wd rs toI HM sgI Rb)
abbrev PtC:=Slc×Int×Int
def ptc (c:PtC):List Value:=[vs c.1,ii c.2.1,ii c.2.2]
def ptv (c:PtC):Value:= .agg (ptc c).toArray
theorem Js:El prog 247 253 3 true ptc ptv where
 und:=aB
 has:=aB
 cel:=aB
 agg:=aB
 pos:=aC
 one1:=fun h=>by cases h
 small:=aC
 inf:=⟨(prog.info? 253).getD default,ptv ((none,0,0),0,0),aB,aB,aB,rfl,oDt aB⟩
 len:=fun c=>rfl
 val:=fun c=>rfl
 cells:=fun c=>by simp[ptv,ptc,Value.cells,vs]
 one:=fun c x hx=>by simp[ptc]at hx;rcases hx with rfl|rfl|rfl<;>rfl
theorem WE:FA prog 253 0 0:=⟨aB,oDt aB,aB,aB,oDt aB⟩
theorem qo:FA prog 253 1 1:=⟨aB,oDt aB,aB,aB,oDt aB⟩
theorem WF:FA prog 253 2 2:=⟨aB,oDt aB,aB,aB,oDt aB⟩
theorem d9l:r8 prog 3=ii 0:=aB
def PtF (H:PH) (c:PtC) (y:List Int×Int×Int):Prop:=SI H (vs c.1) y.1/\c.2=y.2
theorem PtF.mono {H H':PH} {c:PtC} {y:List Int×Int×Int} (h:PtF H c y) (hl:Pl H H'):PtF H' c y:=⟨h.1.mono hl,h.2⟩
def PtO (H0 H:PH) (v:Value) (L:List (List Int×Int×Int)):Prop:=∃(m:List PtC) (X:PH),SO X H 253 3 ptc v m/\Pl H0 X/\Pl X H/\Zp (PtF X) m L
theorem PtO.nil (H:PH):PtO H H (.slice none 0 0) []:=⟨[],H,SO.nil _ _ _ _ _,Pl.refl _,Pl.refl _,Zp.nil⟩
section
variable {H X:PH} {u v w wts xv:Value} {p wl:List Int} {L:List (List Int×Int×Int)} {m:List PtC} {K:List (List Int)} {N:Nat} {up dn:Int} {n k c:Nat} {es:List (Nat×Nat)} {lo hi ds:Int} {pr:Nat×Nat}
set_option maxHeartbeats 1000000 in
theorem EG (pY:Pl X H) (ho:SO X H 253 3 ptc v m) (hz:Zp (PtF X) m L) (hu:SI X u p) (hN:Cns K N L) (hK:K.length<=65536) (hNb:N<=17592186044416) (hup:0<=up/\up<=2048):
  Con prog 167 [v,u,ii up,ii dn] H fun r H'=>Pl X H'/\∃m',SO X H' 253 3 ptc r m'/\Zp (PtF X) m' (Ew L p up dn):=by
 have hml:=hz.1;have a7f:=hN.few;have a6v:K.length*201<=65536*201:=bL _ hK;obtain⟨s,rfl⟩:=Ec hu;refine i9 mixed c6q ?_;refine Bf (α:=Nat) (fun i=>[.slice none 0 0,ii (i:Nat)]) (fun i=>i<=L.length/\Ew L p up dn=L.take i++Ew (L.drop i) p up dn) (fun i=>L.length-i) (0) rfl (⟨bI _,rfl⟩) fun i hQ=> ?_;obtain⟨hi,wL⟩:=hQ;refine Ji Js rfl rfl ho.se rfl ?_;refine d9 (d9 ?_);refine g7 (b:=decide (((i:Nat):Int)<(m.length:Nat))) rfl (fun pX=> ?_) (fun pX=> ?_)
 ·replace pX:=oDt pX;have qB:i<m.length:=aA;obtain⟨c,hc,_⟩:=m7 qB;obtain⟨y,hy,hyd⟩:=m7 (l:=L) (i:=i) aA;obtain⟨xX,sF⟩:=hz.2 i c y hc hy;have hyu:=hN.up y (aG hy);rw[hyd]at wL;simp only[Ew]at wL;refine Iy Js WF sc_int rfl rfl rfl rfl rfl rfl aE aE ho.se hc rfl aE (fun _ _=>rfl) fun _ _=> ?_;refine d9 (d9 ?_);refine j8 (p:=(c.2.2=dn)) (bE _ _) (fun h2=> ?_) fun h2=> ?_
  ·refine Iy Js WE Tt rfl rfl rfl rfl rfl rfl aE aE ho.se hc rfl aE (fun _ _=>rfl) fun _ _=> ?_;refine s6 (ow (xX.mono pY) (hu.mono pY)) rfl ?_;refine d9 ?_;refine g7 (b:=decide (y.1=p)) rfl (fun h3=> ?_) (fun h3=> ?_)
   ·have h3:=oDt h3;rw[if_pos ⟨by rw[<-h2,sF],h3⟩]at wL;refine Iy Js qo sc_int rfl rfl rfl rfl rfl rfl aE aE ho.se hc rfl aE (fun _ _=>rfl) fun _ _=> ?_;refine d9 (d9 ?_);refine d0n Js (a':=(c.1,c.2.1+up,c.2.2)) qo sc_int aC (by exact rfl) rfl rfl rfl rfl rfl rfl rfl aE aE aE pY ho hc rfl aE (fun _ _=>i7 rfl (Zh rfl rfl (by rw[sF];omega) (by rw[sF];omega))) rfl fun _ _ _ H2 l2 o2=> ?_;exact g6 rfl ⟨l2,_,o2,by rw[wL];have:=Zp.set (i:=i) hz (x:=(c.1,c.2.1+up,c.2.2)) (y:=(y.1,y.2.1+up,y.2.2)) ⟨xX,by rw[sF]⟩;rw[show L.set i (y.1,y.2.1+up,y.2.2)=L.take i++List.cons (y.1,y.2.1+up,y.2.2) (L.drop (i+1))from by rw[List.set_eq_take_append_cons_drop,if_pos aA]]at this;exact this⟩
   ·have h3:=oDf h3;rw[if_neg (fun e=>h3 e.2)]at wL;exact⟨i+1,Cg,(i7 rfl (i6 rfl aA)),⟨⟨(by show i+1<=_;omega),by rw[wL,take_snoc hy,bH];rfl⟩,rfl⟩⟩
  ·rw[if_neg (fun e=>h2 (by rw[sF];exact e.1))]at wL;exact⟨i+1,Cg,(i7 rfl (i6 rfl aA)),⟨⟨(by show i+1<=_;omega),by rw[wL,take_snoc hy,bH];rfl⟩,rfl⟩⟩
 ·replace pX:=oDf pX;rw[List.drop_of_length_le aA,aF aA]at wL;refine d4 hu.one ?_;refine d4 (Kx _) ?_;refine d4 (Kx _) ?_;refine Dk Js rfl rfl rfl aE aE pY ho aA (z8 (show D prog _ _=ptv (s,up,dn)from by simp only[D,d9l];rfl)) aE rfl fun _ v8 H2 l2 o2=> ?_;exact g6 rfl ⟨l2,_,o2,by rw[wL];exact Zp.snoc hz ⟨hu,rfl⟩⟩
theorem WG (e:Rat) (P:List (List Int×Int×Int)) (y:List Int×Int×Int):Nx e (P++[y])=if 0<y.2.1 then Nx e P++[(y.1,e*fr y.2.1 y.2.2)]else Nx e P:=by
 unfold Nx;rw[dP,aT];by_cases h:0<y.2.1
 ·rw[if_pos h,dY (by simpa using h)];rfl
 ·rw[if_neg h,dD (by simpa using h)];simp
noncomputable def Le (es:List (Nat×Nat)) (wl:List Int) (lo hi:Int) (n:Nat) (p:List Int) (pr:Nat×Nat) (T:List (List Int)) (t:List Int) (j:Nat):List (List Int×Int×Int):=
 Ej es wl lo hi n p pr T++(p,(n:Int)-1-(z7 es wl lo hi (unP p pr) t t).length,1)::((z7 es wl lo hi (unP p pr) t t).take j).flatMap fun x=>Iw es p pr (p8 es (unP p pr) t x)
theorem c6A {T:List (List Int)} {t:List Int} {j:Nat} {x:Int} (h:(z7 es wl lo hi (unP p pr) t t)[j]? =some x):Le es wl lo hi n p pr T t (j+1)=Le es wl lo hi n p pr T t j++Iw es p pr (p8 es (unP p pr) t x):=by
 unfold Le;rw[take_snoc h,jE,bH,cL];simp
theorem d0s {T:List (List Int)} {t:List Int} {j:Nat} (h:(z7 es wl lo hi (unP p pr) t t).length<=j):Le es wl lo hi n p pr T t j=Ej es wl lo hi n p pr (T++[t]):=by
 unfold Le;rw[aF h];unfold Ej;rw[jE];unfold Ih;simp
theorem SitK.wok (h:SitK es n k p) (qF:pr∈i0 k) {T:List (List Int)} {t:List Int} (hT:∀t∈T,TreeOk es (unP p pr) t) (ht:TreeOk es (unP p pr) t) (hl:T.length<=68719476736) (j:Nat):(∀y∈Le es wl lo hi n p pr T t j,okC (plK k p) y)/\(Le es wl lo hi n p pr T t j).length<=4398046511104:=by
 obtain⟨a1,a2⟩:=h.Tok (wl:=wl) (lo:=lo) (hi:=hi) qF hT;obtain⟨b1,b2⟩:=h.tok (wl:=wl) (lo:=lo) (hi:=hi) qF ht;unfold Le;constructor
 ·intro y hy;rcases aQ.1 hy with hy|hy
  ·exact a1 y hy
  ·refine b1 y ?_;unfold Ih;rcases aP.1 hy with rfl|hy
   ·simp
   ·obtain⟨x,hx,hy⟩:=fQ.1 hy;exact cF _ (fQ.2 ⟨x,cG hx,hy⟩)
 ·rw[aM,aO,List.length_flatMap];have h3:(((z7 es wl lo hi (unP p pr) t t).take j).map fun x=>(Iw es p pr (p8 es (unP p pr) t x)).length).sum=((z7 es wl lo hi (unP p pr) t t).take j).length*2:=by
   rw[<-Qc];rfl
  have h4:=(h.bal (wl:=wl) (lo:=lo) (hi:=hi) qF ht).2;have h5:=h.n9;rw[h3,bM];have h6:min j (z7 es wl lo hi (unP p pr) t t).length<=n-1:=bD (Nat.min_le_right _ _) h4;omega
theorem Cns.mono {N':Nat} (h:Cns K N L) (hN:N<=N'):Cns K N' L:=⟨h.key,(fun y hy=>by have:=h.up y hy;omega),h.dn,h.nd⟩
set_option maxHeartbeats 4000000 in
theorem c0C {L:List (List Int×Rat)} (hl:LnS H v L) (hLB:LnB es n k p c L) (wL:c<=274877906944) (hc:Chn H n w wts es wl) (hu:SI H u p) (h:SitK es n k p) (qF:pr∈i0 k):
  Con prog 99 [v,gv n w,bv wts lo hi ds,u,ev2 pr,ii ((i0 k).length:Nat)] H fun r H'=>Pl H H'/\∃M,Mrg es wl lo hi n k p [pr] M/\LnS H' r (puts L M)/\LnB es n k p (c+1073741824) (puts L M):=by
 have hP:=h.pro qF;obtain⟨vV,hm1⟩:=h.n2 qF;have wV:=Vq k h.k8;have rM:=h.n64;have hg:=h.gv;have a7g:=Su qF;have hn9:=h.n9;have uM:=h.k8;have hL8:LabOk p 8:=⟨fun x hx=>by have:=h.lab.1 x hx;omega,h.lab.2⟩;have hD0:=h.den0 qF;obtain⟨J,hJ⟩:∃J,J=13000:=⟨_,rfl⟩;have qS:=h.len;refine i9 mixed c6o ?_;refine d4 (t8 hc.gr) ?_;refine d4 (Cj (u0 hc.wt) _ _ _) ?_;refine d4 (el_edge.vcells pr) ?_;refine s6 (c0o (pr:=pr) hu aA) rfl ?_;refine y9 (zt hc.gr hg hP.s2) rfl fun H1 l1=> ?_;refine d9 ?_;refine g7 (b:= !cnB es (unP p pr)) rfl (fun hj=> ?_) (fun hj=> ?_)
 ·have hj:cnB es (unP p pr)=false:=by simpa using hj
  refine g9 (cp 1 (((i0 k).length:Nat):Int) aA aA aA aA aA) rfl ?_;rintro v8 H2 ⟨l2,hq⟩;refine nmI ?_;rw[Rat.divInt_eq_div]at hq;have hqd:Qd (Eb es n k p) (2^56*Eb es n k p) (fr 1 ((i0 k).length:Nat)):=WA (u:=1) e1D hD0 aC;refine g9 (VW (J:=J) (hl.mono (l1.trans l2)) (hu.mono (l1.trans l2)) hq (fun y hy=>qn h qF hJ aA (hLB.qd y hy)) (qn h qF hJ (c:=1) aC (by rw[cM];exact hqd)) aA (by have:=hLB.few h;omega) (fun y hy=>by rw[hLB.lns.len y hy,qS])) rfl ?_;rintro r H3 ⟨l3,hr⟩;refine nmI ?_;exact g6 rfl ⟨(l1.trans l2).trans l3,[(p,fr 1 ((i0 k).length:Nat))],h.mdis qF hj,hr,(hLB.put h qm (Wx aC aA) hqd).mono aA⟩
 ·have hj:cnB es (unP p pr)=true:=by simpa using hj
  have htn:tn es (unP p pr)≠0:=bm hP.sM hP.s0 (cnB_iff.1 hj);refine g9 (b6e (hc.gr.mono l1) hg hP.s2 hP.s0 (by have:=hP.cd;omega)) rfl ?_;rintro v8 H2 ⟨l2,lt,T,ht,hz,tQ,qD⟩;refine nmI ?_;have hTl:=hz.1;have hTt:∀t∈T,TreeOk es (unP p pr) t:=fun t ht=>trees_mem.1 (tQ.mem_iff.1 ht);have hT0:0<T.length:=by rw[tQ.length_eq];exact Nat.pos_of_ne_zero htn
  refine j1 Nq ht ?_;obtain⟨E,hE⟩:∃E,E=(i0 k).length*T.length*(n-1):=⟨_,rfl⟩;have hE0:0<E:=by rw[hE];exact eE (eE hm1 hT0) vV
  have hE1:(i0 k).length*T.length<=64*68719476736:=bU wV aA;have hE2:E<=64*68719476736*8:=by rw[hE];exact bU hE1 aA
  refine d9 (d9 (d9 ?_));simp only[cA,nA];refine g9 (cp 1 ((E:Nat):Int) aA aA aA aA aA) (i7 rfl (show D prog _ _=ii ((E:Nat):Int)from by rw[hE,<-hTl];exact od (a:=(i0 k).length*lt.length) (b:=n-1) (od (a:=(i0 k).length) (b:=lt.length) rfl rfl (by rw[hTl];omega)) (RL (p:=n) rfl aA aA) (by rw[hTl,<-hE];omega))) ?_;rintro v10 H3 ⟨l3,hq⟩;refine nmI ?_;rw[Rat.divInt_eq_div]at hq;have hq:Rr H3 v10 (eaQ n (i0 k).length T.length):=by unfold eaQ;rw[<-hE];exact hq
  obtain⟨ec,rfl⟩:=hq.slc;refine d4 hq.rq ?_;have zY:=hc.mono (l1.trans (l2.trans l3));have uK:=hu.mono (l1.trans (l2.trans l3));have ht3:=ht.mono l3;have hz3:Zp (fun s t=>SI H3 (vs s) t) lt T:=hz.imp fun _ _ h=>h.mono l3;refine s8 (α:=Value×Nat) (fun⟨v11,i⟩=>[v11,ii (i:Nat)]) (fun⟨v11,i⟩=>fun H'=>i<=lt.length/\PtO H3 H' v11 (Ig [] (Ej es wl lo hi n p pr (T.take i)))) (fun⟨v11,i⟩=>lt.length-i) ((.slice none 0 0,0)) rfl (⟨bI _,PtO.nil H3⟩) fun⟨v11,i⟩ H' hQ=> ?_;obtain⟨hi0,mo,X,o1,lX,lXH,zR⟩:=hQ;refine j1 Nq (ht3.mono (lX.trans lXH)) ?_;refine d9 (d9 ?_);refine g7 (b:=decide (((i:Nat):Int)<(lt.length:Nat))) rfl (fun pX=> ?_) (fun pX=> ?_)
  ·replace pX:=oDt pX;have qB:i<lt.length:=aA;obtain⟨s,hs,_⟩:=m7 qB;obtain⟨t,hti,_⟩:=m7 (l:=T) (i:=i) aA;have qI:=hz3.2 i s t hs hti;have xW:=hTt t (aG hti);have hTi:∀t∈T.take i,TreeOk es (unP p pr) t:=fun t h=>hTt t (cG h);have a6i:(T.take i).length<=68719476736:=by rw[bM];omega
   obtain⟨hbt,sD⟩:=h.bal (wl:=wl) (lo:=lo) (hi:=hi) qF xW;refine j4 Nq (ht3.mono (lX.trans lXH)) hs fun _=> ?_;refine Is (c0e (lo:=lo) (hi:=hi) (ds:=ds) (zY.mono lX) (qI.mono lX) ⟨hP.s0,hP.s2⟩ xW) lXH rfl fun v16 X2 H4 lX2 rE lXH2 lH2 uG=> ?_;refine j1 el_int (rE.mono lXH2) ?_;obtain⟨hC1,hC2⟩:=h.Tok (wl:=wl) (lo:=lo) (hi:=hi) qF hTi;have hCn:=Cns.adds (Cns.nil (plK k p)) hC1;simp only[cA,nA];refine d9 ?_;refine g9 (EG (X:=X2) (K:=plK k p) (up:=(n:Int)-1-(z7 es wl lo hi (unP p pr) t t).length) (dn:=1) lXH2 (ql o1 lH2 uG) (zR.imp fun _ _ h=>h.mono lX2) (uK.mono (lX.trans lX2)) hCn h.kfew aA (h.hok qF xW).2.1) (Hz rfl rfl (show D prog _ _=ii ((n:Int)-1-(z7 es wl lo hi (unP p pr) t t).length)from Ks (Ks (x:=(n:Nat)) (y:=1) rfl rfl aA aA) rfl aA aA) rfl) ?_;rintro v18 H5 ⟨l5,m5,o5,hz5⟩;refine nmI ?_;refine s8 (α:=Value×Nat) (fun⟨v19,j⟩=>[v19,ii (j:Nat)]) (fun⟨v19,j⟩=>fun H'=>j<=(z7 es wl lo hi (unP p pr) t t).length/\PtO X2 H' v19 (Ig [] (Le es wl lo hi n p pr (T.take i) t j))) (fun⟨v19,j⟩=>(z7 es wl lo hi (unP p pr) t t).length-j) ((v18,0)) rfl (⟨bI _,m5,X2,o5,Pl.refl _,l5,by unfold Le;rw[List.take_zero,List.flatMap_nil,DW];exact hz5⟩) fun⟨v19,j⟩ H6 ⟨hj6,m6,X6,o6,lX6,lXH6,hz6⟩=> ?_;refine j1 el_int (rE.mono (lX6.trans lXH6)) ?_;simp only[cA,nA];refine d9 (d9 ?_);refine g7 (b:=decide (((j:Nat):Int)<((z7 es wl lo hi (unP p pr) t t).length:Nat))) rfl (fun hlj=> ?_) (fun hlj=> ?_)
   ·replace hlj:=oDt hlj;obtain⟨x,hx,_⟩:=m7 (l:=z7 es wl lo hi (unP p pr) t t) (i:=j) aA;have hxt:=DX (aG hx);refine Ey Nq rfl rfl rfl rfl aE (ht3.mono (((lX.trans lX2).trans lX6).trans lXH6)) hs rfl aE fun _=> ?_;simp only[cA,nA];refine j4 el_int (rE.mono (lX6.trans lXH6)) hx fun _=> ?_;have lX36:=(lX.trans lX2).trans lX6;refine Is (NY (k:=x) (zY.gr.mono lX36) hg (qI.mono lX36) ⟨hP.s0,hP.s2⟩ xW hxt) lXH6 rfl fun v26 X7 H7 lX7 a6j lXH7 lH7 a6k=> ?_;subst a6j;obtain⟨s1,s2,s3⟩:=Qh hP.sM hP.s0 (cm hP xW hxt);obtain⟨⟨a0,a2⟩,b0,b2⟩:=Tf hP.s2 rM hP.s0 (cm hP xW hxt);refine i8 (i8 (i8 ?_));simp only[cA,nA];refine s6 (c0m (zY.gr.mono ((lX36.trans lX7).trans lXH7)) hg (By rM a2) (By rM b2)) rfl ?_;have hbp:=DY hP xW hxt;have a6w:=WC (a:=p8 es (unP p pr) t x) (b:=sdf (unP p pr) (p8 es (unP p pr) t x)) hg;have wK:=uK.mono (lX36.trans lX7);refine Is (c0n wK hL8 aA aA (By rM a2)) lXH7 rfl fun v28 X8 H8 lX8 hr8 lXH8 lH8 a6l=> ?_;obtain⟨hW1,vS⟩:=h.wok (wl:=wl) (lo:=lo) (hi:=hi) qF hTi xW a6i j;have hWn:=Cns.adds (Cns.nil (plK k p)) hW1;have hok:=h.cok qF xW hxt;have a6m:=hok _ (nI ..);have a3i:=hok _ (cF _ (nI ..));simp only[cA,nA];refine g9 (EG (X:=X8) (K:=plK k p) (up:=1) (dn:=((Af es (p8 es (unP p pr) t x) (sdf (unP p pr) (p8 es (unP p pr) t x)):Nat):Int)) lXH8 (ql (ql o6 lH7 a6k) lH8 a6l) (hz6.imp fun _ _ h=>h.mono (lX7.trans lX8)) hr8 hWn h.kfew aA aA) rfl ?_;rintro v29 H9 ⟨l9,m9,o9,hz9⟩;refine nmI ?_;refine d9 ?_;refine g9 (EG (X:=X8) (K:=plK k p) (up:=((Af es (p8 es (unP p pr) t x) (sdf (unP p pr) (p8 es (unP p pr) t x)):Nat):Int)-1) (dn:=((Af es (p8 es (unP p pr) t x) (sdf (unP p pr) (p8 es (unP p pr) t x)):Nat):Int)) l9 o9 hz9 (wK.mono lX8) (hWn.add a6m) h.kfew aA aA) (Hz rfl rfl (by rw[Ks (x:=((Af es (p8 es (unP p pr) t x) (sdf (unP p pr) (p8 es (unP p pr) t x)):Nat):Int)) (y:=1) rfl rfl aA aA]) rfl) ?_;rintro v30 H10 ⟨l10,m10,o10,a6n⟩;refine nmI ?_;exact⟨(v30,j+1),Cg,(i7 rfl (i6 rfl aA)),⟨(by show j+1<=_;omega),m10,X8,o10,(lX6.trans lX7).trans lX8,l10,by rw[c6A hx];unfold Iw;rw[show∀(A:List (List Int×Int×Int)) (a b:List Int×Int×Int),A++[a,b]=A++[a]++[b]from fun A a b=>aD,DW,DW];exact a6n⟩⟩
   ·replace hlj:=oDf hlj;exact⟨(v19,i+1),Cg,(i7 rfl (i6 rfl aA)),⟨(by show i+1<=_;omega),m6,X6,o6,(lX.trans lX2).trans lX6,lXH6,by rw[take_snoc hti,<-d0s (j:=j) aA];exact hz6⟩⟩
  ·replace pX:=oDf pX;rw[aF aA]at zR;obtain⟨hC1,hC2⟩:=h.Tok (wl:=wl) (lo:=lo) (hi:=hi) qF hTt;have hCn:=(Cns.adds (Cns.nil (plK k p)) hC1).mono (N':=4398046511104) aA;have hM:=h.mcon (wl:=wl) (lo:=lo) (hi:=hi) qF tQ htn;generalize Ig [] (Ej es wl lo hi n p pr T)=P at*;have hPl:P.length<=13172736:=by have:=hCn.few;have:=h.kfew;have:(plK k p).length*201<=65536*201:=bL _ h.kfew;omega
   have hPm:=zR.1;have l3X:=lX.trans lXH;have l03:=l1.trans (l2.trans l3);refine s8 (α:=Value×Nat×List (List Int×Rat)×List (List Int×Rat)) (fun⟨v14,i,A,M⟩=>[v14,ii (i:Nat)]) (fun⟨v14,i,A,M⟩=>fun H5=>i<=P.length/\Pl H' H5/\M=Nx (eaQ n (i0 k).length T.length) (P.take i)/\A=puts L M/\LnS H5 v14 A/\LnB es n k p (c+i) A) (fun⟨v14,i,A,M⟩=>P.length-i) ((v,0,L,[])) rfl (⟨bI _,Pl.refl _,rfl,rfl,hl.mono (l03.trans l3X),hLB⟩) fun⟨v14,i,A,M⟩ H5 ⟨hi5,l5,hMM,hA,hs5,hb5⟩=> ?_;simp only[cA,nA];refine j1 Js (o1.se.mono l5) ?_;refine d9 (d9 ?_);refine g7 (b:=decide (((i:Nat):Int)<(mo.length:Nat))) rfl (fun pX=> ?_) (fun pX=> ?_)
   ·replace pX:=oDt pX;obtain⟨cc,a0q,_⟩:=m7 (l:=mo) (i:=i) aA;obtain⟨y,hy,_⟩:=m7 (l:=P) (i:=i) aA;obtain⟨xX,sF⟩:=zR.2 i cc y a0q hy;have hyP:=aG hy;have hyu:=hCn.up y hyP;have hyd:=hCn.dn y hyP;refine Iy Js qo sc_int rfl rfl rfl rfl rfl rfl aE aE (o1.se.mono l5) a0q rfl aE (fun _ _=>rfl) fun _ _=> ?_;simp only[cA,nA];refine d9 ?_;refine g7 (b:=decide (cc.2.1>0)) rfl (fun h2=> ?_) (fun h2=> ?_)
    ·replace h2:=oDt h2;rw[sF]at h2;refine Iy Js WE Tt rfl rfl rfl rfl rfl rfl aE aE (o1.se.mono l5) a0q rfl aE (fun _ _=>rfl) fun _ _=> ?_;refine Iy Js qo sc_int rfl rfl rfl rfl rfl rfl aE aE (o1.se.mono l5) a0q rfl aE (fun _ _=>rfl) fun _ _=> ?_;refine Iy Js WF sc_int rfl rfl rfl rfl rfl rfl aE aE (o1.se.mono l5) a0q rfl aE (fun _ _=>rfl) fun _ _=> ?_;refine g9 (cp cc.2.1 cc.2.2 (by rw[sF];omega) (by rw[sF];omega) (by rw[sF];omega) (by rw[sF];omega) (by rw[sF];omega)) rfl ?_;rintro v29 H6 ⟨l6,hq6⟩;refine⟨fun _=>l6,?_⟩;rw[Rat.divInt_eq_div,sF]at hq6;have hrb:Rb 64 (fr y.2.1 y.2.2):=by
      have:=WB (u:=y.2.1.toNat) (d:=y.2.2.toNat) aA aA aA;rw[iI aA,iI aA]at this;exact this
     have hre:Rb 64 (eaQ n (i0 k).length T.length):=by
      unfold eaQ;rw[<-hE];exact WB (u:=1) aC hE0 aA
     refine g9 (c0A (hq.mono ((l3X.trans l5).trans l6)) hq6 hre hrb aC) rfl ?_;rintro v30 H7 ⟨l7,hx7⟩;refine⟨fun _=>l7,?_⟩;have hxd:Qd (Eb es n k p) (2^56*Eb es n k p) (eaQ n (i0 k).length T.length*fr y.2.1 y.2.2):=by
      unfold eaQ;rw[d9g,<-hE];have h1:=h.den1 qF (d:=y.2.2.toNat) aA aA htn;rw[show tn es (unP p pr)=T.length from tQ.length_eq.symm,<-hE]at h1;have h2:=WA (u:=y.2.1.toNat) (B:=2^56) h1 hD0 aA
      push_cast at h2
      rw[iI aA,iI aA]at h2;rw[Int.one_mul];exact h2
     have hxp:0<eaQ n (i0 k).length T.length*fr y.2.1 y.2.2:=Rat.mul_pos (by unfold eaQ;rw[<-hE];exact Wx aC aA) (Wx h2 hyd.1);refine g9 (VW (J:=J) (hs5.mono (l6.trans l7)) (xX.mono ((lXH.trans l5).trans (l6.trans l7))) hx7 (fun y hy=>qn h qF hJ aA (hb5.qd y hy)) (qn h qF hJ (c:=1) aC (by rw[cM];exact hxd)) aA (by have:=hb5.few h;omega) (fun z hz=>by rw[hb5.lns.len z hz,h.klen (hCn.key y hyP)])) rfl ?_;rintro v31 H8 ⟨l8,hs8⟩;refine⟨fun _=>l8,?_⟩;exact⟨(v31,i+1,Ak A y.1 (eaQ n (i0 k).length T.length*fr y.2.1 y.2.2),M++[(y.1,eaQ n (i0 k).length T.length*fr y.2.1 y.2.2)]),Cg,(i7 rfl (i6 rfl aA)),⟨(by show i+1<=_;omega),((l5.trans l6).trans l7).trans l8,by show M++_=_;rw[take_snoc hy,WG,if_pos h2,hMM],by show Ak A _ _=puts L (M++_);rw[c6e,hA],hs8,by have:=hb5.put h (hCn.key y hyP) hxp hxd;exact this⟩⟩
    ·replace h2:=oDf h2;rw[sF]at h2;exact⟨(v14,i+1,A,M),Cg,(i7 rfl (i6 rfl aA)),⟨(by show i+1<=_;omega),l5,by show M=_;rw[take_snoc hy,WG,if_neg h2,hMM],hA,hs5,hb5.mono (by show c+i<=c+(i+1);omega)⟩⟩
   ·replace pX:=oDf pX;rw[aF aA]at hMM;exact g6 rfl ⟨((l03.trans l3X).trans l5),M,by rw[hMM];exact hM,by rw[<-hA];exact hs5,by rw[<-hA];exact hb5.mono aA⟩
end
section
variable {H:PH} {u v w wts:Value} {p q wl:List Int} {n k:Nat} {es:List (Nat×Nat)} {lo hi ds:Int}
set_option maxHeartbeats 1000000 in
theorem WH (hc:Chn H n w wts es wl) (hu:SI H u p) (h:SitK es n k p):Con prog 55 [gv n w,bv wts lo hi (k:Nat),u] H fun r H'=>Pl H H'/\∃L,To es wl lo hi n k p L/\LnS H' r L/\L.length<=65536:=by
 have uM:=h.k8;have wV:=Vq k uM;obtain⟨s,rfl⟩:=Ec hu;refine i9 mixed c6n ?_;refine d4 (t8 hc.gr) ?_;refine d4 (Cj (u0 hc.wt) _ _ _) ?_;refine g9 (c0l uM) rfl ?_;rintro v3 H1 ⟨l1,h3⟩;refine nmI ?_;refine Ji el_edge rfl rfl h3.se rfl ?_;refine d9 ?_;refine j8 (p:=((((i0 k).length:Nat):Int)=0)) (bE _ _) (fun h0=> ?_) fun h0=> ?_
 ·have hd:i0 k=[]:=aI aA;refine g9 (cp 1 1 aC aC aC aC aC) rfl ?_;rintro v5 H2 ⟨l2,hq⟩;refine nmI ?_;rw[show Rat.divInt 1 1=1 by decide]at hq;obtain⟨rc,rfl⟩:=hq.slc;refine d4 hu.one ?_;refine d4 hq.rq ?_;refine Me Ea (a:=(s,rc)) rfl rfl (z8 (show D prog _ _=lnv (s,rc)from by simp only[D,qk];rfl)) fun v6 H3 l3 o3 _=> ?_;exact g6 rfl ⟨(l1.trans l2).trans l3,[(p,1)],h.summ1 hd,⟨_,o3.se,Zp.snoc (m:=[]) (L:=[]) Zp.nil ⟨hu.mono ((l1.trans l2).trans l3),hq.mono l3⟩⟩,by show 1<=65536;decide⟩
 ·have hd:i0 k≠[]:=fun e=>h0 (by rw[e];rfl);refine s8 (α:=Value×Nat×List (List Int×Rat)×List (List Int×Rat)) (fun⟨v5,i,L,M⟩=>[v5,ii (i:Nat)]) (fun⟨v5,i,L,M⟩=>fun H'=>i<=(i0 k).length/\Pl H1 H'/\L=puts [] M/\Mrg es wl lo hi n k p ((i0 k).take i) M/\LnS H' v5 L/\LnB es n k p (i*1073741824) L) (fun⟨v5,i,L,M⟩=>(i0 k).length-i) ((.slice none 0 0,0,[],[])) rfl (⟨bI _,Pl.refl _,rfl,Mrg.nil,(LnO.nil H1).lns,by rw[cD];exact LnB.nil _ _ _ _⟩) fun⟨v5,i,L,M⟩ H' hQ=> ?_;obtain⟨xB,l2,hL,hM,hs,hB⟩:=hQ;refine j1 el_edge (h3.se.mono l2) ?_;refine d9 (d9 ?_);refine g7 (b:=decide (((i:Nat):Int)<((i0 k).length:Nat))) rfl (fun pX=> ?_) (fun pX=> ?_)
  ·replace pX:=oDt pX;obtain⟨pr,qF,_⟩:=m7 (l:=i0 k) (i:=i) aA;have a6o:=aG qF;refine j4 el_edge (h3.se.mono l2) qF fun _=> ?_;refine j1 el_edge (h3.se.mono l2) ?_;refine g9 (c0C (c:=i*1073741824) (wl:=wl) (lo:=lo) (ds:=(k:Nat)) hs hB aA (hc.mono (l1.trans l2)) (hu.mono (l1.trans l2)) h a6o) rfl ?_;rintro v11 H3 ⟨l3,N,hN,hs3,hB3⟩;refine⟨fun _=>l3,?_⟩;exact⟨(v11,i+1,puts L N,M++N),Cg,(i7 rfl (i6 rfl aA)),⟨(by show i+1<=_;omega),l2.trans l3,by rw[d0h,hL],by rw[take_snoc qF];exact hM.snoc hN,hs3,by rw[cK,cM];exact hB3⟩⟩
  ·replace pX:=oDf pX;rw[aF aA]at hM;exact g6 rfl ⟨l1.trans l2,L,by rw[hL];exact h.summ hd hM,hs,hB.few h⟩
theorem WI {cont:Slc->List Int} {l:List Slc} (hw:SG H w es) (hg:GV n es) (qO:SI H wts wl) (hu:SE H 1 (fun s:Slc=>[vs s]) v l) (hp:∀s∈l,SI H (vs s) (cont s)):Ae prog 53 [gv n w,bv wts lo hi ds,v] H (ii (smE n es wl lo hi ds (l.map cont))):=by
 refine i9 mixed c6m ?_;unfold smE;refine d4 (t8 hw) ?_;refine d4 (Cj (u0 qO) _ _ _) ?_;refine s6 (b9Y hw hg qO) rfl ?_;refine d9 ?_;refine j8 (p:=(bdE n wl lo hi ds≠0)) (bN _ _) (fun h=> ?_) fun h=> ?_
 ·exact g6 rfl ⟨Pl.refl _,by rw[if_pos h];rfl⟩
 ·rw[if_neg h];have hbd:=Ni (bB h);refine d9 ?_;refine g7 (b:=decide ((n:Int)>12)) rfl (fun h2=> ?_) (fun h2=> ?_)
  ·replace h2:=oDt h2;exact g6 rfl ⟨Pl.refl _,by rw[if_pos aA];rfl⟩
  ·replace h2:=oDf h2;rw[if_neg aA];refine s8 (α:=Nat) (fun i=>[ii 0,ii (i:Nat)]) (fun i=>fun H'=>i<=l.length/\Pl H H'/\∀s∈l.take i,As n es wl lo hi ds (cont s)=true) (fun i=>l.length-i) (0) rfl (⟨bI _,Pl.refl _,fun s hs=>by cases hs⟩) fun i H' hQ=> ?_;obtain⟨xB,l1,hf⟩:=hQ;refine j1 Ba (hu.mono l1) ?_;refine d9 (d9 ?_);refine g7 (b:=decide (((i:Nat):Int)<(l.length:Nat))) rfl (fun pX=> ?_) (fun pX=> ?_)
   ·replace pX:=oDt pX;obtain⟨s,hs,_⟩:=m7 (l:=l) (i:=i) aA;have vC:=aG hs;refine j4 Ba (hu.mono l1) hs fun _=> ?_;refine y9 (b5P (lo:=lo) (hi:=hi) (ds:=ds) (hw.mono l1) hg (qO.mono l1) hbd.1 hbd.2.2.2.2.2 ((hp s vC).mono l1)) rfl fun H2 l2=> ?_;refine d9 ?_;refine g7 (b:= !As n es wl lo hi ds (cont s)) rfl (fun g=> ?_) (fun g=> ?_)
    ·exact g6 rfl ⟨l1.trans l2,by rw[if_pos (jV.2 ⟨cont s,aY.2 ⟨s,vC,rfl⟩,g⟩)];rfl⟩
    ·exact⟨i+1,Cg,(i7 rfl (i6 rfl (by have:=hu.len;omega))),⟨(by show i+1<=_;omega),l1.trans l2,fun t ht=>by rw[take_snoc hs]at ht;rcases aQ.1 ht with ht|ht;(exact hf t ht);(rw[aL.1 ht];simpa using g)⟩⟩
   ·replace pX:=oDf pX;rw[aF aA]at hf;exact g6 rfl ⟨l1,by rw[if_neg (fun e=>by obtain⟨t,ht,h3⟩:=jV.1 e;obtain⟨s,hs,rfl⟩:=aY.1 ht;rw[hf s hs]at h3;cases h3)];rfl⟩
theorem d9m:Hw 0 1=Ee 0:=by
 unfold Hw;rw[if_neg aC,show Rat.divInt 0 1=0 by decide]
theorem qp {s:Slc} (h:SI H (vs s) p):SI H (vs s) (Dh H s):=by rw[Hn h];exact h
theorem WJ (hg:GV n es) (hn:n<=9) {k:Nat} (vM:1<=k) (uM:k<=8) (qS:p.length=n) (hL:LabOk p (k:Nat)) (hU:Ai p k):SitK es n k (j6 p):=
 ⟨hg,hn,ab hL hU,ml hL hU,b6m _,by rw[Fe];exact qS,vM,uM⟩
set_option maxHeartbeats 1000000 in
theorem WL (hT:Tb H) (hw:SG H w es) (hg:GV n es) (hn9:n<=9) (qO:SI H wts wl) (hu:SI H u p) (hv:SI H v q):Con prog 17 [gv n w,bv wts lo hi ds,u,v] H fun r H'=>Pl H H'/\r=goR n es wl lo hi ds p q:=by
 refine i9 mixed d0o ?_;obtain⟨s1,rfl⟩:=Ec hu;obtain⟨s2,rfl⟩:=Ec hv;unfold goR;refine d4 (t8 hw) ?_;refine d4 (Cj (u0 qO) _ _ _) ?_;refine Fp Ba (N:=2) (l:=[s1,s2]) (vs:=[vs s1,vs s2]) rfl aC aC rfl rfl rfl fun v4 H1 l1 o1 _=> ?_;refine y9 (WI (cont:=Dh H) (hw.mono l1) hg (qO.mono l1) o1.se (fun s hs=>by rcases aP.1 hs with rfl|hs;(exact(qp hu).mono l1);(rw[aL.1 hs];exact(qp hv).mono l1))) rfl fun H2 l2=> ?_;rw[show[s1,s2].map (Dh H)=[p,q]from by rw[aN,aN,Hn hu,Hn hv];rfl];refine d9 ?_;refine j8 (p:=(smE n es wl lo hi ds [p,q]≠0)) (bN _ _) (fun h0=> ?_) fun h0=> ?_
 ·exact g6 (congrArg (fun z=>Value.tuple #[z,ii (smE n es wl lo hi ds [p,q])]) Ph) ⟨l1.trans l2,by rw[if_pos h0]⟩
 ·have h0:=bB h0;rw[if_neg (fun h=>h h0)];obtain⟨sN,vQ,hft⟩:=pz h0;have hb:=Ni sN;obtain⟨k,rfl,vM,uM,qS,hL,hU,rX⟩:=Ws (hft p (.head _));obtain⟨k',qY,-,-,hql,hL',hU',-⟩:=Ws (hft q (.tail _ (.head _)));obtain rfl:k=k':=aA;have hS:=WJ hg hn9 vM uM qS hL hU;refine g9 (oy (hu.mono (l1.trans l2)) ⟨fun x hx=>by have:=hL.1 x hx;omega,hL.2⟩) rfl ?_;rintro _ H3 ⟨l3,z,rfl,hz⟩;refine nmI ?_;refine i8 (i8 ?_);refine g9 (oy (hv.mono ((l1.trans l2).trans l3)) ⟨fun x hx=>by have:=hL'.1 x hx;omega,hL'.2⟩) rfl ?_;rintro _ H4 ⟨l4,z2,rfl,uI⟩;refine nmI ?_;have l04:=((l1.trans l2).trans l3).trans l4;refine i8 (i8 ?_);refine g9 (WH (lo:=lo) (hi:=hi) ⟨hT.mono l04,hw.mono l04,hg,qO.mono l04,hb.1,hb.2.2.2.2.2⟩ (hz.mono l4) hS) rfl ?_;rintro v8 H5 ⟨l5,L,vC,⟨m,hm,hzp⟩,hLl⟩;refine nmI ?_;have a6p:(j6 q).length=n:=by rw[Fe];exact hql
  have rH:=hS.val vC a6p;have hgo:goQ es wl lo hi n (k:Int).toNat p q=vO L (j6 q):=by rw[aV];exact rH
  rw[hgo];have hml:=hzp.1;refine Bf (α:=Nat) (fun i=>[ii 0,ii (i:Nat)]) (fun i=>i<=m.length/\∀y∈L.take i,y.1≠j6 q) (fun i=>m.length-i) (0) rfl (⟨bI _,fun y hy=>by cases hy⟩) fun i hQ=> ?_;obtain⟨xB,wA⟩:=hQ;refine j1 Ea hm ?_;refine d9 (d9 ?_);refine g7 (b:=decide (((i:Nat):Int)<(m.length:Nat))) rfl (fun pX=> ?_) (fun pX=> ?_)
  ·replace pX:=oDt pX;obtain⟨c,uC,_⟩:=m7 (l:=m) (i:=i) aA;obtain⟨y,hy,_⟩:=m7 (l:=L) (i:=i) aA;obtain⟨xX,sF⟩:=hzp.2 i c y uC hy;refine Iy Ea cw Tt rfl rfl rfl rfl rfl rfl aE aE hm uC rfl aE (fun _ _=>rfl) fun _ _=> ?_;refine s6 (ow xX (uI.mono l5)) rfl ?_;refine d9 ?_;refine g7 (b:=decide (y.1=j6 q)) rfl (fun h2=> ?_) (fun h2=> ?_)
   ·have h2:=oDt h2;simp only[cA,nA];refine EA Ea (ws:=[.bool c.2.1,vs c.2.2.1,.bool false,vs c.2.2.2]) ED EE rfl aD rfl rfl rfl rfl rfl aE aE hm uC rfl aE (fun _ _=>rfl) fun _ _=> ?_;refine g9 (EC sF) rfl ?_;rintro u9 H6 ⟨l6,hu9⟩;refine nmI ?_;obtain⟨a7,d7,e7,wJ⟩:=bj y.2;rw[wJ]at hu9;subst hu9;refine i8 (i8 ?_);simp only[cA,nA];refine d4 (Dx a7 d7) ?_;exact g6 rfl ⟨(l04.trans l5).trans l6,by rw[<-h2,Jr vC.lns.nd (aG hy:(y.1,y.2)∈L),wJ];rfl⟩
   ·have h2:¬y.1=j6 q:=oDf h2;exact⟨i+1,Cg,(i7 rfl (i6 rfl aA)),⟨⟨(by show i+1<=_;omega),fun z hz=>by rw[take_snoc hy]at hz;rcases aQ.1 hz with hz|hz;(exact wA z hz);(rw[aL.1 hz];exact h2)⟩,rfl⟩⟩
  ·replace pX:=oDf pX;rw[aF aA]at wA;refine g9 (d6h 0 1 aC aC aC aC) rfl ?_;rintro u9 H6 ⟨l6,hu9⟩;refine nmI ?_;obtain⟨a7,d7,e7,wJ⟩:=bj 0;rw[d9m,wJ]at hu9;subst hu9;refine i8 (i8 ?_);refine d4 (Dx a7 d7) ?_;exact g6 rfl ⟨(l04.trans l5).trans l6,by rw[Wt (fun hc=>by obtain⟨y,hy,e⟩:=aY.1 hc;exact wA y hy e),wJ];rfl⟩
end
end Go.Z

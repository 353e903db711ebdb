/- Chapter 32: the reference's put. -/
import Derived.Test.YtmannekkmdockaaGreatDoorGvU
import Derived.Test.YtmannekkmdockaaGreatDoorSrT
open List renaming drop_of_length_le->fK,length->mS,length_flatMap->iE,mem_flatMap->fQ
open Nat renaming pow_add->fE
namespace Go.Z
open Proofs.Tryz RowKit RX GS RZ
open WD (BP Bt wd rs toI HM sgI Rb)
set_option maxRecDepth 100000
def rvv (c:Bool×Slc×Slc):Value:= .agg #[.bool c.1,vs c.2.1,.bool false,vs c.2.2]
abbrev LnC:=Slc×Bool×Slc×Slc
def lnc (c:LnC):List Value:=[vs c.1,.bool c.2.1,vs c.2.2.1,.bool false,vs c.2.2.2]
def lnv (c:LnC):Value:= .agg (lnc c).toArray
theorem Ea:El prog 122 130 5 true lnc lnv where
 und:=aB
 has:=aB
 cel:=aB
 agg:=aB
 pos:=aC
 one1:=fun h=>by cases h
 small:=aC
 inf:=⟨(prog.info? 130).getD default,lnv ((none,0,0),false,(none,0,0),(none,0,0)),aB,aB,aB,rfl,oDt aB⟩
 len:=fun c=>rfl
 val:=fun c=>rfl
 cells:=fun c=>by simp[lnv,lnc,Value.cells,vs]
 one:=fun c x hx=>by simp[lnc]at hx;rcases hx with rfl|rfl|rfl|rfl|rfl<;>rfl
theorem cw:FA prog 130 0 0:=⟨aB,oDt aB,aB,aB,oDt aB⟩
theorem ED:FA prog 130 1 1:=⟨aB,oDt aB,aB,aB,oDt aB⟩
theorem Tt:Sc prog 33:=⟨aB,aB,aB⟩
theorem EE:Ag prog 128 4:=⟨aB,aB,aB⟩
theorem qk:r8 prog 128=rvv (false,(none,0,0),(none,0,0)):=aB
theorem Rr.slc {H:PH} {v:Value} {r:Rat} (h:Rr H v r):∃c,v=rvv c:=by
 obtain⟨w1,w2,rfl,⟨_,⟨⟨_,a1,c1,h1,_⟩,_⟩,_⟩,⟨_,⟨⟨_,a2,c2,h2,_⟩,_⟩,_⟩⟩:=h;exact⟨(_,(a1,_,c1),(a2,_,c2)),by rw[h1,h2];rfl⟩
def LnF (H:PH) (c:LnC) (y:List Int×Rat):Prop:=SI H (vs c.1) y.1/\Rr H (rvv c.2) y.2
theorem LnF.mono {H H':PH} {c:LnC} {y:List Int×Rat} (h:LnF H c y) (hl:Pl H H'):LnF H' c y:=⟨h.1.mono hl,h.2.mono hl⟩
def LnS (H:PH) (v:Value) (L:List (List Int×Rat)):Prop:=∃m:List LnC,SE H 5 lnc v m/\Zp (LnF H) m L
def LnO (H0 H:PH) (v:Value) (L:List (List Int×Rat)):Prop:=∃(m:List LnC) (X:PH),SO X H 130 5 lnc v m/\Pl H0 X/\Pl X H/\Zp (LnF X) m L
theorem LnS.mono {H H':PH} {v:Value} {L:List (List Int×Rat)} (h:LnS H v L) (hl:Pl H H'):LnS H' v L:=by
 obtain⟨m,h1,h2⟩:=h;exact⟨m,h1.mono hl,h2.imp fun _ _ h=>h.mono hl⟩
theorem LnO.lns {H0 H:PH} {v:Value} {L:List (List Int×Rat)} (h:LnO H0 H v L):LnS H v L:=by
 obtain⟨m,X,h1,_,h3,h4⟩:=h;exact⟨m,h1.se,h4.imp fun _ _ h=>h.mono h3⟩
theorem LnO.nil (H:PH):LnO H H (.slice none 0 0) []:=⟨[],H,SO.nil _ _ _ _ _,Pl.refl _,Pl.refl _,Zp.nil⟩
theorem ql {X X1 H H1:PH} {e:TypeId} {sz:Nat} {α:Type} {ce:α->List Value} {v:Value} {l:List α} (h:SO X H e sz ce v l) (hl:Pl H H1) (hf:∀k,H k≠none->X k=none->X1 k=none):SO X1 H1 e sz ce v l:=by
 obtain⟨h1,h2|⟨g,cap,cur,h2,h3,h4,h5⟩⟩:=h
 ·exact⟨h1,.inl h2⟩
 ·exact⟨h1,.inr ⟨g,cap,cur,h2,hf g (by rw[h4];exact Option.some_ne_none _) h3,hl _ _ h4,h5⟩⟩
theorem Cg {a i:Nat} (h:i<a:=by omega):a-(i+1)<a-i:=by omega
section
variable {H:PH} {u v xv:Value} {p q:List Int} {x:Rat} {L:List (List Int×Rat)} {J:Nat}
theorem c0B (hu:SI H u p) (hv:SI H v q) (hpq:p.length=q.length):Asks prog 215 [u,v] H (.bool (ltL p q)):=by
 have qS:=hu.len;refine i9 mixed c6r ?_;refine Bf (α:=Nat) (fun i=>[.bool false,ii (i:Nat)]) (fun i=>i<=p.length/\ltL (p.drop i) (q.drop i)=ltL p q) (fun i=>p.length-i) (0) rfl (⟨bI _,rfl⟩) fun i hQ=> ?_;obtain⟨hi,hc⟩:=hQ;refine j1 el_plan hu ?_;refine d9 (d9 ?_);refine g7 (b:=decide (((i:Nat):Int)<(p.length:Nat))) rfl (fun h=> ?_) (fun h=> ?_)
 ·replace h:=oDt h;obtain⟨a,hx,hxd⟩:=m7 (l:=p) (i:=i) aA;obtain⟨b,hy,hyd⟩:=m7 (l:=q) (i:=i) aA;rw[hxd,hyd]at hc;simp only[ltL]at hc;refine j4 el_plan hu hx fun _=> ?_;refine j4 el_plan hv hy fun _=> ?_;refine d9 (d9 ?_);refine j8 (p:=(a≠b)) (bN _ _) (fun h2=> ?_) fun h2=> ?_
  ·rw[if_neg h2]at hc;refine j4 el_plan hu hx fun _=> ?_;refine j4 el_plan hv hy fun _=> ?_;refine d9 (d9 ?_);exact g6 rfl ⟨rfl,by rw[<-hc];rfl⟩
  ·rw[if_pos (bB h2)]at hc;exact⟨i+1,aA,(i7 rfl (i6 rfl aA)),⟨⟨aA,hc⟩,rfl⟩⟩
 ·replace h:=oDf h;rw[fK aA,fK aA]at hc;exact g6 rfl ⟨rfl,by rw[<-hc];rfl⟩
set_option maxHeartbeats 1000000 in
theorem VW (hl:LnS H v L) (hu:SI H u p) (hx:Rr H xv x) (hb:∀y∈L,Rb J y.2) (hbx:Rb J x) (hJ:J<=150000) (hL:L.length+2<=68719476736) (qD:∀y∈L,y.1.length=p.length):
  Con prog 165 [v,u,xv] H fun r H'=>Pl H H'/\LnS H' r (Ak L p x):=by
 obtain⟨m,hm,hz⟩:=hl;have hml:=hz.1;obtain⟨s,rfl⟩:=Ec hu;obtain⟨xc,rfl⟩:=hx.slc;refine i9 mixed c6p ?_;refine d4 hx.rq ?_;refine s8 (α:=Bool×Value×List (List Int×Rat)×Nat) (fun⟨d,v4,O,i⟩=>[.bool d,v4,ii (i:Nat)]) (fun⟨d,v4,O,i⟩=>fun H'=>i<=L.length/\LnO H H' v4 O/\((d=true/\Ak L p x=O++L.drop i)\/(d=false/\O=L.take i/\Ak L p x=L.take i++Ak (L.drop i) p x))) (fun⟨d,v4,O,i⟩=>L.length-i) ((false,.slice none 0 0,[],0)) rfl (⟨bI _,LnO.nil H,.inr ⟨rfl,rfl,rfl⟩⟩) fun⟨d,v4,O,i⟩ H' hQ=> ?_;obtain⟨hi,⟨mo,X,o1,lX,l1,zR⟩,hpc⟩:=hQ;have lH:Pl H H':=lX.trans l1;have hOl:O.length<=L.length+1:=by
  rcases hpc with⟨_,h⟩|⟨_,h,_⟩
  ·have h1:=congrArg mS h;have h2:=DT (p:=p) (x:=x) L;rw[aM]at h1;omega
  ·rw[h,bM];omega
 have tV:=zR.1;refine j1 Ea (hm.mono lH) ?_;refine d9 (d9 ?_);refine g7 (b:=decide (((i:Nat):Int)<(m.length:Nat))) rfl (fun pX=> ?_) (fun pX=> ?_)
 ·replace pX:=oDt pX;have qB:i<m.length:=aA;obtain⟨c,hc,_⟩:=m7 qB;obtain⟨y,hy,hyd⟩:=m7 (l:=L) (i:=i) aA;have hcy:=hz.2 i c y hc hy;have hym:=aG hy;refine d9 ?_;refine g7 (b:= !d) rfl (fun hd=> ?_) (fun hd=> ?_)
  ·have hd:d=false:=by simpa using hd
   obtain⟨hO,rD⟩:O=L.take i/\Ak L p x=L.take i++Ak (L.drop i) p x:=by
    rcases hpc with⟨h,_⟩|⟨_,h⟩
    ·rw[hd]at h;cases h
    ·exact h
   rw[hyd]at rD;simp only[Ak]at rD;refine Iy Ea cw Tt rfl rfl rfl rfl rfl rfl aE aE (hm.mono lH) hc rfl aE (fun _ _=>rfl) fun _ _=> ?_;refine s6 (ow (hcy.1.mono lH) (hu.mono lH)) rfl ?_;refine d9 ?_;refine g7 (b:=decide (y.1=p)) rfl (fun h2=> ?_) (fun h2=> ?_)
   ·have h2:=oDt h2;rw[if_pos h2]at rD;refine EA Ea (ws:=[.bool c.2.1,vs c.2.2.1,.bool false,vs c.2.2.2]) ED EE rfl aD rfl rfl rfl rfl rfl aE aE (hm.mono lH) hc rfl aE (fun _ _=>rfl) fun _ _=> ?_;simp only[cA,nA];refine Is (c6u (hcy.2.mono lX) (hx.mono lX) (hb y hym) hbx aA) l1 rfl fun v14 X1 H1 lX1 hr lXH lH1 uG=> ?_;obtain⟨rc,rfl⟩:=hr.slc;refine d4 hu.one ?_;refine d4 hr.rq ?_;have o2:=ql o1 lH1 uG;simp only[cA,nA];refine Dk Ea rfl rfl rfl aE aE lXH o2 (by rw[tV];omega) (z8 (show D prog _ _=lnv (s,rc)from by simp only[D,qk];rfl)) aE rfl fun _ v16 H2 l2 o3=> ?_;exact⟨(true,v16,O++[(p,y.2+x)],i+1),Cg,(Bo rfl rfl (i6 rfl aA)),⟨(by show i+1<=_;omega),⟨mo++[(s,rc)],X1,o3,lX.trans lX1,l2,Zp.snoc (zR.imp fun _ _ h=>h.mono lX1) ⟨hu.mono (lX.trans lX1),hr⟩⟩,.inl ⟨rfl,by rw[rD,hO];simp⟩⟩⟩
   ·have h2:¬y.1=p:=oDf h2;rw[if_neg h2]at rD;refine Iy Ea cw Tt rfl rfl rfl rfl rfl rfl aE aE (hm.mono lH) hc rfl aE (fun _ _=>rfl) fun _ _=> ?_;refine s6 (c0B (hu.mono lH) (hcy.1.mono lH) (qD y hym).symm) rfl ?_;refine d9 ?_;refine g7 (b:=ltL p y.1) rfl (fun h3=> ?_) (fun h3=> ?_)
    ·rw[if_pos h3]at rD;refine d4 hu.one ?_;simp only[cA,nA];refine Dk Ea rfl rfl rfl aE aE l1 o1 (by rw[tV];omega) (z8 (show D prog _ _=lnv (s,xc)from by simp only[D,qk];rfl)) aE rfl fun _ v16 H2 l2 o2=> ?_;refine j4 Ea (hm.mono (lX.trans l2)) hc fun _=> ?_;simp only[cA,nA];refine Dk Ea rfl rfl rfl aE aE l2 o2 (by have h9:=congrArg mS hO;rw[bM]at h9;rw[aM,tV];simp;omega) rfl aE rfl fun _ v20 H3 l3 o3=> ?_;exact⟨(true,v20,O++[(p,x)]++[y],i+1),Cg,(Bo rfl rfl (i6 rfl aA)),⟨(by show i+1<=_;omega),⟨mo++[(s,xc)]++[c],X,o3,lX,l3,Zp.snoc (Zp.snoc zR ⟨hu.mono lX,hx.mono lX⟩) (hcy.mono lX)⟩,.inl ⟨rfl,by rw[rD,hO];simp⟩⟩⟩
    ·rw[if_neg (by rw[h3];decide)]at rD;refine j4 Ea (hm.mono lH) hc fun _=> ?_;simp only[cA,nA];refine Dk Ea rfl rfl rfl aE aE l1 o1 (by rw[tV];omega) rfl aE rfl fun _ v18 H2 l2 o2=> ?_;exact⟨(false,v18,O++[y],i+1),Cg,(Bo (by rw[hd];rfl) rfl (i6 rfl aA)),⟨(by show i+1<=_;omega),⟨mo++[c],X,o2,lX,l2,Zp.snoc zR (hcy.mono lX)⟩,.inr ⟨rfl,by show O++[y]=L.take (i+1);rw[take_snoc hy,hO],by show _=L.take (i+1)++_;rw[take_snoc hy,rD,bH];rfl⟩⟩⟩
  ·have hd:d=true:=by simpa using hd
   have rD:Ak L p x=O++L.drop i:=by
    rcases hpc with⟨_,h⟩|⟨h,_⟩
    ·exact h
    ·rw[hd]at h;cases h
   rw[hyd]at rD;have yF:O.length+(L.length-i)<=L.length+1:=by
    have h1:=congrArg mS rD;have h2:=DT (p:=p) (x:=x) L;rw[aM,aO,List.length_drop]at h1;omega
   refine j4 Ea (hm.mono lH) hc fun _=> ?_;simp only[cA,nA];refine Dk Ea rfl rfl rfl aE aE l1 o1 (by rw[tV];omega) rfl aE rfl fun _ v10 H2 l2 o2=> ?_;exact⟨(true,v10,O++[y],i+1),Cg,(Bo (by rw[hd];rfl) rfl (i6 rfl aA)),⟨(by show i+1<=_;omega),⟨mo++[c],X,o2,lX,l2,Zp.snoc zR (hcy.mono lX)⟩,.inl ⟨rfl,by rw[rD];simp⟩⟩⟩
 ·replace pX:=oDf pX;have uZ:i=L.length:=aA;rw[fK aA]at hpc;refine d9 ?_;refine g7 (b:= !d) rfl (fun hd=> ?_) (fun hd=> ?_)
  ·have hd:d=false:=by simpa using hd
   obtain⟨hO,rD⟩:O=L.take i/\Ak L p x=L.take i++Ak [] p x:=by
    rcases hpc with⟨h,_⟩|⟨_,h⟩
    ·rw[hd]at h;cases h
    ·exact h
   refine d4 hu.one ?_;simp only[cA,nA];refine Dk Ea rfl rfl rfl aE aE l1 o1 (by rw[tV];omega) (z8 (show D prog _ _=lnv (s,xc)from by simp only[D,qk];rfl)) aE rfl fun _ v8 H2 l2 o2=> ?_;exact g6 rfl ⟨lX.trans l2,mo++[(s,xc)],o2.se,by rw[rD,<-hO];exact Zp.snoc (zR.imp fun _ _ h=>h.mono l2) ⟨hu.mono (lX.trans l2),hx.mono (lX.trans l2)⟩⟩
  ·have hd:d=true:=by simpa using hd
   have rD:Ak L p x=O++[]:=by
    rcases hpc with⟨_,h⟩|⟨h,_⟩
    ·exact h
    ·rw[hd]at h;cases h
   exact g6 rfl ⟨lH,mo,o1.se,by rw[rD,bQ];exact zR.imp fun _ _ h=>h.mono l1⟩
end
def fct:Nat->Nat
 |0=>1
 |n+1=>(n+1)*fct n
theorem VX:∀n,0<fct n
 |0=>Nat.one_pos
 |n+1=>eE (Nat.succ_pos n) (VX n)
theorem VY {d:Nat} (hd:0<d):∀{n},d<=n->d ∣ fct n
 |0,h=>by omega
 |n+1,h=>by
  unfold fct;by_cases e:d=n+1
  ·rw[e];exact⟨_,rfl⟩
  ·exact Nat.dvd_trans (VY hd aA) ⟨n+1,cX _ _⟩
theorem VZ:∀{n},n<=256->fct n<=2^(8*n)
 |0,_=>by simp[fct]
 |n+1,h=>by
  unfold fct;rw[Nat.mul_succ,fE,cX];exact bU (VZ aA) aA
theorem d9g (a b c d:Int):fr a b*fr c d=fr (a*c) (b*d):=by
 unfold fr;rw[Rat.intCast_mul,Rat.intCast_mul];generalize ((a:Int):Rat)=a;generalize ((b:Int):Rat)=b;generalize ((c:Int):Rat)=c;generalize ((d:Int):Rat)=d;rw[Rat.div_def,Rat.div_def,Rat.div_def,Rat.inv_mul_rev]
 grind
theorem WA {u d D B:Nat} (hd:d ∣ D) (hD:0<D) (hu:u<=B):Qd D (B*D) (fr (u:Nat) (d:Nat)):=by
 obtain⟨q,rfl⟩:=hd;have hd0:0<d:=Nat.pos_of_mul_pos_right (cX d q ▸ hD)|>fun h=>by
  rcases eC d with e|e
  ·rw[e,cD]at hD;omega
  ·exact e
 have xM:0<q:=by
  rcases eC q with e|e
  ·rw[e,Nat.mul_zero]at hD;omega
  ·exact e
 refine⟨((u*q:Nat):Int),?_,?_⟩
 ·unfold fr;rw[TL _ _ (((q:Nat):Int):Rat) (by have:=Ie hd0;grind) (by have:=Ie xM;grind)]
  push_cast
  rfl
 ·rw[dJ];exact bU hu (Nat.le_mul_of_pos_left q hd0)
theorem WB {u d:Nat} (hu:u<2^64) (hd0:0<d) (hd:d<2^64):Rb 64 (fr (u:Nat) (d:Nat)):=
 ax (D:=d) (B:=u) ⟨(u:Nat),rfl,by rw[dJ];exact aS _⟩ aA hd hu
section
variable {es:List (Nat×Nat)} {wl:List Int} {lo hi:Int} {n k c:Nat} {p:List Int} {pr:Nat×Nat} {L M:List (List Int×Rat)} {q:List Int} {x:Rat}
def plK (k:Nat) (p:List Int):List (List Int):=p::(i0 k).flatMap fun pr=>(Aj (unP p pr)).map (Ad p pr)
theorem qm:p∈plK k p:=by unfold plK;simp
theorem d6j {a:Nat} (qF:pr∈i0 k) (ha:a∈Aj (unP p pr)):Ad p pr a∈plK k p:=by
 unfold plK;exact cF _ (fQ.2 ⟨pr,qF,aY.2 ⟨a,ha,rfl⟩⟩)
theorem SitK.klen (h:SitK es n k p) (hq:q∈plK k p):q.length=n:=by
 unfold plK at hq;rcases aP.1 hq with rfl|hq
 ·exact h.len
 ·obtain⟨pr,_,hq⟩:=fQ.1 hq;obtain⟨a,_,rfl⟩:=aY.1 hq;rw[bg,h.len]
theorem SitK.kfew (h:SitK es n k p):(plK k p).length<=65536:=by
 unfold plK;rw[aO,iE];have h1:((i0 k).map fun pr=>((Aj (unP p pr)).map (Ad p pr)).length).sum<=((i0 k).map fun _=>512).sum:=CV fun pr qF=>by
  rw[aX];refine bD (TC (h.pro qF).s2) ?_;have:=aR (n:=2) aC h.n9;omega
 rw[Qc]at h1;have h2:=Vq k h.k8;omega
noncomputable def Eb (es:List (Nat×Nat)) (n k:Nat) (p:List Int):Nat:=((i0 k).length*fct 200)*Bv es n (i0 k).length p (i0 k)
theorem SitK.den0 (h:SitK es n k p) (qF:pr∈i0 k):0<Eb es n k p:=by
 obtain⟨n1,m1⟩:=h.n2 qF;exact eE (eE m1 (VX _)) (Wn (eE n1 m1) _)
theorem SitK.den1 (h:SitK es n k p) (qF:pr∈i0 k) {d:Nat} (hd0:0<d) (hd:d<=200) (ht:tn es (unP p pr)≠0):(i0 k).length*tn es (unP p pr)*(n-1)*d ∣ Eb es n k p:=by
 have hP:=h.pro qF;have h1:=CC (es:=es) (n:=n) (m:=(i0 k).length) (p:=p) qF;have h2:Gt es n (i0 k).length p pr=(i0 k).length*tn es (unP p pr)*(n-1):=by
  unfold Gt;rw[Ic hP.sM hP.s0,if_neg aA,dJ];rw[cX (n-1),<-cY,cX (tn es (unP p pr))]
 rw[h2]at h1;obtain⟨a,ha⟩:=h1;obtain⟨b,hb⟩:=VY hd0 hd;unfold Eb;rw[ha,hb];refine⟨(i0 k).length*b*a,?_⟩;generalize (i0 k).length*tn es (unP p pr)*(n-1)=X;generalize (i0 k).length=m;clear ha hb h2
 ac_rfl
theorem e1D:(i0 k).length ∣ Eb es n k p:=by
 unfold Eb;generalize fct 200=F;exact⟨F*Bv es n (i0 k).length p (i0 k),by rw[cY]⟩
theorem SitK.den3 (h:SitK es n k p) {K:Nat} (hK:K=12880):Eb es n k p<=2^K:=by
 have h1:=Vq k h.k8;obtain⟨K1,hK1⟩:∃K1,K1=11264:=⟨_,rfl⟩;obtain⟨K2,hK2⟩:∃K2,K2=1600:=⟨_,rfl⟩;have h2:=CG hK1 h.gv (bD h.n9 aC) h.len h1;have h3:=VZ (n:=200) aC;rw[show 8*200=K2 by omega]at h3;unfold Eb;have h4:(i0 k).length<=2^6:=h1;refine bD (bU (bU h4 h3) h2) ?_;rw[<-fE,<-fE];exact aR aC aA
structure LnB (es:List (Nat×Nat)) (n k:Nat) (p:List Int) (c:Nat) (L:List (List Int×Rat)):Prop where
 lns:Lns n L
 key:∀y∈L,y.1∈plK k p
 qd:∀y∈L,Qd (Eb es n k p) (c*(2^56*Eb es n k p)) y.2
theorem LnB.nil (es:List (Nat×Nat)) (n k:Nat) (p:List Int):LnB es n k p 0 []:=⟨Lns.nil n,(fun y h=>by cases h),fun y h=>by cases h⟩
theorem LnB.few (h:LnB es n k p c L) (hS:SitK es n k p):L.length<=65536:=by
 have:=Vu h.lns.nd (m:=plK k p) fun z hz=>by
  obtain⟨y,hy,rfl⟩:=aY.1 hz;exact h.key y hy
 rw[aX]at this;exact bD this hS.kfew
theorem EF {p:List Int} {x:Rat}:∀{L:List (List Int×Rat)} {y:List Int×Rat},y∈Ak L p x->y∈L\/y=(p,x)\/∃z∈L,y=(p,z.2+x)
 |[],y,h=>by
  unfold Ak at h;exact .inr (.inl (aL.1 h))
 |z::L,y,h=>by
  unfold Ak at h;split at h
  ·rcases aP.1 h with rfl|h
   ·exact .inr (.inr ⟨z,aD,rfl⟩)
   ·exact .inl (cF _ h)
  ·split at h
   ·rcases aP.1 h with rfl|h
    ·exact .inr (.inl rfl)
    ·exact .inl h
   ·rcases aP.1 h with rfl|h
    ·exact .inl aD
    ·rcases EF h with h|h|⟨w,hw,h⟩
     ·exact .inl (cF _ h)
     ·exact .inr (.inl h)
     ·exact .inr (.inr ⟨w,cF _ hw,h⟩)
theorem LnB.put (h:LnB es n k p c L) (hS:SitK es n k p) (hq:q∈plK k p) (hx:0<x) (hxq:Qd (Eb es n k p) (2^56*Eb es n k p) x):LnB es n k p (c+1) (Ak L q x):=by
 have hB:c*(2^56*Eb es n k p)+2^56*Eb es n k p=(c+1)*(2^56*Eb es n k p):=by rw[cK,cM]
 refine⟨h.lns.put (hS.klen hq) hx,fun y hy=> ?_,fun y hy=> ?_⟩
 ·rcases EF hy with h1|rfl|⟨z,_,rfl⟩
  ·exact h.key y h1
  ·exact hq
  ·exact hq
 ·rw[<-hB];rcases EF hy with h1|rfl|⟨z,hz,rfl⟩
  ·exact(h.qd y h1).le (Nat.le_add_right _ _)
  ·exact hxq.le (Nat.le_add_left _ _)
  ·exact(h.qd z hz).add hxq
theorem LnB.mono {c':Nat} (h:LnB es n k p c L) (hc:c<=c'):LnB es n k p c' L:=⟨h.lns,h.key,fun y hy=>(h.qd y hy).le (bL _ hc)⟩
theorem qn (hS:SitK es n k p) (qF:pr∈i0 k) {J:Nat} (hJ:J=13000) (hc:c<=2^40) (h:Qd (Eb es n k p) (c*(2^56*Eb es n k p)) x):Rb J x:=by
 obtain⟨K,hK⟩:∃K,K=12880:=⟨_,rfl⟩;have h1:=hS.den3 hK;have h0:=hS.den0 qF;have h2:c*(2^56*Eb es n k p)<=2^(40+(56+K)):=by
  rw[fE,fE];exact bU hc (cE _ h1)
 have h3:2^(40+(56+K))<2^J:=dA aC aA;have h4:2^K<2^J:=dA aC aA;exact ax h aA (aZ h1 h4) (aZ h2 h3)
structure Mrg (es:List (Nat×Nat)) (wl:List Int) (lo hi:Int) (n k:Nat) (p:List Int) (l:List (Nat×Nat)) (M:List (List Int×Rat)):Prop where
 off:∀f:List Int->Rat,f p=0->vF f M=sQ (l.map fun pr=>sQ ((Cm es wl lo hi p pr).map fun a=>f (Ad p pr a)*Gu es n (i0 k).length p pr a))
 tot:vF (fun _=>1) M=sQ (l.map fun _=>fr 1 ((i0 k).length:Nat))
 ok:∀y∈M,y.1∈plK k p/\0<y.2
theorem Mrg.nil:Mrg es wl lo hi n k p [] []:=⟨fun f _=>rfl,rfl,fun y h=>by cases h⟩
theorem Mrg.snoc {l:List (Nat×Nat)} {N:List (List Int×Rat)} (h:Mrg es wl lo hi n k p l M) (h':Mrg es wl lo hi n k p [pr] N):Mrg es wl lo hi n k p (l++[pr]) (M++N):=by
 refine⟨fun f hf=> ?_,?_,fun y hy=> ?_⟩
 ·rw[DN,h.off f hf,h'.off f hf,aT,aw]
 ·rw[DN,h.tot,h'.tot,aT,aw]
 ·rcases aQ.1 hy with hy|hy
  ·exact h.ok y hy
  ·exact h'.ok y hy
theorem SitK.mdis (h:SitK es n k p) (qF:pr∈i0 k) (hc:cnB es (unP p pr)=false):Mrg es wl lo hi n k p [pr] [(p,fr 1 ((i0 k).length:Nat))]:=by
 have hP:=h.pro qF;have ht:tn es (unP p pr)=0:=bB fun e=>by
  have:=cnB_iff.2 (d5H hP.sM hP.s0 e);rw[this]at hc;cases hc
 refine⟨fun f hf=> ?_,?_,fun y hy=> ?_⟩
 ·rw[Gv,If,hf];simp only[aN,bJ,sQ];unfold Cm;rw[if_pos (by rw[Ic hP.sM hP.s0,ht];rfl)];simp only[bJ,sQ]
  grind
 ·rw[Gv,If];simp only[aN,bJ,sQ]
  grind
 ·rw[aL.1 hy];exact⟨qm,Wx aC (by have:=(h.n2 qF).2;omega)⟩
theorem WC {a b:Nat} (hg:GV n es):Af es a b<=200:=bD (cC _ _) hg.len
theorem SitK.cok (h:SitK es n k p) (qF:pr∈i0 k) {t:List Int} (ht:TreeOk es (unP p pr) t) {x:Int} (hx:x∈t):∀y∈Iw es p pr (p8 es (unP p pr) t x),okC (plK k p) y:=fun y hy=>by
 have hP:=h.pro qF;have hb:=DY hP ht hx;have rE:=WC (a:=p8 es (unP p pr) t x) (b:=sdf (unP p pr) (p8 es (unP p pr) t x)) h.gv;unfold Iw at hy;simp only[aP,bP,or_false]at hy;rcases hy with rfl|rfl
 ·exact⟨d6j qF (cm hP ht hx),⟨by show(0:Int)<=1;decide,by show(1:Int)<=2048;decide⟩,by show(1:Int)<=(Af es _ _:Nat);omega,by show((Af es _ _:Nat):Int)<=200;omega⟩
 ·exact⟨qm,⟨by show(0:Int)<=(Af es _ _:Nat)-1;omega,by show((Af es _ _:Nat):Int)-1<=2048;omega⟩,by show(1:Int)<=(Af es _ _:Nat);omega,by show((Af es _ _:Nat):Int)<=200;omega⟩
theorem SitK.bal (h:SitK es n k p) (qF:pr∈i0 k) {t:List Int} (ht:TreeOk es (unP p pr) t):t.length<=n-1/\(z7 es wl lo hi (unP p pr) t t).length<=n-1:=by
 have hP:=h.pro qF;have h1:=ht.len;have h2:=hP.cd;have h3:(z7 es wl lo hi (unP p pr) t t).length<=t.length:=cC _ _;omega
theorem SitK.hok (h:SitK es n k p) (qF:pr∈i0 k) {t:List Int} (ht:TreeOk es (unP p pr) t):okC (plK k p) (p,(n:Int)-1-(z7 es wl lo hi (unP p pr) t t).length,1):=by
 have h1:=(h.bal (wl:=wl) (lo:=lo) (hi:=hi) qF ht).2;have h2:=(h.n2 qF).1;have h3:=h.n9;exact⟨qm,⟨by show(0:Int)<=(n:Int)-1-_;omega,by show(n:Int)-1-_<=2048;omega⟩,by show(1:Int)<=1;decide,by show(1:Int)<=200;decide⟩
theorem SitK.tok (h:SitK es n k p) (qF:pr∈i0 k) {t:List Int} (ht:TreeOk es (unP p pr) t):(∀y∈Ih es wl lo hi n p pr t,okC (plK k p) y)/\(Ih es wl lo hi n p pr t).length<=32:=by
 have h1:=(h.bal (wl:=wl) (lo:=lo) (hi:=hi) qF ht).2;have h3:=h.n9;constructor
 ·intro y hy;unfold Ih at hy;rcases aP.1 hy with rfl|hy
  ·exact h.hok qF ht
  ·obtain⟨x,hx,hy⟩:=fQ.1 hy;exact h.cok qF ht (DX hx) y hy
 ·unfold Ih;rw[aO,iE];have:((z7 es wl lo hi (unP p pr) t t).map fun x=>(Iw es p pr (p8 es (unP p pr) t x)).length).sum=(z7 es wl lo hi (unP p pr) t t).length*2:=by
   rw[<-Qc];rfl
  omega
theorem SitK.Tok (h:SitK es n k p) (qF:pr∈i0 k):∀{T:List (List Int)},(∀t∈T,TreeOk es (unP p pr) t)->(∀y∈Ej es wl lo hi n p pr T,okC (plK k p) y)/\(Ej es wl lo hi n p pr T).length<=32*T.length
 |[],_=>⟨(fun y hy=>by cases hy),aS _⟩
 |t::T,hT=>by
  obtain⟨a1,a2⟩:=h.tok (wl:=wl) (lo:=lo) (hi:=hi) qF (hT t aD);obtain⟨b1,b2⟩:=SitK.Tok h qF (T:=T) fun x hx=>hT x (cF _ hx);unfold Ej at b1 b2⊢;rw[eA];refine⟨fun y hy=> ?_,?_⟩
  ·rcases aQ.1 hy with hy|hy
   ·exact a1 y hy
   ·exact b1 y hy
  ·rw[aM,aO];omega
theorem SitK.mcon {T:List (List Int)} (h:SitK es n k p) (qF:pr∈i0 k) (hT:T.Perm (trees es (unP p pr))) (ht:tn es (unP p pr)≠0):Mrg es wl lo hi n k p [pr] (Nx (eaQ n (i0 k).length T.length) (Ig [] (Ej es wl lo hi n p pr T))):=by
 have hP:=h.pro qF;obtain⟨n1,m1⟩:=h.n2 qF;obtain⟨c1,c2⟩:=h.Tok (wl:=wl) (lo:=lo) (hi:=hi) qF (T:=T) fun t ht=>trees_mem.1 (hT.mem_iff.1 ht);have hC:=Cns.adds (Cns.nil (plK k p)) c1;have hup:∀y∈Ig [] (Ej es wl lo hi n p pr T),0<=y.2.1:=fun y hy=>(hC.up y hy).1;have hw:∀f,wF f (Ig [] (Ej es wl lo hi n p pr T))=wF f (Ej es wl lo hi n p pr T):=fun f=>by rw[VM,DV];grind
 refine⟨fun f hf=> ?_,?_,fun y hy=> ?_⟩
 ·rw[VS f _ hup,hw,d6b hf hP h.n64 hT ht];simp only[aN,bJ,sQ]
  grind
 ·rw[VS _ _ hup,hw,d6c hP hT ht m1 n1];simp only[aN,bJ,sQ]
  grind
 ·unfold Nx at hy;obtain⟨z,hz,rfl⟩:=aY.1 hy;obtain⟨yG,uI⟩:=bT.1 hz;have uI:0<z.2.1:=oDt uI;refine⟨hC.key z yG,Rat.mul_pos (Wx aC ?_) (Wx uI (hC.dn z yG).1)⟩;have:0<(i0 k).length*T.length*(n-1):=eE (eE m1 (by rw[hT.length_eq];exact Nat.pos_of_ne_zero ht)) n1;omega
theorem SitK.summ (h:SitK es n k p) (hk:i0 k≠[]) (hM:Mrg es wl lo hi n k p (i0 k) M):To es wl lo hi n k p (puts [] M):=by
 refine⟨fun f hf=> ?_,?_,Lns.puts (Lns.nil n) fun y hy=>⟨h.klen (hM.ok y hy).1,(hM.ok y hy).2⟩⟩
 ·rw[DO,If,hM.off f hf,VU];grind
 ·rw[DO,If,hM.tot,cj];have:=UL (List.length_pos_iff.2 hk);unfold fr;show(0:Rat)+_*(((1:Int):Rat)/_)=1;rw[show((1:Int):Rat)=1 from rfl,this];grind
theorem SitK.summ1 (h:SitK es n k p) (hk:i0 k=[]):To es wl lo hi n k p [(p,1)]:=by
 refine⟨fun f hf=> ?_,?_,⟨aD,(fun y hy=>by rw[aL.1 hy];exact h.len),fun y hy=>by rw[aL.1 hy];show(0:Rat)<1;decide⟩⟩
 ·rw[VU,hk,Gv,If,hf];simp only[bJ,sQ];grind
 ·rw[Gv,If];grind
end
end Go.Z

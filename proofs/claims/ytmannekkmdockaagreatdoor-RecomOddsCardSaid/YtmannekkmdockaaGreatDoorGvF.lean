/- Chapter 32: works returns true. -/
import Derived.Test.YtmannekkmdockaaGreatDoorGtI
open Bool renaming false_and->lP,true_and->jS
open List renaming foldl_cons->fV,foldl_nil->oQ,nodup_cons->eZ,pairwise_cons->fG,replicate->eK
open List.Pairwise renaming imp_of_mem->jK,nil->gV
open List.Perm renaming eq_of_pairwise->oY
open Prod renaming mk->oZ
namespace Go.Z
open Proofs.Tryz RowKit RX GS RZ
open WD (BP Bt wd iw rs toI HM sgI Rb Je)
set_option maxRecDepth 100000
theorem e0C {ρ:List Value}:D prog ρ (.cat (.k (.int .i64 13)) 1 (.z 35))=gv 13 (.slice none 0 0):=by
 have hz:D prog ρ (.z 35)= .slice none 0 0:=QU;rw[Ib (show D prog ρ (.k (.int .i64 13))=ii 13 from rfl) hz];rfl
theorem e0D {ρ:List Value} {x:SV} {s:Slc} (hx:D prog ρ x=vs s):D prog ρ (.put (.cat x 1 (.cat (.z 3) 1 (.cat (.z 3) 1 (.z 3)))) 3 1 (.k (.int .i64 1)) 0 noI)=bv (vs s) 0 0 1:=by
 rw[DK (VB hx) (show D prog ρ (.k (.int .i64 1))=ii 1 from rfl)];rfl
theorem e1A:GV 13 []:=⟨aC,aC,aC,aD,gV⟩
theorem e1B:smE 13 [] (eK 13 0) 0 0 1 [[]]=3:=by
 have hb:bdE 13 (eK 13 0) 0 0 1=0:=aC;unfold smE;rw[if_neg (by rw[hb];simp),if_pos aC]
theorem VE (H:PH) {α:Type} (sz:Nat) (ce:α->List Value):SE H sz ce (.slice none 0 0) ([]:List α):=(SO.nil H H 0 sz ce).se
theorem rg3:Rg (1/3)/\Rg 1:=⟨⟨256,aC,rb3.1⟩,⟨256,aC,rb3.2⟩⟩
theorem tell3:Ee (1/3)= .tuple #[shR (1/3),ii 0]/\Ee 1= .tuple #[shR 1,ii 0]:=⟨xy rg3.1,xy rg3.2⟩
theorem div3:Rat.divInt 1 3=1/3/\Rat.divInt 1 1=1:=by decide+kernel
theorem goR3:goR 4 es3 wl1 1 3 2 [0,0,1,1] [1,1,1,0]= .tuple #[shR (1/3),ii 0]/\goR 4 es3 wl1 2 3 2 [0,0,1,1] [0,0,1,1]= .tuple #[shR 1,ii 0]:=by
 obtain⟨f1,f2,f3,f4,f5⟩:=DF;have s1:=DJ (k:=2) bd3.1 aC [[0,0,1,1],[1,1,1,0]] (fun p hp=>by
  simp only[aP,bP,or_false]at hp;rcases hp with rfl|rfl
  ·exact f3
  ·exact f5)
 have s2:=DJ (k:=2) bd3.2 aC [[0,0,1,1],[0,0,1,1]] (fun p hp=>by
  simp only[aP,bP,or_false,or_self]at hp;subst hp;exact f4)
 unfold goR;have s1':smE 4 es3 wl1 1 3 2 [[0,0,1,1],[1,1,1,0]]=0:=s1;have s2':smE 4 es3 wl1 2 3 2 [[0,0,1,1],[0,0,1,1]]=0:=s2;rw[if_neg (by rw[s1'];simp),if_neg (by rw[s2'];simp)];exact⟨by rw[show((2:Int)).toNat=2 from rfl,go3.1];exact tell3.1,by rw[show((2:Int)).toNat=2 from rfl,go3.2];exact tell3.2⟩
theorem e1C {H:PH} {r:Value} (h:Tj H 4 es3 wl1 1 3 2 [0,0,1,1] r):∃(pv ov:Value) (m:List Slc) (cont:Slc->List Int),r= .tuple #[pv,ov,ii 0]/\SE H 1 (fun s:Slc=>[vs s]) pv m/\m.map cont=[[0,0,0,1],[0,0,1,1],[0,1,1,1]]/\(∀s∈m,SI H (vs s) (cont s))/\SE H 16 shc ov ([1/3,1/3,1/3].map tpr):=by
 obtain⟨f1,f2,f3,f4,f5⟩:=DF;have s1:=DJ (k:=2) bd3.1 aC [[0,0,1,1]] (fun p hp=>by rw[aL.1 hp];exact f3);have hc:j6 [0,0,1,1]=[0,0,1,1]:=aC;unfold Tj at h;rw[show((2:Int)).toNat=2 from rfl,hc]at h;rcases h with⟨h1,_⟩|⟨_,ps,h2,h3,h4⟩
 ·exact absurd s1 h1
 ·have tH:=e1z h2 h3;have hv:∀q∈ps,vO (Ap es3 wl1 1 3 4 2 [0,0,1,1]) (j5 q)=1/3:=fun q hq=>e0B (tH ▸ hq);rcases h4 with⟨_,pv,ov,m,cont,a1,a2,a3,a4,a5⟩|⟨⟨q,hq,h5⟩,_⟩
  ·refine⟨pv,ov,m,cont,a1,a2,a3.trans tH,a4,?_⟩;have e:(ps.map fun q=>tpr (vO (Ap es3 wl1 1 3 4 2 [0,0,1,1]) (j5 q)))=[1/3,1/3,1/3].map tpr:=by
    rw[bW (g:=fun _=>tpr (1/3)) (fun q hq=>by rw[hv q hq]),tH];rfl
   rw[<-e];exact a5
  ·rw[hv q hq,d8W rb3.1]at h5;cases h5
theorem c5W {H:PH} (hT:Tb H):Ae prog 7 [] H (.bool true):=by
 refine i9 mixed d4x ?_;obtain⟨f1,f2,f3,f4,f5⟩:=DF;refine g9 (VD 1) rfl ?_;rintro _ H1 ⟨l1,w,wts,rfl,hw,qO⟩;refine nmI ?_;refine i8 (i8 ?_);refine d4 (t8 hw) ?_;refine d4 (Cj (u0 qO) _ _ _) ?_;refine g9 (VD 2) rfl ?_;rintro _ H2 ⟨l2,w2,wts2,rfl,zS,uV⟩;refine nmI ?_;refine i8 (i8 ?_);refine d4 (t8 zS) ?_;refine d4 (Cj (u0 uV) _ _ _) ?_;refine Fp el_plan (l:=[0,0,1,1]) rfl aC aC rfl rfl rfl fun v2 H3 l3 o3 _=> ?_;refine Fp el_plan (l:=[0,1,0,1]) rfl aC aC rfl rfl rfl fun v3 H4 l4 o4 _=> ?_;have l14:=l2.trans (l3.trans l4);refine y9 (zj (lo:=1) (hi:=3) (ds:=2) (hT.mono (l1.trans l14)) (hw.mono l14) gv3 (qO.mono l14) o4.se) rfl fun H5 l5=> ?_;rw[bd3.1,f1];refine i8 (i8 ?_);simp only[cA,nA];refine Fp el_plan (l:=[0,0,0,0]) rfl aC aC rfl rfl rfl fun v5 H6 l6 o6 _=> ?_;have l16:=l14.trans (l5.trans l6);refine y9 (zj (lo:=1) (hi:=3) (ds:=2) (hT.mono (l1.trans l16)) (hw.mono l16) gv3 (qO.mono l16) o6.se) rfl fun H7 l7=> ?_;rw[bd3.1,f2];refine i8 (i8 ?_);refine Fp el_int (l:=[0,1,2]) rfl aC aC rfl rfl rfl fun v7 H8 l8 o8 _=> ?_;have l18:=l16.trans (l7.trans l8);refine g9 (NW (lo:=1) (hi:=3) (ds:=2) (set:=15) (hT.mono (l1.trans l18)) (hw.mono l18) gv3 (qO.mono l18) o8.se aC) rfl ?_;rintro _ H9 ⟨l9,v8,lb,e8,rfl,h8,he8,hl8⟩;refine nmI ?_;rw[bd3.1,if_neg aC,Vm aC DG]at he8;subst he8;rw[if_neg aC,bal3.1]at hl8;subst hl8;refine i8 (i8 ?_);refine Fp el_int (l:=[0,1,2]) rfl aC aC rfl rfl rfl fun v9 H10 l10 o10 _=> ?_;have la:=l18.trans (l9.trans l10);have l2a:Pl H2 H10:=(l3.trans l4).trans ((l5.trans l6).trans ((l7.trans l8).trans (l9.trans l10)));refine g9 (NW (lo:=2) (hi:=3) (ds:=2) (set:=15) (hT.mono (l1.trans la)) (hw.mono la) gv3 (uV.mono l2a) o10.se aC) rfl ?_;rintro _ H11 ⟨l11,v10,lc,e10,rfl,vT,a3p,a3q⟩;refine nmI ?_;rw[bd3.2,if_neg aC,Vm aC DG]at a3p;subst a3p;rw[if_neg aC,bal3.2]at a3q;subst a3q;have lb:=la.trans l11;have l3b:Pl H3 H11:=l4.trans ((l5.trans l6).trans ((l7.trans l8).trans ((l9.trans l10).trans l11)));refine i8 (i8 ?_);refine y9 (c5S (lo:=1) (hi:=3) (ds:=2) (hT.mono (l1.trans lb)) (hw.mono lb) gv3 (qO.mono lb) (o3.se.mono l3b) bd3.1) rfl fun H12 l12=> ?_;rw[f3];refine d9 ?_;refine r9 rfl ?_;refine d9 ?_;refine r9 rfl ?_;refine d9 ?_;refine r9 rfl ?_;refine d9 ?_;refine r9 rfl ?_;refine d9 ?_;refine r9 rfl ?_;refine Fp el_int (l:=[0,1,2]) rfl aC aC rfl rfl rfl fun v12 H13 l13 o13 _=> ?_;have l9d:=((l10.trans l11).trans l12).trans l13;refine s6 (MN (h8.mono l9d) o13.se) rfl ?_;refine d9 ?_;refine r9 rfl ?_;refine d9 ?_;refine r9 rfl ?_;simp only[cA,nA];refine Me el_int (a:=1) rfl rfl rfl fun v14 H14 l14' o14 _=> ?_;refine s6 (MN (vT.mono ((l12.trans l13).trans l14')) o14.se) rfl ?_;refine d9 ?_;refine r9 rfl ?_;refine d9 ?_;refine r9 rfl ?_;have le:=lb.trans ((l12.trans l13).trans l14');have l3e:=l3b.trans ((l12.trans l13).trans l14');refine g9 (CZ (lo:=1) (hi:=3) (ds:=2) (hT.mono (l1.trans le)) (hw.mono le) gv3 (qO.mono le) (o3.se.mono l3e)) rfl ?_;rintro v16 H15 ⟨l15,hO⟩;refine nmI ?_;obtain⟨pv,ov,m,cont,rfl,hpv,hmc,hmS,hov⟩:=e1C hO;refine i8 (i8 (i8 ?_));simp only[cA,nA];refine y9 (VA aC aC aC aC aC div3.1 rg3.1) rfl fun H16 l16'=> ?_;refine d4 (Dx _ _) ?_;refine Fp el_plan (l:=[1,1,1,0]) rfl aC aC rfl rfl rfl fun v18 H17 l17 o17 _=> ?_;have lf:=le.trans (l15.trans (l16'.trans l17));have l3f:=l3e.trans (l15.trans (l16'.trans l17));refine g9 (qc (lo:=1) (hi:=3) (ds:=2) (hT.mono (l1.trans lf)) (hw.mono lf) gv3 (qO.mono lf) (o3.se.mono l3f) o17.se) rfl ?_;rintro v19 H18 ⟨l18',a3r⟩;refine nmI ?_;rw[goR3.1]at a3r;subst a3r;refine i8 (i8 ?_);refine d4 (Dx _ _) ?_;have lg:=lf.trans l18';have l3g:=l3f.trans l18';have l2g:=l3.trans l3g;refine g9 (qc (lo:=2) (hi:=3) (ds:=2) (hT.mono (l1.trans lg)) (hw.mono lg) gv3 (uV.mono l2g) (o3.se.mono l3g) (o3.se.mono l3g)) rfl ?_;rintro v20 H19 ⟨l19,a3s⟩;refine nmI ?_;rw[goR3.2]at a3s;subst a3s;refine i8 (i8 ?_);refine d4 (Dx _ _) ?_;refine Fp el_plan (l:=[0,1,0,1]) rfl aC aC rfl rfl rfl fun v21 H20 l20 o20 _=> ?_;have lh:=lg.trans (l19.trans l20);simp only[cA,nA];refine y9 (c5T (lo:=1) (hi:=3) (ds:=2) (c:=0) (hT.mono (l1.trans lh)) (hw.mono lh) gv3 (qO.mono lh) o20.se bd3.1 f1) (Hz rfl rfl rfl MG) fun H21 l21=> ?_;refine i8 (i8 (i8 (i8 ?_)));refine Uu el_int (z:=(0:Int)) Vd rfl rfl rfl aC rfl fun v23 H22 l22 o22 _=> ?_;obtain⟨s23,rfl⟩:=Ec o22.se;refine d4 o22.se.one ?_;have li:=lh.trans (l21.trans l22);refine g9 (CZ (n:=13) (w:= .slice none 0 0) (es:=[]) (wts:=vs s23) (wl:=eK 13 0) (lo:=0) (hi:=0) (ds:=1) (u:= .slice none 0 0) (p:=[]) (hT.mono (l1.trans li)) (VE _ _ _) e1A o22.se (VE _ _ _)) (Bo e0C (e0D rfl) rfl) ?_;rintro v24 H23 ⟨l23,yF⟩;refine nmI ?_;unfold Tj at yF;rw[e1B]at yF;obtain⟨_,rfl⟩:=yF.resolve_right (fun h=>absurd h.1 aC);refine i8 (i8 (i8 (d9 ?_)));refine Fh rfl ?_;have ln:=(l16'.trans l17).trans ((l18'.trans l19).trans ((l20.trans l21).trans (l22.trans l23)));simp only[cA,nA];refine al el_plan (l:=[0,0,0,1]) rfl aC aC rfl rfl rfl fun v25 K1 k1 q1=> ?_;refine al el_plan (l:=[0,0,1,1]) rfl aC aC rfl rfl rfl fun v26 K2 k2 q2=> ?_;refine al el_plan (l:=[0,1,1,1]) rfl aC aC rfl rfl rfl fun v27 K3 k3 q3=> ?_;obtain⟨sa,rfl⟩:=Ec q1.se;obtain⟨sb,rfl⟩:=Ec q2.se;obtain⟨sc,rfl⟩:=Ec q3.se;refine al Ba (l:=[sa,sb,sc]) rfl aD aD rfl rfl rfl fun v28 K4 k4 q4=> ?_;have kk:=ln.trans (((k1.trans k2).trans k3).trans k4);have qM:∀s∈[sa,sb,sc],SI K4 (vs s) (Dh K4 s):=fun s hs=>by
  simp only[aP,bP,or_false]at hs;rcases hs with rfl|rfl|rfl
  ·have h:=q1.se.mono ((k2.trans k3).trans k4);rw[Hn h];exact h
  ·have h:=q2.se.mono (k3.trans k4);rw[Hn h];exact h
  ·have h:=q3.se.mono k4;rw[Hn h];exact h
 have uC:[sa,sb,sc].map (Dh K4)=[[0,0,0,1],[0,0,1,1],[0,1,1,1]]:=by
  simp only[aN,bJ];rw[Hn (q1.se.mono ((k2.trans k3).trans k4)),Hn (q2.se.mono (k3.trans k4)),Hn (q3.se.mono k4)]
 simp only[cA,nA];refine s6 (UY (hpv.mono kk) q4.se (fun s hs=>(hmS s hs).mono kk) qM) rfl ?_;refine d9 ?_;refine Fh (by show Value.bool (decide (m.map cont=[sa,sb,sc].map (Dh K4)))=_;rw[hmc,uC,oDd rfl]) ?_;refine al el_sha (l:=[tpr (1/3),tpr (1/3),tpr (1/3)]) rfl aC aC rfl rfl rfl fun v30 K5 k5 q5=> ?_;refine s6 (UZ (l:=[1/3,1/3,1/3]) (m:=[1/3,1/3,1/3]) (hov.mono (kk.trans k5)) q5.se (fun r hr=>by simp only[aP,bP,or_false,or_self]at hr;subst hr;exact rg3.1) (fun r hr=>by simp only[aP,bP,or_false,or_self]at hr;subst hr;exact rg3.1)) rfl ?_;simp only[cA,nA];refine d9 ?_;refine Fh rfl ?_;refine j7 ((LA rg3.1 rg3.1 rfl (fun _ _=>rfl) (fun _ _=>rfl)).rds _) rfl ?_;simp only[cA,nA];refine d9 ?_;refine Fh rfl ?_;refine d9 ?_;refine Fh rfl ?_;refine y9 (VA aC aC aC aC aC div3.2 rg3.2) rfl fun K6 k6=> ?_;refine j7 ((LA rg3.2 rg3.2 rfl (fun _ _=>rfl) (fun _ _=>rfl)).rds _) rfl ?_;simp only[cA,nA];refine d9 ?_;refine Fh rfl ?_;refine d9 ?_;refine Fh rfl ?_;refine d9 ?_;refine Fh rfl ?_;refine d9 ?_;exact g6 rfl ⟨l1.trans (le.trans (l15.trans (kk.trans (k5.trans k6)))),rfl⟩
def ltL:List Int->List Int->Bool
 |x::l,y::m=>if x=y then ltL l m else decide (x<y)
 |_,_=>false
theorem Qj:∀{l m:List Int},l.length=m.length->(ltL l m=true↔s7 l m<0)
 |[],[],_=>by simp[ltL,s7]
 |x::l,y::m,h=>by
  have ih:=Qj (l:=l) (m:=m) (by simpa using h);simp only[ltL,s7,Dw];by_cases h1:x=y
  ·subst h1;simpa using ih
  ·by_cases h2:x<y
   ·simp[h1,h2]
   ·have h3:y<x:=aA;simp[h1,h2,h3]
theorem DL:∀{l m:List Int},s7 l m=0->l=m
 |[],[],_=>rfl
 |[],_::_,h=>by simp[s7]at h
 |_::_,[],h=>by simp[s7]at h
 |x::l,y::m,h=>by
  simp only[s7]at h;by_cases h1:Dw x y≠0
  ·rw[if_pos h1]at h;exact absurd h h1
  ·rw[if_neg h1]at h;have h2:x=y:=by
    unfold Dw at h1;by_cases h3:x<y
    ·simp[h3]at h1
    ·by_cases h4:x>y
     ·simp[h3,h4]at h1
     ·omega
   rw[h2,DL h]
theorem qf:∀l m:List Int,s7 m l= -s7 l m
 |[],[]=>rfl
 |[],_::_=>rfl
 |_::_,[]=>rfl
 |x::l,y::m=>by
  have ih:=qf l m;simp only[s7,Dw];by_cases h1:x<y
  ·have h2:¬y<x:=aA;simp[h1,h2]
  ·by_cases h2:y<x
   ·simp[h1,h2]
   ·have h3:x=y:=aA;subst h3;simpa using ih
theorem d5Y {l m:List Int} (h:l.length=m.length) (h1:l≠m) (h2:ltL l m=false):ltL m l=true:=by
 rw[Qj h.symm];have h3:¬s7 l m<0:=fun hc=>by rw[(Qj h).2 hc]at h2;cases h2
 have h4:s7 l m≠0:=fun hc=>h1 (DL hc);have:=qf l m;omega
theorem d9a {l m k:List Int} (h:l.length=m.length) (h':m.length=k.length) (h1:ltL l m=true) (h2:ltL m k=true):ltL l k=true:=
 (Qj (h.trans h')).2 ((qe l m k).1 ((Qj h).1 h1) ((Qj h').1 h2))
theorem d0g {l m:List (List Int)} (h1:l.Pairwise (fun a b=>¬s7 b a<0)) (h2:m.Pairwise (fun a b=>¬s7 b a<0)) (h:l.Perm m):l=m:=
 oY (le:=fun a b=>¬s7 b a<0) (fun a b _ _ h3 h4=>by
  have:=qf a b;exact DL aA) h1 h2 h
def Ak:List (List Int×Rat)->List Int->Rat->List (List Int×Rat)
 |[],p,x=>[(p,x)]
 |y::L,p,x=>if y.1=p then(p,y.2+x)::L else if ltL p y.1=true then(p,x)::y::L else y::Ak L p x
def puts (L M:List (List Int×Rat)):List (List Int×Rat):=M.foldl (fun L y=>Ak L y.1 y.2) L
def vF (f:List Int->Rat) (L:List (List Int×Rat)):Rat:=sQ (L.map fun y=>f y.1*y.2)
theorem Gv (f:List Int->Rat) (y:List Int×Rat) (L:List (List Int×Rat)):vF f (y::L)=f y.1*y.2+vF f L:=rfl
theorem If (f:List Int->Rat):vF f []=0:=rfl
theorem DN (f:List Int->Rat) (L M:List (List Int×Rat)):vF f (L++M)=vF f L+vF f M:=by unfold vF;rw[aT,aw]
theorem VF (f:List Int->Rat) (p:List Int) (x:Rat):∀L:List (List Int×Rat),vF f (Ak L p x)=vF f L+f p*x
 |[]=>by simp only[Ak,Gv,If];grind
 |y::L=>by
  have ih:=VF f p x L;unfold Ak;split
  ·rename_i h;subst h;simp only[Gv];grind
  ·split
   ·simp only[Gv];grind
   ·simp only[Gv,ih];grind
theorem DO (f:List Int->Rat):∀M L:List (List Int×Rat),vF f (puts L M)=vF f L+vF f M
 |[],L=>by simp only[puts,oQ,If];grind
 |y::M,L=>by
  have ih:=DO f M (Ak L y.1 y.2);unfold puts at ih⊢;rw[fV,ih,VF,Gv];grind
structure Lns (n:Nat) (L:List (List Int×Rat)):Prop where
 srt:(L.map (·.1)).Pairwise (fun a b=>ltL a b=true)
 len:∀y∈L,y.1.length=n
 pos:∀y∈L,0<y.2
theorem Lns.nil (n:Nat):Lns n []:=⟨gV,(fun y h=>by cases h),fun y h=>by cases h⟩
theorem DR {p:List Int} {x:Rat}:∀{L:List (List Int×Rat)} {y:List Int×Rat},y∈Ak L p x->y.1=p\/∃z∈L,z.1=y.1
 |[],y,h=>by
  unfold Ak at h;rw[aL.1 h];exact .inl rfl
 |z::L,y,h=>by
  unfold Ak at h;split at h
  ·rcases aP.1 h with rfl|h
   ·exact .inl rfl
   ·exact .inr ⟨y,cF _ h,rfl⟩
  ·split at h
   ·rcases aP.1 h with rfl|h
    ·exact .inl rfl
    ·exact .inr ⟨y,h,rfl⟩
   ·rcases aP.1 h with rfl|h
    ·exact .inr ⟨y,aD,rfl⟩
    ·rcases DR h with h|⟨z,hz,h⟩
     ·exact .inl h
     ·exact .inr ⟨z,cF _ hz,h⟩
theorem VG {p:List Int} {x:Rat} (hx:0<x):∀{L:List (List Int×Rat)},(∀y∈L,0<y.2)->∀y∈Ak L p x,0<y.2
 |[],_,y,h=>by
  unfold Ak at h;rw[aL.1 h];exact hx
 |z::L,hL,y,h=>by
  have hz:=hL z aD;unfold Ak at h;split at h
  ·rcases aP.1 h with rfl|h
   ·show 0<z.2+x;grind
   ·exact hL y (cF _ h)
  ·split at h
   ·rcases aP.1 h with rfl|h
    ·exact hx
    ·exact hL y h
   ·rcases aP.1 h with rfl|h
    ·exact hz
    ·exact VG hx (fun y hy=>hL y (cF _ hy)) y h
theorem VH {n:Nat} {p:List Int} {x:Rat} (hp:p.length=n):∀{L:List (List Int×Rat)},(L.map (·.1)).Pairwise (fun a b=>ltL a b=true)->(∀y∈L,y.1.length=n)->((Ak L p x).map (·.1)).Pairwise (fun a b=>ltL a b=true)
 |[],_,_=>by unfold Ak;simp
 |z::L,hs,hl=>by
  have hzl:=hl z aD;rw[aN,fG]at hs;have hl':∀y∈L,y.1.length=n:=fun y hy=>hl y (cF _ hy);unfold Ak;split
  ·rename_i h;rw[aN,fG];exact⟨fun a ha=>by have:=hs.1 a ha;rwa[h]at this,hs.2⟩
  ·rename_i h1;split
   ·rename_i h2;rw[aN,aN,fG,fG];refine⟨fun a ha=> ?_,hs⟩;rcases aP.1 ha with rfl|ha
    ·exact h2
    ·obtain⟨y,hy,rfl⟩:=aY.1 ha;exact d9a (hp.trans hzl.symm) (hzl.trans (hl' y hy).symm) h2 (hs.1 _ ha)
   ·rename_i h2;rw[aN,fG];refine⟨fun a ha=> ?_,VH hp hs.2 hl'⟩;obtain⟨y,hy,rfl⟩:=aY.1 ha;rcases DR hy with h|⟨w,hw,h⟩
    ·rw[h];exact d5Y (hp.trans hzl.symm) (fun e=>h1 e.symm) (by simpa using h2)
    ·rw[<-h];exact hs.1 _ (aY.2 ⟨w,hw,rfl⟩)
theorem Lns.put {n:Nat} {L:List (List Int×Rat)} {p:List Int} {x:Rat} (h:Lns n L) (hp:p.length=n) (hx:0<x):Lns n (Ak L p x):=
 ⟨VH hp h.srt h.len,(fun y hy=>by rcases DR hy with h1|⟨z,hz,h1⟩;(rw[h1];exact hp);(rw[<-h1];exact h.len z hz)),VG hx h.pos⟩
theorem Lns.puts {n:Nat}:∀{M L:List (List Int×Rat)},Lns n L->(∀y∈M,y.1.length=n/\0<y.2)->Lns n (puts L M)
 |[],_,h,_=>h
 |y::M,L,h,hM=>by
  have h1:=hM y aD;exact Lns.puts (M:=M) (h.put h1.1 h1.2) fun z hz=>hM z (cF _ hz)
theorem DT {p:List Int} {x:Rat}:∀L:List (List Int×Rat),(Ak L p x).length<=L.length+1
 |[]=>by simp[Ak]
 |y::L=>by
  have ih:=DT (p:=p) (x:=x) L;unfold Ak;split
  ·simp
  ·split
   ·simp
   ·simp only[aO];omega
theorem Lns.nd {n:Nat} {L:List (List Int×Rat)} (h:Lns n L):(L.map (·.1)).Nodup:=
 jK (fun ha hb pX e=>by
  subst e;obtain⟨y,hy,rfl⟩:=aY.1 ha;rw[Qj rfl,CY]at pX;exact absurd pX aC) h.srt
def ind (q:List Int):List Int->Rat:=fun r=>if r=q then 1 else 0
theorem qg (q:List Int):ind q q=1:=if_pos rfl
theorem bu {q r:List Int} (h:r≠q):ind q r=0:=if_neg h
theorem Tn {q:List Int}:∀{L:List (List Int×Rat)},q∉L.map (·.1)->vF (ind q) L=0
 |[],_=>rfl
 |y::L,h=>by
  rw[aN,aP,not_or]at h;rw[Gv,bu (fun e=>h.1 e.symm),Tn h.2];grind
theorem DU {q:List Int}:∀{L:List (List Int×Rat)},(∀y∈L,0<y.2)->q∈L.map (·.1)->0<vF (ind q) L
 |[],_,h=>by cases h
 |y::L,hp,h=>by
  have h1:=hp y aD;have h0:0<=vF (ind q) L:=by
   by_cases hm:q∈L.map (·.1)
   ·exact Rat.le_of_lt (DU (fun z hz=>hp z (cF _ hz)) hm)
   ·rw[Tn hm];exact Rat.le_refl
  rw[Gv];by_cases e:y.1=q
  ·rw[e,qg];grind
  ·rw[aN,aP]at h;have:=DU (fun z hz=>hp z (cF _ hz)) (h.resolve_left fun h=>e h.symm);rw[bu e];grind
theorem VI {q:List Int} {L:List (List Int×Rat)} (h:(L.map (·.1)).Nodup):vF (ind q) L=vO L q:=by
 by_cases hm:q∈L.map (·.1)
 ·obtain⟨⟨r,x⟩,hy,rfl⟩:=aY.1 hm;rw[Jr h hy];clear hm;induction L with
  |nil=>cases hy
  |cons z L ih=>
   rw[aN,eZ]at h;rw[Gv];rcases aP.1 hy with rfl|hy
   ·rw[qg,Tn h.1];grind
   ·rw[bu (fun e=>h.1 (by rw[e];exact aY.2 ⟨_,hy,rfl⟩)),ih h.2 hy];grind
 ·rw[Tn hm,Wt hm]
theorem VJ (f g:List Int->Rat):∀L:List (List Int×Rat),vF (fun q=>f q+g q) L=vF f L+vF g L
 |[]=>by simp only[If];grind
 |y::L=>by simp only[Gv,VJ f g L];grind
def Ew:List (List Int×Int×Int)->List Int->Int->Int->List (List Int×Int×Int)
 |[],p,u,d=>[(p,u,d)]
 |y::L,p,u,d=>if y.2.2=d/\y.1=p then(y.1,y.2.1+u,y.2.2)::L else y::Ew L p u d
def Ig (L C:List (List Int×Int×Int)):List (List Int×Int×Int):=C.foldl (fun L y=>Ew L y.1 y.2.1 y.2.2) L
def fr (u d:Int):Rat:=(u:Rat)/(d:Rat)
def wF (f:List Int->Rat) (L:List (List Int×Int×Int)):Rat:=sQ (L.map fun y=>f y.1*fr y.2.1 y.2.2)
theorem Ww (f:List Int->Rat) (y:List Int×Int×Int) (L:List (List Int×Int×Int)):wF f (y::L)=f y.1*fr y.2.1 y.2.2+wF f L:=rfl
theorem DV (f:List Int->Rat):wF f []=0:=rfl
theorem VK (u v d:Int):fr (u+v) d=fr u d+fr v d:=by
 unfold fr;rw[Rat.div_def,Rat.div_def,Rat.div_def,Rat.intCast_add,Rat.add_mul]
theorem VL (f:List Int->Rat) (p:List Int) (u d:Int):∀L:List (List Int×Int×Int),wF f (Ew L p u d)=wF f L+f p*fr u d
 |[]=>by simp only[Ew,Ww,DV];grind
 |y::L=>by
  have ih:=VL f p u d L;unfold Ew;split
  ·rename_i h;obtain⟨h1,h2⟩:=h;simp only[Ww,VK];rw[h1,h2];grind
  ·simp only[Ww,ih];grind
theorem VM (f:List Int->Rat):∀C L:List (List Int×Int×Int),wF f (Ig L C)=wF f L+wF f C
 |[],L=>by simp only[Ig,oQ,DV];grind
 |y::C,L=>by
  have ih:=VM f C (Ew L y.1 y.2.1 y.2.2);unfold Ig at ih⊢;rw[fV,ih,VL,Ww];grind
def okC (K:List (List Int)) (y:List Int×Int×Int):Prop:=y.1∈K/\(0<=y.2.1/\y.2.1<=2048)/\1<=y.2.2/\y.2.2<=200
structure Cns (K:List (List Int)) (N:Nat) (L:List (List Int×Int×Int)):Prop where
 key:∀y∈L,y.1∈K
 up:∀y∈L,0<=y.2.1/\y.2.1<=2048*N
 dn:∀y∈L,1<=y.2.2/\y.2.2<=200
 nd:(L.map fun y=>(y.1,y.2.2)).Nodup
theorem Cns.nil (K:List (List Int)):Cns K 0 []:=⟨(fun y h=>by cases h),(fun y h=>by cases h),(fun y h=>by cases h),dG⟩
theorem ca {p:List Int} {u d:Int}:∀{L:List (List Int×Int×Int)} {y:List Int×Int×Int},y∈Ew L p u d->y∈L\/y=(p,u,d)\/∃z∈L,y=(z.1,z.2.1+u,z.2.2)
 |[],y,h=>by
  unfold Ew at h;exact .inr (.inl (aL.1 h))
 |z::L,y,h=>by
  unfold Ew at h;split at h
  ·rcases aP.1 h with rfl|h
   ·exact .inr (.inr ⟨z,aD,rfl⟩)
   ·exact .inl (cF _ h)
  ·rcases aP.1 h with rfl|h
   ·exact .inl aD
   ·rcases ca h with h|h|⟨w,hw,h⟩
    ·exact .inl (cF _ h)
    ·exact .inr (.inl h)
    ·exact .inr (.inr ⟨w,cF _ hw,h⟩)
theorem VN {p:List Int} {u d:Int}:∀{L:List (List Int×Int×Int)},(L.map fun y=>(y.1,y.2.2)).Nodup->((Ew L p u d).map fun y=>(y.1,y.2.2)).Nodup
 |[],_=>by unfold Ew;simp
 |z::L,h=>by
  rw[aN,eZ]at h;unfold Ew;split
  ·rw[aN,eZ];exact h
  ·rename_i hn;rw[aN,eZ];refine⟨fun hm=> ?_,VN h.2⟩;obtain⟨y,hy,e⟩:=aY.1 hm;have e1:=(oZ.inj e).1;have e2:=(oZ.inj e).2;rcases ca hy with h1|rfl|⟨w,hw,rfl⟩
   ·exact h.1 (aY.2 ⟨y,h1,e⟩)
   ·exact hn ⟨e2.symm,e1.symm⟩
   ·exact h.1 (aY.2 ⟨w,hw,e⟩)
theorem Cns.few {K:List (List Int)} {N:Nat} {L:List (List Int×Int×Int)} (h:Cns K N L):L.length<=K.length*201:=by
 have h1:=Vu h.nd (m:=K.flatMap fun q=>(List.range 201).map fun d=>(q,((d:Nat):Int))) fun z hz=>by
  obtain⟨y,hy,rfl⟩:=aY.1 hz;refine List.mem_flatMap.2 ⟨y.1,h.key y hy,aY.2 ⟨y.2.2.toNat,bR.2 ?_,?_⟩⟩
  ·have:=h.dn y hy;omega
  ·have:=h.dn y hy;congr 1;omega
 rw[aX,List.length_flatMap]at h1;simp only[aX,List.length_range]at h1;rw[Qc]at h1;exact h1
theorem Cns.add {K:List (List Int)} {N:Nat} {L:List (List Int×Int×Int)} {y:List Int×Int×Int} (h:Cns K N L) (hy:okC K y):Cns K (N+1) (Ew L y.1 y.2.1 y.2.2):=by
 obtain⟨k1,k2,k3⟩:=hy;refine⟨fun x hx=> ?_,fun x hx=> ?_,fun x hx=> ?_,VN h.nd⟩
 ·rcases ca hx with h1|rfl|⟨z,hz,rfl⟩
  ·exact h.key x h1
  ·exact k1
  ·exact h.key z hz
 ·rcases ca hx with h1|rfl|⟨z,hz,rfl⟩
  ·have:=h.up x h1;omega
  ·show 0<=y.2.1/\y.2.1<=_;omega
  ·have:=h.up z hz;show 0<=z.2.1+y.2.1/\z.2.1+y.2.1<=_;omega
 ·rcases ca hx with h1|rfl|⟨z,hz,rfl⟩
  ·exact h.dn x h1
  ·exact k3
  ·exact h.dn z hz
theorem Cns.adds {K:List (List Int)}:∀{C L:List (List Int×Int×Int)} {N:Nat},Cns K N L->(∀y∈C,okC K y)->Cns K (N+C.length) (Ig L C)
 |[],_,_,h,_=>h
 |y::C,L,N,h,hC=>by
  have:=Cns.adds (C:=C) (h.add (hC y aD)) fun z hz=>hC z (cF _ hz);rw[aO,show N+(C.length+1)=N+1+C.length by omega];exact this
theorem DW (L C:List (List Int×Int×Int)) (y:List Int×Int×Int):Ig L (C++[y])=Ew (Ig L C) y.1 y.2.1 y.2.2:=by unfold Ig;rw[dZ];rfl
theorem c6e (L M:List (List Int×Rat)) (y:List Int×Rat):puts L (M++[y])=Ak (puts L M) y.1 y.2:=by unfold puts;rw[dZ];rfl
theorem d0h (L M N:List (List Int×Rat)):puts L (M++N)=puts (puts L M) N:=by unfold puts;rw[dZ]
theorem Iu {α:Type} {f g:α->Rat} {l:List α} (h:∀x∈l,f x=g x):sQ (l.map f)=sQ (l.map g):=by rw[bW h]
theorem d5Z {l m:List Rat} (h:l.Perm m):sQ l=sQ m:=by
 induction h with
 |nil=>rfl
 |cons x _ ih=>simp only[sQ,ih]
 |swap x y l=>simp only[sQ];grind
 |trans _ _ ih1 ih2=>rw[ih1,ih2]
theorem qh {α:Type} {c:α->Bool} {g:α->Rat}:∀l:List α,sQ ((l.filter c).map g)=sQ (l.map fun x=>if c x=true then g x else 0)
 |[]=>rfl
 |a::l=>by
  have ih:=qh (c:=c) (g:=g) l;by_cases h:c a=true
  ·rw[dY h];simp only[aN,sQ,ih,if_pos h]
  ·rw[dD h];simp only[aN,sQ,ih,if_neg h];grind
theorem qj {α:Type} {g:α->Rat} (c:Rat):∀l:List α,sQ (l.map fun x=>c*g x)=c*sQ (l.map g)
 |[]=>by simp only[bJ,sQ];grind
 |a::l=>by simp only[aN,sQ,qj c l];grind
theorem VO {α:Type} {f g:α->Rat}:∀l:List α,sQ (l.map fun x=>f x+g x)=sQ (l.map f)+sQ (l.map g)
 |[]=>by simp only[bJ,sQ];grind
 |a::l=>by simp only[aN,sQ,VO l];grind
theorem cj {α:Type} (c:Rat):∀l:List α,sQ (l.map fun _=>c)=(((l.length:Nat):Int):Rat)*c
 |[]=>by simp only[bJ,sQ,bX];show(0:Rat)=0*c;grind
 |a::l=>by
  simp only[aN,sQ,cj c l,aO]
  push_cast
  grind
theorem VP {α:Type} {g:α->Rat} {l:List α} (h:∀x∈l,g x=0):sQ (l.map g)=0:=by
 rw[Iu (g:=fun _=>0) h,cj];grind
theorem VQ {α:Type} [DecidableEq α] {g:α->Rat} {a:α}:∀{m:List α},m.Nodup->a∈m->sQ (m.map fun b=>if a=b then g b else 0)=g a
 |b::m,hn,ha=>by
  rw[eZ]at hn;simp only[aN,sQ];by_cases e:a=b
  ·subst e;rw[if_pos rfl,VP (fun x hx=>if_neg fun e=>hn.1 (by rw[e];exact hx))];grind
  ·rw[if_neg e,VQ hn.2 ((aP.1 ha).resolve_left e)];grind
theorem VR {α β:Type} [DecidableEq β] {s:α->β} {g:β->Rat} {m:List β} (hm:m.Nodup):∀{l:List α},(∀x∈l,s x∈m)->sQ (l.map fun x=>g (s x))=sQ (m.map fun b=>((((l.filter fun x=>decide (s x=b)).length:Nat):Int):Rat)*g b)
 |[],_=>by
  rw[VP (l:=m)]
  ·rfl
  ·intro b _;show(0:Rat)*g b=0;grind
 |a::l,h=>by
  have ih:=VR (g:=g) hm (l:=l) fun x hx=>h x (cF _ hx);have h1:=VQ (g:=g) hm (h a aD);simp only[aN,sQ,ih];rw[<-h1,<-VO];refine Iu fun b _=> ?_;by_cases e:s a=b
  ·rw[if_pos e,dY (by simpa using e),aO];push_cast;grind
  ·rw[if_neg e,dD (by simpa using e)];grind
theorem d6a (d:Int):fr 0 d=0:=by
 unfold fr;rw[Rat.div_def];show(0:Rat)*_=0;rw[Rat.zero_mul]
theorem Wx {u d:Int} (hu:0<u) (hd:1<=d):0<fr u d:=by
 unfold fr;rw[Rat.lt_div_iff (by exact_mod_cast (show 0<d by omega)),Rat.zero_mul]
 exact_mod_cast hu
def Nx (e:Rat) (P:List (List Int×Int×Int)):List (List Int×Rat):=(P.filter fun y=>decide (0<y.2.1)).map fun y=>(y.1,e*fr y.2.1 y.2.2)
theorem VS (f:List Int->Rat) (e:Rat) {P:List (List Int×Int×Int)} (h:∀y∈P,0<=y.2.1):vF f (Nx e P)=e*wF f P:=by
 unfold Nx vF wF;rw[cZ,<-qj];show sQ ((P.filter _).map fun y=>f y.1*(e*fr y.2.1 y.2.2))=_;rw[qh];refine Iu fun y hy=> ?_;by_cases hp:0<y.2.1
 ·rw[if_pos (oDd hp)];grind
 ·have:y.2.1=0:=by have:=h y hy;omega
  rw[if_neg (by simpa using hp),this,d6a];grind
section
variable {es:List (Nat×Nat)} {wl:List Int} {lo hi:Int} {n k m:Nat} {p:List Int} {pr:Nat×Nat}
def Iw (es:List (Nat×Nat)) (p:List Int) (pr:Nat×Nat) (A:Nat):List (List Int×Int×Int):=
 [(Ad p pr A,1,(Af es A (sdf (unP p pr) A):Nat)),(p,((Af es A (sdf (unP p pr) A):Nat):Int)-1,(Af es A (sdf (unP p pr) A):Nat))]
noncomputable def Ih (es:List (Nat×Nat)) (wl:List Int) (lo hi:Int) (n:Nat) (p:List Int) (pr:Nat×Nat) (t:List Int):List (List Int×Int×Int):=
 (p,(n:Int)-1-(z7 es wl lo hi (unP p pr) t t).length,1)::(z7 es wl lo hi (unP p pr) t t).flatMap fun x=>Iw es p pr (p8 es (unP p pr) t x)
noncomputable def Ej (es:List (Nat×Nat)) (wl:List Int) (lo hi:Int) (n:Nat) (p:List Int) (pr:Nat×Nat) (T:List (List Int)):List (List Int×Int×Int):=T.flatMap (Ih es wl lo hi n p pr)
noncomputable def gA (es:List (Nat×Nat)) (wl:List Int) (lo hi:Int) (p:List Int) (pr:Nat×Nat) (f:List Int->Rat) (A:Nat):Rat:=
 if(alB es wl lo hi A&&alB es wl lo hi (sdf (unP p pr) A))=true then f (Ad p pr A)*fr 1 (Af es A (sdf (unP p pr) A):Nat)else 0
theorem d0j {f:List Int->Rat} (hf:f p=0) (t:List Int):wF f (Ih es wl lo hi n p pr t)=sQ (t.map fun x=>gA es wl lo hi p pr f (p8 es (unP p pr) t x)):=by
 unfold Ih;rw[Ww,hf];have h:wF f ((z7 es wl lo hi (unP p pr) t t).flatMap fun x=>Iw es p pr (p8 es (unP p pr) t x))=sQ ((z7 es wl lo hi (unP p pr) t t).map fun x=>f (Ad p pr (p8 es (unP p pr) t x))*fr 1 (Af es (p8 es (unP p pr) t x) (sdf (unP p pr) (p8 es (unP p pr) t x)):Nat)):=by
  unfold wF;rw[Qi];refine Iu fun x _=> ?_;unfold Iw;simp only[aN,bJ,sQ,hf]
  grind
 rw[h];unfold z7;rw[qh];unfold gA
 grind
theorem cm {t:List Int} {x:Int} (hP:PrO p n k pr) (ht:TreeOk es (unP p pr) t) (hx:x∈t):p8 es (unP p pr) t x∈Aj (unP p pr):=by
 have c:=ni hP.sM hP.s0 ht hx rfl;refine c5G hP.sM hP.s0 c.sub c.lst fun e=>c.b0 ?_;rw[e];exact Ao fun y=>by rw[z6,Dc];cases bit (unP p pr) y<;>rfl
theorem d0k (A:Nat):((Qe es (unP p pr)).filter fun x=>decide (p8 es (unP p pr) x.1 x.2=A))=Jq es (unP p pr) A:=by
 unfold Qe Jq;rw[List.filter_flatMap];congr 1;funext t;rw[List.filter_map];rfl
theorem d0l {T:List (List Int)} {f:List Int->Rat} (hf:f p=0) (hP:PrO p n k pr) (hT:T.Perm (trees es (unP p pr))):
  wF f (Ej es wl lo hi n p pr T)=sQ ((Aj (unP p pr)).map fun A=>((((tn es A*tn es (sdf (unP p pr) A)*Af es A (sdf (unP p pr) A)):Nat):Int):Rat)*gA es wl lo hi p pr f A):=by
 have h1:wF f (Ej es wl lo hi n p pr T)=sQ (T.map fun t=>wF f (Ih es wl lo hi n p pr t)):=by
  unfold Ej;unfold wF;rw[Qi]
 rw[h1,d5Z (hT.map _),Iu fun t _=>d0j hf t];have h2:sQ ((trees es (unP p pr)).map fun t=>sQ (t.map fun x=>gA es wl lo hi p pr f (p8 es (unP p pr) t x)))=sQ ((Qe es (unP p pr)).map fun x=>gA es wl lo hi p pr f (p8 es (unP p pr) x.1 x.2)):=by
  unfold Qe;rw[Qi];refine Iu fun t _=> ?_;rw[cZ];rfl
 rw[h2,VR (s:=fun x:List Int×Int=>p8 es (unP p pr) x.1 x.2) (g:=gA es wl lo hi p pr f) (m:=Aj (unP p pr)) (CO _) fun x hx=>by
  obtain⟨h3,h4⟩:=allC_mem.1 hx;exact cm hP h3 h4]
 refine Iu fun A hA=> ?_;obtain⟨s1,s2,_⟩:=Qh hP.sM hP.s0 hA;rw[d0k,PY hP.sM hP.s0 s1 s2];unfold tn;rw[cY]
def eaQ (n m c:Nat):Rat:=fr 1 ((m*c*(n-1):Nat):Int)
theorem d6b {T:List (List Int)} {f:List Int->Rat} (hf:f p=0) (hP:PrO p n k pr) (hn:n<=64) (hT:T.Perm (trees es (unP p pr))) (ht:tn es (unP p pr)≠0):
  eaQ n m T.length*wF f (Ej es wl lo hi n p pr T)=sQ ((Cm es wl lo hi p pr).map fun a=>f (Ad p pr a)*Gu es n m p pr a):=by
 rw[d0l hf hP hT,<-qj];unfold Cm;rw[if_neg (fun e=>ht (by rw[Ic hP.sM hP.s0]at e;omega)),qh];refine Iu fun A hA=> ?_;obtain⟨s1,s2,s3⟩:=Qh hP.sM hP.s0 hA;have hb:=CW (es:=es) hP.sM hP.s0 ht s1 s2 s3;rw[bq hP hn hA];unfold gA Ld;have hl:T.length=tn es (unP p pr):=hT.length_eq;rw[hl];by_cases h1:alB es wl lo hi A=true
 ·by_cases h2:alB es wl lo hi (sdf (unP p pr) A)=true
  ·rw[h1,h2];simp only[jS,if_true];by_cases h3:j5 p=j5 (Ad p pr A)
   ·have:p=Ad p pr A:=BS (bg _ _).symm h3;rw[<-this,hf];rw[if_neg (by simp[<-this])]
    grind
   ·rw[if_pos (by simpa using h3)];have rJ:((((Af es A (sdf (unP p pr) A):Nat):Int)):Rat)≠0:=by
     have:=Ie hb
     grind
    unfold eaQ fr;have e1:(((m*tn es (unP p pr)*(n-1):Nat):Int):Rat)=((tn es (unP p pr)*((n-1)*m):Nat):Int):=by
     congr 2;rw[cX m,cY,cX m]
    rw[e1];generalize (((tn es (unP p pr)*((n-1)*m):Nat):Int):Rat)=D;rw[show(((tn es A*tn es (sdf (unP p pr) A)*Af es A (sdf (unP p pr) A):Nat):Int):Rat)=(((tn es A*tn es (sdf (unP p pr) A):Nat):Int):Rat)*(((Af es A (sdf (unP p pr) A):Nat):Int):Rat)from by push_cast;rfl];generalize (((tn es A*tn es (sdf (unP p pr) A):Nat):Int):Rat)=x;generalize (((Af es A (sdf (unP p pr) A):Nat):Int):Rat)=b at rJ⊢;rw[Rat.div_def,Rat.div_def,Rat.div_def];have qX:b*b⁻¹=1:=Rat.mul_inv_cancel _ rJ;show(((1:Int):Rat)*D⁻¹)*(x*b*(f (Ad p pr A)*(((1:Int):Rat)*b⁻¹)))=f (Ad p pr A)*(x*D⁻¹);have h1':((1:Int):Rat)=1:=rfl;rw[h1']
    grind
  ·rw[h1,show alB es wl lo hi (sdf (unP p pr) A)=false by simpa using h2];simp only[jS,lP];rw[if_neg aC,if_neg aC];grind
 ·rw[show alB es wl lo hi A=false by simpa using h1];simp only[lP];rw[if_neg aC,if_neg aC];grind
theorem DX {t:List Int} {x:Int} (h:x∈z7 es wl lo hi (unP p pr) t t):x∈t:=by
 unfold z7 at h;exact(bT.1 h).1
theorem DY {t:List Int} {x:Int} (hP:PrO p n k pr) (ht:TreeOk es (unP p pr) t) (hx:x∈t):0<Af es (p8 es (unP p pr) t x) (sdf (unP p pr) (p8 es (unP p pr) t x)):=by
 have h1:=cm hP ht hx;obtain⟨s1,s2,s3⟩:=Qh hP.sM hP.s0 h1;exact CW hP.sM hP.s0 (tn_tree.2 ⟨t,ht⟩) s1 s2 s3
theorem d0m {t:List Int} (hP:PrO p n k pr) (ht:TreeOk es (unP p pr) t):wF (fun _=>1) (Ih es wl lo hi n p pr t)=(((n:Int)-1:Int):Rat):=by
 unfold Ih;rw[Ww];have h:wF (fun _=>1) ((z7 es wl lo hi (unP p pr) t t).flatMap fun x=>Iw es p pr (p8 es (unP p pr) t x))=sQ ((z7 es wl lo hi (unP p pr) t t).map fun _=>1):=by
  unfold wF;rw[Qi];refine Iu fun x hx=> ?_;have hb:=Ie (DY hP ht (DX hx));unfold Iw;simp only[aN,bJ,sQ];generalize ((Af es (p8 es (unP p pr) t x) (sdf (unP p pr) (p8 es (unP p pr) t x)):Nat):Int)=b at hb⊢;have e:=VK 1 (b-1) b;rw[show 1+(b-1)=b by omega]at e;have e2:fr b b=1:=by
   unfold fr;rw[Rat.div_def,Rat.mul_inv_cancel]
   grind
  rw[e2]at e
  grind
 rw[h,cj];generalize (z7 es wl lo hi (unP p pr) t t).length=c;unfold fr;rw[Rat.div_def];have h1:(((1:Int):Rat))⁻¹=1:=by show(1:Rat)⁻¹=1;grind
 rw[h1]
 push_cast
 grind
theorem d6c {T:List (List Int)} (hP:PrO p n k pr) (hT:T.Perm (trees es (unP p pr))) (ht:tn es (unP p pr)≠0) (hm:0<m) (vV:0<n-1):
  eaQ n m T.length*wF (fun _=>1) (Ej es wl lo hi n p pr T)=fr 1 (m:Nat):=by
 have h1:wF (fun _=>1) (Ej es wl lo hi n p pr T)=sQ (T.map fun t=>wF (fun _=>1) (Ih es wl lo hi n p pr t)):=by
  unfold Ej;unfold wF;rw[Qi]
 rw[h1,Iu (g:=fun _=>(((n:Int)-1:Int):Rat)) fun t h=>d0m hP (trees_mem.1 (hT.mem_iff.1 h)),cj];have hl:T.length=tn es (unP p pr):=hT.length_eq;rw[hl];unfold eaQ fr;have e1:(((m*tn es (unP p pr)*(n-1):Nat):Int):Rat)=(((m:Nat):Int):Rat)*((((tn es (unP p pr):Nat):Int):Rat)*(((n:Int)-1:Int):Rat)):=by
  rw[show((n:Int)-1)=((n-1:Nat):Int) by omega]
  push_cast
  grind
 rw[e1];have a1:=Ie hm;have a2:=Ie (Nat.pos_of_ne_zero ht);have a3:(0:Rat)<(((n:Int)-1:Int):Rat):=by exact_mod_cast (show(0:Int)<(n:Int)-1 by omega)
 generalize (((m:Nat):Int):Rat)=x at*;generalize (((tn es (unP p pr):Nat):Int):Rat)=y at*;generalize (((n:Int)-1:Int):Rat)=z at*;rw[Rat.div_def,Rat.div_def];have h2:(x*(y*z))⁻¹*(y*z)=x⁻¹:=by
  have hx:x*x⁻¹=1:=Rat.mul_inv_cancel _ (by grind);have hyz:y*z≠0:=by
   have:0<y*z:=Rat.mul_pos a2 a3
   grind
  have a6h:x*(y*z)≠0:=by
   have:0<x*(y*z):=Rat.mul_pos a1 (Rat.mul_pos a2 a3)
   grind
  have h3:(x*(y*z))*(x*(y*z))⁻¹=1:=Rat.mul_inv_cancel _ a6h
  grind
 show(((1:Int):Rat)*_)*_=((1:Int):Rat)*_;rw[Rat.mul_assoc,h2]
end
end Go.Z

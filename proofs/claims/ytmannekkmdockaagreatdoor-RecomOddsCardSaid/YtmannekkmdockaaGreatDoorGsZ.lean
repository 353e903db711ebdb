/- Lemmas: chapter 32. -/
import Derived.Test.YtmannekkmdockaaGreatDoorGzE
open Int renaming natAbs_mul->iY
open List renaming filter_eq_self->kG,getElem_idxOf->kK,getElem_map->nY,idxOf_cons->oI,idxOf_lt_length_of_mem->jD
open Nat renaming beq->gK,ne_of_gt->kQ,pow_add->fE,two_pow_pos->iQ
namespace Go.RX
open RowKit
theorem Rds.opn' {P:Program} {o:Oper} {vs:List Value} {H:PH} {v:Value} (h:Rds P o vs H v):Opn P o vs H fun u H'=>u=v/\H'=H:=fun w hw=>by
 unfold Stp;have:=h w hw;rw[this];exact⟨_,Step.refl hw,rfl,rfl⟩
def nxV (b:Bool) (x y:Value):Value:=if b then .tuple #[.bool true,x,y]else .tuple #[.bool false]
theorem TF (b:Bool) (x y:Value):∃vs,nxV b x y= .tuple vs/\0<vs.size:=by cases b<;>exact⟨_,rfl,aD⟩
theorem pt (b:Bool) (x y:Value):(match nxV b x y with| .tuple vs=>vs.getD 0 undef|_=>undef)= .bool b:=by cases b<;>rfl
section
variable {κ:Type} {ok:κ->Prop} {ke:κ->Value}
theorem TG {H H':PH} {v:Value} {q r clock:Nat} {es:List (κ×Value×Nat)} {seen:List Nat} (h:(left es seen=[]/\v= .tuple #[.bool false]/\H'=H)\/∃p∈left es seen,v= .tuple #[.bool true,ke p.1,p.2.1]/\H'=H.put q (.mapIter (some r) clock (seen++[p.2.2]).toArray clock)):
  ∃b x y,v=nxV b x y/\((b=false/\left es seen=[]/\H'=H)\/(b=true/\∃p∈left es seen,x=ke p.1/\y=p.2.1/\H'=H.put q (.mapIter (some r) clock (seen++[p.2.2]).toArray clock))):=by
 rcases h with⟨h1,h2,h3⟩|⟨p,h1,h2,h3⟩
 ·exact⟨false,undef,undef,h2,.inl ⟨rfl,h1,h3⟩⟩
 ·exact⟨true,_,_,h2,.inr ⟨rfl,p,h1,rfl,rfl,h3⟩⟩
theorem TI {a b:Nat} (h:a≠b):gK a b=false:=by
 rw[Bool.eq_false_iff];intro e;exact h (Nat.eq_of_beq_eq_true e)
theorem TJ (es:List (κ×Value×Nat)):left es []=es:=by
 unfold left;exact kG.2 fun x _=>rfl
theorem c5z (es:List (κ×Value×Nat)) (seen:List Nat) (b:Nat):left es (seen++[b])=(left es seen).filter fun p=> !gK p.2.2 b:=by
 unfold left;rw[List.filter_filter];refine List.filter_congr fun p _=> ?_;rw[List.any_append];simp[Bool.and_comm]
theorem TK {es:List (κ×Value×Nat)} {seen:List Nat} {p:κ×Value×Nat} (hn:(es.map (·.2.2)).Nodup) (hp:p∈left es seen):∃a b,left es seen=a++p::b/\left es (seen++[p.2.2])=a++b:=by
 obtain⟨a,b,h⟩:=List.append_of_mem hp;refine⟨a,b,h,?_⟩;have hs:(left es seen).map (·.2.2)|>.Nodup:=(List.filter_sublist.map _).nodup hn;rw[c5z,h,dP,dD aD];rw[h,aT,aN,cQ,List.nodup_cons]at hs;obtain⟨h1,⟨h2,h3⟩,h4⟩:=hs;congr 1
 ·refine kG.2 fun x hx=> ?_;have:=h4 _ (aY.2 ⟨x,hx,rfl⟩) p.2.2 aD;rw[TI this];rfl
 ·refine kG.2 fun x hx=> ?_;have:x.2.2≠p.2.2:=fun e=>h2 (aY.2 ⟨x,hx,e⟩);rw[TI this];rfl
end
end Go.RX
namespace Go.Z
open Proofs.Tryz RowKit RX GS RZ
open WD (BP Bt wd rs toI HM sgI Rb)
set_option maxRecDepth 100000
noncomputable def vO (L:List (List Int×Rat)) (k:List Int):Rat:=((L.find? fun x=>decide (x.1=k)).map (·.2)).getD 0
theorem Jr {L:List (List Int×Rat)} (h:(L.map (·.1)).Nodup) {k:List Int} {q:Rat} (hm:(k,q)∈L):vO L k=q:=by
 have:L.find? (fun x=>decide (x.1=k))=some (k,q):=by
  obtain⟨i,hi⟩:=cN.1 hm;rw[List.find?_eq_some_iff_getElem];obtain⟨xB,he⟩:=aH.1 hi;refine⟨aD,i,xB,he,fun j hj=> ?_⟩;have h1:=cU.1 h j i (by simp;omega) (by simpa using xB) hj;rw[nY,nY,he]at h1;simp;exact h1
 unfold vO;rw[this];rfl
theorem d8I {L:List (List Int×Rat)} (h:(L.map (·.1)).Nodup):L.map (fun x=>vO L x.1)=L.map (·.2):=bW fun x hx=>Jr h hx
open Classical in
noncomputable def Ap (es:List (Nat×Nat)) (wl:List Int) (lo hi:Int) (n k:Nat) (p:List Int):List (List Int×Rat):=
 if 0<1-sQ ((Bc es wl lo hi n k p).map (·.2))then Cb (Bc es wl lo hi n k p) (j5 p) (1-sQ ((Bc es wl lo hi n k p).map (·.2)))else Bc es wl lo hi n k p
section
variable {H:PH} {u w wts:Value} {p wl:List Int} {n k:Nat} {es:List (Nat×Nat)} {lo hi:Int}
theorem TL (x d e:Rat) (hd:d≠0) (he:e≠0):x/d=x*e/(d*e):=by grind
theorem Wp (qS:p.length=n) (hn:n<=64) (pr:Nat×Nat):unP p pr<2^n:=by
 subst qS;exact Nat.or_lt_two_pow (Si p _ hn) (Si p _ hn)
theorem CE {S:Nat} (hg:GV n es) (hn:n<=12) (h:S<2^n):(tN es S).natAbs<2^160:=by
 have h1:=BU hg hn h;have h2:=av es S;have:(BP 5:Nat)=2^160:=by unfold BP;rfl
 omega
theorem pu {J:Nat} (hJ:J=320) (hg:GV n es) (hn:n<=12) (qS:p.length=n) (sW:0<(n-1)*(i0 k).length):∀x∈Bc es wl lo hi n k p,Qd (Bv es n (i0 k).length p (i0 k)) (2^J*Bv es n (i0 k).length p (i0 k)) x.2:=fun x hx=>by
 obtain⟨pr,qF,a,ha,h0,_,_,_,_,hq⟩:=(bf x hx).ex;have hS:=Wp qS aA pr;have hS0:unP p pr≠0:=fun e=>by rw[e]at ha;simp[Aj,Hj,sdf]at ha
 obtain⟨⟨a0,a2⟩,s0,s2⟩:=Tf hS aA hS0 ha;obtain⟨e,he⟩:=CC (es:=es) (n:=n) (m:=(i0 k).length) (p:=p) qF;have hd:Gt es n (i0 k).length p pr=(tN es (unP p pr)).natAbs*((n-1)*(i0 k).length):=if_neg h0;have hnn:=av es (unP p pr);have hu:Lc es n (i0 k).length (unP p pr)=((Gt es n (i0 k).length p pr:Int):Rat):=by
  rw[hd];unfold Lc;rw[<-Rat.intCast_mul];congr 1
  push_cast
  rw[Int.natAbs_of_nonneg hnn]
 have qA:Gt es n (i0 k).length p pr≠0:=by
  rw[hd];exact kQ (eE aA sW)
 have hD:Bv es n (i0 k).length p (i0 k)≠0:=kQ (Wn sW _);have he0:e≠0:=fun h=>by rw[h,Nat.mul_zero]at he;exact hD he
 refine⟨tN es a*tN es (sdf (unP p pr) a)*(e:Int),?_,?_⟩
 ·rw[hq,hu,he];have h1:((Gt es n (i0 k).length p pr:Int):Rat)≠0:=by exact_mod_cast qA
  have h2:((e:Int):Rat)≠0:=by exact_mod_cast he0
  push_cast
  exact TL _ _ _ h1 h2
 ·rw[iY,iY,he];have b1:=CE hg hn a2;have b2:=CE hg hn s2;have b3:(tN es a).natAbs*(tN es (sdf (unP p pr) a)).natAbs<=2^160*2^160:=bU aA aA;have b4:e<=Gt es n (i0 k).length p pr*e:=Nat.le_mul_of_pos_left _ aA;rw[<-fE,show 160+160=J by omega]at b3;exact bU b3 b4
theorem CG {K:Nat} (hK:K=11264) (hg:GV n es) (hn:n<=12) (qS:p.length=n) (hm:(i0 k).length<=64):Bv es n (i0 k).length p (i0 k)<=2^K:=by
 refine bD (TE (K:=176) (fun pr=> ?_) _) (aR aC aA);unfold Gt;split
 ·exact Nat.one_le_two_pow
 ·have h1:=CE hg hn (Wp qS aA pr);have h2:(n-1)*(i0 k).length<=11*64:=bU aA hm;have h3:(tN es (unP p pr)).natAbs*((n-1)*(i0 k).length)<=2^160*2^16:=bU aA aA;rw[<-fE]at h3;exact h3
theorem d5y (hg:GV n es) (hn:n<=12) (qS:p.length=n) (sW:0<(n-1)*(i0 k).length) (hm:(i0 k).length<=64) {l m:List Rat} (hl:∀q∈l,∃x∈Bc es wl lo hi n k p,x.2=q) (hm2:∀q∈m,∃x∈Bc es wl lo hi n k p,x.2=q) (h1:l.length<=2^20) (h2:m.length<=2^20):Rb 12000 (1-sQ l+sQ m):=by
 obtain⟨K,hK⟩:∃K,K=11264:=⟨_,rfl⟩;have hD:=CG hK hg hn qS hm;obtain⟨J,hJ⟩:∃J,J=320:=⟨_,rfl⟩;have hD0:Bv es n (i0 k).length p (i0 k)≠0:=kQ (Wn sW _);have q1:=pq (D:=Bv es n (i0 k).length p (i0 k)) (B:=2^J*Bv es n (i0 k).length p (i0 k)) (l:=l) fun q hq=>by obtain⟨x,hx,rfl⟩:=hl q hq;exact pu hJ hg hn qS sW x hx
 have q2:=pq (D:=Bv es n (i0 k).length p (i0 k)) (B:=2^J*Bv es n (i0 k).length p (i0 k)) (l:=m) fun q hq=>by obtain⟨x,hx,rfl⟩:=hm2 q hq;exact pu hJ hg hn qS sW x hx
 have q3:=((Qd.one hD0).sub q1).add q2;generalize Bv es n (i0 k).length p (i0 k)=D at*;obtain⟨K2,hK2⟩:∃K2,K2=12000:=⟨_,rfl⟩;rw[<-hK2];have e1:l.length*(2^J*D)<=2^20*(2^J*2^K):=bU h1 (cE _ hD);have e2:m.length*(2^J*D)<=2^20*(2^J*2^K):=bU h2 (cE _ hD);have e3:(2:Nat)^20*(2^J*2^K)=2^(K+J+20):=by rw[<-fE,<-fE];congr 1;omega
 have e4:(2:Nat)^K<=2^(K+J+20):=aR aC aA;have e5:(2:Nat)^(K+J+22)=4*2^(K+J+20):=by rw[show K+J+22=(K+J+20)+2 from rfl,fE];omega
 have e6:(2:Nat)^(K+J+22)<=2^K2:=aR aC aA;have e7:0<(2:Nat)^(K+J+20):=iQ _;rw[e3]at e1 e2;exact ax q3 hD0 aA aA
theorem c5A (hg:GV n es) (hn:n<=12) (qS:p.length=n) (sW:0<(n-1)*(i0 k).length) (hm:(i0 k).length<=64) {x:List Int×Rat} (hx:x∈Bc es wl lo hi n k p):Rb 12000 x.2:=by
 obtain⟨K,hK⟩:∃K,K=11264:=⟨_,rfl⟩;have hD:=CG hK hg hn qS hm;obtain⟨J,hJ⟩:∃J,J=320:=⟨_,rfl⟩;have hD0:Bv es n (i0 k).length p (i0 k)≠0:=kQ (Wn sW _);have q1:=pu hJ hg hn qS sW x hx;generalize Bv es n (i0 k).length p (i0 k)=D at*;obtain⟨K2,hK2⟩:∃K2,K2=12000:=⟨_,rfl⟩;rw[<-hK2];have e1:2^J*D<=2^J*2^K:=cE _ hD;have e3:(2:Nat)^J*2^K=2^(K+J):=by rw[<-fE];congr 1;omega
 have e4:(2:Nat)^K<=2^(K+J):=aR aC aA;have e5:(2:Nat)^(K+J+1)=2*2^(K+J):=by rw[show K+J+1=(K+J)+1 from rfl,Nat.pow_succ];omega
 have e6:(2:Nat)^(K+J+1)<=2^K2:=aR aC aA;have e7:0<(2:Nat)^(K+J):=iQ _;rw[e3]at e1;exact ax q1 hD0 aA aA
theorem d5z {H:PH} {v:Value} {q:Rat} {b:Nat} {ob:Obj} {r:Option Nat} {c d:Nat} {sn:Array Nat} (hr:H b=some (.mapIter r c sn d)) (h:Rp H v q):Rp (H.put b ob) v q:=by
 obtain⟨w1,w2,rfl,⟨l1,h1,h2⟩,⟨l2,h3,h4⟩⟩:=h;have key:∀{sz n:Nat} {v:Value} {xs:List Value},Sl H sz v n xs->Sl (H.put b ob) sz v n xs:=fun h=>by
  obtain⟨h1,a,c',h2,h3,h4,h5⟩:=h;refine⟨h1,a,c',h2,h3,h4,h5.imp id ?_⟩;rintro⟨g,o,cs,T,fz,g1,g2,g3⟩;exact⟨g,o,cs,T,fz,g1,by rw[PH.put_ne _ _ (fun e=>by subst e;rw[hr]at g2;cases g2)];exact g2,g3⟩
 exact⟨w1,w2,rfl,⟨l1,⟨key h1.1,h1.2⟩,h2⟩,⟨l2,⟨key h3.1,h3.2⟩,h4⟩⟩
theorem numpos {q:Rat}:0<q.num↔0<q:=by
 have h1:0<=q.num↔0<=q:=Rat.num_nonneg;have h2:q.num=0↔q=0:=Rat.num_eq_zero;constructor
 ·intro h;have a:=h1.1 aA;have b:q≠0:=fun e=>by have:=h2.2 e;omega
  grind
 ·intro h;have a:=h1.2 (by grind);have b:q.num≠0:=fun e=>by have:=h2.1 e;grind
  omega
theorem TM {H H':PH} {q r clock:Nat} {es:List (List Int×Value×Nat)} {seen:List Nat} (h:IT kV H q r es clock seen) (hl:Pl H H'):IT kV H' q r es clock seen:=⟨hl _ _ h.1,hl _ _ h.2⟩
theorem sgI_posG {z:Int}:sgI z 0>0↔0<z:=by
 unfold sgI;split
 ·omega
 ·split<;>omega
theorem TN (hc:Chn H n w wts es wl) (hu:SI H u p) (hn:n<=12) (rX:k<=n) (qS:p.length=n) (vM:1<=k) (uM:k<=8) (hL:LabOk p (k:Nat)) (hU:Ai p k):
  Con prog 47 [chv wts lo hi (k:Nat) n w,u] H fun r H'=>Pl H H'/\MR H H' r (Ap es wl lo hi n k p):=by
 refine i9 mixed c8Y ?_;have hpz:∀z∈p,0<=z/\z<9223372036854775808:=fun z hz=>by have:=hL.1 z hz;omega
 have xT:=hc.ok.n64;have wV:=Vq k uM;have tM:((Bc es wl lo hi n k p).map (·.1)).Nodup:=CB;have hOl:(Bc es wl lo hi n k p).length<=2^20:=by
  refine bD (TD (es:=es) (wl:=wl) (lo:=lo) (hi:=hi) (n:=n) (k:=k) (p:=p) fun pr _=>Wp qS xT pr) ?_;exact bD (bU wV (aR aC hn)) aC
 obtain⟨L,hLe⟩:∃L,L=Bc es wl lo hi n k p:=⟨_,rfl⟩;obtain⟨tot,a1w⟩:∃tot,tot=sQ (L.map (·.2)):=⟨_,rfl⟩;have rC:Ap es wl lo hi n k p=if 0<1-tot then Cb L (j5 p) (1-tot)else L:=by rw[a1w,hLe];rfl
 have sW:∀x∈L,0<(n-1)*(i0 k).length:=fun x hx=>by
  rw[hLe]at hx;obtain⟨pr,qF,_⟩:=(bf x hx).ex;have h1:=Su qF;exact eE aA (List.length_pos_of_mem qF)
 rw[rC];refine d4 (Vh (u0 hc.wt) (u0 hc.gr) _ _ _ _) ?_;refine g9 (c9X hc hu hn rX qS vM uM hL hU) rfl ?_;rintro v2 H1 ⟨l1,m1⟩;refine nmI ?_;refine g9 (BW 1 aA aA) rfl ?_;rintro v3 H2 ⟨l2,q3⟩;refine nmI ?_;refine d4 q3.rq ?_;rw[<-hLe]at m1 tM hOl;obtain⟨V,⟨r,es0,clock,rfl,hHr,xU,hE,tC⟩,yK,hrp⟩:=m1.mono l2;have hes:es0.map (·.1)=L.map (·.1):=by rw[<-yK,<-tC];unfold kvN;rw[cZ];rfl
 have hva:es0.map (fun e=>vO L e.1)=L.map (·.2):=by rw[<-d8I tM];have:=congrArg (List.map fun k=>vO L k) hes;rw[cZ,cZ]at this;exact this
 have rH:∀e∈es0,(e.1,vO L e.1)∈L/\Rp H2 e.2.1 (vO L e.1):=fun e he=>by
  have h1:e.1∈L.map (·.1):=by rw[<-hes];exact aY.2 ⟨e,he,rfl⟩
  obtain⟨x,hx,hxe⟩:=aY.1 h1;have h2:vO L e.1=x.2:=by rw[<-hxe];exact Jr tM hx
  have h3:(e.1,vO L e.1)∈L:=by rw[h2,<-hxe];exact hx
  exact⟨h3,hrp e.1 _ _ (by rw[<-tC];exact aY.2 ⟨e,he,rfl⟩) h3⟩
 refine t7 (SJ (κ:=List Int) (ke:=kV) (vs:=[.map (some r)]) rfl rfl Wm xU) rfl ?_;rintro _ _ ⟨q,hq,rfl,rfl⟩;refine nmI ?_;have yX:r≠q:=fun e=>by subst e;rw[xU]at hq;cases hq
 have hI0:IT kV (H2.put q (.mapIter (some r) clock #[] clock)) q r es0 clock []:=⟨PH.put_self _ _ _,by rw[PH.put_ne _ _ yX];exact xU⟩;have xM:Rp (H2.put q (.mapIter (some r) clock #[] clock)) v3 (1-tot+sQ ((left es0 []).map fun e=>vO L e.1)):=by
  rw[TJ,hva,<-a1w,show(1:Rat)-tot+tot=1 from by grind];exact q3.mono (PH.le_put hq _)
 refine s8 (α:=List Nat×Value) (fun⟨seen,v5⟩=>[v5]) (fun⟨seen,v5⟩=>fun H'=>Pl H2 H'/\IT kV H' q r es0 clock seen/\Rp H' v5 (1-tot+sQ ((left es0 seen).map fun e=>vO L e.1))) (fun⟨seen,v5⟩=>(left es0 seen).length) (([],v3)) rfl (⟨PH.le_put hq _,hI0,xM⟩) fun⟨seen,v5⟩ H4 ⟨l4,it4,q5⟩=> ?_;refine t7 (SK (ok:=okK) (ke:=kV) (vs:=[.pointer (some ⟨q,0,none⟩)]) rfl rfl hE it4) rfl ?_;rintro v6 H5 uY;refine nmI ?_;obtain⟨b,x,y,rfl,hb⟩:=TG uY;refine d4 (TF b x y) ?_;refine d4 ⟨b,pt b x y⟩ ?_;refine g7 (b:=b) (pt b x y) (fun qX=> ?_) (fun qX=> ?_)
 ·skip
  obtain⟨e,he,rfl,rfl,rfl⟩:∃p∈left es0 seen,x=kV p.1/\y=p.2.1/\H5=H4.put q (.mapIter (some r) clock (seen++[p.2.2]).toArray clock):=by
   rcases hb with⟨h,_⟩|⟨_,h⟩
   ·rw[qX]at h;cases h
   ·exact h
  subst qX;have heE:e∈es0:=(bT.1 he).1;obtain⟨hvL,hvq⟩:=rH e heE;have it5:IT kV (H4.put q (.mapIter (some r) clock (seen++[e.2.2]).toArray clock)) q r es0 clock (seen++[e.2.2]):=⟨PH.put_self _ _ _,by rw[PH.put_ne _ _ yX];exact it4.2⟩;have l5:Pl H2 (H4.put q (.mapIter (some r) clock (seen++[e.2.2]).toArray clock)):=fun b' ob' sD=>by rw[PH.put_ne _ _ (fun e=>by subst e;rw[hq]at sD;cases sD)];exact l4 _ _ sD
  have q5':Rp (H4.put q (.mapIter (some r) clock (seen++[e.2.2]).toArray clock)) v5 (1-tot+sQ ((left es0 seen).map fun e=>vO L e.1)):=d5z it4.1 q5;generalize H4.put q (.mapIter (some r) clock (seen++[e.2.2]).toArray clock)=H6 at it5 l5 q5'⊢;refine t7 (Rds.opn' (SN (ok:=okK) (ke:=kV) (vs:=[.pointer (some ⟨q,0,none⟩)]) rfl rfl hE heE it5)) rfl ?_;rintro _ _ ⟨rfl,rfl⟩;refine nmI ?_;refine i8 ?_;refine d4 (hvq.mono l5).rq ?_;obtain⟨la,lb,xN,yW⟩:=TK (hE.asc.imp fun h=>Nat.ne_of_lt h) he;have hlf:∀sn,∀z∈(left es0 sn).map (fun e=>vO L e.1),∃x∈Bc es wl lo hi n k p,x.2=z:=fun sn z hz=>by
   obtain⟨e',he',rfl⟩:=aY.1 hz;exact⟨_,by rw[<-hLe];exact(rH e' (bT.1 he').1).1,rfl⟩
  have hln:∀sn,((left es0 sn).map (fun e=>vO L e.1)).length<=2^20:=fun sn=>by
   rw[aX];refine bD (cC _ _) ?_;have:=congrArg List.length hes;rw[aX,aX]at this;omega
  have hrb:=d5y (es:=es) (wl:=wl) (lo:=lo) (hi:=hi) (l:=L.map (·.2)) hc.ok hn qS (sW _ hvL) wV (fun z hz=>by obtain⟨x,hx,rfl⟩:=aY.1 hz;exact⟨x,by rw[<-hLe];exact hx,rfl⟩) (hlf seen) (by rw[aX];exact hOl) (hln seen);have a5y:Rb 12000 (vO L e.1):=c5A (es:=es) (wl:=wl) (lo:=lo) (hi:=hi) (n:=n) (k:=k) (p:=p) hc.ok hn qS (sW _ hvL) wV (x:=(e.1,vO L e.1)) (by rw[<-hLe];exact hvL);rw[<-a1w]at hrb;refine g9 (Y5 q5' (hvq.mono l5) hrb a5y aA) (i7 (Wl q5') (Wl hvq)) ?_;rintro v8 H7 ⟨l7,q8⟩;refine nmI ?_;refine d4 q8.rq ?_;exact⟨(seen++[e.2.2],v8),by show(left es0 (seen++[e.2.2])).length<(left es0 seen).length;rw[xN,yW];simp,rfl,⟨l5.trans l7,TM it5 l7,by show Rp H7 v8 (1-tot+sQ ((left es0 (seen++[e.2.2])).map fun e=>vO L e.1));rw[xN]at q8;rw[yW];rw[aT,aw]at q8⊢;rw[aN,sQ]at q8;rw[show(1:Rat)-tot+(sQ (la.map fun e=>vO L e.1)+sQ (lb.map fun e=>vO L e.1))=1-tot+(sQ (la.map fun e=>vO L e.1)+(vO L e.1+sQ (lb.map fun e=>vO L e.1)))-vO L e.1 from by grind];exact q8⟩⟩
 ·skip
  obtain⟨a1x,h54⟩:left es0 seen=[]/\H5=H4:=by
   rcases hb with⟨_,h⟩|⟨h,_⟩
   ·exact h
   ·rw[qX]at h;cases h
  rw[h54];rw[a1x,bJ,sQ,Rat.add_zero]at q5;have q5c:=q5;obtain⟨w5,w5',hv5,vN,-⟩:=q5.out;subst hv5;refine g9 (xp vN) rfl ?_;rintro _ H4 ⟨rfl,rfl⟩;refine nmI ?_;have tV:MKO okK kV H H4 (.map (some r)) V:=⟨r,es0,clock,rfl,hHr,it4.2,hE,tC⟩;have l04:Pl H H4:=l1.trans (l2.trans l4);refine d9 ?_;refine g7 (b:=decide (sgI (1-tot).num 0>0)) rfl (fun tH=> ?_) (fun tH=> ?_)
  ·replace tH:=oDt tH;have a5z:0<1-tot:=numpos.1 (sgI_posG.1 tH);refine g9 (Wj (hu.mono l04) aA) rfl ?_;rintro _ H8 ⟨l8,rfl⟩;refine⟨(fun _=>l8),?_⟩;refine t7 (SD ar (k:=j5 p) (v:= .agg #[.bool (decide ((1-tot).num<0)),w5,.bool false,w5']) (vs:=[.map (some r),kV (j5 p),.agg #[.bool (decide ((1-tot).num<0)),w5,.bool false,w5']]) rfl rfl rfl rfl Wm (au aA hpz) (l04.trans l8) (tV.mono l8)) rfl ?_;rintro _ _ ⟨rfl,b9,m9,g,ob,E,cc,hmg,-,uU,rfl⟩;refine nmI ?_;obtain rfl:r=g:=by injection hmg with hmg;injection hmg
   exact g6 rfl ⟨b9,by rw[if_pos a5z];exact MR.put uU yK (fun k v q a b=>(hrp k v q a b).mono (l4.trans l8)) (q5c.mono l8) m9⟩
  ·replace tH:=oDf tH;exact g6 rfl ⟨l04,by rw[if_neg (fun h=>tH (sgI_posG.2 (numpos.2 h)))];exact⟨V,tV,yK,fun k v q a b=>(hrp k v q a b).mono l4⟩⟩
end
end Go.Z
namespace Go.GS
theorem Eu (p:List Int) (d:Int) (i:Nat):bit (j0 p d) i=decide (p[i]? =some d):=by
 unfold j0;rw[ll];by_cases h:p[i]? =some d
 ·have:=(aH.1 h).1;simp[h,this]
 ·simp[h]
theorem c5C {p:List Int} {d e:Int} (h:j0 p d=j0 p e) (h0:j0 p d≠0):d=e:=by
 obtain⟨i,hi⟩:=cN.1 (mask_mem2.1 h0);have h1:bit (j0 p d) i=true:=by rw[Eu];exact oDd hi
 rw[h,Eu,oDi,hi]at h1
 injection h1
def SamD (p q:List Int):Prop:=∀i j:Nat,i<p.length->j<p.length->(p[i]? =p[j]?↔q[i]? =q[j]?)
theorem CH {f:Int->Int}:∀(r F:List Int),(∀x y,x∈F\/x∈r->y∈F\/y∈r->f x=f y->x=y)->Fb (F.map f) (r.map f)=Fb F r
 |[],F,_=>rfl
 |x::r,F,h=>by
  have hm:f x∈F.map f↔x∈F:=by
   rw[aY];refine⟨fun⟨y,hy,e⟩=> ?_,fun hx=>⟨x,hx,rfl⟩⟩;rw[<-h y x (.inl hy) (.inr aD) e];exact hy
  have hi:∀G:List Int,(∀y∈G,y∈F)->(G.map f).idxOf (f x)=G.idxOf x:=fun G hG=>by
   induction G with
   |nil=>rfl
   |cons y G ih=>
    rw[aN,oI,oI,ih (fun z hz=>hG z (by simp[hz]))];by_cases e:y=x
    ·subst e;simp
    ·have:f y≠f x:=fun e'=>e (h y x (.inl (hG y aD)) (.inr aD) e');rw[beq_false_of_ne e,beq_false_of_ne this]
  have h2:∀a b,a∈F\/a∈r->b∈F\/b∈r->f a=f b->a=b:=fun a b ha hb=>h a b (ha.imp id fun h=>by simp[h]) (hb.imp id fun h=>by simp[h]);rw[aN];simp only[Fb];by_cases hx:x∈F
  ·rw[if_pos (hm.2 hx),if_pos hx,CH r F h2,hi F fun y hy=>hy]
  ·rw[if_neg (fun e=>hx (hm.1 e)),if_neg hx,aX];have:=CH (f:=f) r (F++[x]) (fun a b ha hb=>h a b (by
    rcases ha with ha|ha
    ·rcases aQ.1 ha with ha|ha
     ·exact .inl ha
     ·exact .inr (by simp at ha;simp[ha])
    ·exact .inr (by simp[ha])) (by
    rcases hb with hb|hb
    ·rcases aQ.1 hb with hb|hb
     ·exact .inl hb
     ·exact .inr (by simp at hb;simp[hb])
    ·exact .inr (by simp[hb])))
   rw[aT,aN,bJ]at this;rw[this]
theorem TO {p q:List Int} (hl:q.length=p.length) (h:SamD p q):j6 q=j6 p:=by
 let f:Int->Int:=fun d=>q.getD (p.idxOf d) 0
 have hf:∀i x,p[i]? =some x->q[i]? =some (f x):=fun i x hx=>by
  have hi:=(aH.1 hx).1;have yI:=aG hx;have h1:=jD yI;have h2:p[p.idxOf x]? =some x:=by rw[aJ h1,kK h1]
  have h3:=(h i (p.idxOf x) hi h1).1 (by rw[hx,h2]);rw[h3];show _=some (q.getD (p.idxOf x) 0);rw[aK,aJ aA];rfl
 have hq:q=p.map f:=by
  apply bG;intro i;by_cases hi:i<p.length
  ·rw[hf i _ (aJ hi),bO,aJ hi];rfl
  ·rw[aW aA,aW (by simp;omega)]
 have:=CH (f:=f) p [] (fun x y hx hy e=>by
  have hx:=hx.resolve_left aD;have hy:=hy.resolve_left aD;obtain⟨i,hi⟩:=cN.1 hx;obtain⟨j,hj⟩:=cN.1 hy;have h1:=(h i j (aH.1 hi).1 (aH.1 hj).1).2 (by rw[hf i x hi,hf j y hj,e]);rw[hi,hj]at h1
  injection h1)
 unfold j6;rw[hq];exact this
theorem SamD.symm {p q:List Int} (hl:q.length=p.length) (h:SamD p q):SamD q p:=fun i j hi hj=>(h i j aA aA).symm
theorem TP {p:List Int} {i:Nat} {x:Int} (h:p[i]? =some x):(j6 p)[i]? =some (((Dz [] p).idxOf x:Nat):Int):=by
 rw[aa,bO,h];rfl
theorem d5A {p:List Int} {x y:Int} (hx:x∈p) (hy:y∈p) (h:(Dz [] p).idxOf x=(Dz [] p).idxOf y):x=y:=by
 have h1:=jD ((Kv p [] x).2 (.inr hx));have h2:=jD ((Kv p [] y).2 (.inr hy));rw[<-kK h1,<-kK h2];simp only[h]
theorem TQ (p:List Int):SamD p (j6 p):=fun i j hi hj=>by
 rw[TP (aJ hi),TP (aJ hj),aJ hi,aJ hj];constructor
 ·intro h;injection h with h;rw[h]
 ·intro h
  injection h with h
  rw[d5A (dS hi) (dS hj) aA]
theorem b6m (p:List Int):j6 (j6 p)=j6 p:=TO (Fe p) (TQ p)
theorem mem_masks {p:List Int} {k m:Nat}:m∈masks p k↔∃d:Nat,d<k/\m=j0 p (d:Nat):=by
 unfold masks Hi;rw[aY];constructor
 ·rintro⟨d,hd,rfl⟩;exact⟨d,bR.1 hd,rfl⟩
 ·rintro⟨d,hd,rfl⟩;exact⟨d,bR.2 hd,rfl⟩
theorem TR {p:List Int} {k:Nat} (hL:LabOk p (k:Nat)) {i:Nat} {x:Int} (hx:p[i]? =some x):j0 p x∈masks p k:=by
 have:=hL.1 x (aG hx);exact mem_masks.2 ⟨x.toNat,aA,by rw[show((x.toNat:Nat):Int)=x by omega]⟩
theorem c0p {p q:List Int} {k:Nat} (hL:LabOk p (k:Nat)) (vX:LabOk q (k:Nat)) (hl:q.length=p.length) (h1:∀m∈masks p k,m∈masks q k) (h2:∀m∈masks q k,m∈masks p k):SamD p q:=fun i j hi hj=>by
 have f:∀{p q:List Int},LabOk p (k:Nat)->q.length=p.length->(∀m∈masks p k,m∈masks q k)->∀i j:Nat,i<p.length->j<p.length->p[i]? =p[j]?->q[i]? =q[j]?:=by
  intro p q hL hl h1 i j hi hj h;have hx:=aJ hi;obtain⟨d,_,hd⟩:=mem_masks.1 (h1 _ (TR hL hx));have b1:bit (j0 p p[i]) i=true:=by rw[Eu];exact oDd hx
  have b2:bit (j0 p p[i]) j=true:=by rw[Eu];exact oDd (h.symm.trans hx)
  rw[hd,Eu,oDi]at b1 b2;rw[b1,b2]
 exact⟨f hL hl h1 i j hi hj,f vX hl.symm h2 i j aA aA⟩
theorem TS {p q:List Int} {k:Nat} (hL:LabOk p (k:Nat)) (hU:Ai p k) (vX:LabOk q (k:Nat)) (hl:q.length=p.length) (h:SamD p q):∀m∈masks p k,m∈masks q k:=fun m hm=>by
 obtain⟨d,hd,rfl⟩:=mem_masks.1 hm;obtain⟨i,hi⟩:=cN.1 (mask_mem2.1 (hU d hd));have xB:=(aH.1 hi).1;have hq:=aJ (show i<q.length by omega);have e:j0 p (d:Nat)=j0 q q[i]:=Ao fun y=>by
  rw[bC,Eu,Eu,oDi,oDi,<-hi,<-hq];by_cases hy:y<p.length
  ·exact h y i hy xB
  ·rw[aW (show p.length<=y by omega),aW (show q.length<=y by omega)];rw[aJ xB,aJ (show i<q.length by omega)];simp
 rw[e];exact TR vX hq
theorem b6n {p:List Int} {k:Nat} (hL:LabOk p (k:Nat)) (hU:Ai p k) (m:Nat):m∈masks (j6 p) k↔m∈masks p k:=by
 have h1:=TQ p;have vX:=ab hL hU;have hU2:=ml hL hU;exact⟨TS vX hU2 hL (Fe p).symm (h1.symm (Fe p)) m,TS hL hU vX (Fe p) h1 m⟩
section
variable {p:List Int} {k i j a:Nat}
theorem CJ {d:Nat} (tG:i<j) (h1:d≠i) (h2:d≠j):j0 (Ax p (i:Nat) (j:Nat) a) (d:Nat)=j0 p (d:Nat):=Ao fun y=>by
 rw[bC,Eu,Eu,oDi,oDi];by_cases hy:y<p.length
 ·have hx:=aJ hy;rw[ac hx,hx];unfold rcV;by_cases h:p[y]=(i:Int)\/p[y]=(j:Int)
  ·rw[if_pos h];simp only[dM];constructor
   ·intro e;split at e<;>omega
   ·intro e;omega
  ·rw[if_neg h]
 ·rw[aW (show(Ax p (i:Nat) (j:Nat) a).length<=y by rw[Ir];omega),aW (show p.length<=y by omega)]
theorem CM (hs:∀y,bit a y=true->bit (j0 p (i:Nat)|||j0 p (j:Nat)) y=true) (tG:i<j):j0 (Ax p (i:Nat) (j:Nat) a) (i:Nat)=a:=Ao fun y=>by
 rw[bC,Eu,oDi];by_cases hy:y<p.length
 ·have hx:=aJ hy;rw[ac hx];have hs:=hs y;rw[Ac,Eu,Eu,hx]at hs;unfold rcV;simp only[dM,dB,oDi]at hs⊢;by_cases h:p[y]=(i:Int)\/p[y]=(j:Int)
  ·rw[if_pos h];cases hb:bit a y with
   |true=>simp
   |false=>simp;omega
  ·rw[if_neg h];exact⟨fun e=>absurd (.inl e) h,fun e=>absurd (hs e) h⟩
 ·have hs:=hs y;rw[Ac,Eu,Eu]at hs;rw[aW (show(Ax p (i:Nat) (j:Nat) a).length<=y by rw[Ir];omega)];rw[aW (show p.length<=y by omega)]at hs;simp only[reduceCtorEq,decide_false,Bool.or_self]at hs⊢;exact⟨fun h=>h.elim,fun h=>absurd (hs h) aD⟩
theorem CN (tG:i<j):j0 (Ax p (i:Nat) (j:Nat) a) (j:Nat)=sdf (j0 p (i:Nat)|||j0 p (j:Nat)) a:=Ao fun y=>by
 rw[bC,Eu,oDi,z6,Ac,Eu,Eu];by_cases hy:y<p.length
 ·have hx:=aJ hy;rw[ac hx,hx];unfold rcV;simp only[dM,bA,dB,oDi];by_cases h:p[y]=(i:Int)\/p[y]=(j:Int)
  ·rw[if_pos h];cases hb:bit a y with
   |true=>simp[h];omega
   |false=>simp[h]
  ·rw[if_neg h];exact⟨fun e=>absurd (.inr e) h,fun e=>absurd e.1 h⟩
 ·rw[aW (show(Ax p (i:Nat) (j:Nat) a).length<=y by rw[Ir];omega),aW (show p.length<=y by omega)];simp
theorem c9Z (hU:Ai p k) (tG:i<j) (hs:∀y,bit a y=true->bit (j0 p (i:Nat)|||j0 p (j:Nat)) y=true) (ha:a≠0) (hb:sdf (j0 p (i:Nat)|||j0 p (j:Nat)) a≠0):Ai (Ax p (i:Nat) (j:Nat) a) k:=fun d hd=>by
 by_cases h1:d=i
 ·subst h1;rw[CM hs tG];exact ha
 ·by_cases h2:d=j
  ·subst h2;rw[CN tG];exact hb
  ·rw[CJ tG h1 h2];exact hU d hd
theorem TT (tG:i<j) (hj:j<k) (hs:∀y,bit a y=true->bit (j0 p (i:Nat)|||j0 p (j:Nat)) y=true) (m:Nat):m∈masks (Ax p (i:Nat) (j:Nat) a) k↔m=a\/m=sdf (j0 p (i:Nat)|||j0 p (j:Nat)) a\/∃d:Nat,d<k/\d≠i/\d≠j/\m=j0 p (d:Nat):=by
 rw[mem_masks];constructor
 ·rintro⟨d,hd,rfl⟩;by_cases h1:d=i
  ·subst h1;exact .inl (CM hs tG)
  ·by_cases h2:d=j
   ·subst h2;exact .inr (.inl (CN tG))
   ·exact .inr (.inr ⟨d,hd,h1,h2,CJ tG h1 h2⟩)
 ·rintro(rfl|rfl|⟨d,hd,h1,h2,rfl⟩)
  ·exact⟨i,aA,(CM hs tG).symm⟩
  ·exact⟨j,hj,(CN tG).symm⟩
  ·exact⟨d,hd,(CJ tG h1 h2).symm⟩
end
theorem e0x {a b y:Nat} (h:bit (a|||b) y=true):bit a y=true\/bit b y=true:=by rw[Ac,dB]at h;exact h
theorem px {p:List Int} {d e:Int} {y:Nat} (h1:bit (j0 p d) y=true) (h2:bit (j0 p e) y=true):d=e:=by
 rw[Eu,oDi]at h1 h2;rw[h1]at h2
 injection h2
theorem TU {a:Nat} (h:a≠0):∃x,bit a x=true:=by
 obtain⟨x,h1,_⟩:=Zn (a:=0) (b:=a) (fun e=>h e.symm) (fun y hy=>by rw[Dc]at hy;cases hy);exact⟨x,h1⟩
theorem TV {a b:Nat} (h:∀y,bit a y=true->bit b y=false):sdf (a|||b) a=b:=Ao fun y=>by
 rw[z6,Ac];cases ha:bit a y with
 |true=>rw[h y ha];simp
 |false=>simp
theorem TW {a b:Nat} (h:∀y,bit a y=true->bit b y=false):sdf (a|||b) b=a:=Ao fun y=>by
 rw[z6,Ac];cases ha:bit a y with
 |true=>rw[h y ha];simp
 |false=>simp
theorem d5B {S a:Nat} (h:∀y,bit a y=true->bit S y=true):sdf S (sdf S a)=a:=Ao fun y=>by
 rw[z6,z6];cases ha:bit a y with
 |true=>rw[h y ha];simp
 |false=>cases hS:bit S y<;>simp
theorem TX {p:List Int} {k i j a:Nat} (hL:LabOk p (k:Nat)) (tG:i<j) (hj:j<k) (hs:∀y,bit a y=true->bit (j0 p (i:Nat)|||j0 p (j:Nat)) y=true) (h:a=j0 p (i:Nat)\/a=j0 p (j:Nat)):j6 (Ax p (i:Nat) (j:Nat) a)=j6 p:=by
 have hd:∀y,bit (j0 p (i:Nat)) y=true->bit (j0 p (j:Nat)) y=false:=fun y hy=>by
  cases hb:bit (j0 p (j:Nat)) y with
  |false=>rfl
  |true=>have:=px hy hb;omega
 have hm:∀m,m∈masks (Ax p (i:Nat) (j:Nat) a) k↔m∈masks p k:=fun m=>by
  rw[TT tG hj hs,mem_masks];have e:(a=j0 p (i:Nat)/\sdf (j0 p (i:Nat)|||j0 p (j:Nat)) a=j0 p (j:Nat))\/(a=j0 p (j:Nat)/\sdf (j0 p (i:Nat)|||j0 p (j:Nat)) a=j0 p (i:Nat)):=by
   rcases h with h|h
   ·exact .inl ⟨h,by rw[h];exact TV hd⟩
   ·exact .inr ⟨h,by rw[h];exact TW hd⟩
  constructor
  ·rintro(rfl|rfl|⟨d,hd,_,_,rfl⟩)
   ·rcases e with⟨e,_⟩|⟨e,_⟩
    ·exact⟨i,aA,e⟩
    ·exact⟨j,aA,e⟩
   ·rcases e with⟨_,e⟩|⟨_,e⟩
    ·exact⟨j,aA,e⟩
    ·exact⟨i,aA,e⟩
   ·exact⟨d,hd,rfl⟩
  ·rintro⟨d,hd,rfl⟩;by_cases h1:d=i
   ·subst h1;rcases e with⟨e,_⟩|⟨_,e⟩
    ·exact .inl e.symm
    ·exact .inr (.inl e.symm)
   ·by_cases h2:d=j
    ·subst h2;rcases e with⟨_,e⟩|⟨e,_⟩
     ·exact .inr (.inl e.symm)
     ·exact .inl e.symm
    ·exact .inr (.inr ⟨d,hd,h1,h2,rfl⟩)
 refine TO (Ir ..) (c0p hL (mn hL ⟨aA,aA⟩ ⟨aA,aA⟩) (Ir ..) (fun m h=>(hm m).2 h) fun m h=>(hm m).1 h)
structure Prt (p:List Int) (k i j a:Nat):Prop where
 lab:LabOk p (k:Nat)
 used:Ai p k
 ij:i<j
 jk:j<k
 sub:∀y,bit a y=true->bit (j0 p (i:Nat)|||j0 p (j:Nat)) y=true
 a0:a≠0
 b0:sdf (j0 p (i:Nat)|||j0 p (j:Nat)) a≠0
section
variable {p:List Int} {k i j a:Nat}
theorem Prt.rlab (h:Prt p k i j a):LabOk (Ax p (i:Nat) (j:Nat) a) (k:Nat):=mn h.lab ⟨aA,by have:=h.ij;have:=h.jk;omega⟩ ⟨aA,by have:=h.jk;omega⟩
theorem Prt.rused (h:Prt p k i j a):Ai (Ax p (i:Nat) (j:Nat) a) k:=c9Z h.used h.ij h.sub h.a0 h.b0
theorem Prt.dis (h:Prt p k i j a):∀y,bit (j0 p (i:Nat)) y=true->bit (j0 p (j:Nat)) y=false:=fun y hy=>by
 cases hb:bit (j0 p (j:Nat)) y with
 |false=>rfl
 |true=>have:=px hy hb;have:=h.ij;omega
theorem Prt.masks (h:Prt p k i j a) (m:Nat):m∈masks (j6 (Ax p (i:Nat) (j:Nat) a)) k↔m=a\/m=sdf (j0 p (i:Nat)|||j0 p (j:Nat)) a\/∃d:Nat,d<k/\d≠i/\d≠j/\m=j0 p (d:Nat):=by
 rw[b6n h.rlab h.rused,TT h.ij h.jk h.sub]
theorem Prt.news (h:Prt p k i j a) (qC:j6 (Ax p (i:Nat) (j:Nat) a)≠j6 p):a∉Go.GS.masks p k/\sdf (j0 p (i:Nat)|||j0 p (j:Nat)) a∉Go.GS.masks p k:=by
 have key:∀c:Nat,c≠0->(∀y,bit c y=true->bit (j0 p (i:Nat)|||j0 p (j:Nat)) y=true)->c∈Go.GS.masks p k->c=j0 p (i:Nat)\/c=j0 p (j:Nat):=fun c hc hs hm=>by
  obtain⟨d,_,rfl⟩:=mem_masks.1 hm;obtain⟨y,hy⟩:=TU hc;rcases e0x (hs y hy)with h1|h1
  ·rw[px hy h1];exact .inl rfl
  ·rw[px hy h1];exact .inr rfl
 refine⟨fun hm=>qC (TX h.lab h.ij h.jk h.sub (key a h.a0 h.sub hm)),fun hm=> ?_⟩;have h2:=key _ h.b0 (fun y hy=>by rw[z6,bA]at hy;exact hy.1) hm;refine qC (TX h.lab h.ij h.jk h.sub ?_);have e:a=sdf (j0 p (i:Nat)|||j0 p (j:Nat)) (sdf (j0 p (i:Nat)|||j0 p (j:Nat)) a):=(d5B h.sub).symm;rcases h2 with h2|h2
 ·exact .inr (e.trans (by rw[h2];exact TV h.dis))
 ·exact .inl (e.trans (by rw[h2];exact TW h.dis))
theorem Prt.uniq {i2 j2 a2 x x2:Nat} (h:Prt p k i j a) (h2:Prt p k i2 j2 a2) (qC:j6 (Ax p (i:Nat) (j:Nat) a)≠j6 p) (he:j6 (Ax p (i:Nat) (j:Nat) a)=j6 (Ax p (i2:Nat) (j2:Nat) a2)) (hx:bit a x=true) (rG:bit a2 x2=true) (hxx:j0 p (i:Nat)|||j0 p (j:Nat)=j0 p (i2:Nat)|||j0 p (j2:Nat)->x=x2):i=i2/\j=j2/\a=a2:=by
 have a6a:j6 (Ax p (i2:Nat) (j2:Nat) a2)≠j6 p:=by rw[<-he];exact qC
 have hn:=h.news qC;have sW:=h2.news a6a;have hm:=h.masks;have hm2:=h2.masks;rw[<-he]at hm2;have key:∀{i j a i2 j2 a2:Nat},Prt p k i j a->Prt p k i2 j2 a2->a∉Go.GS.masks p k->sdf (j0 p (i:Nat)|||j0 p (j:Nat)) a∉Go.GS.masks p k->(∀m,(m=a2\/m=sdf (j0 p (i2:Nat)|||j0 p (j2:Nat)) a2\/∃d:Nat,d<k/\d≠i2/\d≠j2/\m=j0 p (d:Nat))->(m=a\/m=sdf (j0 p (i:Nat)|||j0 p (j:Nat)) a\/∃d:Nat,d<k/\d≠i/\d≠j/\m=j0 p (d:Nat)))->∀d:Nat,d<k->d=i\/d=j->d=i2\/d=j2:=by
  intro i j a i2 j2 a2 h h2 n1 n2 hm d hd hdi;refine bB fun hnn=> ?_;have hnn:=not_or.1 hnn;rcases hm (j0 p (d:Nat)) (.inr (.inr ⟨d,hd,hnn.1,hnn.2,rfl⟩))with e|e|⟨d2,qL,e1,e2,e⟩
  ·exact n1 (e ▸ mem_masks.2 ⟨d,hd,rfl⟩)
  ·exact n2 (e ▸ mem_masks.2 ⟨d,hd,rfl⟩)
  ·have:=c5C e (h.used d hd);omega
 have k1:=key h h2 hn.1 hn.2 (fun m tW=>(hm m).1 ((hm2 m).2 tW));have a1:=h.ij;have a2':=h.jk;have a3:=h2.ij;have a4:=h2.jk;have b1:=k1 i aA (.inl rfl);have b2:=k1 j aA (.inr rfl);have hi:i=i2:=aA;have hj:j=j2:=aA;subst hi;subst hj;obtain rfl:=hxx rfl;refine⟨rfl,rfl,?_⟩;rcases(hm2 a).1 ((hm a).2 (.inl rfl))with e|e|⟨d,hd,_,_,e⟩
 ·exact e
 ·rw[e,z6,rG]at hx;simp at hx
 ·exact absurd (mem_masks.2 ⟨d,hd,e⟩) hn.1
end
end Go.GS

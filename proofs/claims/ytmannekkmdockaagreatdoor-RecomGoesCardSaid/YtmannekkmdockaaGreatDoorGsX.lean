/- Lemmas: chapter 32. -/
import Derived.Test.YtmannekkmdockaaGreatDoorGzE
open Bool renaming and_comm->oL,and_eq_true->aF,true_and->jZ
open Int renaming le_of_lt->oY,natAbs_mul->iC
open List renaming filter_append->cT,filter_append_perm->lG,filter_congr->eL,filter_cons_of_neg->fC,filter_eq_self->iG,filter_filter->fZ,getElem_map->nI,length_append->aJ,length_cons->bA,length_map->aR,map_append->aX,map_cons->aM,map_map->cC,mem_append->aV,mem_filter->bJ,mem_map->aH,nodup_append->eO,nodup_cons->dF,pairwise_iff_getElem->fP
open Nat renaming beq->eG,le_trans->aS,lt_of_le_of_lt->aY,mul_le_mul->cI,mul_le_mul_left->dA,mul_pos->fK,ne_of_gt->jF,pow_add->dG,pow_le_pow_right->aU,two_pow_pos->fF
namespace Go.RX
open Go.RowKit
theorem Rds.opn' {P:Program} {o:Oper} {vs:List Value} {H:PH} {v:Value} (h:Rds P o vs H v):Opn P o vs H fun u H'=>u=v/\H'=H:=fun w hw=>by
 unfold Stp;have:=h w hw;rw[this];exact⟨_,Step.refl hw,rfl,rfl⟩
def nxV (b:Bool) (x y:Value):Value:=if b then .tuple #[.bool true,x,y]else .tuple #[.bool false]
theorem RE (b:Bool) (x y:Value):∃vs,nxV b x y= .tuple vs/\0<vs.size:=by cases b<;>exact⟨_,rfl,by simp⟩
theorem mz (b:Bool) (x y:Value):(match nxV b x y with| .tuple vs=>vs.getD 0 undef|_=>undef)= .bool b:=by cases b<;>rfl
section
variable {κ:Type} {ok:κ->Prop} {ke:κ->Value}
theorem RF {H H':PH} {v:Value} {q r clock:Nat} {es:List (κ×Value×Nat)} {seen:List Nat} (h:(left es seen=[]/\v= .tuple #[.bool false]/\H'=H)\/∃p∈left es seen,v= .tuple #[.bool true,ke p.1,p.2.1]/\H'=H.put q (.mapIter (some r) clock (seen++[p.2.2]).toArray clock)):
  ∃b x y,v=nxV b x y/\((b=false/\left es seen=[]/\H'=H)\/(b=true/\∃p∈left es seen,x=ke p.1/\y=p.2.1/\H'=H.put q (.mapIter (some r) clock (seen++[p.2.2]).toArray clock))):=by
 rcases h with⟨h1,h2,h3⟩|⟨p,h1,h2,h3⟩
 ·exact⟨false,undef,undef,h2,.inl ⟨rfl,h1,h3⟩⟩
 ·exact⟨true,_,_,h2,.inr ⟨rfl,p,h1,rfl,rfl,h3⟩⟩
theorem RG {a b:Nat} (h:a≠b):eG a b=false:=by
 rw[Bool.eq_false_iff];intro e;exact h (Nat.eq_of_beq_eq_true e)
theorem RH (es:List (κ×Value×Nat)):left es []=es:=by
 unfold left;exact iG.2 fun x _=>rfl
theorem c4o (es:List (κ×Value×Nat)) (seen:List Nat) (b:Nat):left es (seen++[b])=(left es seen).filter fun p=> !eG p.2.2 b:=by
 unfold left;rw[fZ];refine eL fun p _=> ?_;rw[List.any_append];simp[oL]
theorem RI {es:List (κ×Value×Nat)} {seen:List Nat} {p:κ×Value×Nat} (hn:(es.map (·.2.2)).Nodup) (hp:p∈left es seen):∃a b,left es seen=a++p::b/\left es (seen++[p.2.2])=a++b:=by
 obtain⟨a,b,h⟩:=List.append_of_mem hp;refine⟨a,b,h,?_⟩;have hs:(left es seen).map (·.2.2)|>.Nodup:=(List.filter_sublist.map _).nodup hn;rw[c4o,h,cT,fC (by simp)];rw[h,aX,aM,eO,dF]at hs;obtain⟨h1,⟨h2,h3⟩,h4⟩:=hs;congr 1
 ·refine iG.2 fun x hx=> ?_;have:=h4 _ (aH.2 ⟨x,hx,rfl⟩) p.2.2 (by simp);rw[RG this];rfl
 ·refine iG.2 fun x hx=> ?_;have:x.2.2≠p.2.2:=fun e=>h2 (aH.2 ⟨x,hx,e⟩);rw[RG this];rfl
end
end Go.RX
namespace Go.Proofs.Z
open Go.Proofs.Tryz
open Go.RowKit Go.RX Go.GS Go.RZ
open Go.WD (BP Bf wd rs toI HM sgI Rb)
set_option maxRecDepth 100000
noncomputable def vO (L:List (List Int×Rat)) (k:List Int):Rat:=((L.find? fun x=>decide (x.1=k)).map (·.2)).getD 0
theorem Tj {L:List (List Int×Rat)} (h:(L.map (·.1)).Nodup) {k:List Int} {q:Rat} (hm:(k,q)∈L):vO L k=q:=by
 have:L.find? (fun x=>decide (x.1=k))=some (k,q):=by
  obtain⟨i,hi⟩:=List.mem_iff_getElem?.1 hm;rw[List.find?_eq_some_iff_getElem];obtain⟨hil,he⟩:=List.getElem?_eq_some_iff.1 hi;refine⟨by simp,i,hil,he,fun j hj=> ?_⟩;have h1:=fP.1 h j i (by simp;omega) (by simpa using hil) hj;rw[nI,nI,he]at h1;simp;exact h1
 unfold vO;rw[this];rfl
theorem d8q {L:List (List Int×Rat)} (h:(L.map (·.1)).Nodup):L.map (fun x=>vO L x.1)=L.map (·.2):=List.map_congr_left fun x hx=>Tj h hx
open Classical in
noncomputable def Ba (es:List (Nat×Nat)) (wl:List Int) (lo hi:Int) (n k:Nat) (p:List Int):List (List Int×Rat):=
 if 0<1-sQ ((Bt es wl lo hi n k p).map (·.2))then Df (Bt es wl lo hi n k p) (m7 p) (1-sQ ((Bt es wl lo hi n k p).map (·.2)))else Bt es wl lo hi n k p
section
variable {H:PH} {u w wts:Value} {p wl:List Int} {n k:Nat} {es:List (Nat×Nat)} {lo hi:Int}
theorem c8U (x d e:Rat) (hd:d≠0) (he:e≠0):x/d=x*e/(d*e):=by grind
theorem Wt (qN:p.length=n) (hn:n<=64) (pr:Nat×Nat):unP p pr<2^n:=by
 subst qN;exact Nat.or_lt_two_pow (Ox p _ hn) (Ox p _ hn)
theorem AY {S:Nat} (hg:GV n es) (hn:n<=12) (h:S<2^n):(tN es S).natAbs<2^160:=by
 have h1:=AO hg hn h;have h2:=av es S;have:(BP 5:Nat)=2^160:=by unfold BP;rfl
 omega
theorem na {J:Nat} (hJ:J=320) (hg:GV n es) (hn:n<=12) (qN:p.length=n) (rW:0<(n-1)*(i7 k).length):∀x∈Bt es wl lo hi n k p,Qd (Cj es n (i7 k).length p (i7 k)) (2^J*Cj es n (i7 k).length p (i7 k)) x.2:=fun x hx=>by
 obtain⟨pr,qT,a,ha,h0,_,_,_,_,hq⟩:=(my x hx).ex;have hS:=Wt qN (by omega) pr;have hS0:unP p pr≠0:=fun e=>by rw[e]at ha;simp[Bd,Hg,sdf]at ha
 obtain⟨⟨a0,a2⟩,s0,s2⟩:=ax hS (by omega) hS0 ha;obtain⟨e,he⟩:=RB (es:=es) (n:=n) (m:=(i7 k).length) (p:=p) qT;have hd:If es n (i7 k).length p pr=(tN es (unP p pr)).natAbs*((n-1)*(i7 k).length):=if_neg h0;have hnn:=av es (unP p pr);have hu:Ks es n (i7 k).length (unP p pr)=((If es n (i7 k).length p pr:Int):Rat):=by
  rw[hd];unfold Ks;rw[<-Rat.intCast_mul];congr 1
  push_cast
  rw[Int.natAbs_of_nonneg hnn]
 have pU:If es n (i7 k).length p pr≠0:=by
  rw[hd];exact jF (fK (by omega) rW)
 have hD:Cj es n (i7 k).length p (i7 k)≠0:=jF (bf rW _);have he0:e≠0:=fun h=>by rw[h,Nat.mul_zero]at he;exact hD he
 refine⟨tN es a*tN es (sdf (unP p pr) a)*(e:Int),?_,?_⟩
 ·rw[hq,hu,he];have h1:((If es n (i7 k).length p pr:Int):Rat)≠0:=by exact_mod_cast pU
  have h2:((e:Int):Rat)≠0:=by exact_mod_cast he0
  push_cast
  exact c8U _ _ _ h1 h2
 ·rw[iC,iC,he];have b1:=AY hg hn a2;have b2:=AY hg hn s2;have b3:(tN es a).natAbs*(tN es (sdf (unP p pr) a)).natAbs<=2^160*2^160:=cI (by omega) (by omega);have b4:e<=If es n (i7 k).length p pr*e:=Nat.le_mul_of_pos_left _ (by omega);rw[<-dG,show 160+160=J by omega]at b3;exact cI b3 b4
theorem RJ {K:Nat} (hK:K=11264) (hg:GV n es) (hn:n<=12) (qN:p.length=n) (hm:(i7 k).length<=64):Cj es n (i7 k).length p (i7 k)<=2^K:=by
 refine aS (RD (K:=176) (fun pr=> ?_) _) (aU (by decide) (by omega));unfold If;split
 ·exact Nat.one_le_two_pow
 ·have h1:=AY hg hn (Wt qN (by omega) pr);have h2:(n-1)*(i7 k).length<=11*64:=cI (by omega) hm;have h3:(tN es (unP p pr)).natAbs*((n-1)*(i7 k).length)<=2^160*2^16:=cI (by omega) (by omega);rw[<-dG]at h3;exact h3
theorem d4U (hg:GV n es) (hn:n<=12) (qN:p.length=n) (rW:0<(n-1)*(i7 k).length) (hm:(i7 k).length<=64) {l m:List Rat} (hl:∀q∈l,∃x∈Bt es wl lo hi n k p,x.2=q) (uM:∀q∈m,∃x∈Bt es wl lo hi n k p,x.2=q) (h1:l.length<=2^20) (h2:m.length<=2^20):Rb 12000 (1-sQ l+sQ m):=by
 obtain⟨K,hK⟩:∃K,K=11264:=⟨_,rfl⟩;have hD:=RJ hK hg hn qN hm;obtain⟨J,hJ⟩:∃J,J=320:=⟨_,rfl⟩;have hD0:Cj es n (i7 k).length p (i7 k)≠0:=jF (bf rW _);have q1:=mr (D:=Cj es n (i7 k).length p (i7 k)) (B:=2^J*Cj es n (i7 k).length p (i7 k)) (l:=l) fun q hq=>by obtain⟨x,hx,rfl⟩:=hl q hq;exact na hJ hg hn qN rW x hx
 have q2:=mr (D:=Cj es n (i7 k).length p (i7 k)) (B:=2^J*Cj es n (i7 k).length p (i7 k)) (l:=m) fun q hq=>by obtain⟨x,hx,rfl⟩:=uM q hq;exact na hJ hg hn qN rW x hx
 have q3:=((Qd.one hD0).sub q1).add q2;generalize Cj es n (i7 k).length p (i7 k)=D at*;obtain⟨K2,hK2⟩:∃K2,K2=12000:=⟨_,rfl⟩;rw[<-hK2];have e1:l.length*(2^J*D)<=2^20*(2^J*2^K):=cI h1 (dA _ hD);have e2:m.length*(2^J*D)<=2^20*(2^J*2^K):=cI h2 (dA _ hD);have e3:(2:Nat)^20*(2^J*2^K)=2^(K+J+20):=by rw[<-dG,<-dG];congr 1;omega
 have e4:(2:Nat)^K<=2^(K+J+20):=aU (by decide) (by omega);have e5:(2:Nat)^(K+J+22)=4*2^(K+J+20):=by rw[show K+J+22=(K+J+20)+2 from rfl,dG];omega
 have e6:(2:Nat)^(K+J+22)<=2^K2:=aU (by decide) (by omega);have e7:0<(2:Nat)^(K+J+20):=fF _;rw[e3]at e1 e2;exact AU q3 hD0 (by omega) (by omega)
theorem c4p (hg:GV n es) (hn:n<=12) (qN:p.length=n) (rW:0<(n-1)*(i7 k).length) (hm:(i7 k).length<=64) {x:List Int×Rat} (hx:x∈Bt es wl lo hi n k p):Rb 12000 x.2:=by
 obtain⟨K,hK⟩:∃K,K=11264:=⟨_,rfl⟩;have hD:=RJ hK hg hn qN hm;obtain⟨J,hJ⟩:∃J,J=320:=⟨_,rfl⟩;have hD0:Cj es n (i7 k).length p (i7 k)≠0:=jF (bf rW _);have q1:=na hJ hg hn qN rW x hx;generalize Cj es n (i7 k).length p (i7 k)=D at*;obtain⟨K2,hK2⟩:∃K2,K2=12000:=⟨_,rfl⟩;rw[<-hK2];have e1:2^J*D<=2^J*2^K:=dA _ hD;have e3:(2:Nat)^J*2^K=2^(K+J):=by rw[<-dG];congr 1;omega
 have e4:(2:Nat)^K<=2^(K+J):=aU (by decide) (by omega);have e5:(2:Nat)^(K+J+1)=2*2^(K+J):=by rw[show K+J+1=(K+J)+1 from rfl,Nat.pow_succ];omega
 have e6:(2:Nat)^(K+J+1)<=2^K2:=aU (by decide) (by omega);have e7:0<(2:Nat)^(K+J):=fF _;rw[e3]at e1;exact AU q1 hD0 (by omega) (by omega)
theorem d4V {H:PH} {v:Value} {q:Rat} {b:Nat} {ob:Obj} {r:Option Nat} {c d:Nat} {sn:Array Nat} (hr:H b=some (.mapIter r c sn d)) (h:Rp H v q):Rp (H.put b ob) v q:=by
 obtain⟨w1,w2,rfl,⟨l1,h1,h2⟩,⟨l2,h3,h4⟩⟩:=h;have key:∀{sz n:Nat} {v:Value} {xs:List Value},Sl H sz v n xs->Sl (H.put b ob) sz v n xs:=fun h=>by
  obtain⟨h1,a,c',h2,h3,h4,h5⟩:=h;refine⟨h1,a,c',h2,h3,h4,h5.imp id ?_⟩;rintro⟨g,o,cs,T,fz,g1,g2,g3⟩;exact⟨g,o,cs,T,fz,g1,by rw[PH.put_ne _ _ (fun e=>by subst e;rw[hr]at g2;cases g2)];exact g2,g3⟩
 exact⟨w1,w2,rfl,⟨l1,⟨key h1.1,h1.2⟩,h2⟩,⟨l2,⟨key h3.1,h3.2⟩,h4⟩⟩
theorem numpos {q:Rat}:0<q.num↔0<q:=by
 have h1:0<=q.num↔0<=q:=Rat.num_nonneg;have h2:q.num=0↔q=0:=Rat.num_eq_zero;constructor
 ·intro h;have a:=h1.1 (by omega);have b:q≠0:=fun e=>by have:=h2.2 e;omega
  grind
 ·intro h;have a:=h1.2 (by grind);have b:q.num≠0:=fun e=>by have:=h2.1 e;grind
  omega
theorem RL {H H':PH} {q r clock:Nat} {es:List (List Int×Value×Nat)} {seen:List Nat} (h:IT kV H q r es clock seen) (hl:PH.le H H'):IT kV H' q r es clock seen:=⟨hl _ _ h.1,hl _ _ h.2⟩
theorem sgI_posG {z:Int}:sgI z 0>0↔0<z:=by
 unfold sgI;split
 ·omega
 ·split<;>omega
theorem RN (hc:Chn H n w wts es wl) (hu:SI H u p) (hn:n<=12) (rQ:k<=n) (qN:p.length=n) (tH:1<=k) (uN:k<=8) (hL:LabOk p (k:Nat)) (hU:Ak p k):
  Con prog 47 [chv wts lo hi (k:Nat) n w,u] H fun r H'=>PH.le H H'/\MR H H' r (Ba es wl lo hi n k p):=by
 refine j3 mixed c7J ?_;have hpz:∀z∈p,0<=z/\z<9223372036854775808:=fun z hz=>by have:=hL.1 z hz;omega
 have uI:=hc.ok.n64;have zU:=zu k uN;have sJ:((Bt es wl lo hi n k p).map (·.1)).Nodup:=AX;have hOl:(Bt es wl lo hi n k p).length<=2^20:=by
  refine aS (RA (es:=es) (wl:=wl) (lo:=lo) (hi:=hi) (n:=n) (k:=k) (p:=p) fun pr _=>Wt qN uI pr) ?_;exact aS (cI zU (aU (by decide) hn)) (by decide)
 obtain⟨L,hLe⟩:∃L,L=Bt es wl lo hi n k p:=⟨_,rfl⟩;obtain⟨tot,a1u⟩:∃tot,tot=sQ (L.map (·.2)):=⟨_,rfl⟩;have qG:Ba es wl lo hi n k p=if 0<1-tot then Df L (m7 p) (1-tot)else L:=by rw[a1u,hLe];rfl
 have rW:∀x∈L,0<(n-1)*(i7 k).length:=fun x hx=>by
  rw[hLe]at hx;obtain⟨pr,qT,_⟩:=(my x hx).ex;have h1:=Ta qT;exact fK (by omega) (List.length_pos_of_mem qT)
 rw[qG];refine d9 (Pe (Af hc.wt) (Af hc.gr) _ _ _ _) ?_;refine i6 (c8S hc hu hn rQ qN tH uN hL hU) rfl ?_;rintro v2 H1 ⟨l1,m1⟩;refine nmI ?_;refine i6 (AQ 1 (by omega) (by omega)) rfl ?_;rintro v3 H2 ⟨l2,q3⟩;refine nmI ?_;refine d9 q3.rq ?_;rw[<-hLe]at m1 sJ hOl;obtain⟨V,⟨r,es0,clock,rfl,hHr,wL,hE,rO⟩,wW,hrp⟩:=m1.mono l2;have zI:es0.map (·.1)=L.map (·.1):=by rw[<-wW,<-rO];unfold kvN;rw[cC];rfl
 have hva:es0.map (fun e=>vO L e.1)=L.map (·.2):=by rw[<-d8q sJ];have:=congrArg (List.map fun k=>vO L k) zI;rw[cC,cC]at this;exact this
 have sK:∀e∈es0,(e.1,vO L e.1)∈L/\Rp H2 e.2.1 (vO L e.1):=fun e he=>by
  have h1:e.1∈L.map (·.1):=by rw[<-zI];exact aH.2 ⟨e,he,rfl⟩
  obtain⟨x,hx,hxe⟩:=aH.1 h1;have h2:vO L e.1=x.2:=by rw[<-hxe];exact Tj sJ hx
  have h3:(e.1,vO L e.1)∈L:=by rw[h2,<-hxe];exact hx
  exact⟨h3,hrp e.1 _ _ (by rw[<-rO];exact aH.2 ⟨e,he,rfl⟩) h3⟩
 refine r4 (QN (κ:=List Int) (ke:=kV) (vs:=[.map (some r)]) rfl rfl Ws wL) rfl ?_;rintro _ _ ⟨q,hq,rfl,rfl⟩;refine nmI ?_;have hrq:r≠q:=fun e=>by subst e;rw[wL]at hq;cases hq
 have hI0:IT kV (H2.put q (.mapIter (some r) clock #[] clock)) q r es0 clock []:=⟨PH.put_self _ _ _,by rw[PH.put_ne _ _ hrq];exact wL⟩;have hq0:Rp (H2.put q (.mapIter (some r) clock #[] clock)) v3 (1-tot+sQ ((left es0 []).map fun e=>vO L e.1)):=by
  rw[RH,hva,<-a1u,show(1:Rat)-tot+tot=1 from by grind];exact q3.mono (PH.le_put hq _)
 refine s9 (α:=List Nat×Value) (fun⟨seen,v5⟩=>[v5]) (fun⟨seen,v5⟩=>fun H'=>PH.le H2 H'/\IT kV H' q r es0 clock seen/\Rp H' v5 (1-tot+sQ ((left es0 seen).map fun e=>vO L e.1))) (fun⟨seen,v5⟩=>(left es0 seen).length) (([],v3)) rfl (⟨PH.le_put hq _,hI0,hq0⟩) fun⟨seen,v5⟩ H4 ⟨l4,it4,q5⟩=> ?_;refine r4 (QO (ok:=okK) (ke:=kV) (vs:=[.pointer (some ⟨q,0,none⟩)]) rfl rfl hE it4) rfl ?_;rintro v6 H5 wP;refine nmI ?_;obtain⟨b,x,y,rfl,hb⟩:=RF wP;refine d9 (RE b x y) ?_;refine d9 ⟨b,mz b x y⟩ ?_;refine i0 (b:=b) (mz b x y) (fun qQ=> ?_) (fun qQ=> ?_)
 ·skip
  obtain⟨e,he,rfl,rfl,rfl⟩:∃p∈left es0 seen,x=kV p.1/\y=p.2.1/\H5=H4.put q (.mapIter (some r) clock (seen++[p.2.2]).toArray clock):=by
   rcases hb with⟨h,_⟩|⟨_,h⟩
   ·rw[qQ]at h;cases h
   ·exact h
  subst qQ;have heE:e∈es0:=(bJ.1 he).1;obtain⟨hvL,hvq⟩:=sK e heE;have it5:IT kV (H4.put q (.mapIter (some r) clock (seen++[e.2.2]).toArray clock)) q r es0 clock (seen++[e.2.2]):=⟨PH.put_self _ _ _,by rw[PH.put_ne _ _ hrq];exact it4.2⟩;have l5:PH.le H2 (H4.put q (.mapIter (some r) clock (seen++[e.2.2]).toArray clock)):=fun b' ob' qZ=>by rw[PH.put_ne _ _ (fun e=>by subst e;rw[hq]at qZ;cases qZ)];exact l4 _ _ qZ
  have q5':Rp (H4.put q (.mapIter (some r) clock (seen++[e.2.2]).toArray clock)) v5 (1-tot+sQ ((left es0 seen).map fun e=>vO L e.1)):=d4V it4.1 q5;generalize H4.put q (.mapIter (some r) clock (seen++[e.2.2]).toArray clock)=H6 at it5 l5 q5'⊢;refine r4 (Rds.opn' (QP (ok:=okK) (ke:=kV) (vs:=[.pointer (some ⟨q,0,none⟩)]) rfl rfl hE heE it5)) rfl ?_;rintro _ _ ⟨rfl,rfl⟩;refine nmI ?_;refine i8 ?_;refine d9 (hvq.mono l5).rq ?_;obtain⟨la,lb,wS,yH⟩:=RI (hE.asc.imp fun h=>Nat.ne_of_lt h) he;have hlf:∀sn,∀z∈(left es0 sn).map (fun e=>vO L e.1),∃x∈Bt es wl lo hi n k p,x.2=z:=fun sn z hz=>by
   obtain⟨e',yQ,rfl⟩:=aH.1 hz;exact⟨_,by rw[<-hLe];exact(sK e' (bJ.1 yQ).1).1,rfl⟩
  have yX:∀sn,((left es0 sn).map (fun e=>vO L e.1)).length<=2^20:=fun sn=>by
   rw[aR];refine aS (List.length_filter_le _ _) ?_;have:=congrArg List.length zI;rw[aR,aR]at this;omega
  have hrb:=d4U (es:=es) (wl:=wl) (lo:=lo) (hi:=hi) (l:=L.map (·.2)) hc.ok hn qN (rW _ hvL) zU (fun z hz=>by obtain⟨x,hx,rfl⟩:=aH.1 hz;exact⟨x,by rw[<-hLe];exact hx,rfl⟩) (hlf seen) (by rw[aR];exact hOl) (yX seen);have a6j:Rb 12000 (vO L e.1):=c4p (es:=es) (wl:=wl) (lo:=lo) (hi:=hi) (n:=n) (k:=k) (p:=p) hc.ok hn qN (rW _ hvL) zU (x:=(e.1,vO L e.1)) (by rw[<-hLe];exact hvL);rw[<-a1u]at hrb;refine i6 (P0 q5' (hvq.mono l5) hrb a6j (by omega)) (j4 (Wq q5') (Wq hvq)) ?_;rintro v8 H7 ⟨l7,q8⟩;refine nmI ?_;refine d9 q8.rq ?_;exact⟨(seen++[e.2.2],v8),by show(left es0 (seen++[e.2.2])).length<(left es0 seen).length;rw[wS,yH];simp,rfl,⟨l5.trans l7,RL it5 l7,by show Rp H7 v8 (1-tot+sQ ((left es0 (seen++[e.2.2])).map fun e=>vO L e.1));rw[wS]at q8;rw[yH];rw[aX,QW]at q8⊢;rw[aM,sQ]at q8;rw[show(1:Rat)-tot+(sQ (la.map fun e=>vO L e.1)+sQ (lb.map fun e=>vO L e.1))=1-tot+(sQ (la.map fun e=>vO L e.1)+(vO L e.1+sQ (lb.map fun e=>vO L e.1)))-vO L e.1 from by grind];exact q8⟩⟩
 ·skip
  obtain⟨a1v,h54⟩:left es0 seen=[]/\H5=H4:=by
   rcases hb with⟨_,h⟩|⟨h,_⟩
   ·exact h
   ·rw[qQ]at h;cases h
  rw[h54];rw[a1v,List.map_nil,sQ,Rat.add_zero]at q5;have q5c:=q5;obtain⟨w5,w5',hv5,hl5,-⟩:=q5.out;subst hv5;refine i6 (Ut hl5) rfl ?_;rintro _ H4 ⟨rfl,rfl⟩;refine nmI ?_;have uJ:MKO okK kV H H4 (.map (some r)) V:=⟨r,es0,clock,rfl,hHr,it4.2,hE,rO⟩;have l04:PH.le H H4:=l1.trans (l2.trans l4);refine d4 ?_;refine i0 (b:=decide (sgI (1-tot).num 0>0)) rfl (fun sO=> ?_) (fun sO=> ?_)
  ·replace sO:=oDt sO;have a6k:0<1-tot:=numpos.1 (sgI_posG.1 sO);refine i6 (Wp (hu.mono l04) (by omega)) rfl ?_;rintro _ H8 ⟨l8,rfl⟩;refine⟨(fun _=>l8),?_⟩;refine r4 (QL ar (k:=m7 p) (v:= .agg #[.bool (decide ((1-tot).num<0)),w5,.bool false,w5']) (vs:=[.map (some r),kV (m7 p),.agg #[.bool (decide ((1-tot).num<0)),w5,.bool false,w5']]) rfl rfl rfl rfl Ws (au (by omega) hpz) (l04.trans l8) (uJ.mono l8)) rfl ?_;rintro _ _ ⟨rfl,b9,m9,g,ob,E,cc,hmg,-,uL,rfl⟩;refine nmI ?_;obtain rfl:r=g:=by injection hmg with hmg;injection hmg
   exact g8 rfl ⟨b9,by rw[if_pos a6k];exact MR.put uL wW (fun k v q a b=>(hrp k v q a b).mono (l4.trans l8)) (q5c.mono l8) m9⟩
  ·replace sO:=oDf sO;exact g8 rfl ⟨l04,by rw[if_neg (fun h=>sO (sgI_posG.2 (numpos.2 h)))];exact⟨V,uJ,wW,fun k v q a b=>(hrp k v q a b).mono l4⟩⟩
end
end Go.Proofs.Z
/- Trees of a set, and trees that are cut at an edge. -/
namespace Go.GS
variable {es:List (Nat×Nat)} {S A n:Nat}
theorem d8r {L:List (Nat×Nat)} (hs:S<M64) (h:Inn S L):∀e∈L,e.1<64/\e.2<64:=fun e he=>⟨Db hs (h e he).1,Db hs (h e he).2⟩
theorem Jl {L:List (Nat×Nat)} (h:Inn S L):One (lab L) S↔∀x y,bit S x=true->bit S y=true->Rch L S x y:=
 ⟨fun h1 x y hx hy=>(Pj h hx hy).1 (h1 x y hx hy),fun h1 x y hx hy=>(Pj h hx hy).2 (h1 x y hx hy)⟩
theorem nc {L:List (Nat×Nat)} (hs:S<M64) (h0:S≠0) (h:Inn S L) (h1:One (lab L) S):card S<=L.length+1:=by
 have h3:=Vo hs h L.length (Nat.le_refl _);rw[List.take_length,(Zs (Lb.lab L) hs h0 (Ib h)).2 h1]at h3;have:=yf L L.length;omega
theorem Rch.mono {L M:List (Nat×Nat)} {T x y:Nat} (hL:∀e∈L,e∈M) (hT:∀z,bit S z=true->bit T z=true) (h:Rch L S x y):Rch M T x y:=by
 induction h with
 |base=>exact .base
 |step _ ha hz ih=>
  obtain⟨e,he,h⟩:=ha;exact ih.step ⟨e,hL e he,h⟩ (hT _ hz)
theorem AZ (hA:∀y,bit A y=true->bit S y=true):card S=card A+card (sdf S A):=by
 have h1:els A=(els S).filter (bit A):=by
  unfold els;rw[fZ];refine eL fun x _=> ?_;cases h:bit A x with
  |false=>rfl
  |true=>rw[hA x h];rfl
 have h2:els (sdf S A)=(els S).filter fun x=> !bit A x:=by
  unfold els;rw[fZ];refine eL fun x _=> ?_;rw[Ad,oL]
 have:=(lG (bit A) (els S)).length_eq;unfold card;rw[h1,h2,<-this,aJ]
def inI (es:List (Nat×Nat)) (A:Nat) (i:Int):Bool:=inB A (Ed es i)
theorem d4W {t:List Int} {k:Int} (hn:t.Nodup) (hk:k∈t):t.Perm (k::t.filter fun i=>decide (i≠k)):=by
 have h:=List.perm_cons_erase hk;rw[hn.erase_eq_filter k]at h;have e:t.filter (fun x=>x !=k)=t.filter fun i=>decide (i≠k):=eL fun x _=>by
  by_cases h:x=k<;>simp[h]
 rw[e]at h;exact h
theorem TreeOk.nd {t:List Int} (h:TreeOk es S t):t.Nodup:=h.asc.imp fun h=>Int.ne_of_lt h
theorem TreeOk.one {t:List Int} (hs:S<M64) (h0:S≠0) (h:TreeOk es S t):One (lab (etl es t)) S:=by
 have hl:(etl es t).length=t.length:=aR _;refine(yg hs h0 h.inn (by rw[hl];exact h.len)).1 ?_;rw[hl];exact h.acy
theorem nf {t:List Int} (hs:S<M64) (h0:S≠0) (ha:t.Pairwise (· < ·)) (pS:∀i∈t,OkI es S i) (hl:t.length+1=card S) (h1:One (lab (etl es t)) S):TreeOk es S t:=by
 have hl':(etl es t).length=t.length:=aR _;have pY:Inn S (etl es t):=fun e he=>by
  unfold etl at he;obtain⟨i,hi,rfl⟩:=aH.1 he;exact(pS i hi).2.2
 have:=(yg hs h0 pY (by rw[hl'];exact hl)).2 h1;rw[hl']at this;exact⟨ha,pS,this,hl⟩
theorem Ip {t:List Int} {i:Int} (h:i∈t):Ed es i∈etl es t:=aH.2 ⟨i,h,rfl⟩
theorem Eu {t:List Int} {e:Nat×Nat} (h:e∈etl es t):∃i∈t,Ed es i=e:=aH.1 h
theorem RO {t:List Int} {k:Int} (hs:S<M64) (h0:S≠0) (pS:∀i∈t,OkI es S i) (y:Nat):bit (y9 es S t k) y=true↔Rch (etl es (t.filter fun i=>decide (i≠k))) S (lst S) y:=by
 have pY:Inn S (etl es (t.filter fun i=>decide (i≠k))):=fun e he=>by
  obtain⟨i,hi,rfl⟩:=Eu he;exact(pS i (bJ.1 hi).1).2.2
 have hx:=Nh hs h0;rw[<-Zt hs pY hx];exact(Pq (d8r hs pY) (Db hs hx)).2 y
structure Cut (es:List (Nat×Nat)) (S A:Nat) (t:List Int) (k:Int):Prop where
 sub:∀y,bit A y=true->bit S y=true
 lst:bit A (lst S)=true
 b0:sdf S A≠0
 perm:t.Perm (k::(t.filter (inI es A)++t.filter (inI es (sdf S A))))
 ta:TreeOk es A (t.filter (inI es A))
 tb:TreeOk es (sdf S A) (t.filter (inI es (sdf S A)))
 bt:btB A (sdf S A) (Ed es k)=true
theorem ng {t:List Int} {k:Int} (hs:S<M64) (h0:S≠0) (hT:TreeOk es S t) (hk:k∈t) (hA:y9 es S t k=A):Cut es S A t k:=by
 have hx:=Nh hs h0;have qM:∀y,bit A y=true->bit S y=true:=by subst hA;exact jr hs h0 hT k
 have sS:∀y,bit A y=true↔Rch (etl es (t.filter fun i=>decide (i≠k))) S (lst S) y:=fun y=>by subst hA;exact RO hs h0 hT.ok y
 clear hA;generalize hR:(t.filter fun i=>decide (i≠k))=R at sS;have hRt:∀i,i∈R↔i∈t/\i≠k:=fun i=>by rw[<-hR,bJ];simp
 have hpR:t.Perm (k::R):=by rw[<-hR];exact d4W hT.nd hk
 have vU:bit A (lst S)=true:=(sS _).2 .base;have hAM:A<M64:=aY (sub_le qM) hs;have hBM:sdf S A<M64:=sdf_lt hs;have uR:∀i∈R,bit A (Ed es i).1=true↔bit A (Ed es i).2=true:=fun i hi=>by
  have ho:=hT.ok i ((hRt i).1 hi).1;rw[sS,sS];exact⟨fun h=>h.step ⟨_,Ip hi,.inl ⟨rfl,rfl⟩⟩ ho.2.2.2,fun h=>h.step ⟨_,Ip hi,.inr ⟨rfl,rfl⟩⟩ ho.2.2.1⟩
 have qG:=(Jl hT.inn).1 (hT.one hs h0);have hko:=hT.ok k hk;have hcr:¬(bit A (Ed es k).1=true↔bit A (Ed es k).2=true):=fun hc=>by
  have rD:∀i∈t,bit A (Ed es i).1=true↔bit A (Ed es i).2=true:=fun i hi=>by
   by_cases h:i=k
   ·subst h;exact hc
   ·exact uR i ((hRt i).2 ⟨hi,h⟩)
  have hSA:∀y,Rch (etl es t) S (lst S) y->bit A y=true:=fun y hy=>by
   induction hy with
   |base=>exact vU
   |step _ ha _ ih=>
    obtain⟨e,he,h⟩:=ha;obtain⟨i,hi,rfl⟩:=Eu he;rcases h with⟨rfl,rfl⟩|⟨rfl,rfl⟩
    ·exact(rD i hi).1 ih
    ·exact(rD i hi).2 ih
  have pY:Inn S (etl es R):=fun e he=>by
   obtain⟨i,hi,rfl⟩:=Eu he;exact(hT.ok i ((hRt i).1 hi).1).2.2
  have sB:One (lab (etl es R)) S:=(Jl pY).2 fun x y rZ sL=>by
   have r1:=(sS x).1 (hSA x (qG _ _ hx rZ));have r2:=(sS y).1 (hSA y (qG _ _ hx sL));exact(r1.symm hx).trans r2
  have h1:=nc hs h0 pY sB;have h2:(etl es R).length=R.length:=aR _;have h3:=hpR.length_eq;have h4:=hT.len;rw[bA]at h3;omega
 have a0g:inI es A k=false/\inI es (sdf S A) k=false/\btB A (sdf S A) (Ed es k)=true:=by
  unfold inI inB btB;simp only[Ad,hko.2.2.1,hko.2.2.2,jZ];cases h1:bit A (Ed es k).1<;>cases h2:bit A (Ed es k).2<;>simp_all
 have hfA:t.filter (inI es A)=R.filter (inI es A):=by
  rw[<-hR,fZ];refine eL fun i _=> ?_;by_cases h:i=k
  ·subst h;rw[a0g.1];rfl
  ·simp[h]
 have hfB:t.filter (inI es (sdf S A))=R.filter fun i=> !inI es A i:=by
  rw[<-hR,fZ];refine eL fun i hi=> ?_;by_cases h:i=k
  ·subst h;rw[a0g.2.1];simp
  ·have ho:=hT.ok i hi;have hc:=uR i ((hRt i).2 ⟨hi,h⟩);unfold inI inB;simp only[Ad,ho.2.2.1,ho.2.2.2,jZ];cases h1:bit A (Ed es i).1<;>cases h2:bit A (Ed es i).2<;>simp_all
 have a0q:t.Perm (k::(t.filter (inI es A)++t.filter (inI es (sdf S A)))):=by
  rw[hfA,hfB];exact hpR.trans ((lG _ R).symm.cons k)
 have yW:sdf S A≠0:=fun e=>by
  have:=a0g.2.2;rw[e]at this;unfold btB at this;simp[Bz]at this
 have hA0:A≠0:=fun e=>by rw[e,Bz]at vU;cases vU
 have a3o:∀i∈t.filter (inI es A),OkI es A i:=fun i hi=>by
  obtain⟨h1,h2⟩:=bJ.1 hi;have ho:=hT.ok i h1;unfold inI inB at h2;rw[aF]at h2;exact⟨ho.1,ho.2.1,h2⟩
 have a3p:∀i∈t.filter (inI es (sdf S A)),OkI es (sdf S A) i:=fun i hi=>by
  obtain⟨h1,h2⟩:=bJ.1 hi;have ho:=hT.ok i h1;unfold inI inB at h2;rw[aF]at h2;exact⟨ho.1,ho.2.1,h2⟩
 have a3q:Inn A (etl es (t.filter (inI es A))):=fun e he=>by
  obtain⟨i,hi,rfl⟩:=Eu he;exact(a3o i hi).2.2
 have a3r:Inn (sdf S A) (etl es (t.filter (inI es (sdf S A)))):=fun e he=>by
  obtain⟨i,hi,rfl⟩:=Eu he;exact(a3p i hi).2.2
 have rA:∀y,bit A y=true->Rch (etl es (t.filter (inI es A))) A (lst S) y:=fun y hy=>by
  have hr:=(sS y).1 hy;clear hy;induction hr with
  |base=>exact .base
  | @step y z h1 ha hz ih=>
   obtain⟨e,he,h⟩:=ha;obtain⟨i,hi,rfl⟩:=Eu he;have hy:=(sS y).2 h1;have hc:=uR i hi;have hm:inI es A i=true:=by
    unfold inI inB;rcases h with⟨rfl,rfl⟩|⟨rfl,rfl⟩
    ·rw[hy,hc.1 hy];rfl
    ·rw[hy,hc.2 hy];rfl
   have hz':bit A z=true:=by
    rcases h with⟨rfl,rfl⟩|⟨rfl,rfl⟩
    ·exact hc.1 hy
    ·exact hc.2 hy
   exact ih.step ⟨_,Ip (bJ.2 ⟨((hRt i).1 hi).1,hm⟩),h⟩ hz'
 have oneA:One (lab (etl es (t.filter (inI es A)))) A:=(Jl a3q).2 fun x y rZ sL=>((rA x rZ).symm vU).trans (rA y sL);obtain⟨b,hbS,hbA,hbk⟩:∃b,bit S b=true/\bit A b=false/\(∀z,(b≠z->(Ed es k).1=z\/(Ed es k).2=z->bit A z=true)):=by
  cases h1:bit A (Ed es k).1 with
  |false=>
   refine⟨_,hko.2.2.1,h1,fun z hz h=> ?_⟩;rcases h with h|h
   ·exact absurd h hz
   ·subst h;cases h2:bit A (Ed es k).2 with
    |true=>rfl
    |false=>exact absurd ⟨fun h=>by(rw[h1]at h;cases h),fun h=>by(rw[h2]at h;cases h)⟩ hcr
  |true=>
   cases h2:bit A (Ed es k).2 with
   |true=>exact absurd ⟨fun _=>h2,fun _=>h1⟩ hcr
   |false=>
    refine⟨_,hko.2.2.2,h2,fun z hz h=> ?_⟩;rcases h with h|h
    ·subst h;exact h1
    ·exact absurd h hz
 have hbB:bit (sdf S A) b=true:=by rw[Ad,hbS,hbA];rfl
 have rB:∀y,Rch (etl es t) S b y->bit A y=true\/Rch (etl es (t.filter (inI es (sdf S A)))) (sdf S A) b y:=fun y hr=>by
  induction hr with
  |base=>exact .inr .base
  | @step y z h1 ha hz ih=>
   by_cases hzA:bit A z=true
   ·exact .inl hzA
   have hzB:bit (sdf S A) z=true:=by rw[Ad,hz];simpa using hzA
   obtain⟨e,he,h⟩:=ha;obtain⟨i,hi,rfl⟩:=Eu he;by_cases hik:i=k
   ·subst hik;by_cases hbz:b=z
    ·subst hbz;exact .inr .base
    ·exact absurd (hbk z hbz (by rcases h with⟨_,h⟩|⟨_,h⟩;exact .inr h;exact .inl h)) hzA
   ·have hc:=uR i ((hRt i).2 ⟨hi,hik⟩);have hyA:bit A y≠true:=fun hy=>hzA (by
     rcases h with⟨rfl,rfl⟩|⟨rfl,rfl⟩
     ·exact hc.1 hy
     ·exact hc.2 hy)
    have hyS:bit S y=true:=by
     have ho:=hT.ok i hi;rcases h with⟨rfl,rfl⟩|⟨rfl,rfl⟩
     ·exact ho.2.2.1
     ·exact ho.2.2.2
    have hyB:bit (sdf S A) y=true:=by rw[Ad,hyS];simpa using hyA
    refine .inr ((ih.resolve_left hyA).step ⟨_,Ip (bJ.2 ⟨hi,?_⟩),h⟩ hzB);unfold inI inB;rcases h with⟨rfl,rfl⟩|⟨rfl,rfl⟩
    ·rw[hyB,hzB];rfl
    ·rw[hyB,hzB];rfl
 have oneB:One (lab (etl es (t.filter (inI es (sdf S A))))) (sdf S A):=(Jl a3r).2 fun x y rZ sL=>by
  have f:∀x,bit (sdf S A) x=true->Rch (etl es (t.filter (inI es (sdf S A)))) (sdf S A) b x:=fun x rZ=>by
   rw[Ad]at rZ;simp only[aF,Bool.not_eq_true']at rZ;exact(rB x (qG _ _ hbS rZ.1)).resolve_left (by rw[rZ.2];simp)
  exact((f x rZ).symm hbB).trans (f y sL)
 have lA:=nc hAM hA0 a3q oneA;have lB:=nc hBM yW a3r oneB;have e1:(etl es (t.filter (inI es A))).length=(t.filter (inI es A)).length:=aR _;have e2:(etl es (t.filter (inI es (sdf S A)))).length=(t.filter (inI es (sdf S A))).length:=aR _;have e3:=a0q.length_eq;have e4:=hT.len;have e5:=AZ qM;rw[bA,aJ]at e3;exact⟨qM,vU,yW,a0q,nf hAM hA0 (hT.asc.filter _) a3o (by omega) oneA,nf hBM yW (hT.asc.filter _) a3p (by omega) oneB,a0g.2.2⟩
theorem RP {l:List Int} (hn:l.Nodup):(Dc l).Pairwise (· < ·):=by
 obtain⟨h1,h2⟩:=Wc l;have h3:(Dc l).Nodup:=h1.nodup_iff.2 hn;exact(fP.2 fun i j hi hj sA=>by
  have a:=fP.1 h2 i j hi hj sA;have b:=fP.1 h3 i j hi hj sA;omega)
theorem BA {l m:List Int} (h1:l.Pairwise (· < ·)) (h2:m.Pairwise (· < ·)) (h:l.Perm m):l=m:=KV (h1.imp oY) (h2.imp oY) h
theorem RQ {a:List Int} (ha:∀i∈a,OkI es A i) {B:Nat} (hd:∀y,bit A y=true->bit B y=false):a.filter (inI es A)=a/\a.filter (inI es B)=[]:=by
 refine⟨iG.2 fun i hi=> ?_,List.filter_eq_nil_iff.2 fun i hi=> ?_⟩
 ·have:=ha i hi;unfold inI inB;rw[this.2.2.1,this.2.2.2];rfl
 ·have:=ha i hi;unfold inI inB;rw[hd _ this.2.2.1];simp
theorem d4X {B:Nat} {e:Nat×Nat} (h:btB A B e=true):∃u v,bit A u=true/\bit B v=true/\((e.1=u/\e.2=v)\/(e.2=u/\e.1=v)):=by
 unfold btB at h;simp only[Bool.or_eq_true,aF]at h;rcases h with h|h
 ·exact⟨_,_,h.1,h.2,.inl ⟨rfl,rfl⟩⟩
 ·exact⟨_,_,h.1,h.2,.inr ⟨rfl,rfl⟩⟩
theorem BB {a b:List Int} {k:Int} (hs:S<M64) (h0:S≠0) (qM:∀y,bit A y=true->bit S y=true) (vU:bit A (lst S)=true) (ha:TreeOk es A a) (hb:TreeOk es (sdf S A) b) (hk0:0<=k) (tH:k.toNat<es.length) (hk:btB A (sdf S A) (Ed es k)=true):
  TreeOk es S (Dc (k::(a++b)))/\y9 es S (Dc (k::(a++b))) k=A/\(Dc (k::(a++b))).filter (inI es A)=a/\(Dc (k::(a++b))).filter (inI es (sdf S A))=b/\k∈Dc (k::(a++b)):=by
 have hx:=Nh hs h0;have hAM:A<M64:=aY (sub_le qM) hs;have hBM:sdf S A<M64:=sdf_lt hs;have hA0:A≠0:=fun e=>by rw[e,Bz]at vU;cases vU
 obtain⟨u,v,hu,hv,huv⟩:=d4X hk;have yW:sdf S A≠0:=fun e=>by rw[e,Bz]at hv;cases hv
 have hBS:∀y,bit (sdf S A) y=true->bit S y=true/\bit A y=false:=fun y hy=>by
  rw[Ad]at hy;simpa using hy
 have hAB:∀y,bit A y=true->bit (sdf S A) y=false:=fun y hy=>by rw[Ad,hy];simp
 have hBA:∀y,bit (sdf S A) y=true->bit A y=false:=fun y hy=>(hBS y hy).2;have hkA:inI es A k=false:=by
  unfold inI inB;rcases huv with⟨h1,h2⟩|⟨h1,h2⟩
  ·rw[h2,hBA v hv];simp
  ·rw[h2,hBA v hv];simp
 have hkB:inI es (sdf S A) k=false:=by
  unfold inI inB;rcases huv with⟨h1,h2⟩|⟨h1,h2⟩
  ·rw[h1,hAB u hu];simp
  ·rw[h1,hAB u hu];simp
 obtain⟨a1,a2⟩:=RQ ha.ok hAB;obtain⟨b1,b2⟩:=RQ hb.ok hBA;have sJ:(k::(a++b)).Nodup:=by
  rw[dF,aV,eO];have f:∀i,i∈a->inI es A i=true:=fun i hi=>(bJ.1 (a1 ▸ hi)).2;have g:∀i,i∈b->inI es (sdf S A) i=true:=fun i hi=>(bJ.1 (b1 ▸ hi)).2;refine⟨fun h=> ?_,ha.nd,hb.nd,fun i hi j hj e=> ?_⟩
  ·rcases h with h|h
   ·rw[f k h]at hkA;cases hkA
   ·rw[g k h]at hkB;cases hkB
  ·subst e;have:i∈a.filter (inI es (sdf S A)):=bJ.2 ⟨hi,g i hj⟩;rw[a2]at this;cases this
 obtain⟨hp,_⟩:=Wc (k::(a++b));have pO:=RP sJ;generalize Dc (k::(a++b))=t at hp pO⊢;have qS:∀i,i∈t↔i=k\/i∈a\/i∈b:=fun i=>by rw[hp.mem_iff];simp
 have fA:t.filter (inI es A)=a:=by
  refine BA (pO.filter _) ha.asc ((hp.filter _).trans ?_);rw[fC (by rw[hkA];simp),cT,a1,b2,List.append_nil]
 have fB:t.filter (inI es (sdf S A))=b:=by
  refine BA (pO.filter _) hb.asc ((hp.filter _).trans ?_);rw[fC (by rw[hkB];simp),cT,a2,b1,List.nil_append]
 have pS:∀i∈t,OkI es S i:=fun i hi=>by
  rcases(qS i).1 hi with rfl|h|h
  ·refine⟨hk0,tH,?_⟩;rcases huv with⟨h1,h2⟩|⟨h1,h2⟩
   ·rw[h1,h2];exact⟨qM _ hu,(hBS _ hv).1⟩
   ·rw[h1,h2];exact⟨(hBS _ hv).1,qM _ hu⟩
  ·have:=ha.ok i h;exact⟨this.1,this.2.1,qM _ this.2.2.1,qM _ this.2.2.2⟩
  ·have:=hb.ok i h;exact⟨this.1,this.2.1,(hBS _ this.2.2.1).1,(hBS _ this.2.2.2).1⟩
 have pY:Inn S (etl es t):=fun e he=>by
  obtain⟨i,hi,rfl⟩:=Eu he;exact(pS i hi).2.2
 have wS:∀e∈etl es a,e∈etl es t:=fun e he=>by
  obtain⟨i,hi,rfl⟩:=Eu he;exact Ip ((qS i).2 (.inr (.inl hi)))
 have yH:∀e∈etl es b,e∈etl es t:=fun e he=>by
  obtain⟨i,hi,rfl⟩:=Eu he;exact Ip ((qS i).2 (.inr (.inr hi)))
 have zV:=(Jl ha.inn).1 (ha.one hAM hA0);have a3s:=(Jl hb.inn).1 (hb.one hBM yW);have hr:∀y,bit S y=true->Rch (etl es t) S (lst S) y:=fun y hy=>by
  by_cases hyA:bit A y=true
  ·exact(zV _ _ vU hyA).mono wS qM
  ·have hyB:bit (sdf S A) y=true:=by rw[Ad,hy];simpa using hyA
   have r1:=(zV _ _ vU hu).mono wS qM;have r2:Rch (etl es t) S (lst S) v:=r1.step ⟨_,Ip ((qS k).2 (.inl rfl)),huv⟩ (hBS v hv).1;exact r2.trans ((a3s _ _ hv hyB).mono yH fun z hz=>(hBS z hz).1)
 have sB:One (lab (etl es t)) S:=(Jl pY).2 fun x y rZ sL=>((hr x rZ).symm hx).trans (hr y sL);have pR:t.length+1=card S:=by
  have:=hp.length_eq;rw[bA,aJ]at this;have h1:=ha.len;have h2:=hb.len;have h3:=AZ qM;omega
 refine⟨nf hs h0 pO pS pR sB,Ax fun y=> ?_,fA,fB,(qS k).2 (.inl rfl)⟩;rw[Bool.eq_iff_iff,RO hs h0 pS];have hnk:∀i,i∈(t.filter fun i=>decide (i≠k))↔i∈a\/i∈b:=fun i=>by
  rw[bJ,qS,oDi];refine⟨fun h=>h.1.resolve_left h.2,fun h=>⟨.inr h,fun e=> ?_⟩⟩;subst e;rw[dF,aV]at sJ;exact sJ.1 h
 constructor
 ·intro h;induction h with
  |base=>exact vU
  |step _ h' _ ih=>
   obtain⟨e,he,h⟩:=h';obtain⟨i,hi,rfl⟩:=Eu he;rcases(hnk i).1 hi with hi|hi
   ·have:=(ha.ok i hi).2.2;rcases h with⟨_,rfl⟩|⟨_,rfl⟩
    ·exact this.2
    ·exact this.1
   ·have:=(hb.ok i hi).2.2;rcases h with⟨rfl,_⟩|⟨rfl,_⟩
    ·rw[hBA _ this.1]at ih;cases ih
    ·rw[hBA _ this.2]at ih;cases ih
 ·intro hy;refine(zV _ _ vU hy).mono (fun e he=> ?_) qM;obtain⟨i,hi,rfl⟩:=Eu he;exact Ip ((hnk i).2 (.inl hi))
end Go.GS

/- Lemmas of the proof. -/
import Derived.Test.YtmannekkmdockaaGreatDoorGsU
open Bool renaming true_and->jS
open Int renaming le_of_lt->pH
open List renaming filter_append_perm->lU,filter_congr->gG,filter_filter->iJ,filter_map->oG,length_flatMap->iE,mem_flatMap->fQ,nodup_cons->eZ,nodup_range->iD,pairwise_cons->fG,range->eP,take_length->kZ
open List.Pairwise renaming filter->nG,imp_of_mem->jK
open Nat renaming le_total->iC,max_eq_left->gI,max_eq_right->fU,min_eq_right->gZ
open Prod renaming ext->nH,mk->oZ
open Prod.mk renaming injEq->jT
namespace Go.GS
def lst (set:Nat):Nat:=(els set).headD 64
def Ff (set:Nat) (f:Nat->Nat):List Nat:=(eP 64).filter fun x=>bit set x&&decide (f x=x)&&decide (x≠f (lst set))
def KK (E:List (Nat×Nat)) (set:Nat) (f:Nat->Nat):Int:=Dg E f (Ff set f).reverse
theorem PD (set:Nat) (f:Nat->Nat):(Ff set f).Nodup:=iD.filter _
theorem PE (set:Nat) (f:Nat->Nat):(Ff set f).reverse.Nodup:=by unfold List.Nodup;rw[List.pairwise_reverse];exact(PD set f).imp fun h hh=>h hh.symm
theorem d4J {set x:Nat} {f:Nat->Nat} (hs:set<M64):x∈Ff set f↔bit set x=true/\f x=x/\x≠f (lst set):=by
 unfold Ff;rw[bT,bR];simp only[bA,decide_eq_true_eq];exact⟨fun h=>⟨h.2.1.1,h.2.1.2,h.2.2⟩,fun h=>⟨Bz hs h.1,⟨h.1,h.2.1⟩,h.2.2⟩⟩
theorem PG (E:List (Nat×Nat)) (set:Nat) (f:Nat->Nat):0<=KK E set f:=Nn E f _ (PE set f)
theorem ng {set x:Nat} (hs:set<M64) (hx:bit set x=true):lst set<=x:=by
 have h0:set≠0:=fun h=>by rw[h]at hx;simp[bit]at hx
 obtain⟨y,r,he,hy,_,hl⟩:=Jm hs h0;unfold lst;rw[he];show y<=x;rcases dV x y with h|h
 ·rw[hl x h]at hx;cases hx
 ·exact h
theorem c0f {f:Nat->Nat} (h:Lb f) {e:Nat×Nat} (qC:f e.1≠f e.2) (y:Nat):Bg f e y=y↔f y=y/\y≠max (f e.1) (f e.2):=by
 unfold Bg;have ha:=h.idm e.1;have hb:=h.idm e.2;generalize f e.1=a at*;generalize f e.2=b at*;constructor
 ·intro hj;split at hj
  ·rename_i zD;exfalso;rcases iC a b with hh|hh
   ·rw[bY hh]at hj;rw[fU hh,<-hj,ha]at zD;exact qC zD
   ·rw[gZ hh]at hj;rw[gI hh,<-hj,hb]at zD;exact qC zD.symm
  ·rename_i zD;exact⟨hj,fun e2=>zD (by rw[hj,e2])⟩
 ·rintro⟨h3,h4⟩;rw[if_neg (by rw[h3];exact h4)];exact h3
section
variable {set:Nat} {f:Nat->Nat} {e:Nat×Nat} {E:List (Nat×Nat)}
theorem d4K (h:Lb f) (hs:set<M64) (h1:bit set (f e.1)=true) (h2:bit set (f e.2)=true) (hl:bit set (lst set)=true) (qC:f e.1≠f e.2):max (f e.1) (f e.2)∈Ff set f:=by
 rw[d4J hs];have ha:=h.idm e.1;have hb:=h.idm e.2;have l0:=h.le (lst set);have l1:=ng hs h1;have l2:=ng hs h2;generalize f e.1=a at*;generalize f e.2=b at*;rcases iC a b with hh|hh
 ·rw[fU hh];exact⟨h2,hb,aA⟩
 ·rw[gI hh];exact⟨h1,ha,aA⟩
theorem c9n (h:Lb f) (hs:set<M64) (h1:bit set (f e.1)=true) (h2:bit set (f e.2)=true) (qC:f e.1≠f e.2):Ff set (Bg f e)=Ef (Ff set f) (max (f e.1) (f e.2)):=by
 unfold Ff Ef;rw[iJ];refine gG fun x _=> ?_;have hm:Bg f e (lst set)=f (lst set):=by
  unfold Bg;rw[if_neg];intro hh;have l0:=h.le (lst set);have l1:=ng hs h1;have l2:=ng hs h2;omega
 rw[hm];have:=c0f h qC x;rw[bC];simp only[bA,decide_eq_true_eq,bne_iff_ne,this];exact⟨fun h=>⟨h.1.2.2,⟨h.1.1,h.1.2.1⟩,h.2⟩,fun h=>⟨⟨h.2.1.1,h.2.1.2,h.1⟩,h.2.2⟩⟩
theorem d8e (h:Lb f) (hs:set<M64) (h1:bit set (f e.1)=true) (h2:bit set (f e.2)=true) (hl:bit set (lst set)=true) (qC:f e.1≠f e.2):KK (e::E) set f=KK E set f+KK E set (Bg f e):=by
 have he:Ends f e (min (f e.1) (f e.2)) (max (f e.1) (f e.2)):=by
  refine⟨aA,?_⟩;rcases iC (f e.1) (f e.2)with hh|hh
  ·rw[fU hh,bY hh];exact .inl ⟨rfl,rfl⟩
  ·rw[gI hh,gZ hh];exact .inr ⟨rfl,rfl⟩
 have:=Vr (E:=E) he (List.mem_reverse.2 (d4K h hs h1 h2 hl qC)) (PE set f);unfold KK;rw[this,d8b,<-c9n h hs h1 h2 qC];rfl
theorem d4L (h:f e.1=f e.2):KK (e::E) set f=KK E set f:=AL h
theorem c4H (E:List (Nat×Nat)) (set:Nat) (f:Nat->Nat):KK (E.filter fun e=>f e.1 !=f e.2) set f=KK E set f:=c4F ..
end
theorem d4M {set:Nat} {f:Nat->Nat} (h:Lb f) (hs:set<M64) (h0:set≠0) (qP:∀x,bit set x=true->bit set (f x)=true):cnt f set=(Ff set f).length+1:=by
 obtain⟨x,r,he,hx,_,_⟩:=Jm hs h0;have hl:lst set=x:=by unfold lst;rw[he];rfl
 have hr:=qP x hx;have:=ND (p:=fun x=>bit set x&&decide (f x=x)) (q:=fun x=>bit set x&&decide (f x=x)&&decide (x≠f (lst set))) (x:=f x) (by simp[hr,h.idm]) (fun y=>by rw[hl]) (eP 64) (bR.2 (Bz hs hr)) iD;unfold cnt Ff;omega
theorem PI {set:Nat} {f:Nat->Nat} (h:Lb f) (hs:set<M64) (h0:set≠0) (qP:∀x,bit set x=true->bit set (f x)=true):KK [] set f=if cnt f set=1 then 1 else 0:=by
 unfold KK;rw[AO];have:=d4M h hs h0 qP;by_cases hc:Ff set f=[]
 ·rw[if_pos (by rw[hc];rfl),if_pos (by rw[this,hc];rfl)]
 ·rw[if_neg (by simpa using hc),if_neg];intro hh;exact hc (aI aA)
def inE (es:List (Nat×Nat)) (set j:Nat):List (Nat×Nat):=(es.drop j).filter (inB set)
theorem d4N {es:List (Nat×Nat)} {set j:Nat} {e:Nat×Nat} (h:es[j]? =some e) (hb:inB set e=true):inE es set j=e::inE es set (j+1):=by
 obtain⟨hj,rfl⟩:=aH.1 h;unfold inE;rw[cV hj,dY hb]
theorem d8f {es:List (Nat×Nat)} {set j:Nat} {e:Nat×Nat} (h:es[j]? =some e) (hb:inB set e=false):inE es set j=inE es set (j+1):=by
 obtain⟨hj,rfl⟩:=aH.1 h;unfold inE;rw[cV hj,dD (by rw[hb];simp)]
theorem PK {es:List (Nat×Nat)} {set j:Nat} (h:es.length<=j):inE es set j=[]:=by
 unfold inE;rw[eD h];rfl
def trN (es:List (Nat×Nat)) (set:Nat) (t:List Int) (j:Nat):Int:=KK (inE es set j) set (lab (etl es t))
def trH (es:List (Nat×Nat)) (set:Nat) (t:List Int) (j:Nat):Int:=if lab (etl es t) (Ed es (j:Nat)).1=lab (etl es t) (Ed es (j:Nat)).2 then 0 else trN es set (t++[(j:Int)]) (j+1)
section
variable {es:List (Nat×Nat)} {set j:Nat} {t:List Int}
theorem PL:0<=trN es set t j:=PG _ _ _
theorem d8g:0<=trH es set t j:=by unfold trH;split;exact Int.le_refl 0;exact PL
theorem PM {e:Nat×Nat} (h:es[j]? =some e) (hb:inB set e=false):trN es set t j=trN es set t (j+1):=by
 unfold trN;rw[d8f h hb]
theorem Qa (hs:set<M64) (h0:set≠0):bit set (lst set)=true:=by
 obtain⟨x,r,he,hx,_,_⟩:=Jm hs h0;unfold lst;rw[he];exact hx
theorem PN (hs:set<M64) (h0:set≠0) (qP:Inn set (etl es t)) (hj:j<es.length) (hb:inB set (Ed es (j:Nat))=true):trN es set t j=trN es set t (j+1)+trH es set t j:=by
 have he:=Fa hj;have rJ:=hb;unfold inB at rJ;simp only[bA]at rJ;unfold trH;unfold trN;rw[d4N he hb];by_cases hl:lab (etl es t) (Ed es (j:Nat)).1=lab (etl es t) (Ed es (j:Nat)).2
 ·rw[if_pos hl,d4L hl];omega
 ·rw[if_neg hl,d8e (Lb.lab _) hs (Iq qP _ rJ.1) (Iq qP _ rJ.2) (Qa hs h0) hl,Py,Sm]
theorem Beg.add {t:List Int} (h:Beg es set t) (pX:∀i∈t,i<(j:Int)) (hj:j<es.length) (hb:inB set (Ed es (j:Nat))=true) (hl:lab (etl es t) (Ed es (j:Nat)).1≠lab (etl es t) (Ed es (j:Nat)).2):Beg es set (t++[(j:Int)]):=by
 unfold inB at hb;simp only[bA]at hb;refine⟨mc h.asc pX,?_,?_⟩
 ·intro i hi;rw[aQ,aL]at hi;rcases hi with hi|rfl
  ·exact h.ok i hi
  ·exact⟨aA,aA,hb⟩
 ·rw[Py,aM];exact h.acy.snoc hl
theorem ak (hs:set<M64) (h0:set≠0):∀(k j:Nat) (t:List Int),es.length-j=k->Beg es set t->(∀i∈t,i<(j:Int))->Spn es set t j->0<trN es set t j
 |k,j,t,hk,hb,pX,h=>by
  by_cases hj:j<es.length
  ·cases hi:inB set (Ed es (j:Nat))with
   |false=>
    rw[PM (Fa hj) hi];exact ak hs h0 (es.length-(j+1)) (j+1) t rfl hb (fun i hi=>by have:=pX i hi;omega) (h.skip (Fa hj) hi)
   |true=>
    rw[PN hs h0 hb.inn hj hi];have qB:=hi;unfold inB at qB;simp only[bA]at qB;by_cases hl:lab (etl es t) (Ed es (j:Nat)).1=lab (etl es t) (Ed es (j:Nat)).2
    ·have:=ak hs h0 (es.length-(j+1)) (j+1) t rfl hb (fun i hi=>by have:=pX i hi;omega) (h.cyc (Fa hj) ((Px hb.inn qB.1 qB.2).1 hl));have h2:0<=trH es set t j:=d8g;omega
    ·have:=ak hs h0 (es.length-(j+1)) (j+1) (t++[(j:Int)]) rfl (hb.add pX hj hi hl) (fun i hi=>by
      rcases aQ.1 hi with hi|hi
      ·have:=pX i hi;omega
      ·rw[aL]at hi;omega) (h.take hj)
     have h2:0<=trN es set t (j+1):=PL;have h3:trH es set t j=trN es set (t++[(j:Int)]) (j+1):=if_neg hl;omega
  ·have hl:=h.end hs h0 aA hb.inn hb.acy;unfold trN;rw[PK aA,PI (Lb.lab _) hs h0 (Iq hb.inn)];have h3:=Zu hs hb.inn (etl es t).length (aS _);rw[kZ,(ma _ (aS _)).2 hb.acy]at h3;rw[if_pos aA];decide
 termination_by k=>k
 decreasing_by all_goals omega
end
variable {es:List (Nat×Nat)} {S A n:Nat}
theorem d8h {L:List (Nat×Nat)} (hs:S<M64) (h:Inn S L):∀e∈L,e.1<64/\e.2<64:=fun e he=>⟨Bz hs (h e he).1,Bz hs (h e he).2⟩
theorem Np {L:List (Nat×Nat)} (h:Inn S L):One (lab L) S↔∀x y,bit S x=true->bit S y=true->Rch L S x y:=
 ⟨fun h1 x y hx hy=>(Px h hx hy).1 (h1 x y hx hy),fun h1 x y hx hy=>(Px h hx hy).2 (h1 x y hx hy)⟩
theorem nh {L:List (Nat×Nat)} (hs:S<M64) (h0:S≠0) (h:Inn S L) (h1:One (lab L) S):card S<=L.length+1:=by
 have h3:=Zu hs h L.length (aS _);rw[kZ,(Zv (Lb.lab L) hs h0 (Iq h)).2 h1]at h3;have:=zl L L.length;omega
theorem Rch.mono {L M:List (Nat×Nat)} {T x y:Nat} (hL:∀e∈L,e∈M) (hT:∀z,bit S z=true->bit T z=true) (h:Rch L S x y):Rch M T x y:=by
 induction h with
 |base=>exact .base
 |step _ ha hz ih=>
  obtain⟨e,he,h⟩:=ha;exact ih.step ⟨e,hL e he,h⟩ (hT _ hz)
theorem PP (hA:∀y,bit A y=true->bit S y=true):card S=card A+card (sdf S A):=by
 have h1:els A=(els S).filter (bit A):=by
  unfold els;rw[iJ];refine gG fun x _=> ?_;cases h:bit A x with
  |false=>rfl
  |true=>rw[hA x h];rfl
 have h2:els (sdf S A)=(els S).filter fun x=> !bit A x:=by
  unfold els;rw[iJ];refine gG fun x _=> ?_;rw[z6,Bool.and_comm]
 have:=(lU (bit A) (els S)).length_eq;unfold card;rw[h1,h2,<-this,aM]
def inI (es:List (Nat×Nat)) (A:Nat) (i:Int):Bool:=inB A (Ed es i)
theorem d4O {t:List Int} {k:Int} (hn:t.Nodup) (hk:k∈t):t.Perm (k::t.filter fun i=>decide (i≠k)):=by
 have h:=List.perm_cons_erase hk;rw[hn.erase_eq_filter k]at h;have e:t.filter (fun x=>x !=k)=t.filter fun i=>decide (i≠k):=gG fun x _=>by
  by_cases h:x=k<;>simp[h]
 rw[e]at h;exact h
theorem TreeOk.nd {t:List Int} (h:TreeOk es S t):t.Nodup:=h.asc.imp fun h=>Int.ne_of_lt h
theorem TreeOk.one {t:List Int} (hs:S<M64) (h0:S≠0) (h:TreeOk es S t):One (lab (etl es t)) S:=by
 have hl:(etl es t).length=t.length:=aX _;refine(zm hs h0 h.inn (by rw[hl];exact h.len)).1 ?_;rw[hl];exact h.acy
theorem AS {t:List Int} (hs:S<M64) (h0:S≠0) (ha:t.Pairwise (· < ·)) (hok:∀i∈t,OkI es S i) (hl:t.length+1=card S) (h1:One (lab (etl es t)) S):TreeOk es S t:=by
 have hl':(etl es t).length=t.length:=aX _;have qP:Inn S (etl es t):=fun e he=>by
  unfold etl at he;obtain⟨i,hi,rfl⟩:=aY.1 he;exact(hok i hi).2.2
 have:=(zm hs h0 qP (by rw[hl'];exact hl)).2 h1;rw[hl']at this;exact⟨ha,hok,this,hl⟩
theorem Qb {t:List Int} {i:Int} (h:i∈t):Ed es i∈etl es t:=aY.2 ⟨i,h,rfl⟩
theorem Hm {t:List Int} {e:Nat×Nat} (h:e∈etl es t):∃i∈t,Ed es i=e:=aY.1 h
theorem PQ {t:List Int} {k:Int} (hs:S<M64) (h0:S≠0) (hok:∀i∈t,OkI es S i) (y:Nat):bit (p8 es S t k) y=true↔Rch (etl es (t.filter fun i=>decide (i≠k))) S (lst S) y:=by
 have qP:Inn S (etl es (t.filter fun i=>decide (i≠k))):=fun e he=>by
  obtain⟨i,hi,rfl⟩:=Hm he;exact(hok i (bT.1 hi).1).2.2
 have hx:=Qa hs h0;rw[<-Vo hs qP hx];exact(Ku (d8h hs qP) (Bz hs hx)).2 y
structure Cut (es:List (Nat×Nat)) (S A:Nat) (t:List Int) (k:Int):Prop where
 sub:∀y,bit A y=true->bit S y=true
 lst:bit A (lst S)=true
 b0:sdf S A≠0
 perm:t.Perm (k::(t.filter (inI es A)++t.filter (inI es (sdf S A))))
 ta:TreeOk es A (t.filter (inI es A))
 tb:TreeOk es (sdf S A) (t.filter (inI es (sdf S A)))
 bt:btB A (sdf S A) (Ed es k)=true
theorem ni {t:List Int} {k:Int} (hs:S<M64) (h0:S≠0) (hT:TreeOk es S t) (hk:k∈t) (hA:p8 es S t k=A):Cut es S A t k:=by
 have hx:=Qa hs h0;have qT:∀y,bit A y=true->bit S y=true:=by subst hA;exact Zy hs h0 hT k
 have sZ:∀y,bit A y=true↔Rch (etl es (t.filter fun i=>decide (i≠k))) S (lst S) y:=fun y=>by subst hA;exact PQ hs h0 hT.ok y
 clear hA;generalize hR:(t.filter fun i=>decide (i≠k))=R at sZ;have hRt:∀i,i∈R↔i∈t/\i≠k:=fun i=>by rw[<-hR,bT];simp
 have hpR:t.Perm (k::R):=by rw[<-hR];exact d4O hT.nd hk
 have xE:bit A (lst S)=true:=(sZ _).2 .base;have hAM:A<M64:=aZ (sub_le qT) hs;have hBM:sdf S A<M64:=sdf_lt hs;have uH:∀i∈R,bit A (Ed es i).1=true↔bit A (Ed es i).2=true:=fun i hi=>by
  have ho:=hT.ok i ((hRt i).1 hi).1;rw[sZ,sZ];exact⟨fun h=>h.step ⟨_,Qb hi,.inl ⟨rfl,rfl⟩⟩ ho.2.2.2,fun h=>h.step ⟨_,Qb hi,.inr ⟨rfl,rfl⟩⟩ ho.2.2.1⟩
 have rC:=(Np hT.inn).1 (hT.one hs h0);have hko:=hT.ok k hk;have hcr:¬(bit A (Ed es k).1=true↔bit A (Ed es k).2=true):=fun hc=>by
  have rY:∀i∈t,bit A (Ed es i).1=true↔bit A (Ed es i).2=true:=fun i hi=>by
   by_cases h:i=k
   ·subst h;exact hc
   ·exact uH i ((hRt i).2 ⟨hi,h⟩)
  have hSA:∀y,Rch (etl es t) S (lst S) y->bit A y=true:=fun y hy=>by
   induction hy with
   |base=>exact xE
   |step _ ha _ ih=>
    obtain⟨e,he,h⟩:=ha;obtain⟨i,hi,rfl⟩:=Hm he;rcases h with⟨rfl,rfl⟩|⟨rfl,rfl⟩
    ·exact(rY i hi).1 ih
    ·exact(rY i hi).2 ih
  have qP:Inn S (etl es R):=fun e he=>by
   obtain⟨i,hi,rfl⟩:=Hm he;exact(hT.ok i ((hRt i).1 hi).1).2.2
  have tU:One (lab (etl es R)) S:=(Np qP).2 fun x y sH tP=>by
   have r1:=(sZ x).1 (hSA x (rC _ _ hx sH));have r2:=(sZ y).1 (hSA y (rC _ _ hx tP));exact(r1.symm hx).trans r2
  have h1:=nh hs h0 qP tU;have h2:(etl es R).length=R.length:=aX _;have h3:=hpR.length_eq;have h4:=hT.len;rw[aO]at h3;omega
 have a0v:inI es A k=false/\inI es (sdf S A) k=false/\btB A (sdf S A) (Ed es k)=true:=by
  unfold inI inB btB;simp only[z6,hko.2.2.1,hko.2.2.2,jS];cases h1:bit A (Ed es k).1<;>cases h2:bit A (Ed es k).2<;>simp_all
 have hfA:t.filter (inI es A)=R.filter (inI es A):=by
  rw[<-hR,iJ];refine gG fun i _=> ?_;by_cases h:i=k
  ·subst h;rw[a0v.1];rfl
  ·simp[h]
 have hfB:t.filter (inI es (sdf S A))=R.filter fun i=> !inI es A i:=by
  rw[<-hR,iJ];refine gG fun i hi=> ?_;by_cases h:i=k
  ·subst h;rw[a0v.2.1];simp
  ·have ho:=hT.ok i hi;have hc:=uH i ((hRt i).2 ⟨hi,h⟩);unfold inI inB;simp only[z6,ho.2.2.1,ho.2.2.2,jS];cases h1:bit A (Ed es i).1<;>cases h2:bit A (Ed es i).2<;>simp_all
 have a1a:t.Perm (k::(t.filter (inI es A)++t.filter (inI es (sdf S A)))):=by
  rw[hfA,hfB];exact hpR.trans ((lU _ R).symm.cons k)
 have hB0:sdf S A≠0:=fun e=>by
  have:=a0v.2.2;rw[e]at this;unfold btB at this;simp[Dc]at this
 have hA0:A≠0:=fun e=>by rw[e,Dc]at xE;cases xE
 have a2y:∀i∈t.filter (inI es A),OkI es A i:=fun i hi=>by
  obtain⟨h1,h2⟩:=bT.1 hi;have ho:=hT.ok i h1;unfold inI inB at h2;rw[bA]at h2;exact⟨ho.1,ho.2.1,h2⟩
 have a2z:∀i∈t.filter (inI es (sdf S A)),OkI es (sdf S A) i:=fun i hi=>by
  obtain⟨h1,h2⟩:=bT.1 hi;have ho:=hT.ok i h1;unfold inI inB at h2;rw[bA]at h2;exact⟨ho.1,ho.2.1,h2⟩
 have a3a:Inn A (etl es (t.filter (inI es A))):=fun e he=>by
  obtain⟨i,hi,rfl⟩:=Hm he;exact(a2y i hi).2.2
 have a3b:Inn (sdf S A) (etl es (t.filter (inI es (sdf S A)))):=fun e he=>by
  obtain⟨i,hi,rfl⟩:=Hm he;exact(a2z i hi).2.2
 have rA:∀y,bit A y=true->Rch (etl es (t.filter (inI es A))) A (lst S) y:=fun y hy=>by
  have hr:=(sZ y).1 hy;clear hy;induction hr with
  |base=>exact .base
  | @step y z h1 ha hz ih=>
   obtain⟨e,he,h⟩:=ha;obtain⟨i,hi,rfl⟩:=Hm he;have hy:=(sZ y).2 h1;have hc:=uH i hi;have hm:inI es A i=true:=by
    unfold inI inB;rcases h with⟨rfl,rfl⟩|⟨rfl,rfl⟩
    ·rw[hy,hc.1 hy];rfl
    ·rw[hy,hc.2 hy];rfl
   have sE:bit A z=true:=by
    rcases h with⟨rfl,rfl⟩|⟨rfl,rfl⟩
    ·exact hc.1 hy
    ·exact hc.2 hy
   exact ih.step ⟨_,Qb (bT.2 ⟨((hRt i).1 hi).1,hm⟩),h⟩ sE
 have oneA:One (lab (etl es (t.filter (inI es A)))) A:=(Np a3a).2 fun x y sH tP=>((rA x sH).symm xE).trans (rA y tP);obtain⟨b,hbS,hbA,hbk⟩:∃b,bit S b=true/\bit A b=false/\(∀z,(b≠z->(Ed es k).1=z\/(Ed es k).2=z->bit A z=true)):=by
  cases h1:bit A (Ed es k).1 with
  |false=>
   refine⟨_,hko.2.2.1,h1,fun z hz h=> ?_⟩;rcases h with h|h
   ·exact absurd h hz
   ·subst h;cases h2:bit A (Ed es k).2 with
    |true=>rfl
    |false=>exact absurd ⟨fun h=>by(rw[h1]at h;cases h),fun h=>by(rw[h2]at h;cases h)⟩ hcr
  |true=>
   cases h2:bit A (Ed es k).2 with
   |true=>exact absurd ⟨fun _=>h2,fun _=>h1⟩ hcr
   |false=>
    refine⟨_,hko.2.2.2,h2,fun z hz h=> ?_⟩;rcases h with h|h
    ·subst h;exact h1
    ·exact absurd h hz
 have hbB:bit (sdf S A) b=true:=by rw[z6,hbS,hbA];rfl
 have rB:∀y,Rch (etl es t) S b y->bit A y=true\/Rch (etl es (t.filter (inI es (sdf S A)))) (sdf S A) b y:=fun y hr=>by
  induction hr with
  |base=>exact .inr .base
  | @step y z h1 ha hz ih=>
   by_cases hzA:bit A z=true
   ·exact .inl hzA
   have hzB:bit (sdf S A) z=true:=by rw[z6,hz];simpa using hzA
   obtain⟨e,he,h⟩:=ha;obtain⟨i,hi,rfl⟩:=Hm he;by_cases vZ:i=k
   ·subst vZ;by_cases hbz:b=z
    ·subst hbz;exact .inr .base
    ·exact absurd (hbk z hbz (by rcases h with⟨_,h⟩|⟨_,h⟩;exact .inr h;exact .inl h)) hzA
   ·have hc:=uH i ((hRt i).2 ⟨hi,vZ⟩);have hyA:bit A y≠true:=fun hy=>hzA (by
     rcases h with⟨rfl,rfl⟩|⟨rfl,rfl⟩
     ·exact hc.1 hy
     ·exact hc.2 hy)
    have hyS:bit S y=true:=by
     have ho:=hT.ok i hi;rcases h with⟨rfl,rfl⟩|⟨rfl,rfl⟩
     ·exact ho.2.2.1
     ·exact ho.2.2.2
    have hyB:bit (sdf S A) y=true:=by rw[z6,hyS];simpa using hyA
    refine .inr ((ih.resolve_left hyA).step ⟨_,Qb (bT.2 ⟨hi,?_⟩),h⟩ hzB);unfold inI inB;rcases h with⟨rfl,rfl⟩|⟨rfl,rfl⟩
    ·rw[hyB,hzB];rfl
    ·rw[hyB,hzB];rfl
 have oneB:One (lab (etl es (t.filter (inI es (sdf S A))))) (sdf S A):=(Np a3b).2 fun x y sH tP=>by
  have f:∀x,bit (sdf S A) x=true->Rch (etl es (t.filter (inI es (sdf S A)))) (sdf S A) b x:=fun x sH=>by
   rw[z6]at sH;simp only[bA,Bool.not_eq_true']at sH;exact(rB x (rC _ _ hbS sH.1)).resolve_left (by rw[sH.2];simp)
  exact((f x sH).symm hbB).trans (f y tP)
 have lA:=nh hAM hA0 a3a oneA;have lB:=nh hBM hB0 a3b oneB;have e1:(etl es (t.filter (inI es A))).length=(t.filter (inI es A)).length:=aX _;have e2:(etl es (t.filter (inI es (sdf S A)))).length=(t.filter (inI es (sdf S A))).length:=aX _;have e3:=a1a.length_eq;have e4:=hT.len;have e5:=PP qT;rw[aO,aM]at e3;exact⟨qT,xE,hB0,a1a,AS hAM hA0 (hT.asc.filter _) a2y aA oneA,AS hBM hB0 (hT.asc.filter _) a2z aA oneB,a0v.2.2⟩
theorem d8i {l:List Int} (hn:l.Nodup):(Hl l).Pairwise (· < ·):=by
 obtain⟨h1,h2⟩:=OA l;have h3:(Hl l).Nodup:=h1.nodup_iff.2 hn;exact(cU.2 fun i j hi hj tG=>by
  have a:=cU.1 h2 i j hi hj tG;have b:=cU.1 h3 i j hi hj tG;omega)
theorem AT {l m:List Int} (h1:l.Pairwise (· < ·)) (h2:m.Pairwise (· < ·)) (h:l.Perm m):l=m:=c2V (h1.imp pH) (h2.imp pH) h
theorem PR {a:List Int} (ha:∀i∈a,OkI es A i) {B:Nat} (hd:∀y,bit A y=true->bit B y=false):a.filter (inI es A)=a/\a.filter (inI es B)=[]:=by
 refine⟨List.filter_eq_self.2 fun i hi=> ?_,List.filter_eq_nil_iff.2 fun i hi=> ?_⟩
 ·have:=ha i hi;unfold inI inB;rw[this.2.2.1,this.2.2.2];rfl
 ·have:=ha i hi;unfold inI inB;rw[hd _ this.2.2.1];simp
theorem d4P {B:Nat} {e:Nat×Nat} (h:btB A B e=true):∃u v,bit A u=true/\bit B v=true/\((e.1=u/\e.2=v)\/(e.2=u/\e.1=v)):=by
 unfold btB at h;simp only[dB,bA]at h;rcases h with h|h
 ·exact⟨_,_,h.1,h.2,.inl ⟨rfl,rfl⟩⟩
 ·exact⟨_,_,h.1,h.2,.inr ⟨rfl,rfl⟩⟩
theorem AU {a b:List Int} {k:Int} (hs:S<M64) (h0:S≠0) (qT:∀y,bit A y=true->bit S y=true) (xE:bit A (lst S)=true) (ha:TreeOk es A a) (hb:TreeOk es (sdf S A) b) (zK:0<=k) (vM:k.toNat<es.length) (hk:btB A (sdf S A) (Ed es k)=true):
  TreeOk es S (Hl (k::(a++b)))/\p8 es S (Hl (k::(a++b))) k=A/\(Hl (k::(a++b))).filter (inI es A)=a/\(Hl (k::(a++b))).filter (inI es (sdf S A))=b/\k∈Hl (k::(a++b)):=by
 have hx:=Qa hs h0;have hAM:A<M64:=aZ (sub_le qT) hs;have hBM:sdf S A<M64:=sdf_lt hs;have hA0:A≠0:=fun e=>by rw[e,Dc]at xE;cases xE
 obtain⟨u,v,hu,hv,huv⟩:=d4P hk;have hB0:sdf S A≠0:=fun e=>by rw[e,Dc]at hv;cases hv
 have hBS:∀y,bit (sdf S A) y=true->bit S y=true/\bit A y=false:=fun y hy=>by
  rw[z6]at hy;simpa using hy
 have hAB:∀y,bit A y=true->bit (sdf S A) y=false:=fun y hy=>by rw[z6,hy];simp
 have hBA:∀y,bit (sdf S A) y=true->bit A y=false:=fun y hy=>(hBS y hy).2;have hkA:inI es A k=false:=by
  unfold inI inB;rcases huv with⟨h1,h2⟩|⟨h1,h2⟩
  ·rw[h2,hBA v hv];simp
  ·rw[h2,hBA v hv];simp
 have hkB:inI es (sdf S A) k=false:=by
  unfold inI inB;rcases huv with⟨h1,h2⟩|⟨h1,h2⟩
  ·rw[h1,hAB u hu];simp
  ·rw[h1,hAB u hu];simp
 obtain⟨a1,a2⟩:=PR ha.ok hAB;obtain⟨b1,b2⟩:=PR hb.ok hBA;have tM:(k::(a++b)).Nodup:=by
  rw[eZ,aQ,cQ];have f:∀i,i∈a->inI es A i=true:=fun i hi=>(bT.1 (a1 ▸ hi)).2;have g:∀i,i∈b->inI es (sdf S A) i=true:=fun i hi=>(bT.1 (b1 ▸ hi)).2;refine⟨fun h=> ?_,ha.nd,hb.nd,fun i hi j hj e=> ?_⟩
  ·rcases h with h|h
   ·rw[f k h]at hkA;cases hkA
   ·rw[g k h]at hkB;cases hkB
  ·subst e;have:i∈a.filter (inI es (sdf S A)):=bT.2 ⟨hi,g i hj⟩;rw[a2]at this;cases this
 obtain⟨hp,_⟩:=OA (k::(a++b));have pX:=d8i tM;generalize Hl (k::(a++b))=t at hp pX⊢;have sB:∀i,i∈t↔i=k\/i∈a\/i∈b:=fun i=>by rw[hp.mem_iff];simp
 have fA:t.filter (inI es A)=a:=by
  refine AT (pX.filter _) ha.asc ((hp.filter _).trans ?_);rw[dD (by rw[hkA];simp),dP,a1,b2,bQ]
 have fB:t.filter (inI es (sdf S A))=b:=by
  refine AT (pX.filter _) hb.asc ((hp.filter _).trans ?_);rw[dD (by rw[hkB];simp),dP,a2,b1,cB]
 have hok:∀i∈t,OkI es S i:=fun i hi=>by
  rcases(sB i).1 hi with rfl|h|h
  ·refine⟨zK,vM,?_⟩;rcases huv with⟨h1,h2⟩|⟨h1,h2⟩
   ·rw[h1,h2];exact⟨qT _ hu,(hBS _ hv).1⟩
   ·rw[h1,h2];exact⟨(hBS _ hv).1,qT _ hu⟩
  ·have:=ha.ok i h;exact⟨this.1,this.2.1,qT _ this.2.2.1,qT _ this.2.2.2⟩
  ·have:=hb.ok i h;exact⟨this.1,this.2.1,(hBS _ this.2.2.1).1,(hBS _ this.2.2.2).1⟩
 have qP:Inn S (etl es t):=fun e he=>by
  obtain⟨i,hi,rfl⟩:=Hm he;exact(hok i hi).2.2
 have xN:∀e∈etl es a,e∈etl es t:=fun e he=>by
  obtain⟨i,hi,rfl⟩:=Hm he;exact Qb ((sB i).2 (.inr (.inl hi)))
 have yW:∀e∈etl es b,e∈etl es t:=fun e he=>by
  obtain⟨i,hi,rfl⟩:=Hm he;exact Qb ((sB i).2 (.inr (.inr hi)))
 have a0l:=(Np ha.inn).1 (ha.one hAM hA0);have a3c:=(Np hb.inn).1 (hb.one hBM hB0);have hr:∀y,bit S y=true->Rch (etl es t) S (lst S) y:=fun y hy=>by
  by_cases hyA:bit A y=true
  ·exact(a0l _ _ xE hyA).mono xN qT
  ·have hyB:bit (sdf S A) y=true:=by rw[z6,hy];simpa using hyA
   have r1:=(a0l _ _ xE hu).mono xN qT;have r2:Rch (etl es t) S (lst S) v:=r1.step ⟨_,Qb ((sB k).2 (.inl rfl)),huv⟩ (hBS v hv).1;exact r2.trans ((a3c _ _ hv hyB).mono yW fun z hz=>(hBS z hz).1)
 have tU:One (lab (etl es t)) S:=(Np qP).2 fun x y sH tP=>((hr x sH).symm hx).trans (hr y tP);have qD:t.length+1=card S:=by
  have:=hp.length_eq;rw[aO,aM]at this;have h1:=ha.len;have h2:=hb.len;have h3:=PP qT;omega
 refine⟨AS hs h0 pX hok qD tU,Ao fun y=> ?_,fA,fB,(sB k).2 (.inl rfl)⟩;rw[bC,PQ hs h0 hok];have hnk:∀i,i∈(t.filter fun i=>decide (i≠k))↔i∈a\/i∈b:=fun i=>by
  rw[bT,sB,oDi];refine⟨fun h=>h.1.resolve_left h.2,fun h=>⟨.inr h,fun e=> ?_⟩⟩;subst e;rw[eZ,aQ]at tM;exact tM.1 h
 constructor
 ·intro h;induction h with
  |base=>exact xE
  |step _ h' _ ih=>
   obtain⟨e,he,h⟩:=h';obtain⟨i,hi,rfl⟩:=Hm he;rcases(hnk i).1 hi with hi|hi
   ·have:=(ha.ok i hi).2.2;rcases h with⟨_,rfl⟩|⟨_,rfl⟩
    ·exact this.2
    ·exact this.1
   ·have:=(hb.ok i hi).2.2;rcases h with⟨rfl,_⟩|⟨rfl,_⟩
    ·rw[hBA _ this.1]at ih;cases ih
    ·rw[hBA _ this.2]at ih;cases ih
 ·intro hy;refine(a0l _ _ xE hy).mono (fun e he=> ?_) qT;obtain⟨i,hi,rfl⟩:=Hm he;exact Qb ((hnk i).2 (.inl hi))
def prs:List Nat->List (Nat×Nat)
 |[]=>[]
 |a::r=>r.map (fun b=>(a,b))++prs r
def tri:Nat->Nat
 |0=>0
 |n+1=>n+tri n
theorem d4Q (l:List Nat):(prs l).length=tri l.length:=by
 induction l with
 |nil=>rfl
 |cons a r ih=>simp only[prs,aM,aX,aO,tri,ih]
theorem c9o {m n:Nat} (h:m<=n):tri m<=tri n:=by
 induction h with
 |refl=>exact aS _
 |step _ ih=>exact bD ih (Nat.le_add_left _ _)
theorem d4R {l:List Nat} (hl:l.Pairwise (· < ·)) {x y:Nat} (hx:x∈l) (hy:y∈l) (uB:x<y):(x,y)∈prs l:=by
 induction l with
 |nil=>cases hx
 |cons a r ih=>
  rw[fG]at hl;simp only[prs,aQ,aY];rcases aP.1 hx with hxa|hx
  ·subst hxa;rcases aP.1 hy with hya|hy
   ·omega
   ·exact .inl ⟨y,hy,rfl⟩
  ·rcases aP.1 hy with hya|hy
   ·have:=hl.1 x hx;omega
   ·exact .inr (ih hl.2 hx hy)
theorem Vu {α:Type} [DecidableEq α]:∀{l m:List α},l.Nodup->(∀x∈l,x∈m)->l.length<=m.length:=by
 intro l;induction l with
 |nil=>intro m _ _;exact bI _
 |cons a l ih=>
  intro m hn hs;rw[eZ]at hn;have ha:=hs a aD;have:=ih (m:=m.erase a) hn.2 fun x hx=>(List.mem_erase_of_ne (fun e:x=a=>by subst e;exact hn.1 hx)).2 (hs x (cF _ hx));rw[List.length_erase_of_mem ha]at this;have:=List.length_pos_of_mem ha;rw[aO];omega
theorem c9p {n:Nat} {es:List (Nat×Nat)} (hg:GV n es) {set:Nat} (hs:set<M64):Aw es set 0<=tri (card set):=by
 unfold Aw;rw[cH,show card set=(els set).length from rfl,<-d4Q];have tM:es.Nodup:=hg.ord.imp fun h e=>by subst e;rcases h with h|h<;>omega
 refine Vu (nG _ tM) fun e he=> ?_;rw[bT]at he;have h1:=hg.ed e he.1;have h2:=he.2;unfold inB at h2;rw[bA]at h2;exact d4R (yh set) ((Jj hs).2 h2.1) ((Jj hs).2 h2.2) h1.1
theorem PT {n:Nat} {es:List (Nat×Nat)} (hg:GV n es) {set:Nat} (hs:set<M64) (h9:card set<=9):Aw es set 0<=36:=
 bD (c9p hg hs) (c9o h9)
variable {es:List (Nat×Nat)} {S A n:Nat}
open Classical in
noncomputable def trL (es:List (Nat×Nat)) (S:Nat):Nat->Nat->List Int->List (List Int)
 |0,_,t=>if TreeOk es S t then[t]else[]
 |f+1,j,t=>trL es S f (j+1) t++if inI es S (j:Nat)=true/\lab (etl es t) (Ed es (j:Nat)).1≠lab (etl es t) (Ed es (j:Nat)).2 then trL es S f (j+1) (t++[(j:Int)])else[]
theorem AW (hs:S<M64) (h0:S≠0):∀(f j:Nat) (t:List Int),es.length-j=f->Beg es S t->(∀i∈t,i<(j:Int))->((trL es S f j t).length:Int)=trN es S t j
 |0,j,t,hf,hB,pX=>by
  unfold trN;rw[PK aA,PI (Lb.lab _) hs h0 (Iq hB.inn)];unfold trL;have hl:(etl es t).length=t.length:=aX _;by_cases h:cnt (lab (etl es t)) S=1
  ·have h1:=nh hs h0 hB.inn ((Zv (Lb.lab _) hs h0 (Iq hB.inn)).1 h);have h2:=hB.len hs h0;rw[if_pos h,if_pos (hB.tree aA)];rfl
  ·rw[if_neg h,if_neg (fun hT=>h ((Zv (Lb.lab _) hs h0 (Iq hB.inn)).2 (hT.one hs h0)))];rfl
 |f+1,j,t,hf,hB,pX=>by
  have hj:j<es.length:=aA;have ih:=AW hs h0 f (j+1) t aA hB (fun i hi=>by have:=pX i hi;omega);unfold trL;rw[aM];cases hb:inB S (Ed es (j:Nat))with
  |false=>
   rw[if_neg (fun h=>by have:=h.1;unfold inI at this;rw[hb]at this;cases this),PM (Fa hj) hb,<-ih];rfl
  |true=>
   rw[PN hs h0 hB.inn hj hb];unfold trH;by_cases hl:lab (etl es t) (Ed es (j:Nat)).1=lab (etl es t) (Ed es (j:Nat)).2
   ·rw[if_neg (fun h=>h.2 hl),if_pos hl,<-ih];rfl
   ·have ih2:=AW hs h0 f (j+1) (t++[(j:Int)]) aA (hB.add pX hj hb hl) (fun i hi=>by
     rcases aQ.1 hi with h|h
     ·have:=pX i h;omega
     ·rw[aL.1 h];omega)
    rw[if_pos ⟨hb,hl⟩,if_neg hl,<-ih,<-ih2]
    push_cast;rfl
theorem Vv:∀(f j:Nat) (t:List Int),es.length-j=f->∀x,x∈trL es S f j t↔TreeOk es S x/\∃r,x=t++r/\∀i∈r,(j:Int)<=i
 |0,j,t,hf,x=>by
  unfold trL;constructor
  ·intro h;split at h
   ·rename_i hT;rw[aL.1 h];exact⟨hT,[],aD,fun i hi=>by cases hi⟩
   ·cases h
  ·rintro⟨hT,r,rfl,hr⟩;cases r with
   |nil=>rw[bQ]at hT⊢;rw[if_pos hT];exact aL.2 rfl
   |cons y r=>
    have h1:=hr y aD;have h2:=(hT.ok y aD).2.1;omega
 |f+1,j,t,hf,x=>by
  unfold trL;rw[aQ,Vv f (j+1) t aA];constructor
  ·rintro(⟨hT,r,rfl,hr⟩|h)
   ·exact⟨hT,r,rfl,fun i hi=>by have:=hr i hi;omega⟩
   ·split at h
    ·obtain⟨hT,r,rfl,hr⟩:=(Vv f (j+1) _ aA x).1 h;refine⟨hT,(j:Int)::r,aD,fun i hi=> ?_⟩;rcases aP.1 hi with rfl|hi
     ·omega
     ·have:=hr i hi;omega
    ·cases h
  ·rintro⟨hT,r,rfl,hr⟩;cases r with
   |nil=>exact .inl ⟨hT,[],rfl,fun i hi=>by cases hi⟩
   |cons y r=>
    have hy:=hr y aD;have zE:=hT.asc;rw[dW,fG]at zE;by_cases hyj:y=(j:Int)
    ·subst hyj;right;have hok:=hT.ok (j:Int) aD;have zQ:=hT.acy t.length (Ed es (j:Nat)) aD (by rw[zx (x:=(j:Int))];simp);rw[zw,List.take_left']at zQ
     ·rw[if_pos ⟨by unfold inI inB;rw[hok.2.2.1,hok.2.2.2];rfl,zQ⟩,Vv f (j+1) _ aA];exact⟨by simpa using hT,r,aD,fun i hi=>by have:=zE.2.1.1 i hi;omega⟩
     ·rfl
    ·refine .inl ⟨hT,y::r,rfl,fun i hi=> ?_⟩;rcases aP.1 hi with rfl|hi
     ·omega
     ·have:=zE.2.1.1 i hi;omega
theorem AX:∀(f j:Nat) (t:List Int),es.length-j=f->(trL es S f j t).Nodup
 |0,j,t,hf=>by
  unfold trL;split
  ·simp
  ·exact dG
 |f+1,j,t,hf=>by
  unfold trL;rw[cQ];refine⟨AX f (j+1) t aA,?_,fun x hx y hy e=> ?_⟩
  ·split
   ·exact AX f (j+1) _ aA
   ·exact dG
  ·subst e;obtain⟨_,r,rfl,hr⟩:=(Vv f (j+1) t aA x).1 hx;split at hy
   ·obtain⟨_,r',h,hr'⟩:=(Vv f (j+1) _ aA _).1 hy;rw[bH,List.append_cancel_left_eq]at h;subst h;have:=hr (j:Int) aD;omega
   ·cases hy
noncomputable def trees (es:List (Nat×Nat)) (S:Nat):List (List Int):=trL es S es.length 0 []
theorem trees_mem {x:List Int}:x∈trees es S↔TreeOk es S x:=by
 unfold trees;rw[Vv es.length 0 [] aA];refine⟨fun h=>h.1,fun h=>⟨h,x,rfl,fun i hi=> ?_⟩⟩;have:=(h.ok i hi).1;omega
theorem nj:(trees es S).Nodup:=AX _ _ _ aA
theorem AY (hs:S<M64) (h0:S≠0):((trees es S).length:Int)=trN es S [] 0:=AW hs h0 _ _ _ aA (Beg.nil es S) (fun i hi=>by cases hi)
theorem Sv {α β:Type} {l:List α} {f:α->β} (hn:l.Nodup) (hi:∀x∈l,∀y∈l,f x=f y->x=y):(l.map f).Nodup:=by
 rw[List.Nodup,List.pairwise_map];exact jK (fun ha hb h e=>h (hi _ ha _ hb e)) hn
theorem PU {α β:Type} [DecidableEq β] {l:List α} {m:List β} (f:α->β) (hn:l.Nodup) (hi:∀x∈l,∀y∈l,f x=f y->x=y) (hm:∀x∈l,f x∈m):l.length<=m.length:=by
 have:=Vu (Sv hn hi) (m:=m) (fun y hy=>by obtain⟨x,hx,rfl⟩:=aY.1 hy;exact hm x hx)
 rwa[aX]at this
theorem Vw {α β:Type} {l:List α} {f:α->List β} (g:β->α) (hn:l.Nodup) (hf:∀x∈l,(f x).Nodup) (hg:∀x∈l,∀y∈f x,g y=x):(l.flatMap f).Nodup:=by
 rw[List.Nodup,List.pairwise_flatMap];refine⟨hf,jK (fun ha hb h x hx y hy e=>h ?_) hn⟩;subst e;rw[<-hg _ ha _ hx,<-hg _ hb _ hy]
theorem Qc {α:Type} {c:Nat}:∀l:List α,(l.map fun _=>c).sum=l.length*c
 |[]=>by simp
 |a::l=>by rw[aN,List.sum_cons,Qc l,aO,Nat.succ_mul];omega
noncomputable def Jq (es:List (Nat×Nat)) (S A:Nat):List (List Int×Int):=(trees es S).flatMap fun t=>(t.filter fun k=>decide (p8 es S t k=A)).map fun k=>(t,k)
def crs (es:List (Nat×Nat)) (A B:Nat):List Int:=((eP es.length).map fun j:Nat=>(j:Int)).filter fun k=>btB A B (Ed es k)
noncomputable def Vx (es:List (Nat×Nat)) (A B:Nat):List ((List Int×List Int)×Int):=(trees es A).flatMap fun a=>(trees es B).flatMap fun b=>(crs es A B).map fun k=>((a,b),k)
theorem d8j (es:List (Nat×Nat)):((eP es.length).map fun j:Nat=>Ed es (j:Int))=es:=by
 apply bG;intro i;by_cases h:i<es.length
 ·rw[Fa h];simp[h]
 ·rw[aW (by simp;omega),aW aA]
theorem PV (A B:Nat):(crs es A B).length=Af es A B:=by
 unfold crs Af
 conv=>rhs;rw[<-d8j es]
 rw[oG,oG,aX,aX];rfl
theorem crs_mem {A B:Nat} {k:Int}:k∈crs es A B↔0<=k/\k.toNat<es.length/\btB A B (Ed es k)=true:=by
 unfold crs;rw[bT,aY];constructor
 ·rintro⟨⟨j,hj,rfl⟩,h⟩;exact⟨aA,by simpa using hj,h⟩
 ·rintro⟨h1,h2,h3⟩;exact⟨⟨k.toNat,by simpa using h2,aA⟩,h3⟩
theorem d8k (A B:Nat):(crs es A B).Nodup:=by
 exact(Sv iD fun x _ y _ h=>by have h:(x:Int)=(y:Int):=h;omega).filter _
theorem cutL_mem {x:List Int×Int}:x∈Jq es S A↔TreeOk es S x.1/\x.2∈x.1/\p8 es S x.1 x.2=A:=by
 unfold Jq;rw[fQ];constructor
 ·rintro⟨t,ht,h⟩;obtain⟨k,hk,rfl⟩:=aY.1 h;rw[bT,oDi]at hk;exact⟨trees_mem.1 ht,hk⟩
 ·rintro⟨h1,h2,h3⟩;exact⟨x.1,trees_mem.2 h1,aY.2 ⟨x.2,bT.2 ⟨h2,oDd h3⟩,rfl⟩⟩
theorem PX:(Jq es S A).Nodup:=by
 unfold Jq;refine Vw Prod.fst nj (fun t ht=>Sv ((trees_mem.1 ht).nd.filter _) fun x _ y _ h=>(oZ.inj h).2) fun t ht y hy=> ?_;obtain⟨k,_,rfl⟩:=aY.1 hy;rfl
theorem prdL_mem {B:Nat} {x:(List Int×List Int)×Int}:x∈Vx es A B↔TreeOk es A x.1.1/\TreeOk es B x.1.2/\x.2∈crs es A B:=by
 unfold Vx;rw[fQ];constructor
 ·rintro⟨a,ha,h⟩;obtain⟨b,hb,h⟩:=fQ.1 h;obtain⟨k,hk,rfl⟩:=aY.1 h;exact⟨trees_mem.1 ha,trees_mem.1 hb,hk⟩
 ·rintro⟨h1,h2,h3⟩;exact⟨_,trees_mem.2 h1,fQ.2 ⟨_,trees_mem.2 h2,aY.2 ⟨_,h3,rfl⟩⟩⟩
theorem d4S (A B:Nat):(Vx es A B).Nodup:=by
 unfold Vx;refine Vw (fun x=>x.1.1) nj (fun a _=>Vw (fun x=>x.1.2) nj (fun b _=>Sv (d8k A B) fun x _ y _ h=>(oZ.inj h).2) fun b _ y hy=> ?_) fun a _ y hy=> ?_
 ·obtain⟨k,_,rfl⟩:=aY.1 hy;rfl
 ·obtain⟨b,_,h⟩:=fQ.1 hy;obtain⟨k,_,rfl⟩:=aY.1 h;rfl
theorem c9q (A B:Nat):(Vx es A B).length=(trees es A).length*((trees es B).length*Af es A B):=by
 unfold Vx;rw[iE];have h:∀a:List Int,((trees es B).flatMap fun b=>(crs es A B).map fun k=>((a,b),k)).length=(trees es B).length*Af es A B:=fun a=>by
  rw[iE];simp only[aX,PV];exact Qc _
 simp only[h];exact Qc _
theorem PY (hs:S<M64) (h0:S≠0) (qT:∀y,bit A y=true->bit S y=true) (xE:bit A (lst S)=true):(Jq es S A).length=(trees es A).length*((trees es (sdf S A)).length*Af es A (sdf S A)):=by
 rw[<-c9q];refine Nat.le_antisymm ?_ ?_
 ·refine PU (fun x=>((x.1.filter (inI es A),x.1.filter (inI es (sdf S A))),x.2)) PX (fun x hx y hy e=> ?_) fun x hx=> ?_
  ·obtain⟨x1,x2,x3⟩:=cutL_mem.1 hx;obtain⟨y1,y2,y3⟩:=cutL_mem.1 hy;have cx:=ni hs h0 x1 x2 x3;have cy:=ni hs h0 y1 y2 y3;simp only[jT]at e;obtain⟨⟨e1,e2⟩,e3⟩:=e;have hp:=cx.perm;rw[e1,e2,e3]at hp;exact nH (AT x1.asc y1.asc (hp.trans cy.perm.symm)) e3
  ·obtain⟨x1,x2,x3⟩:=cutL_mem.1 hx;have cx:=ni hs h0 x1 x2 x3;have ho:=x1.ok _ x2;exact prdL_mem.2 ⟨cx.ta,cx.tb,crs_mem.2 ⟨ho.1,ho.2.1,cx.bt⟩⟩
 ·refine PU (fun x=>(Hl (x.2::(x.1.1++x.1.2)),x.2)) (d4S _ _) (fun x hx y hy e=> ?_) fun x hx=> ?_
  ·obtain⟨x1,x2,x3⟩:=prdL_mem.1 hx;obtain⟨y1,y2,y3⟩:=prdL_mem.1 hy;obtain⟨x4,x5,x6⟩:=crs_mem.1 x3;obtain⟨y4,y5,y6⟩:=crs_mem.1 y3;have cx:=AU hs h0 qT xE x1 x2 x4 x5 x6;have cy:=AU hs h0 qT xE y1 y2 y4 y5 y6;simp only[jT]at e;obtain⟨e1,e2⟩:=e;have ha:=cx.2.2.1;have hb:=cx.2.2.2.1;rw[e1]at ha hb;exact nH (nH (ha.symm.trans cy.2.2.1) (hb.symm.trans cy.2.2.2.1)) e2
  ·obtain⟨x1,x2,x3⟩:=prdL_mem.1 hx;obtain⟨x4,x5,x6⟩:=crs_mem.1 x3;have cx:=AU hs h0 qT xE x1 x2 x4 x5 x6;exact cutL_mem.2 ⟨cx.1,cx.2.2.2.2,cx.2.1⟩
noncomputable def Qe (es:List (Nat×Nat)) (S:Nat):List (List Int×Int):=(trees es S).flatMap fun t=>t.map fun k=>(t,k)
theorem c9r:(Qe es S).length=(trees es S).length*(card S-1):=by
 unfold Qe;rw[iE,<-Qc];congr 1;refine bW fun t ht=> ?_;have:=(trees_mem.1 ht).len;simp only[aX];omega
theorem allC_mem {x:List Int×Int}:x∈Qe es S↔TreeOk es S x.1/\x.2∈x.1:=by
 unfold Qe;rw[fQ];constructor
 ·rintro⟨t,ht,h⟩;obtain⟨k,hk,rfl⟩:=aY.1 h;exact⟨trees_mem.1 ht,hk⟩
 ·rintro⟨h1,h2⟩;exact⟨x.1,trees_mem.2 h1,aY.2 ⟨x.2,h2,rfl⟩⟩
theorem d4T {l:List Nat} (hn:l.Nodup):(l.map fun A=>(Jq es S A).length).sum<=(trees es S).length*(card S-1):=by
 have e:(l.map fun A=>(Jq es S A).length).sum=(l.flatMap (Jq es S)).length:=by rw[iE]
 rw[e,<-c9r];refine Vu (Vw (fun x=>p8 es S x.1 x.2) hn (fun A _=>PX) fun A _ y hy=>(cutL_mem.1 hy).2.2) fun x hx=> ?_;obtain⟨A,_,h⟩:=fQ.1 hx;exact allC_mem.2 ⟨(cutL_mem.1 h).1,(cutL_mem.1 h).2.1⟩
end Go.GS

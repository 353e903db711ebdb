/- Lemmas of the proof. -/
import Derived.Test.YtlmbepjdokomkaaGreatDoorWdB
import Derived.Lib.Mul64
open Bool renaming and_false->kY,and_true->jJ,false_and->nG,not_false->jN,not_true->nN,true_bne->nO
open Int renaming ediv_emod_unique->lZ,fdiv_eq_ediv_of_nonneg->iZ,mul_comm->nY,natCast_mul->iQ,natCast_nonneg->mK,neg_mul_neg->nF,ofNat_tdiv->nL,ofNat_tmod->nM,toNat->mW
open List renaming getD_cons_zero->lY
open Nat renaming add_assoc->jL,add_mul_div_left->iN,add_mul_mod_self_left->kX,div_add_mod'->iH,div_div_eq_div_mul->lM,div_eq_of_lt->fW,le_antisymm->nE,le_div_iff_mul_le->jM,le_of_lt->nX,mul_add->fK,mul_assoc->fF,mul_comm->eX,mul_div_mul_right->lS,mul_mod_mul_right->lR,mul_one->gB,mul_right_comm->mL,pow_add->gJ,pow_lt_pow_iff_right->gX,pow_pos->iW,two_pow_add_eq_or_of_lt->kM,zero_lt_succ->eP
set_option linter.all false
set_option maxRecDepth 100000
open Go.IntKind renaming wrap->wQ
namespace Go.Z
open Proofs.Tryz RowKit RX WD IntWalk
def E3 (d:Nat) (h:d<18446744073709551616):((d:Int).fdiv (2^(min ((63:Int).toNat) (IntKind.bits .u64)))==1)=decide (¬d<9223372036854775808):=by
 have e:(2:Int)^(min ((63:Int).toNat) (IntKind.bits .u64))=9223372036854775808:=aC;rw[e,iZ _ aA,bS];simp;omega
def E4 {a:Nat} (h:¬a%M<HM):sb 0 a%M=(toI a).natAbs%M:=by
 have hl:=cO a Np;have:=Ja;unfold sb toI;rw[if_neg h];congr 1;omega
def Tv (a:Nat):(toI a).natAbs<M:=by
 obtain⟨h1,h2⟩:=C3 a;have:=Ja;omega
def sx (a:Nat):Det prog 98 [wd a] (nm (toI a)):=by
 have hl:=cO a Np;have hM:=Ja;have a3k:=C4 a;have hc:∀ρ:List Value,D prog (wd a::ρ) (.op2 .eql .u64 (.op2 .shr .u64 (.cell (.v 0) 7 0 noI) (kU 63)) (kU 1))= .bool (decide (¬a%M<HM)):=fun ρ=>by
  simp only[rxs,Iz a (show 7<8 by omega)];rw[E3 _ (Nq a 7)];congr 1;rw[bS,oDi,oDi,a3k]
 refine Cm mixed ZW aB rfl (i6 ⟨words_size a,words_one a⟩ (i6 ⟨dig a 7,?_⟩ (Af (hc []) (fun h=> ?_) (fun h=> ?_))))
 ·simp only[rxs,Iz a (show 7<8 by omega)]
 ·have h:¬a%M<HM:=by simpa using h
  refine Da (Xm 0 a) (by simp only[rxs,To];rfl) ?_;refine i6 ⟨_,rfl,eP _⟩ (i6 ⟨_,rfl,cY _⟩ (i6 ⟨words_size _,words_one _⟩ (Aa rfl ?_)));simp only[aU,cN,y9];rw[D,dE,cU,hc];simp only[rxs];show nb _ (sb 0 a)=nm (toI a);exact Xl (by rw[bS];simp[toI,if_neg h];omega) (E4 h)
 ·have h:a%M<HM:=by simpa using h
  refine Aa rfl ?_;simp only[aU,cN,y9];rw[D,hc];simp only[rxs];show nb _ a=nm (toI a);refine Xl (by rw[bS];simp[toI,if_pos h];omega) ?_;unfold toI;rw[if_pos h,Int.natAbs_natCast,Nat.mod_mod]
def Nr (b:Bool) (n:Nat):(nb b n).cells= #[.bool b]++words n:=rfl
def Bo (z:Int):Value:=if -(HM:Int)<=z/\z<HM then .tuple #[iw z,.int .i64 0]else .tuple #[wd 0,.int .i64 6]
def GL (z:Int) (hz:z.natAbs<M):Det prog 99 [nm z] (Bo z):=by
 have hH:=C7;refine Cm mixed ZX aB rfl (i6 ⟨Ei _ _,Gn _ _⟩ (Da (GA z.natAbs HM) ?_ (i6 ⟨_,rfl⟩ ?_)))
 ·simp only[rxs,nm,Nr,sj,To,C8];rfl
 ·rw[eH hz,eH hH];refine Af (b:=decide (sg z.natAbs HM>0)) rfl (fun h=> ?_) (fun h=> ?_)
  ·have h:=sg_pos.1 (oDt h);refine Aa rfl ?_;simp only[rxs,y9,Jc,Bo];rw[if_neg aA]
  ·have h:¬HM<z.natAbs:=fun e=>oDf h (sg_pos.2 e);refine Af (b:=sg z.natAbs HM==0) rfl (fun h1=> ?_) (fun h1=> ?_)
   ·have h1:=sg_zero.1 (by simpa using h1);refine i6 ⟨_,rfl⟩ (Af (b:= !decide (z<0)) rfl (fun h2=> ?_) (fun h2=> ?_))
    ·have h2:¬z<0:=by simpa using h2
     refine Aa rfl ?_;simp only[rxs,y9,Jc,Bo];rw[if_neg aA]
    ·have h2:z<0:=by simpa using h2
     refine Da (Xm 0 z.natAbs) ?_ (i6 ⟨_,rfl,eP _⟩ (i6 ⟨_,rfl,cY _⟩ (i6 ⟨words_size _,words_one _⟩ (Aa rfl ?_))))
     ·simp only[rxs,nm,Nr,sj,To];rfl
     ·simp only[rxs,y9,Bo];rw[if_pos aA,<-FX h2 hz];rfl
   ·have h1:z.natAbs≠HM:=fun e=>by simp[sg_zero.2 e]at h1
    refine i6 ⟨_,rfl⟩ (Af (b:=decide (z<0)) rfl (fun h2=> ?_) (fun h2=> ?_))
    ·have h2:z<0:=by simpa using h2
     refine Da (Xm 0 z.natAbs) ?_ (i6 ⟨_,rfl,eP _⟩ (i6 ⟨_,rfl,cY _⟩ (i6 ⟨words_size _,words_one _⟩ (Aa rfl ?_))))
     ·simp only[rxs,nm,Nr,sj,To];rfl
     ·simp only[rxs,y9,Bo];rw[if_pos aA,<-FX h2 hz];rfl
    ·have h2:¬z<0:=by simpa using h2
     refine Aa rfl ?_;simp only[Bo];rw[if_pos aA,<-C9 aA hz];rfl
set_option maxHeartbeats 2000000 in
def E5 (x y:Int) (hx:x.natAbs<M) (hy:y.natAbs<M):∃v,Det prog 147 [nm x,nm y] (.tuple #[.agg v,.bool (decide (M<=(x+y).natAbs))])/\v.size=9/\i8 v/\((x+y).natAbs<M->Value.agg v=nm (x+y)):=by
 have hcr:cr x.natAbs y.natAbs 8=if M<=x.natAbs+y.natAbs then 1 else 0:=by
  unfold cr;rw[<-Db,eH hx,eH hy];split
  ·rename_i h;rw[Nat.div_eq_sub_div Np h,fW aA]
  ·rename_i h;exact fW aA
 by_cases hs:(decide (x<0))=(decide (y<0))
 ·have pX:x<0↔y<0:=by simpa using hs
  refine⟨#[.bool (decide (x<0)&& !decide ((x.natAbs+y.natAbs)%M=0))]++words (x.natAbs+y.natAbs),Cm mixed FO aB rfl ?_,Ei _ _,Gn _ _,fun h=> ?_⟩
  ·refine i6 ⟨Ei _ _,Gn _ _⟩ (i6 ⟨Ei _ _,Gn _ _⟩ (i6 ⟨_,rfl⟩ (i6 ⟨_,rfl⟩ (ZG ?_ ?_))))
   ·show Value.bool (false !=(decide (x<0)==decide (y<0)))=_;rw[hs];simp
   ·refine Da (D0 x.natAbs y.natAbs) rfl (i6 ⟨_,rfl,eP _⟩ (i6 ⟨_,rfl,cY _⟩ (i6 ⟨words_size _,words_one _⟩ ?_)));refine Da (sk (decide (x<0)) (x.natAbs+y.natAbs)) rfl (i6 ⟨_,rfl⟩ (i6 ⟨Ei _ _,Gn _ _⟩ (Aa rfl ?_)));show Value.tuple #[nb _ _,.bool (decide (((cr x.natAbs y.natAbs 8:Nat):Int)>0))]=_;rw[hcr];have:(decide ((((if M<=x.natAbs+y.natAbs then 1 else 0:Nat)):Int)>0))=decide (M<=(x+y).natAbs):=by
     rw[bS,oDi,oDi];split<;>omega
    rw[this];rfl
  ·show nb _ _=nb _ _;refine Xl ?_ (congrArg (· %M) aA);rw[eH aA,bS];simp;omega
 ·have pX:¬(x<0↔y<0):=by simpa using hs
  have oV:(x+y).natAbs<M:=aA;have tK:∀a b:Nat,a<M->b<=a->sb a b%M=(a-b)%M:=fun a b ha hb=>by
   unfold sb;rw[eH (show b<M by omega),show a+(M-b)=(a-b)+M from aA,Nat.add_mod_right]
  refine⟨#[.bool (decide (x+y<0))]++words (x+y).natAbs,Cm mixed FO aB rfl ?_,Ei _ _,Gn _ _,fun h=>rfl⟩;refine i6 ⟨Ei _ _,Gn _ _⟩ (i6 ⟨Ei _ _,Gn _ _⟩ (i6 ⟨_,rfl⟩ (i6 ⟨_,rfl⟩ (qq ?_ ?_))))
  ·show Value.bool (false !=(decide (x<0)==decide (y<0)))=_;rw[beq_eq_false_iff_ne.2 hs];rfl
  ·refine Da (GA x.natAbs y.natAbs) (by simp only[rxs,nm,Nr];rfl) (i6 ⟨_,rfl⟩ (Af (b:=decide (sg (x.natAbs%M) (y.natAbs%M)≥0)) rfl (fun h=> ?_) (fun h=> ?_)))
   ·have h:=sg_nonneg.1 (oDt h);rw[eH hx,eH hy]at h;have e:=tK x.natAbs y.natAbs hx h;refine Da (Xm x.natAbs y.natAbs) (by simp only[rxs,nm,Nr];rfl) (i6 ⟨_,rfl,eP _⟩ (i6 ⟨_,rfl,cY _⟩ (i6 ⟨words_size _,words_one _⟩ ?_)));refine Da (sk (decide (x<0)) (sb x.natAbs y.natAbs)) (by simp only[rxs,nm,Nr];rfl) (i6 ⟨Ei _ _,Gn _ _⟩ (Aa rfl ?_));show Value.tuple #[nb _ _,.bool false]= .tuple #[nb _ _,_];rw[Xl (b':=decide (x+y<0)) (n:=(x+y).natAbs) ?_ (by rw[e];exact congrArg (· %M) aA),decide_eq_false (show ¬M<=(x+y).natAbs by omega)];rw[e,eH aA,bS];simp;omega
   ·have h:¬y.natAbs<=x.natAbs:=fun e=>oDf h (sg_nonneg.2 (by rw[eH hx,eH hy];exact e));have e:=tK y.natAbs x.natAbs hy aA;refine Da (Xm y.natAbs x.natAbs) (by simp only[rxs,nm,Nr];rfl) (i6 ⟨_,rfl,eP _⟩ (i6 ⟨_,rfl,cY _⟩ (i6 ⟨words_size _,words_one _⟩ ?_)));refine Da (sk (decide (y<0)) (sb y.natAbs x.natAbs)) (by simp only[rxs,nm,Nr];rfl) (i6 ⟨Ei _ _,Gn _ _⟩ (Aa rfl ?_));show Value.tuple #[nb _ _,.bool false]= .tuple #[nb _ _,_];rw[Xl (b':=decide (x+y<0)) (n:=(x+y).natAbs) ?_ (by rw[e];exact congrArg (· %M) aA),decide_eq_false (show ¬M<=(x+y).natAbs by omega)];rw[e,eH aA,bS];simp;omega
open Go.RowKit Go.RX Go.WD Go.IntWalk
def dw (z:Int):∃a b,Bo z= .tuple #[wd a,b]:=by
 unfold Bo;split
 ·exact⟨_,_,rfl⟩
 ·exact⟨_,_,rfl⟩
end Go.Z
namespace Go.WD
open RX
def GM:PW 1=18446744073709551616:=by rw[s9,Iy,cL]
def sy {p i:Nat} (h:p<PW i):dig p i=0:=by
 unfold dig;rw[fW h]
def GN (p:Nat):dig p 0=p%18446744073709551616:=by unfold dig;rw[Iy,Nat.div_one]
def tc (a b:Nat) (ha:a<18446744073709551616) (hb:b<18446744073709551616):wQ .u64 ((BitVec.ofInt (IntKind.bits .u64) (a:Int)|||BitVec.ofInt (IntKind.bits .u64) (b:Int)).toNat:Int)=((a|||b:Nat):Int):=by
 have h:=dH (n:=64) ha hb;have e:(BitVec.ofInt 64 (a:Int)|||BitVec.ofInt 64 (b:Int)).toNat=a|||b:=by
  rw[BitVec.toNat_or,BitVec.toNat_ofInt,BitVec.toNat_ofInt];congr 1<;>omega
 show wQ .u64 ((BitVec.ofInt 64 (a:Int)|||BitVec.ofInt 64 (b:Int)).toNat:Int)=_;rw[e,IntKind.wrap_u64];omega
def Xo (a:Nat) (ha:a<18446744073709551616):wQ .u64 ((BitVec.ofInt (IntKind.bits .u64) (a:Int)&&&BitVec.ofInt (IntKind.bits .u64) 4294967295).toNat:Int)=((a%4294967296:Nat):Int):=by
 have e:(BitVec.ofInt 64 (a:Int)&&&BitVec.ofInt 64 4294967295).toNat=a%4294967296:=by
  rw[BitVec.toNat_and,BitVec.toNat_ofInt,BitVec.toNat_ofInt,show((4294967295:Int)%(2^64:Nat)).toNat=2^32-1 from aC,Nat.and_two_pow_sub_one_eq_mod];omega
 show wQ .u64 ((BitVec.ofInt 64 (a:Int)&&&BitVec.ofInt 64 4294967295).toNat:Int)=_;rw[e,IntKind.wrap_u64];omega
def Tz (a k:Nat) (hk:k<=64):(a:Int).fdiv (2^min k (IntKind.bits .u64))=((a/2^k:Nat):Int):=by
 rw[show min k (IntKind.bits .u64)=k from cH hk,show(2:Int)^k=((2^k:Nat):Int)from aD,iZ _ (mK _)];exact(Int.natCast_ediv a (2^k)).symm
open Go.RX
def E6 {k i:Nat} (h:i<k):dig (PW k-1) i=18446744073709551615:=by
 obtain⟨d,rfl⟩:=Nat.exists_eq_add_of_lt h;unfold dig;have hp:=Aw i;have hd:=Aw d;have e:PW (i+d+1)-1=(PW i-1)+PW i*(PW (d+1)-1):=by
  have h1:PW (i+d+1)=PW i*PW (d+1):=by rw[jL,Tc]
  have h2:0<PW (d+1):=Aw _;rw[h1,Nat.mul_sub,gB];have h3:PW i<=PW i*PW (d+1):=Nat.le_mul_of_pos_right _ h2;omega
 rw[e,iN _ _ hp,fW aA,bP,s9];omega
def M_W:M=18446744073709551616*PW 7:=by rw[Db,show(8:Nat)=7+1 from rfl,s9];exact eX _ _
def E7 {t:Nat} (h0:0<t) (h1:t<=18446744073709551616) {i:Nat} (hi:i<8):dig (M-t) i=if i=0 then 18446744073709551616-t else 18446744073709551615:=by
 have e:M-t=(18446744073709551616-t)+18446744073709551616*(PW 7-1):=by
  have:=Aw 7;rw[M_W];omega
 rw[e];split
 ·rename_i h;subst h;rw[GN,kX,eH aA]
 ·rename_i h;obtain⟨j,rfl⟩:∃j,i=j+1:=⟨i-1,aA⟩;rw[<-E6 (show j<7 by omega)];unfold dig;rw[s9 j,eX (PW j),<-lM,iN _ _ aA,fW (show 18446744073709551616-t<18446744073709551616 by omega),bP]
def E8 {t:Nat} (h:t<18446744073709551616) (i:Nat):dig t i=if i=0 then t else 0:=by
 split
 ·rename_i e;subst e;rw[GN,eH h]
 ·rename_i e;exact sy (aM (by rw[GM];exact h) (Qh (show 1<=i by omega)))
def M_big:18446744073709551616<=HM/\HM<M:=by
 have h1:=Tj;have h2:PW 1<=PW 7:=Qh aA;rw[GM]at h2;have h3:=Ja;constructor
 ·rw[h1];omega
 ·omega
def E9 {n:Int} (h0: -18446744073709551616<=n) (h1:n<18446744073709551616):words (rs n)=wf fun i=>if i=0 then(n%18446744073709551616).toNat else if n<0 then 18446744073709551615 else 0:=by
 have hM:=M_big;refine(Jz fun i hi=> ?_);by_cases hn:n<0
 ·rw[si hn aA,show(n+M).toNat=M-n.natAbs from aA,E7 aA aA hi];split
  ·omega
  ·rfl
 ·rw[sh aA aA,E8 aA];split
  ·omega
  ·rfl
def sgI (x y:Int):Int:=if x<y then -1 else if x=y then 0 else 1
def fits_small {n:Int} (h0: -9223372036854775808<=n) (h1:n<9223372036854775808):Jb n:=by
 have:=M_big;unfold Jb;omega
open Go.RX
def blen (x:Nat):Nat:=if x=0 then 0 else x.log2+1
def Xq (x:Nat):x<2^blen x:=by
 unfold blen;split
 ·rename_i h;subst h;decide
 ·exact Nat.lt_log2_self
def Xr {x:Nat} (h:x≠0):0<blen x/\2^(blen x-1)<=x:=by
 unfold blen;rw[if_neg h];exact⟨aA,by simpa using Nat.log2_self_le h⟩
def F0 {x k:Nat} (h0:0<k) (h1:2^(k-1)<=x) (h2:x<2^k):blen x=k:=by
 have hx:x≠0:=fun e=>by subst e;have:=iW (n:=k-1) (show 0<2 by omega);omega
 obtain⟨p1,p2⟩:=Xr hx;have p3:=Xq x;have a1:k-1<blen x:=(gX (show 1<2 by omega)).1 (aR h1 p3);have a2:blen x-1<k:=(gX (show 1<2 by omega)).1 (aR p2 h2);omega
def dz {x k:Nat} (h:2^k<=x):blen x=k+blen (x/2^k):=by
 have hp:0<2^k:=iW aA;have hq:x/2^k≠0:=by
  have:=(jM hp).2 (show 1*2^k<=x by omega);omega
 obtain⟨p1,p2⟩:=Xr hq;have p3:=Xq (x/2^k);refine F0 aA ?_ ?_
 ·rw[show k+blen (x/2^k)-1=(blen (x/2^k)-1)+k from aA,gJ];exact(jM hp).1 p2
 ·rw[gJ,eX];exact(eF hp).1 p3
def blen_le {x k:Nat} (h:x<2^k):blen x<=k:=by
 by_cases hx:x=0
 ·subst hx;simp[blen]
 ·obtain⟨p1,p2⟩:=Xr hx;have:=(gX (show 1<2 by omega)).1 (aR p2 h);omega
def blen_ge {x k:Nat} (h:2^k<=x):k<blen x:=(gX (show 1<2 by omega)).1 (aR h (Xq x))
def Ua (k:Nat):PW k=2^(64*k):=by unfold PW;rfl
def Kp:(18446744073709551616:Nat)=2^64:=rfl
def F1 {A i:Nat} (h:dig A i≠0) (hs:A<PW (i+1)):blen A=64*i+blen (dig A i):=by
 have hd:A/PW i=dig A i:=by
  unfold dig;rw[eH];rw[s9]at hs;exact(eF (Aw i)).2 (by rw[eX];exact hs)
 have oW:PW i<=A:=by
  rcases eB A (PW i)with h1|h1
  ·rw[sy h1]at h;exact absurd rfl h
  ·exact h1
 rw[Ua]at oW hd;rw[dz oW,hd]
section
variable {y1 y0 u n q r:Nat}
def GO (hu:u=q*y1+r) (ho:4294967296*r+n<q*y0):(u*4294967296+n)/(y1*4294967296+y0)<q:=by
 have hp:0<y1*4294967296+y0:=by
  rcases dX y0 with h|h
  ·subst h;omega
  ·omega
 refine(eF hp).2 ?_;rw[fK,<-fF,hu,cM];omega
def td (hu:u=q*y1+r) (hp:0<y1) (ho:q*y0<=4294967296*r+n):q<=(u*4294967296+n)/(y1*4294967296+y0):=by
 refine(jM aA).2 ?_;rw[fK,<-fF,hu,cM];omega
def GP (hn:n<4294967296) (hp:0<y1):(u*4294967296+n)/(y1*4294967296+y0)<=u/y1:=by
 have h1:(u*4294967296+n)/(y1*4294967296+y0)<=(u*4294967296+n)/(4294967296*y1):=Nat.div_le_div_left aA aA;rw[<-lM,show(u*4294967296+n)/4294967296=u from aA]at h1;exact h1
def GQ (h1:2147483648<=y1) (hu:u<y1*4294967296+y0) (h0:y0<4294967296):u/y1<=4294967297:=by
 have:u/y1<4294967298:=(eF aA).2 aA;omega
def eh (hn:n<4294967296) (hu:u<y1*4294967296+y0):(u*4294967296+n)/(y1*4294967296+y0)<4294967296:=by
 refine(eF aA).2 ?_;have:(u+1)*4294967296<=(y1*4294967296+y0)*4294967296:=bQ _ hu;rw[eX 4294967296];omega
end
def F2 {U Y X n q1 r1 q0 r0:Nat} (hX:X=q1*Y+r1) (hU:U=X*4294967296+n) (h0:r1*4294967296+n=q0*Y+r0) (hr:r0<Y):U/Y=q1*4294967296+q0/\U%Y=r0:=by
 have e:U=r0+Y*(q1*4294967296+q0):=by
  rw[hU,hX,cM,jL,h0,fK,eX Y q0,eX Y,mL];omega
 rw[e];exact⟨by rw[iN _ _ aA,fW hr,bP],by rw[kX,eH hr]⟩
def GR {a b i:Nat} (hb:b<2^i):(a*2^i)|||b=a*2^i+b:=by
 rw[eX,kM hb]
def ei {r:Nat} (h:r<=64):(18446744073709551616:Nat)=2^(64-r)*2^r:=by
 rw[<-gJ,show 64-r+r=64 from aA]
def F3 (d:Nat) {r:Nat} (h:r<=64):d*2^r%18446744073709551616=(d%2^(64-r))*2^r:=by
 rw[ei h,lR]
def GT {d:Nat} (hd:d<18446744073709551616) {r:Nat} (h:r<=64):d/2^(64-r)<2^r:=by
 refine(eF (iW aA)).2 ?_;rw[eX,<-ei h];exact hd
def F4 {q k:Nat} (h:2^(k+1) ∣ q):q|||2^k=q+2^k:=by
 obtain⟨d,rfl⟩:=h;exact(kM (cR aA aA) d).symm
end Go.WD
namespace Go.Z
open Proofs.Tryz RowKit RX WD IntWalk
def Aj (a:Nat) (ha:a<18446744073709551616):wQ .u64 (a:Int)=(a:Int):=by rw[IntKind.wrap_u64];omega
def GU (a:Nat):wQ .u64 (a:Int)=((a%18446744073709551616:Nat):Int):=by rw[IntKind.wrap_u64];omega
def Ns (a b:Nat):(a:Int)*(b:Int)=((a*b:Nat):Int):=(iQ a b).symm
def Gq (a b:Nat):(a:Int)+(b:Int)=((a+b:Nat):Int):=(dD a b).symm
def ek (a:Nat):(a:Int).fdiv (2^min (mW 32) (IntKind.bits .u64))=((a/4294967296:Nat):Int):=Tz a 32 aA
def F5 (x y:Nat) (hx:x<18446744073709551616) (hy:y<18446744073709551616):Det prog 200 [.int .u64 x,.int .u64 y] (.tuple #[.int .u64 ((x*y/18446744073709551616:Nat):Int),.int .u64 ((x*y%18446744073709551616:Nat):Int)]):=by
 obtain⟨bd,bt,bw,xG⟩:=Lib.mul64_hi x y hx hy;have ba:=Lib.half_mul_le (a:=x/4294967296) (b:=y/4294967296) aA aA;have bb:=Lib.half_mul_le (a:=x/4294967296) (b:=y%4294967296) aA aA;have bc:=Lib.half_mul_le (a:=x%4294967296) (b:=y/4294967296) aA aA;have ba':x/4294967296*(y/4294967296)<18446744073709551616:=aA;have bb':x/4294967296*(y%4294967296)<18446744073709551616:=aA;have bc':x%4294967296*(y/4294967296)<18446744073709551616:=aA;have bh1:x/4294967296*(y/4294967296)+(x/4294967296*(y%4294967296)+x%4294967296*(y%4294967296)/4294967296)/4294967296<18446744073709551616:=aA;have bh:x/4294967296*(y/4294967296)+(x/4294967296*(y%4294967296)+x%4294967296*(y%4294967296)/4294967296)/4294967296+((x/4294967296*(y%4294967296)+x%4294967296*(y%4294967296)/4294967296)%4294967296+x%4294967296*(y/4294967296))/4294967296<18446744073709551616:=by
  have:=(eF (show 0<18446744073709551616 by omega)).2 (Nat.mul_lt_mul'' hx hy);omega
 refine Cm mixed A3 aB rfl (i6 ⟨_,rfl⟩ (i6 ⟨_,rfl⟩ (Aa ?_ rfl)));simp only[rxs,y9,ek,Xo x hx,Xo y hy,Ns,Gq,Aj _ bd,Aj _ bb',Aj _ bt,Xo _ bt,Aj _ bc',Aj _ bw,Aj _ ba',Aj _ bh1,Aj _ bh,GU (x*y)];rw[xG]
def Qj (k:Nat) (h:k<=9223372036854775807):wQ .i64 (k:Int)=(k:Int):=i64_in _ ⟨aA,aA⟩
def F6 (k:Nat) (j:Nat):(k:Int)+(j:Int)=((k+j:Nat):Int):=aA
def opM:Array MapEntry:= #[⟨.int .u8 43,.func (.func 147) #[] #[],0⟩,⟨.int .u8 45,.func (.func 148) #[] #[],1⟩,⟨.int .u8 42,.func (.func 149) #[] #[],2⟩]
def eo:prog.underlying 185=some (.map 5 (prog.mapElemOf 185)):=aB
def uU8:prog.underlying 5=some (.int .u8):=aB
def F7 (H:PH):Con prog 97 [] H fun v H'=>∃r,H r=none/\v= .map (some r)/\H'=H.put r (.map opM 3):=by
 refine t8 mixed ZZ aB rfl (j4 (dh rfl) rfl ?_);rintro v H1 ⟨r,hr,rfl,rfl⟩;refine⟨(fun h=>nomatch h),j4 (qu (r:=r) (key:= .int .u8 43) (val:= .func (.func 147) #[] #[]) (vs:=[.map (some r),.int .u8 43,.func (.func 147) #[] #[]]) (.inl rfl) rfl rfl rfl eo uU8 (Jy uU8 false) (PH.put_self _ _ _) rfl) rfl ?_⟩;rintro v H2 ⟨rfl,rfl⟩;refine⟨(fun h=>nomatch h),j4 (qu (r:=r) (key:= .int .u8 45) (val:= .func (.func 148) #[] #[]) (vs:=[.map (some r),.int .u8 45,.func (.func 148) #[] #[]]) (.inl rfl) rfl rfl rfl eo uU8 (Jy uU8 false) (PH.put_self _ _ _) rfl) rfl ?_⟩;rintro v H3 ⟨rfl,rfl⟩;refine⟨(fun h=>nomatch h),j4 (qu (r:=r) (key:= .int .u8 42) (val:= .func (.func 149) #[] #[]) (vs:=[.map (some r),.int .u8 42,.func (.func 149) #[] #[]]) (.inl rfl) rfl rfl rfl eo uU8 (Jy uU8 false) (PH.put_self _ _ _) rfl) rfl ?_⟩;rintro v H4 ⟨rfl,rfl⟩;refine⟨(fun h=>nomatch h),c9 rfl ⟨r,hr,rfl,?_⟩⟩;rw[PH.put_put,PH.put_put,PH.put_put];rfl
def F8 (a b:Nat) (s:Int) (i:Nat) (f:FuncId) (z:Int) (v:Array Value) (hs:Instr.findNow (.int .u8) (.int .u8 s) opM.toList 0=some (some (i,.func (.func f) #[] #[]))) (he:q8 prog f=true)
  (hd:Det prog f [nm (toI a),nm (toI b)] (.tuple #[.agg v,.bool (decide (M<=z.natAbs))])) (hv:v.size=9) (h1:i8 v) (hz:z.natAbs<M->Value.agg v=nm z):Det prog 60 [wd a,wd b,.int .u8 s] (Bo z):=by
 have hM:=Ja;refine ZH (t8 mixed A0 aB rfl (b4 ⟨words_size a,words_one a⟩ (b4 ⟨words_size b,words_one b⟩ (g5 (F7 _) rfl ?_))));rintro m H1 ⟨r,hr,rfl,rfl⟩;refine⟨fun _=>PH.le_put hr _,j6 (ZJ (r:=r) (key:= .int .u8 s) (vs:=[.map (some r),.int .u8 s]) rfl rfl rfl eo uU8 (Jy uU8) (PH.put_self _ _ _) hs) rfl ?_⟩;refine Bn (sx a) rfl (Bn (sx b) rfl ?_);refine j4 (Bh (f:=f) (caps:= #[]) (vs:=[nm (toI a),nm (toI b)]) rfl rfl rfl he (hd.con _)) rfl ?_;rintro u H2 ⟨rfl,rfl⟩;refine⟨fun _=>Pl.refl _,b4 ⟨_,rfl,eP _⟩ (b4 ⟨_,rfl,cY _⟩ (b4 ⟨hv,h1⟩ (b4 ⟨_,rfl⟩ (g8 rfl (fun h=> ?_) (fun h=> ?_)))))⟩
 ·have h:=oDt h;refine c9 rfl ?_;simp only[rxs,y9,Jc,Bo];rw[if_neg aA]
 ·have h:=oDf h;have xH:=hz aA;obtain⟨p,q,hf⟩:=dw z;have ht:=GL z aA;rw[hf]at ht⊢;refine Bn ht ?_ (b4 ⟨_,rfl,eP _⟩ (b4 ⟨_,rfl,cY _⟩ (b4 ⟨words_size _,words_one _⟩ (c9 rfl rfl))));show[Value.agg v]=_;rw[xH]
def F9 (a b:Nat):Det prog 25 [wd a,wd b] (Bo (toI a+toI b)):=by
 obtain⟨v,hd,hs,h1,hv⟩:=E5 (toI a) (toI b) (Tv a) (Tv b);have hb:=F8 a b 43 0 _ _ v rfl aB hd hs h1 hv;obtain⟨p,q,hf⟩:=dw (toI a+toI b);rw[hf]at hb⊢;exact Cm mixed A2 aB rfl (i6 ⟨words_size a,words_one a⟩ (i6 ⟨words_size b,words_one b⟩ (Da hb rfl (i6 ⟨_,rfl,eP _⟩ (i6 ⟨_,rfl,cY _⟩ (i6 ⟨words_size _,words_one _⟩ (Aa rfl rfl)))))))
def GW (n:Int):wQ .u64 n=((n%18446744073709551616).toNat:Int):=by
 rw[IntKind.wrap_u64];omega
def GX (u:Nat):spl (words 0) 0 [.int .u64 (u:Int)]=wf fun j=>if j=0 then u else 0:=by
 refine Eq.trans (Xk (dig 0) (show 0<8 by omega) u) (Jz fun i _=> ?_);rw[Xj]
def Xs (n:Int) (h0: -9223372036854775808<=n) (h1:n<9223372036854775808):Det prog 26 [.int .i64 n] (iw n):=by
 have hw:=E9 (n:=n) aA aA;refine Cm mixed A1 aB rfl (i6 ⟨n,rfl⟩ (Af (b:=decide (n<0)) rfl (fun h=> ?_) (fun h=> ?_)))
 ·have hn:=oDt h;refine⟨fun l=>∃k,1<=k/\k<=8/\l=[.int .i64 (k:Nat),.agg (wf fun j=>if j<k then(if j=0 then(n%18446744073709551616).toNat else 18446744073709551615)else 0)],fun l=>(8-intOf (l.getD 0 undef)).toNat,⟨1,aA,aA,?_⟩,?_⟩
  ·simp only[rxs,Jc,GW,GX];congr 3
  ·rintro vals-⟨k,zW,hk,rfl⟩;refine i6 ⟨_,rfl⟩ (Af (b:=decide ((k:Int)<8)) rfl (fun h=> ?_) (fun h=> ?_))
   ·have hk:k<8:=by simp at h;omega
    have e3:wQ .i64 ((k:Int)+1)=((k+1:Nat):Int):=Qj (k+1) aA;refine i6 ⟨_,_,rfl⟩ (i6 ⟨?_,?_⟩ ?_)
    ·show(0:Int)<=(k:Int);omega
    ·show(k:Int)<8;omega
    ·refine⟨⟨k+1,aA,aA,?_⟩,?_⟩
     ·have:=Xk (fun j=>if j<k then(if j=0 then(n%18446744073709551616).toNat else 18446744073709551615)else 0) hk 18446744073709551615;simp only[rxs,e3];rw[show(18446744073709551615:Int)=((18446744073709551615:Nat):Int)from rfl,this];congr 3;refine Jz fun i _=> ?_;by_cases e:i=k
      ·subst e;rw[if_pos rfl,if_pos (show i<i+1 by omega),if_neg (show ¬i=0 by omega)]
      ·rw[if_neg e];by_cases e':i<k
       ·rw[if_pos e',if_pos (show i<k+1 by omega)]
       ·rw[if_neg e',if_neg (show ¬i<k+1 by omega)]
     ·simp only[rxs,e3];omega
   ·have hk:k=8:=by simp at h;omega
    subst hk;refine Aa rfl ?_;simp only[rxs,y9,iw,wd,hw];congr 1;exact Jz fun i hi=>by rw[if_pos hi,if_pos hn]
 ·have hn:=oDf h;refine Aa rfl ?_;simp only[rxs,y9,Jc,GW,GX,iw,wd,hw];congr 1;exact Jz fun i hi=>by rw[if_neg hn]
def G0 (a:Nat):(a:Int).fdiv (2^min (mW 16) (IntKind.bits .u64))=((a/65536:Nat):Int):=Tz a 16 aA
def G1 (a:Nat):(a:Int).fdiv (2^min (mW 8) (IntKind.bits .u64))=((a/256:Nat):Int):=Tz a 8 aA
def len8:ByteArray:=⟨#[0,1,2,2,3,3,3,3,4,4,4,4,4,4,4,4,5,5,5,5,5,5,5,5,5,5,5,5,5,5,5,5,6,6,6,6,6,6,6,6,6,6,6,6,6,6,6,6,6,6,6,6,6,6,6,6,6,6,6,6,6,6,6,6,7,7,7,7,7,7,7,7,7,7,7,7,7,7,7,7,7,7,7,7,7,7,7,7,7,7,7,7,7,7,7,7,7,7,7,7,7,7,7,7,7,7,7,7,7,7,7,7,7,7,7,7,7,7,7,7,7,7,7,7,7,7,7,7,8,8,8,8,8,8,8,8,8,8,8,8,8,8,8,8,8,8,8,8,8,8,8,8,8,8,8,8,8,8,8,8,8,8,8,8,8,8,8,8,8,8,8,8,8,8,8,8,8,8,8,8,8,8,8,8,8,8,8,8,8,8,8,8,8,8,8,8,8,8,8,8,8,8,8,8,8,8,8,8,8,8,8,8,8,8,8,8,8,8,8,8,8,8,8,8,8,8,8,8,8,8,8,8,8,8,8,8,8,8,8,8,8,8,8,8,8,8,8,8,8,8,8,8,8,8,8,8]⟩
def G2:len8.size=256:=aB
def G3:(List.range 256).all (fun b=>(len8.data.getD b 0).toNat==blen b)=true:=aB
def G4 {b:Nat} (h:b<256):(len8.data.getD b 0).toNat=blen b:=by
 have:=dC.1 G3 b (bH.2 h);simpa using this
def ep (x:Nat) (hx:x<18446744073709551616):Det prog 164 [.int .u64 x] (.int .i64 (blen x)):=by
 refine Cm mixed A5 aB rfl (i6 ⟨_,rfl⟩ ⟨fun l=>∃y n,l=[.int .u64 (y:Nat),.int .i64 (n:Nat)]/\y<4294967296/\n<=32/\n+blen y=blen x,?_,?_⟩)
 ·refine Af (b:=decide ((x:Int)≥4294967296)) rfl (fun h=> ?_) (fun h=> ?_)
  ·have h:=oDt h;exact⟨x/4294967296,32,by simp only[rxs,ek];rfl,aA,aA,(dz (k:=32) aA).symm⟩
  ·have h:=oDf h;exact⟨x,0,rfl,aA,aA,aA⟩
 rintro vals-⟨y,n,rfl,hy,hn,hb⟩;refine i6 ⟨_,rfl⟩ ⟨fun l=>∃y n,l=[.int .u64 (y:Nat),.int .i64 (n:Nat)]/\y<65536/\n<=48/\n+blen y=blen x,?_,?_⟩
 ·refine Af (b:=decide ((y:Int)≥65536)) rfl (fun h=> ?_) (fun h=> ?_)
  ·have h:=oDt h;have e:=dz (x:=y) (k:=16) aA;refine i6 ⟨_,rfl⟩ ⟨y/65536,n+16,?_,aA,aA,?_⟩
   ·have e3:wQ .i64 ((n:Int)+16)=((n+16:Nat):Int):=Qj (n+16) aA;simp only[rxs,G0,e3]
   ·rw[show(2:Nat)^16=65536 from rfl]at e;omega
  ·have h:=oDf h;exact⟨y,n,rfl,aA,aA,hb⟩
 rintro vals-⟨y,n,rfl,hy,hn,hb⟩;refine i6 ⟨_,rfl⟩ ⟨fun l=>∃y n,l=[.int .u64 (y:Nat),.int .i64 (n:Nat)]/\y<256/\n<=56/\n+blen y=blen x,?_,?_⟩
 ·refine Af (b:=decide ((y:Int)≥256)) rfl (fun h=> ?_) (fun h=> ?_)
  ·have h:=oDt h;have e:=dz (x:=y) (k:=8) aA;refine i6 ⟨_,rfl⟩ ⟨y/256,n+8,?_,aA,aA,?_⟩
   ·have e3:wQ .i64 ((n:Int)+8)=((n+8:Nat):Int):=Qj (n+8) aA;simp only[rxs,G1,e3]
   ·rw[show(2:Nat)^8=256 from rfl]at e;omega
  ·have h:=oDf h;exact⟨y,n,rfl,aA,aA,hb⟩
 rintro vals-⟨y,n,rfl,hy,hn,hb⟩;have hu8:IntKind.u8.wrap (y:Int)=(y:Int):=by rw[IntKind.wrap_u8];omega
 have hyl:blen y<=8:=blen_le hy;refine i6 ⟨_,rfl⟩ (FB (ZL (s:=len8) (k:= .u8) (m:=y) (vs:=[.string len8,.int .u8 y]) rfl rfl rfl aB (by rw[G2];exact hy)) ?_ ?_)
 ·simp only[rxs,hu8];rfl
 ·rw[G4 hy];refine i6 ⟨_,rfl⟩ (i6 ⟨_,rfl⟩ (Aa ?_ rfl));simp only[rxs,y9];rw[Qj (blen y) aA,F6,Qj (n+blen y) aA,hb]
def GY (x:Nat) (hx:x<18446744073709551616):Det prog 298 [.int .u64 x] (.int .i64 ((64-blen x:Nat):Int)):=by
 have hl:blen x<=64:=blen_le hx;refine Cm mixed A6 aB rfl (Da (ep x hx) rfl (i6 ⟨_,rfl⟩ (Aa ?_ rfl)));simp only[rxs,y9];rw[show(64:Int)-(blen x:Int)=((64-blen x:Nat):Int)from aA,Qj _ aA]
def Xt {a b:Nat} (h:a+b<9223372036854775808):wQ .i64 ((a:Int)+(b:Int))=((a+b:Nat):Int):=by rw[IntKind.wrap_i64];omega
def Kq {a:Nat} (h:a+1<9223372036854775808):wQ .i64 ((a:Int)+1)=((a+1:Nat):Int):=by rw[IntKind.wrap_i64];omega
def GZ {a:Nat} (h:a<9223372036854775808) (hb:1<=a):wQ .i64 ((a:Int)-1)=((a-1:Nat):Int):=by rw[IntKind.wrap_i64];omega
def Kr {z:Int} (h: -9223372036854775808<=z) (h2:z<9223372036854775808):wQ .i64 z=z:=by rw[IntKind.wrap_i64];omega
section
variable {H:PH} {v:Value} {l:List Nat}
def sn (b:Bool) (n:Nat):Int:=if b then -(n:Int)else n
end
open Go.RowKit Go.RX Go.WD
def wu {a:Nat} (h:a<18446744073709551616):wQ .u64 (a:Int)=(a:Int):=by rw[IntKind.wrap_u64];omega
def uvL (d:Nat):Value:= .int .u64 (d:Nat)
def G5 (f:Nat->Value) (d:Nat):Instr.fill (fun j=>some (j*1,1)) ((Array.range (1*1)).map f) [(0,uvL d)]=some #[uvL d]:=by
 rw[E2];simp[Instr.fill,uvL,FD]
def Es (H:PH) (v:Value) (l:List Nat):Prop:=Sl H 1 v l.length (l.map uvL)/\Eg l
def Eo (H0 H:PH) (v:Value) (l:List Nat):Prop:=OwS H0 H 42 1 v l.length (l.map uvL)/\Eg l
def Es.mono {H H':PH} {v:Value} {l:List Nat} (h:Es H v l) (hl:Pl H H'):Es H' v l:=⟨h.1.mono hl,h.2⟩
def Eo.mono {H0 H H':PH} {v:Value} {l:List Nat} (h:Eo H0 H v l) (hl:Pl H H'):Eo H0 H' v l:=⟨h.1.mono hl,h.2⟩
def Eo.es {H0 H:PH} {v:Value} {l:List Nat} (h:Eo H0 H v l):Es H v l:=⟨h.1.sl,h.2⟩
def Mu (H:PH) (v:Value) (n:Nat):Prop:=∃l,Es H v l/\Um l/\ul l=n
def Mu.mono {H H':PH} {v:Value} {n:Nat} (h:Mu H v n) (hl:Pl H H'):Mu H' v n:=by
 obtain⟨l,h1,h2⟩:=h;exact⟨l,h1.mono hl,h2⟩
def Es.cells {H:PH} {v:Value} {l:List Nat} (h:Es H v l):v.cells= #[v]:=by
 obtain⟨⟨_,a,c,h2,_⟩,_⟩:=h;rw[h2];rfl
def Es.one {H:PH} {v:Value} {l:List Nat} (h:Es H v l):v.cells.size=1/\i8 v.cells:=by
 rw[h.cells];obtain⟨⟨_,a,c,h2,_⟩,_⟩:=h;refine⟨rfl,fun c hc=> ?_⟩;simp at hc;rw[hc,h2];rfl
def G6 {l:List Nat} {i:Nat} (h:i<l.length):((l.map uvL).drop (i*1)).take 1=[uvL (l.getD i 0)]:=by
 rw[gB,<-List.map_drop,du h];rfl
def Ub:prog.cellsOf 42=1:=aB
def Ks:r9 prog 42=true:=aB
def HA:p8 prog 42=false:=aB
def Kt:prog.underlying 140=some (.slice 42):=aB
def eq:∃i,prog.info? 42=some i/\i.zero=some (.int .u64 0)/\i.size=1/\i.bytes=8:=by
 refine⟨(prog.info? 42).getD default,aB,aB,aB,aB⟩
section
variable {G Xp:Value->PH->Prop} {nx:List (List Value->PH->Prop)} {ρ:List Value} {H H0:PH} {o o1 o2:Oper} {x y x2 y2:Operand} {id i id2 i2:Nat} {args args2:List SV} {t:Tree} {v:Value} {l:List Nat}
def Ab (ho:o.op= .call ⟨.builtin .len,#[x],#[140]⟩) (hx:e8 [x] [v] x=v) (h:Es H v l) (ha:args.map (D prog ρ)=[v]) (n:den prog G Xp t nx (ρ++[iv l.length]) H):den prog G Xp (.prim id i o args t) nx ρ H:=
 j6 ((qz ho hx Kt h.1).rds H) ha n
def Dc {k:IntKind} {j:Nat} (sY:o1.op= .indexAddr 140 x y) (sZ:o2.op= .load 42 x2) (hx:e8 [x,y] [v,.int k (j:Nat)] x=v) (hy:e8 [x,y] [v,.int k (j:Nat)] y= .int k (j:Nat)) (rA:∀p,e8 [x2] [p] x2=p) (h:Es H v l) (hj:j<l.length)
  (ha:args.map (D prog ρ)=[v,.int k (j:Nat)]) (rY:∀p,args2.map (D prog (ρ++[p]))=[p]) (n:∀p,den prog G Xp t nx (ρ++[p]++[uvL (l.getD j 0)]) H):den prog G Xp (.prim id i o1 args (.prim id2 i2 o2 args2 t)) nx ρ H:=by
 obtain⟨b,q,cs,T',fz,h1,h2,h3,h4⟩:=rh (P:=prog) sY hx hy Kt Ks Ub Nat.zero_lt_one h.1 hj;rw[G6 hj]at h4;exact j6 (h1.rds H) ha (j6 (rj sZ (rA _) h2 Ks HA Ub h3 h4) (rY _) (n _))
def Ku {k:IntKind} {j d:Nat} {pf:Bool} (sY:o1.op= .indexAddr 140 x y) (sZ:o2.op= .store 42 x2 y2) (hx:e8 [x,y] [v,.int k (j:Nat)] x=v) (hy:e8 [x,y] [v,.int k (j:Nat)] y= .int k (j:Nat)) (rA:∀p,e8 [x2,y2] [p,uvL d] x2=p) (zX:∀p,e8 [x2,y2] [p,uvL d] y2=uvL d)
  (oW:Pl H0 H) (h:Eo H0 H v l) (hj:j<l.length) (hd:d<18446744073709551616) (ha:args.map (D prog ρ)=[v,.int k (j:Nat)]) (rY:∀p,args2.map (D prog (ρ++[p]))=[p,uvL d]) (sF:pf=false)
  (n:∀p u H',Pl H0 H'->Eo H0 H' v (l.set j d)->(∃g ob,H0 g=none/\H'=H.put g ob)->den prog G Xp t nx (ρ++[p]++[u]) H'):den prog G Xp (.prim id i o1 args (.eff pf id2 i2 o2 args2 t)) nx ρ H:=by
 obtain⟨⟨pB,hv⟩,hD⟩:=h;rcases hv with⟨_,h0⟩|⟨g,cap,cur,rfl,rI,hg,zU,yB,pM,wH⟩
 ·omega
 rw[gB]at pM wH;have wV:=de (P:=prog) (m:=(j:Int)) (n:=l.length) sY hx hy Kt Ks aA aA;rw[bO,Ub,bP,gB]at wV;refine j6 (wV.rds H) ha (j4 (Ta sZ (rA _) (zX _) hg Ks (by rw[Ub];omega) (by rw[Ub];rfl) (rn _ _)) (rY _) ?_);rintro u H' ⟨rfl,rfl⟩;subst sF;have rZ:(uvL d).cells.toList=[uvL d]:=rfl;rw[rZ];refine⟨fun h=>(nomatch h),n _ _ _ ?_ ⟨⟨aD,.inr ⟨g,cap,_,by rw[cD],rI,PH.put_self _ _ _,by rw[cD];exact zU,yB,?_,?_⟩⟩,hD.set j hd⟩ ⟨g,_,rI,rfl⟩⟩
 ·intro k ob hk;rw[PH.put_ne _ _ (fun e=>by rw[e,rI]at hk;cases hk)];exact oW _ _ hk
 ·show(cur.setIfInBounds j (uvL d)).size=_;rw[Array.size_setIfInBounds,pM,gB]
 ·show(cur.setIfInBounds j (uvL d)).toList.take _=_;rw[Array.toList_setIfInBounds,gB,cD,List.take_set,wH,List.map_set]
def HB {g n:Nat} {cs:Array Value} {l:List Nat} (hg:H g=none) (hl:l.length=n) (hn:n<=maxLen) (hc:cs.toList=l.map uvL) (hD:Eg l):Eo H (H.put g (.cells cs 42 (0,0))) (.slice (some ⟨g,0,none⟩) n n) l:=by
 have hs:cs.size=n:=by rw[<-bU,hc,aW,hl]
 refine⟨⟨aD,.inr ⟨g,n,cs,by rw[hl],hg,PH.put_self _ _ _,aA,hn,aA,?_⟩⟩,hD⟩;rw[hc,aI aD]
def Xu {kl kc:IntKind} {pf:Bool} {m:Nat} (ho:o.op= .makeSlice 140 x y) (hx:e8 [x,y] [.int kl (m:Nat),.int kc (m:Nat)] x= .int kl (m:Nat)) (hy:e8 [x,y] [.int kl (m:Nat),.int kc (m:Nat)] y= .int kc (m:Nat)) (hm:m<=1000000) (ha:args.map (D prog ρ)=[.int kl (m:Nat),.int kc (m:Nat)])
  (n:∀v H',Pl H H'->Eo H H' v (List.replicate m 0)->den prog G Xp t nx (ρ++[v]) H'):den prog G Xp (.eff pf id i o args t) nx ρ H:=by
 obtain⟨ti,h1,h2,h3,h4⟩:=eq;refine j4 (rk ho hx hy Kt h1 h2 h3 (by rw[h4];omega) (by simp only[maxLen];omega)) ha ?_;rintro v H' ⟨g,hg,rfl,rfl⟩;refine⟨fun _=>PH.le_put hg _,n _ _ (PH.le_put hg _) (HB hg aD (by simp only[maxLen];omega) ?_ (Eg.zeros m))⟩;rw[gB];show(madeCells #[.int .u64 0] m).toList=_;apply bG;intro j;rw[aY,cZ];simp only[madeCells,dO,aY,Array.toList_range];by_cases hj:j<m
 ·simp[hj,Nat.mod_one,uvL]
 ·simp[hj]
def HC {d:Nat} {pf:Bool} (ho:o.op= .buildSlice 140 1 #[(0,x)]) (hx:e8 [x] [uvL d] x=uvL d) (hd:d<18446744073709551616) (ha:args.map (D prog ρ)=[uvL d])
  (n:∀v H',Pl H H'->Eo H H' v [d]->den prog G Xp t nx (ρ++[v]) H'):den prog G Xp (.eff pf id i o args t) nx ρ H:=by
 obtain⟨ti,h1,h2,h3,h4⟩:=eq;refine j4 (rl (cells:= #[uvL d]) ho Kt h1 h2 (by rw[h3];decide) (by rw[h3];decide) (by rw[h3];simp only[aU,cN,hx];exact G5 _ d)) ha ?_;rintro v H' ⟨g,hg,rfl,rfl⟩;exact⟨fun _=>PH.le_put hg _,n _ _ (PH.le_put hg _) (HB hg rfl (by simp only[maxLen];omega) rfl (Eg.one hd))⟩
end
def G7:g6 prog [] [] [⟨3,2,[17],[]⟩,⟨0,2,[],[]⟩] [] 133=some (.pm f133 1 1 [V1]
(.loop [V2]
(.join 1
(.ri V3
(.br (.io .gtr V3 (.ki 0))
(.pm f133 2 6 [V1,(.io .sub V3 (.ki 1))]
(.pm f133 2 7 [V4]
(.ru V5
(.next 1 [(.uo .eql V5 (kU 0))])))) (.next 1 [(.k (.bool false))]))) (.rq (.bool V4) (.br V4
(.ri V3
(.next 0 [(.io .sub V3 (.ki 1))])) (.rq (.bool V0) (.br V0
(.ri V3
(.pm f133 4 7 [V1,V3]
(.rq (.cells 1 V5) (.ret [(.cat (.io .gtr V3 (.ki 0)) 1 V5)]))))
(.pm f133 4 7 [V1,V3]
(.rq (.cells 1 V5) (.ret [(.cat (.k (.bool false)) 1 V5)])))))))))):=aB
def G8:(opr f133 4 7).op= .slice 140 (.tmp 25) none (some (.tmp 26)) none:=aB
def G9:g6 prog [3] [] [] [⟨2,[0,1,0,0,8,28,63,127],rDx 8 62211211,rPx 7 0++[1],rDx 7 6524310,[7]⟩] 84=some (.rq (.cells 8 V0) (.call false 98 [(.ag V0)]
(.pub 182 (.z 182)
(.ef false f84 1 3 [V2,V1]
(.pm f84 2 0 [V2]
(.pm f84 2 1 [V4]
(.pm f84 2 3 [V2]
(.pm f84 2 4 [V6]
(.ef true f84 2 2 []
(.ef true f84 2 5 [V8,V7]
(.call true 133 [V5,V9]
(.rq (.cells 2 V10) (.ret [(.ag V10)]))))))))))))):=aB
def I0:g6 prog [] [] [] [] 81=some (.call false 26 [V0]
(.call false 84 [V1]
(.rq (.cells 2 V2) (.ret [(.ag V2)])))):=aB
def I1:g6 prog [4] [] [] [⟨4,[0,1,0,4,15],[1,1,1,1,4],[0,0,0,0,0],[0,1,2,3],[4]⟩] 85=some (.rq (.cells 2 V0)
(.pm f85 1 2 [(.cell V0 1 0 noI)]
(.ri V1
(.br (.io .gtr V1 (.ki 8)) (.ret [(.z 44),(.ki 6)]) (.rq (.cells 1 (.cell V0 0 0 noI)) (.pub 182 (.z 182)
(.ef false f85 3 4 [V2,(.cat (.cell V0 0 0 noI) 1 (.z 180))]
(.pm f85 4 0 [V2]
(.pm f85 4 1 [V4]
(.ef false f85 4 4 [V5,(.cell V0 1 0 noI)]
(.pm f85 5 0 [V2]
(.call false 99 [V7]
(.rq (.tup 0 V8) (.rq (.tup 1 V8) (.rq (.cells 8 (.pj V8 0)) (.ret [(.ag (.pj V8 0)),(.pj V8 1)])))))))))))))))):=aB
def I2:(opr f85 3 4).op= .store 182 (.tmp 4) (.tmp 12):=aB
def I3:g6 prog [] [] [⟨0,4,[],[]⟩] [⟨6,[0,0,3,7,0,0,48,112,255,511],rDx 10 11001100,rPx 10 0,rAx 0 10,[]⟩,⟨8,[0,0,3,7,0,0,48,112,255,511],rDx 10 11001100,rPx 10 0,rAx 0 10,[]⟩] 174=some (.pm f174 1 1 [V0]
(.pm f174 1 3 [V1]
(.ri V2
(.ri V3
(.br (.io .neq V2 V3)
(.pm f174 2 1 [V0]
(.pm f174 2 3 [V1]
(.ri V4
(.ri V5
(.ret [(.io .sub V4 V5)])))))
(.pm f174 3 1 [V0]
(.ri V4
(.loop [(.ki 0),(.io .sub V4 (.ki 1))]
(.ri V6
(.br (.io .geq V6 (.ki 0))
(.pm f174 6 2 [V0,V6]
(.pm f174 6 3 [V7]
(.pm f174 6 6 [V1,V6]
(.pm f174 6 7 [V9]
(.ru V8
(.ru V10
(.br (.uo .lss V8 V10) (.ret [(kI (-1))])
(.pm f174 8 2 [V0,V6]
(.pm f174 8 3 [V11]
(.pm f174 8 6 [V1,V6]
(.pm f174 8 7 [V13]
(.ru V12
(.ru V14
(.br (.uo .gtr V12 V14) (.ret [(.ki 1)]) (.next 0 [V5,(.io .sub V6 (.ki 1))]))))))))))))))) (.ret [(.ki 0)]))))))))))):=aB
def I4:g6 prog [] [] [⟨2,14,[0,1],[]⟩,⟨2,31,[9],[]⟩,⟨0,6,[],[]⟩] [] 173=some (.pm f173 1 1 [V0]
(.pm f173 1 3 [V1]
(.ri V2
(.ri V3
(.join 2
(.br (.io .lss V2 V3) (.next 0 [V1,V0]) (.next 0 [V0,V1]))
(.pm f173 3 1 [V4]
(.ri V6
(.ef false f173 3 3 [(.io .add V6 (.ki 1)),(.io .add V6 (.ki 1))]
(.pm f173 5 1 [V4]
(.loop [(kU 0),(.ki 0)]
(.ri V10
(.ri V8
(.br (.io .lss V10 V8)
(.pm f173 7 1 [V4,V10]
(.pm f173 7 2 [V11]
(.pm f173 9 2 [V5]
(.ri V13
(.join 1
(.br (.io .lss V10 V13)
(.pm f173 10 2 [V5,V10]
(.pm f173 10 3 [V14]
(.next 1 [V15]))) (.next 1 [(kU 0)])) (.ext 201 [V12,V14,V9]
(.rq (.tup 0 V15) (.rq (.tup 1 V15)
(.pm f173 11 9 [V7,V10]
(.ef false f173 11 10 [V16,(.pj V15 0)]
(.next 0 [(.pj V15 1),(.io .add V10 (.ki 1))])))))))))))
(.pm f173 13 2 [V4]
(.pm f173 13 4 [V7,V11]
(.ef false f173 13 5 [V12,V9]
(.ret [V7]))))))))))))))))):=aB
def I5:g6 prog [] [] [⟨2,23,[9],[]⟩,⟨0,4,[],[]⟩] [] 175=some (.pm f175 1 1 [V0]
(.ef false f175 1 2 [V2,V2]
(.pm f175 3 1 [V0]
(.loop [(kU 0),(.ki 0)]
(.ri V6
(.ri V4
(.br (.io .lss V6 V4)
(.pm f175 5 1 [V0,V6]
(.pm f175 5 2 [V7]
(.pm f175 7 2 [V1]
(.ri V9
(.join 1
(.br (.io .lss V6 V9)
(.pm f175 8 2 [V1,V6]
(.pm f175 8 3 [V10]
(.next 1 [V11]))) (.next 1 [(kU 0)])) (.ext 221 [V8,V10,V5]
(.rq (.tup 0 V11) (.rq (.tup 1 V11)
(.pm f175 9 9 [V3,V6]
(.ef false f175 9 10 [V12,(.pj V11 0)]
(.next 0 [(.pj V11 1),(.io .add V6 (.ki 1))]))))))))))) (.ret [V3])))))))):=aB
def I6:g6 prog [] [] [⟨0,3,[],[]⟩,⟨0,7,[],[]⟩] [] 134=some (.pm f134 1 1 [V0]
(.pm f134 1 3 [V1]
(.ri V2
(.ri V3
(.ef false f134 1 5 [(.io .add V2 V3),(.io .add V2 V3)]
(.pm f134 2 1 [V0]
(.loop [(.ki 0)]
(.ri V6
(.ri V5
(.br (.io .lss V6 V5)
(.pm f134 4 1 [V0,V6]
(.pm f134 4 2 [V7]
(.pm f134 6 1 [V1]
(.loop [(kU 0),(.ki 0)]
(.ri V11
(.ri V9
(.br (.io .lss V11 V9)
(.pm f134 8 1 [V1,V11]
(.pm f134 8 2 [V12]
(.call false 200 [V8,V13]
(.rq (.tup 0 V14) (.rq (.tup 1 V14)
(.pm f134 10 4 [V4,(.io .add V6 V11)]
(.pm f134 10 5 [V15]
(.ext 201 [V16,(.pj V14 1),(kU 0)]
(.rq (.tup 0 V17) (.rq (.tup 1 V17) (.ext 201 [(.pj V17 0),V10,(kU 0)]
(.rq (.tup 0 V18) (.rq (.tup 1 V18) (.rq (.int .u64 (.pj V14 0)) (.rq (.int .u64 (.pj V17 1)) (.rq (.int .u64 (.pj V18 1))
(.pm f134 12 10 [V4,(.io .add V6 V11)]
(.ef false f134 12 11 [V19,(.pj V18 0)]
(.next 1 [(.uo .add (.uo .add (.pj V14 0) (.pj V17 1)) (.pj V18 1)),(.io .add V11 (.ki 1))])))))))))))))))))))
(.pm f134 14 3 [V1]
(.ri V12
(.pm f134 14 6 [V4,(.io .add V6 V12)]
(.ef false f134 14 7 [V13,V10]
(.next 0 [(.io .add V6 (.ki 1))])))))))))))) (.ret [V4]))))))))))):=aB
def I7:g6 prog [] [] [] [] 260=some (.pm f260 1 1 [V0]
(.ri V1
(.br (.io .eql V1 (.ki 0)) (.ret [(.ki 0)])
(.pm f260 3 1 [V0]
(.ri V2
(.pm f260 3 5 [V0]
(.ri V3
(.pm f260 3 7 [V0,(.io .sub V3 (.ki 1))]
(.pm f260 3 8 [V4]
(.call false 298 [V5]
(.ri V6
(.ret [(.io .sub (.io .mul (.ki 64) V2) V6)])))))))))))):=aB
@[reducible] def tf:SV:= .io .add V5 (.io .quo V1 (.ki 64))
def I8:g6 prog [] [] [⟨0,3,[],[]⟩] [⟨5,[0,0,0,4,14,31,63,0,0,256,896,2047,4095,8191],rDx 12 1100000++[1,4],rPx 14 0,rAx 0 13,[13]⟩] 261=some (.pm f261 1 1 [V0]
(.ri V1
(.ri V2
(.ef false f261 1 6 [(.io .add (.io .add V2 (.io .quo V1 (.ki 64))) (.ki 1)),(.io .add (.io .add V2 (.io .quo V1 (.ki 64))) (.ki 1))]
(.pm f261 2 1 [V0]
(.loop [(.ki 0)]
(.ri V5
(.ri V4
(.br (.io .lss V5 V4)
(.pm f261 4 1 [V0,V5]
(.pm f261 4 2 [V6]
(.pm f261 5 5 [V3,tf]
(.pm f261 5 6 [V8]
(.ru V7
(.rq (.nn (.io .rem V1 (.ki 64)))
(.ru V9
(.pm f261 5 12 [V3,tf]
(.ef false f261 5 13 [V10,(.uo .or V9 (.uo .shl V7 (.io .rem V1 (.ki 64))))]
(.br (.io .gtr (.io .rem V1 (.ki 64)) (.ki 0)) (.rq (.nn (.io .sub (.ki 64) (.io .rem V1 (.ki 64))))
(.pm f261 7 11 [V3,(.io .add tf (.ki 1))]
(.ef false f261 7 12 [V12,(.uo .shr V7 (.io .sub (.ki 64) (.io .rem V1 (.ki 64))))]
(.next 0 [(.io .add V5 (.ki 1))])))) (.next 0 [(.io .add V5 (.ki 1))]))))))))))) (.call false 133 [(.k (.bool false)),V3]
(.rq (.agg 2 V6) (.ret [(.cell V6 1 0 noI)])))))))))))):=aB
def I9:g6 prog [] [] [⟨0,5,[],[]⟩,⟨0,11,[],[]⟩] [⟨7,rPx 5 0++[24,56,0,128,384,1020,2044,4092,4092,8191,24575,65535],rDx 17 4100021101100000,rPx 17 0,rAx 0 15,[15,16]⟩,⟨16,[0,0,2,7,15,0,32,96,255,511,1023],rDx 9 11000++[1,4],rPx 11 0,rAx 0 10,[10]⟩] 222=some (.pm f222 1 1 [V0]
(.ef false f222 1 2 [V2,V2]
(.pm f222 2 1 [V1]
(.ri V4
(.br (.io .eql V4 (.ki 1))
(.pm f222 4 1 [V0]
(.ri V5
(.loop [(kU 0),(.io .sub V5 (.ki 1))]
(.ri V7
(.br (.io .geq V7 (.ki 0))
(.pm f222 7 5 [V0,V7]
(.pm f222 7 6 [V8]
(.pm f222 7 8 [V1,(.ki 0)]
(.pm f222 7 9 [V10]
(.call true 259 [V6,V9,V11]
(.rq (.tup 0 V12) (.rq (.tup 1 V12)
(.pm f222 7 14 [V3,V7]
(.ef false f222 7 15 [V13,(.pj V12 0)]
(.next 0 [(.pj V12 1),(.io .sub V7 (.ki 1))]))))))))))
(.ef false f222 8 2 [V6]
(.call false 133 [(.k (.bool false)),V8]
(.rq (.agg 2 V9) (.ret [V3,(.cell V9 1 0 noI)]))))))))) (.call false 260 [V0]
(.call false 260 [V1]
(.ri V5
(.ri V6
(.loop [V0,(.io .sub V5 V6)]
(.ri V8
(.br (.io .geq V8 (.ki 0)) (.call false 261 [V1,V8]
(.call false 174 [V7,V9]
(.ri V10
(.br (.io .geq V10 (.ki 0)) (.call false 175 [V7,V9]
(.call false 133 [(.k (.bool false)),V11]
(.rq (.agg 2 V12)
(.pm f222 16 3 [V3,(.io .quo V8 (.ki 64))]
(.pm f222 16 4 [V13]
(.rq (.nn (.io .rem V8 (.ki 64)))
(.ru V14
(.pm f222 16 9 [V3,(.io .quo V8 (.ki 64))]
(.ef false f222 16 10 [V15,(.uo .or V14 (.uo .shl (kU 1) (.io .rem V8 (.ki 64))))]
(.next 0 [(.cell V12 1 0 noI),(.io .sub V8 (.ki 1))])))))))))) (.next 0 [V7,(.io .sub V8 (.ki 1))]))))) (.ret [V3,V7]))))))))))))):=aB
def J0:g6 prog [] [] [] [] 154=some (.rq (.cells 2 V0) (.rq (.bool (.cell V0 0 0 noI)) (.call false 133 [(.nt (.cell V0 0 0 noI)),(.cell V0 1 0 noI)]
(.rq (.cells 2 V1) (.ret [(.ag V1)]))))):=aB
def J1:g6 prog [] [] [] [⟨2,[0,1,0,4,0,16,60,127,255],rDx 9 622111111,rPx 8 0++[2],rAx 0 8,[8]⟩,⟨5,[0,1,0,4,0,16,60,127,255],rDx 9 622111111,rPx 8 0++[2],rAx 0 8,[8]⟩] 115=some (.rq (.cells 2 V0) (.rq (.cells 2 V1) (.rq (.bool (.cell V0 0 0 noI)) (.rq (.bool (.cell V1 0 0 noI)) (.br (.eqb false (.cell V0 0 0 noI) (.cell V1 0 0 noI)) (.call true 173 [(.cell V0 1 0 noI),(.cell V1 1 0 noI)]
(.call true 133 [(.cell V0 0 0 noI),V2]
(.rq (.cells 2 V3) (.ret [(.ag V3)])))) (.call false 174 [(.cell V0 1 0 noI),(.cell V1 1 0 noI)]
(.ri V2
(.br (.io .lss V2 (.ki 0)) (.call true 175 [(.cell V1 1 0 noI),(.cell V0 1 0 noI)]
(.call true 133 [(.cell V1 0 0 noI),V3]
(.rq (.cells 2 V4) (.ret [(.ag V4)])))) (.call true 175 [(.cell V0 1 0 noI),(.cell V1 1 0 noI)]
(.call true 133 [(.cell V0 0 0 noI),V3]
(.rq (.cells 2 V4) (.ret [(.ag V4)])))))))))))):=aB
def J2:g6 prog [] [] [] [⟨1,[0,0,2,7,15],[5,5,2,2,6],[0,1,0,0,2],[0,1,2,3],[4]⟩] 172=some (.rq (.cells 2 V0) (.rq (.cells 2 V1) (.call true 154 [(.ag V1)]
(.call true 115 [(.ag V0),V2]
(.rq (.cells 2 V3) (.ret [(.ag V3)])))))):=aB
def J3:g6 prog [] [] [] [⟨1,[0,1,0,4,15,0,32,0,128,480,1023,2047],rDx 12 622111101111,rPx 11 0++[2],rAx 0 11,[11]⟩] 83=some (.rq (.cells 2 V0) (.rq (.cells 2 V1) (.rq (.bool (.cell V0 0 0 noI)) (.rq (.bool (.cell V1 0 0 noI)) (.call true 134 [(.cell V0 1 0 noI),(.cell V1 1 0 noI)]
(.call true 133 [(.eqb true (.cell V0 0 0 noI) (.cell V1 0 0 noI)),V2]
(.rq (.cells 2 V3) (.ret [(.ag V3)])))))))):=aB
def J4:g6 prog [] [] [] [⟨2,[0,1,0,4,15,0,63,0,128,0,1023,2047,4095],rDx 13 6620112001111,rPx 11 0++[2,3],rAx 0 6++[7,8,9,6,10],[11,12]⟩,⟨8,[0,0,1,7],[5,5,6,6],[2,3,2,3],[0,1],[2,3]⟩] 153=some (.rq (.cells 2 V0) (.rq (.cells 2 V1) (.call false 222 [(.cell V0 1 0 noI),(.cell V1 1 0 noI)]
(.rq (.tup 0 V2) (.rq (.tup 1 V2) (.rq (.bool (.cell V0 0 0 noI)) (.rq (.bool (.cell V1 0 0 noI)) (.call true 133 [(.eqb true (.cell V0 0 0 noI) (.cell V1 0 0 noI)),(.pj V2 0)]
(.call true 133 [(.cell V0 0 0 noI),(.pj V2 1)]
(.rq (.cells 2 V3) (.rq (.cells 2 V4) (.rq (.bool (.cell V4 0 0 noI)) (.br (.cell V4 0 0 noI) (.rq (.cells 1 (.cell V1 1 0 noI)) (.call false 115 [(.ag V4),(.cat (.z 4) 1 (.cell V1 1 0 noI))]
(.rq (.cells 2 V5)
(.ef false f153 6 3 [(kU 1)]
(.rq (.cells 1 V6) (.call false 115 [(.ag V3),(.cat (.nt (.cell V1 0 0 noI)) 1 V6)]
(.rq (.cells 2 V7) (.ret [(.ag V7),(.ag V5)])))))))) (.ret [(.ag V3),(.ag V4)])))))))))))))):=aB
def J5:g6 prog [] [] [⟨0,2,[],[]⟩] [⟨1,[0,1,0,4,3,31],[1,1,1,1,0,0],[0,0,0,0,0,0],[0,1,2,3,4,5],[]⟩] 152=some (.rq (.cells 2 V0) (.rq (.cells 2 V1) (.loop [(.cell V0 1 0 noI),(.cell V1 1 0 noI)]
(.pm f152 2 1 [V3]
(.ri V4
(.br (.io .gtr V4 (.ki 0)) (.call false 222 [V2,V3]
(.rq (.tup 0 V5) (.rq (.tup 1 V5) (.next 0 [V3,(.pj V5 1)])))) (.rq (.cells 1 V2) (.ret [(.cat (.z 4) 1 V2)])))))))):=aB
def J6:g6 prog [] [] [] [] 169=some (.rq (.cells 2 V0) (.rq (.bool (.cell V0 0 0 noI)) (.br (.cell V0 0 0 noI) (.ret [(kI (-1))])
(.pm f169 3 2 [(.cell V0 1 0 noI)]
(.ri V1
(.br (.io .eql V1 (.ki 0)) (.ret [(.ki 0)]) (.ret [(.ki 1)]))))))):=aB
def J7:g6 prog [] [] [] [] 114=some (.rq (.cells 2 V0) (.rq (.cells 2 V1) (.call false 172 [(.ag V0),(.ag V1)]
(.call false 169 [V2]
(.ret [V3]))))):=aB
def Xv (a s:Nat) (h:s<=64):wQ .u64 ((a:Int)*2^min s (IntKind.bits .u64))=((a*2^s%18446744073709551616:Nat):Int):=by
 rw[show min s (IntKind.bits .u64)=s from cH h,show(2:Int)^s=((2^s:Nat):Int)from aD,Ns,GU]
def Fa (a b:Nat) (h:b<=a) (ha:a<18446744073709551616):wQ .u64 ((a:Int)-(b:Int))=((a-b:Nat):Int):=by
 rw[show(a:Int)-(b:Int)=((a-b:Nat):Int)from aA,Aj _ aA]
def tn (a b:Nat) (ha:a<18446744073709551616):wQ .u64 ((a:Int).tdiv (b:Int))=((a/b:Nat):Int):=by
 rw[<-nL,Aj];exact aR (Nat.div_le_self _ _) ha
def qt (u n y1 y0:Nat):Nat:=(u*4294967296+n)/(y1*4294967296+y0)
section
variable {y1 y0 u n q r:Nat}
def er (hy:y1<4294967296) (h0:y0<4294967296) (hp:0<y1) (hu:u=q*y1+r) (hQ:qt u n y1 y0<q) (hq:q<=4294967297):u=(q-1)*y1+(r+y1)/\qt u n y1 y0<=q-1/\(4294967296<=r+y1->q-1=qt u n y1 y0):=by
 obtain⟨p,rfl⟩:∃p,q=p+1:=⟨q-1,aA⟩;have e:u=p*y1+(r+y1):=by rw[hu,cM,cL];omega
 refine⟨e,aA,fun hb=> ?_⟩;have h1:p<=qt u n y1 y0:=td (n:=n) (y0:=y0) e hp (by
  have:p*y0<=4294967296*4294967295:=eC aA aA;omega)
 show p=_;omega
end
def HD {q r y0 n:Nat} (hq:q<4294967296) (hr:r<4294967296) (h0:y0<4294967296) (hn:n<4294967296):q*y0<18446744073709551616/\4294967296*r<18446744073709551616/\4294967296*r+n<18446744073709551616:=by
 have:=eC (show q<=4294967295 by omega) (show y0<=4294967295 by omega);omega
def HE {u n q y:Nat} (oW:q*y<=u*4294967296+n) (oV:u*4294967296+n-q*y<18446744073709551616):wQ .u64 (wQ .u64 (wQ .u64 (((u*4294967296:Nat):Int))+(n:Int))-wQ .u64 ((q*y:Nat):Int))=((u*4294967296+n-q*y:Nat):Int):=by
 simp only[IntKind.wrap_u64];omega
def HF {a c:Nat} (ha:a<4294967296) (hc:c<4294967296):a*4294967296<18446744073709551616/\a*4294967296+c<18446744073709551616:=aA
def J8 (u n1 n0:Nat):u*18446744073709551616+(n1*4294967296+n0)=(u*4294967296+n1)*4294967296+n0:=aA
def b32:(4294967296:Int)=((4294967296:Nat):Int):=rfl
def one1:(1:Int)=((1:Nat):Int):=rfl
set_option maxHeartbeats 4000000 in
def J9 (hi lo y:Nat) (xG:hi<y) (yD:lo<18446744073709551616) (hy:y<18446744073709551616):Det prog 259 [.int .u64 hi,.int .u64 lo,.int .u64 y] (.tuple #[.int .u64 (((hi*18446744073709551616+lo)/y:Nat):Int),.int .u64 (((hi*18446744073709551616+lo)%y:Nat):Int)]):=by
 refine Cm mixed A4 aB rfl (i6 ⟨_,rfl⟩ (i6 ?_ (i6 ⟨_,rfl⟩ (i6 ?_ ?_))))
 ·show Value.bool ((y:Int)==0)= .bool false;congr 1;simp;omega
 ·show Value.bool (decide ((y:Int)<=(hi:Int)))= .bool false;congr 1;simp;omega
 refine Af (b:=decide (hi=0)) ?_ (fun h=> ?_) (fun h=> ?_)
 ·show Value.bool ((hi:Int)==0)=_;congr 1;rw[bS];simp
 ·have h:=oDt h;subst h;refine i6 ⟨_,rfl⟩ (i6 ?_ (Aa ?_ rfl))
  ·show(y:Int)≠0;omega
  ·simp only[rxs,y9,tn lo y yD,bY,bP,<-nM]
 have h:=oDf h;obtain⟨l0,l1⟩:=Xr (x:=y) aA;have l2:=Xq y;have l3:blen y<=64:=blen_le hy;obtain⟨s,hs⟩:∃s,s=64-blen y:=⟨_,rfl⟩;have vO:s<=63:=aA;have tJ:0<2^s:=iW aA;have hlz:=GY y hy;rw[<-hs]at hlz;have hY1:y*2^s<18446744073709551616:=by
  have:=Nat.mul_lt_mul_of_lt_of_le l2 (aS (2^s)) tJ
  rwa[<-gJ,show blen y+s=64 from aA]at this
 have hY0:9223372036854775808<=y*2^s:=by
  have:=bQ (2^s) l1
  rwa[<-gJ,show blen y-1+s=63 from aA]at this
 have hH:hi*2^s+2^s<=y*2^s:=by
  have:=bQ (2^s) xG
  rwa[Nat.succ_mul]at this
 have hL:=GT yD (r:=s) aA;have hU:(hi*18446744073709551616+lo)*2^s=(hi*2^s+lo/2^(64-s))*18446744073709551616+lo*2^s%18446744073709551616:=by
  have e1:lo*2^s/18446744073709551616=lo/2^(64-s):=by
   rw[ei (r:=s) aA,lS _ _ tJ]
  have e2:=Nat.div_add_mod (lo*2^s) 18446744073709551616;rw[e1]at e2;rw[cM,cM,mL];omega
 have yX:=cO (lo*2^s) (show 0<18446744073709551616 by omega);have uT:(hi*2^s%18446744073709551616)|||(lo/2^(64-s))=hi*2^s+lo/2^(64-s):=by
  rw[eH aA,GR hL]
 generalize hYd:y*2^s=Y at hY1 hY0 hH;generalize hUd:hi*2^s+lo/2^(64-s)=u at hU uT;have huY:u<Y:=aA;generalize uE:lo*2^s%18446744073709551616=n at hU yX;have hYs:Y/4294967296*4294967296+Y%4294967296=Y:=aA;have a0j:2147483648<=Y/4294967296:=aA;have uJ:Y/4294967296<4294967296:=aA;have uK:Y%4294967296<4294967296:=cO _ aA;generalize a1s:Y/4294967296=y1 at hYs a0j uJ;generalize a3l:Y%4294967296=y0 at hYs uK;have yA:n/4294967296<4294967296:=aA;have sP:n%4294967296<4294967296:=cO _ aA;generalize a3m:n/4294967296=n1 at yA;generalize a3n:n%4294967296=n0 at sP;have hnn:n=n1*4294967296+n0:=aA;have hcv:wQ .u64 (s:Int)=(s:Int):=Aj s aA;have sA:wQ .u64 ((64:Int)-(s:Int))=((64-s:Nat):Int):=by
  rw[show(64:Int)-(s:Int)=((64-s:Nat):Int)from aA,Aj _ aA]
 have a3o:=tn u y1 aA;refine Da hlz rfl (i6 ⟨_,rfl⟩ (i6 ?_ (i6 ⟨_,rfl⟩ (i6 ?_ (i6 ?_ ?_)))))
 ·show(0:Int)<=wQ .u64 (s:Int);rw[hcv];omega
 ·show(0:Int)<=wQ .u64 (64-wQ .u64 (s:Int));rw[hcv,sA];omega
 ·simp only[Rq.holds,rxs,hcv,Xv y s aA,hYd,eH hY1,ek,a1s];omega
 have a1t:∀a,a-a/y1*y1=a%y1:=fun a=>by have:=iH a y1;omega
 have yE:∀a,a/y1*y1<=a:=fun a=>Nat.div_mul_le_self a y1;refine⟨fun l=>l=[.int .u64 (Y:Nat),.int .u64 (s:Nat),.int .u64 (y1:Nat),.int .u64 (y0:Nat),.int .u64 (u:Nat),.int .u64 (n1:Nat),.int .u64 (n0:Nat),.int .u64 ((u/y1:Nat):Int),.int .u64 ((u%y1:Nat):Int)],?_,?_⟩
 ·have a1u:=tc (hi*2^s%18446744073709551616) (lo/2^(64-s)) (cO _ aA) (aM hL (by rw[Kp];exact bB aA aA));rw[uT]at a1u;have hm:=Aj (u/y1*y1) (by have:=yE u;omega);have zY:=Fa u (u/y1*y1) (yE u) aA;rw[a1t]at zY;simp only[pd,cU,lY,rxs,hcv,sA,Xv y s aA,Xv hi s aA,Xv lo s aA,hYd,eH hY1,ek,a1s,Xo Y hY1,a3l,Tz lo (64-s) aA,a1u,uE,Xo n yX,a3m,a3n,a3o,Ns,hm,zY]
 rintro vals-rfl;simp only[cA,nA];refine⟨fun l=>l=[.int .u64 (qt u n1 y1 y0:Nat)],?_,?_⟩
 ·refine⟨fun l=>∃q r,l=[.int .u64 (q:Nat),.int .u64 (r:Nat)]/\u=q*y1+r/\qt u n1 y1 y0<=q/\q<=4294967297/\r<4294967296,fun l=>(intOf (l.getD 0 undef)).toNat,⟨u/y1,u%y1,rfl,(iH _ _).symm,GP yA aA,GQ a0j aA uK,aM (cO _ aA) (nX uJ)⟩,?_⟩;rintro vals-⟨q,r,rfl,hu,hQ,hq,hr⟩;simp only[cA,nA];have hQb:qt u n1 y1 y0<4294967296:=eh yA aA;refine i6 ⟨_,rfl⟩ (Af (b:=decide (4294967296<=q)) ?_ (fun h=> ?_) (fun h=> ?_))
  ·simp only[rxs];congr 1;rw[bS,oDi,oDi];omega
  ·have h:=oDt h;have oV:qt u n1 y1 y0<q:=aA;obtain⟨d1,d2,d3⟩:=er (n:=n1) uJ uK aA hu oV hq;refine i6 ⟨_,rfl⟩ (i6 ⟨_,rfl⟩ (Af (b:=decide (4294967296<=r+y1)) ?_ (fun h2=> ?_) (fun h2=> ?_)))
   ·simp only[rxs,Gq,Aj (r+y1) aA];congr 1;rw[bS,oDi,oDi];omega
   ·have h2:=oDt h2;show[Value.int .u64 (wQ .u64 ((q:Int)-1))]=_;rw[one1,Fa q 1 aA aA,d3 h2]
   ·have h2:=oDf h2;refine⟨⟨q-1,r+y1,?_,d1,d2,aA,aA⟩,?_⟩
    ·show[Value.int .u64 (wQ .u64 ((q:Int)-1)),Value.int .u64 (wQ .u64 ((r:Int)+(y1:Int)))]=_;rw[one1,Fa q 1 aA aA,Gq,Aj (r+y1) aA]
    ·show(intOf (Value.int .u64 (wQ .u64 ((q:Int)-1)))).toNat<(intOf (Value.int .u64 (q:Nat))).toNat;rw[one1,Fa q 1 aA aA];simp only[intOf];omega
  ·have h:=oDf h;obtain⟨w1,w2,w3⟩:=HD (q:=q) (r:=r) (y0:=y0) (n:=n1) aA hr uK yA;refine i6 ⟨_,rfl⟩ (i6 ⟨_,rfl⟩ (i6 ⟨_,rfl⟩ (Af (b:=decide (4294967296*r+n1<q*y0)) ?_ (fun h1=> ?_) (fun h1=> ?_))))
   ·simp only[rxs,b32,Ns,Gq,Aj _ w1,Aj _ w2,Aj _ w3];congr 1;rw[bS,oDi,oDi];omega
   ·have h1:=oDt h1;have oV:qt u n1 y1 y0<q:=GO hu h1;obtain⟨d1,d2,d3⟩:=er (n:=n1) uJ uK aA hu oV hq;refine i6 ⟨_,rfl⟩ (Af (b:=decide (4294967296<=r+y1)) ?_ (fun h2=> ?_) (fun h2=> ?_))
    ·simp only[rxs,Gq,Aj (r+y1) aA];congr 1;rw[bS,oDi,oDi];omega
    ·have h2:=oDt h2;show[Value.int .u64 (wQ .u64 ((q:Int)-1))]=_;rw[one1,Fa q 1 aA aA,d3 h2]
    ·have h2:=oDf h2;refine⟨⟨q-1,r+y1,?_,d1,d2,aA,aA⟩,?_⟩
     ·show[Value.int .u64 (wQ .u64 ((q:Int)-1)),Value.int .u64 (wQ .u64 ((r:Int)+(y1:Int)))]=_;rw[one1,Fa q 1 aA aA,Gq,Aj (r+y1) aA]
     ·show(intOf (Value.int .u64 (wQ .u64 ((q:Int)-1)))).toNat<(intOf (Value.int .u64 (q:Nat))).toNat;rw[one1,Fa q 1 aA aA];simp only[intOf];omega
   ·have h1:=oDf h1;have oW:=td (n:=n1) (y0:=y0) hu aA aA;show[Value.int .u64 (q:Nat)]=_;rw[show q=qt u n1 y1 y0 from nE oW hQ]
 rintro vals-rfl;simp only[cA,nA];have tX:=eh (y1:=y1) (y0:=y0) yA (show u<y1*4294967296+y0 by omega);obtain⟨q1,a0k⟩:∃q1,q1=qt u n1 y1 y0:=⟨_,rfl⟩;obtain⟨r1,a1v⟩:∃r1,r1=(u*4294967296+n1)%Y:=⟨_,rfl⟩;have hX:u*4294967296+n1=q1*Y+r1:=by
  rw[a0k,a1v];unfold qt;rw[hYs];exact(iH _ _).symm
 have rP:r1<Y:=by rw[a1v];exact cO _ aA
 have a1w:=HE (u:=u) (n:=n1) (q:=q1) (y:=Y) aA aA;rw[show u*4294967296+n1-q1*Y=r1 from aA]at a1w;rw[<-a0k];have a1x:=tn r1 y1 aA;refine i6 ⟨_,rfl⟩ (i6 ⟨_,rfl⟩ (i6 ⟨_,rfl⟩ (i6 ⟨_,rfl⟩ (i6 ⟨_,rfl⟩ (i6 ?_ ⟨fun l=>l=[.int .u64 (r1:Nat),.int .u64 ((r1/y1:Nat):Int),.int .u64 ((r1%y1:Nat):Int)],?_,?_⟩)))))
 ·show(y1:Int)≠0;omega
 ·have hm:=Aj (r1/y1*y1) (by have:=yE r1;omega);have zY:=Fa r1 (r1/y1*y1) (yE r1) aA;rw[a1t]at zY;simp only[pd,cU,lY,rxs,b32,Ns,a1w,a1x,hm,zY]
 rintro vals-rfl;simp only[cA,nA];refine⟨fun l=>l=[.int .u64 (qt r1 n0 y1 y0:Nat)],?_,?_⟩
 ·refine⟨fun l=>∃q r,l=[.int .u64 (q:Nat),.int .u64 (r:Nat)]/\r1=q*y1+r/\qt r1 n0 y1 y0<=q/\q<=4294967297/\r<4294967296,fun l=>(intOf (l.getD 0 undef)).toNat,⟨r1/y1,r1%y1,rfl,(iH _ _).symm,GP sP aA,GQ a0j aA uK,aM (cO _ aA) (nX uJ)⟩,?_⟩;rintro vals-⟨q,r,rfl,hu,hQ,hq,hr⟩;simp only[cA,nA];have hQb:qt r1 n0 y1 y0<4294967296:=eh sP aA;refine i6 ⟨_,rfl⟩ (Af (b:=decide (4294967296<=q)) ?_ (fun h=> ?_) (fun h=> ?_))
  ·simp only[rxs];congr 1;rw[bS,oDi,oDi];omega
  ·have h:=oDt h;have oV:qt r1 n0 y1 y0<q:=aA;obtain⟨d1,d2,d3⟩:=er (n:=n0) uJ uK aA hu oV hq;refine i6 ⟨_,rfl⟩ (Af (b:=decide (4294967296<=r+y1)) ?_ (fun h2=> ?_) (fun h2=> ?_))
   ·simp only[rxs,Gq,Aj (r+y1) aA];congr 1;rw[bS,oDi,oDi];omega
   ·have h2:=oDt h2;show[Value.int .u64 (wQ .u64 ((q:Int)-1))]=_;rw[one1,Fa q 1 aA aA,d3 h2]
   ·have h2:=oDf h2;refine⟨⟨q-1,r+y1,?_,d1,d2,aA,aA⟩,?_⟩
    ·show[Value.int .u64 (wQ .u64 ((q:Int)-1)),Value.int .u64 (wQ .u64 ((r:Int)+(y1:Int)))]=_;rw[one1,Fa q 1 aA aA,Gq,Aj (r+y1) aA]
    ·show(intOf (Value.int .u64 (wQ .u64 ((q:Int)-1)))).toNat<(intOf (Value.int .u64 (q:Nat))).toNat;rw[one1,Fa q 1 aA aA];simp only[intOf];omega
  ·have h:=oDf h;obtain⟨w1,w2,w3⟩:=HD (q:=q) (r:=r) (y0:=y0) (n:=n0) aA hr uK sP;refine i6 ⟨_,rfl⟩ (i6 ⟨_,rfl⟩ (i6 ⟨_,rfl⟩ (Af (b:=decide (4294967296*r+n0<q*y0)) ?_ (fun h1=> ?_) (fun h1=> ?_))))
   ·simp only[rxs,b32,Ns,Gq,Aj _ w1,Aj _ w2,Aj _ w3];congr 1;rw[bS,oDi,oDi];omega
   ·have h1:=oDt h1;have oV:qt r1 n0 y1 y0<q:=GO hu h1;obtain⟨d1,d2,d3⟩:=er (n:=n0) uJ uK aA hu oV hq;refine Af (b:=decide (4294967296<=r+y1)) ?_ (fun h2=> ?_) (fun h2=> ?_)
    ·simp only[rxs,Gq,Aj (r+y1) aA];congr 1;rw[bS,oDi,oDi];omega
    ·have h2:=oDt h2;show[Value.int .u64 (wQ .u64 ((q:Int)-1))]=_;rw[one1,Fa q 1 aA aA,d3 h2]
    ·have h2:=oDf h2;refine⟨⟨q-1,r+y1,?_,d1,d2,aA,aA⟩,?_⟩
     ·show[Value.int .u64 (wQ .u64 ((q:Int)-1)),Value.int .u64 (wQ .u64 ((r:Int)+(y1:Int)))]=_;rw[one1,Fa q 1 aA aA,Gq,Aj (r+y1) aA]
     ·show(intOf (Value.int .u64 (wQ .u64 ((q:Int)-1)))).toNat<(intOf (Value.int .u64 (q:Nat))).toNat;rw[one1,Fa q 1 aA aA];simp only[intOf];omega
   ·have h1:=oDf h1;have oW:=td (n:=n0) (y0:=y0) hu aA aA;show[Value.int .u64 (q:Nat)]=_;rw[show q=qt r1 n0 y1 y0 from nE oW hQ]
 rintro vals-rfl;simp only[cA,nA];have xI:=eh (y1:=y1) (y0:=y0) sP (show r1<y1*4294967296+y0 by omega);obtain⟨q0,a0l⟩:∃q0,q0=qt r1 n0 y1 y0:=⟨_,rfl⟩;obtain⟨r0,a1y⟩:∃r0,r0=(r1*4294967296+n0)%Y:=⟨_,rfl⟩;have hX0:r1*4294967296+n0=q0*Y+r0:=by
  rw[a0l,a1y];unfold qt;rw[hYs];exact(iH _ _).symm
 have xB:r0<Y:=by rw[a1y];exact cO _ aA
 have a1z:=HE (u:=r1) (n:=n0) (q:=q0) (y:=Y) aA aA;rw[show r1*4294967296+n0-q0*Y=r0 from aA]at a1z;obtain⟨f1,f2⟩:=F2 (U:=(hi*18446744073709551616+lo)*2^s) hX (by rw[hU,hnn];exact J8 u n1 n0) hX0 xB;rw[<-hYd,lS _ _ tJ]at f1;rw[<-hYd,lR]at f2;have f3:r0/2^s=(hi*18446744073709551616+lo)%y:=by rw[<-f2,Nat.mul_div_cancel _ tJ]
 rw[<-a0l];have a3p:s<=64:=Nat.le_succ_of_le vO;have a2a:q1<4294967296:=by rw[a0k];exact tX
 have a2b:q0<4294967296:=by rw[a0l];exact xI
 refine i6 ⟨_,rfl⟩ (i6 ⟨_,rfl⟩ (i6 ⟨_,rfl⟩ (i6 ⟨_,_,rfl⟩ (i6 ?_ (Aa ?_ rfl)))))
 ·show(0:Int)<=(s:Int);omega
 ·simp only[rxs,y9,b32,Ns,a1z,Gq,Aj (q1*4294967296) (HF a2a a2b).1,Aj (q1*4294967296+q0) (HF a2a a2b).2,Tz r0 s a3p,f1,f3]
def HG (k:Nat) (hk:k<=9223372036854775807):wQ .i64 ((k:Int).tdiv 64)=((k/64:Nat):Int):=by
 rw[show(64:Int)=((64:Nat):Int)from rfl,<-nL,Qj _ aA]
def HH (k:Nat):(k:Int).tmod 64=((k%64:Nat):Int):=by
 rw[show(64:Int)=((64:Nat):Int)from rfl,<-nM]
def K5 (r:Nat) (h:r<64):wQ .u64 ((1:Int)*2^min r (IntKind.bits .u64))=((2^r:Nat):Int):=by
 have:=Xv 1 r aA;rw[cL,eH (by rw[Kp];exact cR aA h)]at this;exact this
def HI {A k:Nat} (h:A<PW k):blen A<=64*k:=blen_le (by rw[Ua]at h;exact h)
def K6 {x y q r:Int} (hy:y≠0) (he:x=q*y+r) (h0:0<=r) (h1:r<y.natAbs):x/y=q/\x%y=r:=by
 rcases Int.lt_or_lt_of_ne hy with h|h
 ·have:=(lZ (a:=x) (b:= -y) (q:= -q) (r:=r) aA).2 ⟨by rw[he,nF,nY];omega,h0,aA⟩;rw[Int.ediv_neg,Int.emod_neg]at this;exact⟨aA,this.2⟩
 ·exact(lZ (a:=x) (b:=y) (q:=q) (r:=r) h).2 ⟨by rw[he,nY];omega,h0,aA⟩
def tu {z:Int} (h: -(HM:Int)<=z/\z<HM):Bo z= .tuple #[iw z,.int .i64 0]:=by unfold Bo;rw[if_pos h]
def tw {z:Int} (h:¬(-(HM:Int)<=z/\z<HM)):Bo z= .tuple #[wd 0,.int .i64 6]:=by unfold Bo;rw[if_neg h]
def mnn (a b:Nat):(-(a:Int))*(-(b:Int))=((a*b:Nat):Int):=by rw[nF,iQ]
def mnp (a b:Nat):(-(a:Int))*(b:Int)= -((a*b:Nat):Int):=by rw[Int.neg_mul,iQ]
def mpn (a b:Nat):(a:Int)*(-(b:Int))= -((a*b:Nat):Int):=by rw[Int.mul_neg,iQ]
def K7 (x y:Int) (Q R:Nat) (uK:y≠0) (a3q:R<y.natAbs) (hQR:x.natAbs=Q*y.natAbs+R):
  x/y=(if(decide (x<0) !=decide (y<0))then -((if(decide (x<0)&& !decide (R=0))then Q+1 else Q:Nat):Int)else((if(decide (x<0)&& !decide (R=0))then Q+1 else Q:Nat):Int))/\
  x%y=((if(decide (x<0)&& !decide (R=0))then y.natAbs-R else R:Nat):Int):=by
 obtain⟨Y,hY⟩:=Int.eq_nat_or_neg y;have hYn:y.natAbs=Y:=by rcases hY with h|h<;>rw[h]<;>simp
 rw[hYn]at hQR a3q⊢;have hs:(Q+1)*Y=Q*Y+Y:=by rw[cM,cL]
 refine K6 uK ?_ ?_ ?_
 ·by_cases hx:x<0
  ·by_cases hR:R=0
   ·rcases hY with hY|hY
    ·have:¬y<0:=aA;simp only[hx,this,hR,decide_true,decide_false,nN,kY,aZ,if_false,if_true,bne_self_eq_false,nO,jN];rw[hY,mnp];omega
    ·have:y<0:=aA;simp only[hx,this,hR,decide_true,nN,kY,aZ,if_false,bne_self_eq_false];rw[hY,mpn];omega
   ·rcases hY with hY|hY
    ·have:¬y<0:=aA;simp only[hx,this,hR,decide_true,decide_false,jN,jJ,if_true,nO];rw[hY,mnp,hs];omega
    ·have:y<0:=aA;simp only[hx,this,hR,decide_true,decide_false,jN,jJ,if_true,bne_self_eq_false,aZ,if_false];rw[hY,mpn,hs];omega
  ·rcases hY with hY|hY
   ·have:¬y<0:=aA;simp only[hx,this,decide_false,nG,aZ,if_false,bne_self_eq_false];rw[hY,Ns];omega
   ·have:y<0:=aA;simp only[hx,this,decide_true,decide_false,nG,aZ,if_false,Bool.bne_true,jN,if_true];rw[hY,mnn];omega
 ·exact mK _
 ·split
  ·rename_i h;simp at h;omega
  ·omega
end Go.Z

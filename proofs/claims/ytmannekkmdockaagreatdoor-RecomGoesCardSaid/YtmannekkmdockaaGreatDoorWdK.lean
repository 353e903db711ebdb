/- Lemmas of the proof. -/
import Derived.Test.YtmannekkmdockaaGreatDoorWdB
import Derived.Lib.Mul64
open Bool renaming eq_iff_iff->bH
open Int renaming fdiv_eq_ediv_of_nonneg->iO,toNat->nK
open List renaming map_cons->aM,map_nil->cL
open Nat renaming add_assoc->kF,add_mul->cP,add_mul_div_left->jG,add_mul_mod_self_left->kZ,div_div_eq_div_mul->lQ,div_eq_of_lt->fG,div_lt_iff_lt_mul->dZ,le_div_iff_mul_le->jC,lt_of_le_of_lt->aY,lt_succ_self->bQ,mod_eq_of_lt->bR,mod_lt->bO,mul_add->cS,mul_assoc->cH,mul_comm->cE,pow_add->dG,pow_lt_pow_iff_right->fV,pow_pos->iZ,two_pow_add_eq_or_of_lt->kP,zero_add->bM,zero_lt_succ->bU
namespace Go.Proofs.Z
open Go.Proofs.Tryz
open Go.RowKit Go.RX Go.WD Go.IntWalk
theorem C2 (d:Nat) (h:d<18446744073709551616):((d:Int).fdiv (2^(min ((63:Int).toNat) (IntKind.bits .u64)))==1)=decide (¬d<9223372036854775808):=by
 have e:(2:Int)^(min ((63:Int).toNat) (IntKind.bits .u64))=9223372036854775808:=by decide
 rw[e,iO _ (by omega),bH];simp;omega
theorem C3 {a:Nat} (h:¬a%M<HM):sb 0 a%M=(toI a).natAbs%M:=by
 have hl:=bO a Qw;have:=Le;unfold sb toI;rw[if_neg h];congr 1;omega
theorem GO (a:Nat):(toI a).natAbs<M:=by
 obtain⟨h1,h2⟩:=ZQ a;have:=Le;omega
theorem C4 (a:Nat):Det prog 128 [wd a] (nm (toI a)):=by
 have hl:=bO a Qw;have hM:=Le;have a4t:=ZR a;have hc:∀ρ:List Value,D prog (wd a::ρ) (.op2 .eql .u64 (.op2 .shr .u64 (.cell (.v 0) 7 0 noI) (kU 63)) (kU 1))= .bool (decide (¬a%M<HM)):=fun ρ=>by
  simp only[rxs,Ld a (show 7<8 by omega)];rw[C2 _ (Xz a 7)];congr 1;rw[bH,oDi,oDi,a4t]
 refine Fv mixed A4 (by kernel_rfl) rfl (j6 ⟨words_size a,words_one a⟩ (j6 ⟨dig a 7,?_⟩ (Da (hc []) (fun h=> ?_) (fun h=> ?_))))
 ·simp only[rxs,Ld a (show 7<8 by omega)]
 ·have h:¬a%M<HM:=by simpa using h
  refine Jt (td 0 a) (by simp only[rxs,Yd];rfl) ?_;refine j6 ⟨_,rfl,bU _⟩ (j6 ⟨_,rfl,bQ _⟩ (j6 ⟨words_size _,words_one _⟩ (Cf rfl ?_)));simp only[aM,cL,Bv];rw[D,List.cons_append,List.nil_append,hc];simp only[rxs];show nb _ (sb 0 a)=nm (toI a);exact GF (by rw[bH];simp[toI,if_neg h];omega) (C3 h)
 ·have h:a%M<HM:=by simpa using h
  refine Cf rfl ?_;simp only[aM,cL,Bv];rw[D,hc];simp only[rxs];show nb _ a=nm (toI a);refine GF (by rw[bH];simp[toI,if_pos h];omega) ?_;unfold toI;rw[if_pos h,Int.natAbs_natCast,Nat.mod_mod]
theorem tf (b:Bool) (n:Nat):(nb b n).cells= #[.bool b]++words n:=rfl
def told (z:Int):Value:=if -(HM:Int)<=z/\z<HM then .tuple #[iw z,.int .i64 0]else .tuple #[wd 0,.int .i64 6]
theorem C5 (z:Int) (hz:z.natAbs<M):Det prog 126 [nm z] (told z):=by
 have hH:=ZU;refine Fv mixed A5 (by kernel_rfl) rfl (j6 ⟨Uo _ _,sy _ _⟩ (Jt (B8 z.natAbs HM) ?_ (j6 ⟨_,rfl⟩ ?_)))
 ·simp only[rxs,nm,tf,sx,Yd,ZV];rfl
 ·rw[bR hz,bR hH];refine Da (b:=decide (sg z.natAbs HM>0)) rfl (fun h=> ?_) (fun h=> ?_)
  ·have h:=sg_pos.1 (oDt h);refine Cf rfl ?_;simp only[rxs,Bv,Qy,told];rw[if_neg (by omega)]
  ·have h:¬HM<z.natAbs:=fun e=>oDf h (sg_pos.2 e);refine Da (b:=sg z.natAbs HM==0) rfl (fun h1=> ?_) (fun h1=> ?_)
   ·have h1:=sg_zero.1 (by simpa using h1);refine j6 ⟨_,rfl⟩ (Da (b:= !decide (z<0)) rfl (fun h2=> ?_) (fun h2=> ?_))
    ·have h2:¬z<0:=by simpa using h2
     refine Cf rfl ?_;simp only[rxs,Bv,Qy,told];rw[if_neg (by omega)]
    ·have h2:z<0:=by simpa using h2
     refine Jt (td 0 z.natAbs) ?_ (j6 ⟨_,rfl,bU _⟩ (j6 ⟨_,rfl,bQ _⟩ (j6 ⟨words_size _,words_one _⟩ (Cf rfl ?_))))
     ·simp only[rxs,nm,tf,sx,Yd];rfl
     ·simp only[rxs,Bv,told];rw[if_pos (by omega),<-GG h2 hz];rfl
   ·have h1:z.natAbs≠HM:=fun e=>by simp[sg_zero.2 e]at h1
    refine j6 ⟨_,rfl⟩ (Da (b:=decide (z<0)) rfl (fun h2=> ?_) (fun h2=> ?_))
    ·have h2:z<0:=by simpa using h2
     refine Jt (td 0 z.natAbs) ?_ (j6 ⟨_,rfl,bU _⟩ (j6 ⟨_,rfl,bQ _⟩ (j6 ⟨words_size _,words_one _⟩ (Cf rfl ?_))))
     ·simp only[rxs,nm,tf,sx,Yd];rfl
     ·simp only[rxs,Bv,told];rw[if_pos (by omega),<-GG h2 hz];rfl
    ·have h2:¬z<0:=by simpa using h2
     refine Cf rfl ?_;simp only[told];rw[if_pos (by omega),<-ZW (by omega) hz];rfl
open Go.RowKit Go.RX Go.WD Go.IntWalk
theorem GP (z:Int):∃a b,told z= .tuple #[wd a,b]:=by
 unfold told;split
 ·exact⟨_,_,rfl⟩
 ·exact⟨_,_,rfl⟩
end Go.Proofs.Z
/- Products of words: plain. -/
namespace Go.WD
open Go.RX
theorem GQ:PW 1=18446744073709551616:=by rw[Ab,Lc,Nat.one_mul]
theorem tq {p i:Nat} (h:p<PW i):dig p i=0:=by
 unfold dig;rw[fG h]
theorem GR (p:Nat):dig p 0=p%18446744073709551616:=by unfold dig;rw[Lc,Nat.div_one]
theorem tu (a b:Nat) (ha:a<18446744073709551616) (hb:b<18446744073709551616):IntKind.u64.wrap ((BitVec.ofInt (IntKind.bits .u64) (a:Int)|||BitVec.ofInt (IntKind.bits .u64) (b:Int)).toNat:Int)=((a|||b:Nat):Int):=by
 have h:=Nat.or_lt_two_pow (n:=64) ha hb;have e:(BitVec.ofInt 64 (a:Int)|||BitVec.ofInt 64 (b:Int)).toNat=a|||b:=by
  rw[BitVec.toNat_or,BitVec.toNat_ofInt,BitVec.toNat_ofInt];congr 1<;>omega
 show IntKind.u64.wrap ((BitVec.ofInt 64 (a:Int)|||BitVec.ofInt 64 (b:Int)).toNat:Int)=_;rw[e,IntKind.wrap_u64];omega
theorem Ye (a:Nat) (ha:a<18446744073709551616):IntKind.u64.wrap ((BitVec.ofInt (IntKind.bits .u64) (a:Int)&&&BitVec.ofInt (IntKind.bits .u64) 4294967295).toNat:Int)=((a%4294967296:Nat):Int):=by
 have e:(BitVec.ofInt 64 (a:Int)&&&BitVec.ofInt 64 4294967295).toNat=a%4294967296:=by
  rw[BitVec.toNat_and,BitVec.toNat_ofInt,BitVec.toNat_ofInt,show((4294967295:Int)%(2^64:Nat)).toNat=2^32-1 from by decide,Nat.and_two_pow_sub_one_eq_mod];omega
 show IntKind.u64.wrap ((BitVec.ofInt 64 (a:Int)&&&BitVec.ofInt 64 4294967295).toNat:Int)=_;rw[e,IntKind.wrap_u64];omega
theorem Up (a k:Nat) (hk:k<=64):(a:Int).fdiv (2^min k (IntKind.bits .u64))=((a/2^k:Nat):Int):=by
 rw[show min k (IntKind.bits .u64)=k from Nat.min_eq_left hk,show(2:Int)^k=((2^k:Nat):Int)from by simp,iO _ (Int.natCast_nonneg _)];exact(Int.natCast_ediv a (2^k)).symm
open Go.RX
theorem C6 {k i:Nat} (h:i<k):dig (PW k-1) i=18446744073709551615:=by
 obtain⟨d,rfl⟩:=Nat.exists_eq_add_of_lt h;unfold dig;have hp:=Ec i;have hd:=Ec d;have e:PW (i+d+1)-1=(PW i-1)+PW i*(PW (d+1)-1):=by
  have h1:PW (i+d+1)=PW i*PW (d+1):=by rw[kF,Uk]
  have h2:0<PW (d+1):=Ec _;rw[h1,Nat.mul_sub,Nat.mul_one];have h3:PW i<=PW i*PW (d+1):=Nat.le_mul_of_pos_right _ h2;omega
 rw[e,jG _ _ hp,fG (by omega),bM,Ab];omega
theorem M_W:M=18446744073709551616*PW 7:=by rw[Gp,show(8:Nat)=7+1 from rfl,Ab];exact cE _ _
theorem C7 {t:Nat} (h0:0<t) (h1:t<=18446744073709551616) {i:Nat} (hi:i<8):dig (M-t) i=if i=0 then 18446744073709551616-t else 18446744073709551615:=by
 have e:M-t=(18446744073709551616-t)+18446744073709551616*(PW 7-1):=by
  have:=Ec 7;rw[M_W];omega
 rw[e];split
 ·rename_i h;subst h;rw[GR,kZ,bR (by omega)]
 ·rename_i h;obtain⟨j,rfl⟩:∃j,i=j+1:=⟨i-1,by omega⟩;rw[<-C6 (show j<7 by omega)];unfold dig;rw[Ab j,cE (PW j),<-lQ,jG _ _ (by omega),fG (show 18446744073709551616-t<18446744073709551616 by omega),bM]
theorem C8 {t:Nat} (h:t<18446744073709551616) (i:Nat):dig t i=if i=0 then t else 0:=by
 split
 ·rename_i e;subst e;rw[GR,bR h]
 ·rename_i e;exact tq (Nat.lt_of_lt_of_le (by rw[GQ];exact h) (Qv (show 1<=i by omega)))
theorem GU:18446744073709551616<=HM/\HM<M:=by
 have h1:=Qx;have h2:PW 1<=PW 7:=Qv (by omega);rw[GQ]at h2;have h3:=Le;constructor
 ·rw[h1];omega
 ·omega
theorem C9 {n:Int} (h0: -18446744073709551616<=n) (h1:n<18446744073709551616):words (rs n)=wf fun i=>if i=0 then(n%18446744073709551616).toNat else if n<0 then 18446744073709551615 else 0:=by
 have hM:=GU;refine(Oe fun i hi=> ?_);by_cases hn:n<0
 ·rw[sr hn (by omega),show(n+M).toNat=M-n.natAbs from by omega,C7 (by omega) (by omega) hi];split
  ·omega
  ·rfl
 ·rw[so (by omega) (by omega),C8 (by omega)];split
  ·omega
  ·rfl
def sgI (x y:Int):Int:=if x<y then -1 else if x=y then 0 else 1
theorem tw {n:Int} (h0: -9223372036854775808<=n) (h1:n<9223372036854775808):Gy n:=by
 have:=GU;unfold Gy;omega
open Go.RX
def blen (x:Nat):Nat:=if x=0 then 0 else x.log2+1
theorem Yf (x:Nat):x<2^blen x:=by
 unfold blen;split
 ·rename_i h;subst h;decide
 ·exact Nat.lt_log2_self
theorem Yg {x:Nat} (h:x≠0):0<blen x/\2^(blen x-1)<=x:=by
 unfold blen;rw[if_neg h];exact⟨by omega,by simpa using Nat.log2_self_le h⟩
theorem D0 {x k:Nat} (h0:0<k) (h1:2^(k-1)<=x) (h2:x<2^k):blen x=k:=by
 have hx:x≠0:=fun e=>by subst e;have:=iZ (n:=k-1) (show 0<2 by omega);omega
 obtain⟨p1,p2⟩:=Yg hx;have p3:=Yf x;have a1:k-1<blen x:=(fV (show 1<2 by omega)).1 (aY h1 p3);have a2:blen x-1<k:=(fV (show 1<2 by omega)).1 (aY p2 h2);omega
theorem fp {x k:Nat} (h:2^k<=x):blen x=k+blen (x/2^k):=by
 have hp:0<2^k:=iZ (by omega);have hq:x/2^k≠0:=by
  have:=(jC hp).2 (show 1*2^k<=x by omega);omega
 obtain⟨p1,p2⟩:=Yg hq;have p3:=Yf (x/2^k);refine D0 (by omega) ?_ ?_
 ·rw[show k+blen (x/2^k)-1=(blen (x/2^k)-1)+k from by omega,dG];exact(jC hp).1 p2
 ·rw[dG,cE];exact(dZ hp).1 p3
theorem blen_le {x k:Nat} (h:x<2^k):blen x<=k:=by
 by_cases hx:x=0
 ·subst hx;simp[blen]
 ·obtain⟨p1,p2⟩:=Yg hx;have:=(fV (show 1<2 by omega)).1 (aY p2 h);omega
theorem blen_ge {x k:Nat} (h:2^k<=x):k<blen x:=(fV (show 1<2 by omega)).1 (aY h (Yf x))
theorem Yh (k:Nat):PW k=2^(64*k):=by unfold PW;rfl
theorem Lj:(18446744073709551616:Nat)=2^64:=rfl
theorem D1 {A i:Nat} (h:dig A i≠0) (hs:A<PW (i+1)):blen A=64*i+blen (dig A i):=by
 have hd:A/PW i=dig A i:=by
  unfold dig;rw[bR];rw[Ab]at hs;exact(dZ (Ec i)).2 (by rw[cE];exact hs)
 have pP:PW i<=A:=by
  rcases Nat.lt_or_ge A (PW i)with h1|h1
  ·rw[tq h1]at h;exact absurd rfl h
  ·exact h1
 rw[Yh]at pP hd;rw[fp pP,hd]
section
variable {y1 y0 u n q r:Nat}
theorem GW (hu:u=q*y1+r) (ho:4294967296*r+n<q*y0):(u*4294967296+n)/(y1*4294967296+y0)<q:=by
 have hp:0<y1*4294967296+y0:=by
  rcases Nat.eq_zero_or_pos y0 with h|h
  ·subst h;omega
  ·omega
 refine(dZ hp).2 ?_;rw[cS,<-cH,hu,cP];omega
theorem ua (hu:u=q*y1+r) (hp:0<y1) (ho:q*y0<=4294967296*r+n):q<=(u*4294967296+n)/(y1*4294967296+y0):=by
 refine(jC (by omega)).2 ?_;rw[cS,<-cH,hu,cP];omega
theorem GX (hn:n<4294967296) (hp:0<y1):(u*4294967296+n)/(y1*4294967296+y0)<=u/y1:=by
 have h1:(u*4294967296+n)/(y1*4294967296+y0)<=(u*4294967296+n)/(4294967296*y1):=Nat.div_le_div_left (by omega) (by omega);rw[<-lQ,show(u*4294967296+n)/4294967296=u from by omega]at h1;exact h1
theorem GY (h1:2147483648<=y1) (hu:u<y1*4294967296+y0) (h0:y0<4294967296):u/y1<=4294967297:=by
 have:u/y1<4294967298:=(dZ (by omega)).2 (by omega);omega
theorem fq (hn:n<4294967296) (hu:u<y1*4294967296+y0):(u*4294967296+n)/(y1*4294967296+y0)<4294967296:=by
 refine(dZ (by omega)).2 ?_;have:(u+1)*4294967296<=(y1*4294967296+y0)*4294967296:=Nat.mul_le_mul_right _ hu;rw[cE 4294967296];omega
end
theorem D2 {U Y X n q1 r1 q0 r0:Nat} (hX:X=q1*Y+r1) (hU:U=X*4294967296+n) (h0:r1*4294967296+n=q0*Y+r0) (hr:r0<Y):U/Y=q1*4294967296+q0/\U%Y=r0:=by
 have e:U=r0+Y*(q1*4294967296+q0):=by
  rw[hU,hX,cP,kF,h0,cS,cE Y q0,cE Y,Nat.mul_right_comm];omega
 rw[e];exact⟨by rw[jG _ _ (by omega),fG hr,bM],by rw[kZ,bR hr]⟩
theorem GZ {a b i:Nat} (hb:b<2^i):(a*2^i)|||b=a*2^i+b:=by
 rw[cE,kP hb]
theorem ft {r:Nat} (h:r<=64):(18446744073709551616:Nat)=2^(64-r)*2^r:=by
 rw[<-dG,show 64-r+r=64 from by omega]
theorem D3 (d:Nat) {r:Nat} (h:r<=64):d*2^r%18446744073709551616=(d%2^(64-r))*2^r:=by
 rw[ft h,Nat.mul_mod_mul_right]
theorem HA {d:Nat} (hd:d<18446744073709551616) {r:Nat} (h:r<=64):d/2^(64-r)<2^r:=by
 refine(dZ (iZ (by omega))).2 ?_;rw[cE,<-ft h];exact hd
theorem D4 {q k:Nat} (h:2^(k+1) ∣ q):q|||2^k=q+2^k:=by
 obtain⟨d,rfl⟩:=h;exact(kP (Nat.pow_lt_pow_right (by omega) (by omega)) d).symm
end Go.WD
/- Contracts of package wide: products. -/
namespace Go.Proofs.Z
open Go.Proofs.Tryz
open Go.RowKit Go.RX Go.WD Go.IntWalk
theorem Bw (a:Nat) (ha:a<18446744073709551616):IntKind.u64.wrap (a:Int)=(a:Int):=by rw[IntKind.wrap_u64];omega
theorem HB (a:Nat):IntKind.u64.wrap (a:Int)=((a%18446744073709551616:Nat):Int):=by rw[IntKind.wrap_u64];omega
theorem Og (a b:Nat):(a:Int)*(b:Int)=((a*b:Nat):Int):=(Int.natCast_mul a b).symm
theorem Ij (a b:Nat):(a:Int)+(b:Int)=((a+b:Nat):Int):=(Int.natCast_add a b).symm
theorem fw (a:Nat):(a:Int).fdiv (2^min (nK 32) (IntKind.bits .u64))=((a/4294967296:Nat):Int):=Up a 32 (by omega)
theorem D5 (x y:Nat) (hx:x<18446744073709551616) (hy:y<18446744073709551616):Det prog 240 [.int .u64 x,.int .u64 y] (.tuple #[.int .u64 ((x*y/18446744073709551616:Nat):Int),.int .u64 ((x*y%18446744073709551616:Nat):Int)]):=by
 obtain⟨bd,bt,bw,hhi⟩:=Lib.mul64_hi x y hx hy;have ba:=Lib.half_mul_le (a:=x/4294967296) (b:=y/4294967296) (by omega) (by omega);have bb:=Lib.half_mul_le (a:=x/4294967296) (b:=y%4294967296) (by omega) (by omega);have bc:=Lib.half_mul_le (a:=x%4294967296) (b:=y/4294967296) (by omega) (by omega);have ba':x/4294967296*(y/4294967296)<18446744073709551616:=by omega
 have bb':x/4294967296*(y%4294967296)<18446744073709551616:=by omega
 have bc':x%4294967296*(y/4294967296)<18446744073709551616:=by omega
 have bh1:x/4294967296*(y/4294967296)+(x/4294967296*(y%4294967296)+x%4294967296*(y%4294967296)/4294967296)/4294967296<18446744073709551616:=by omega
 have bh:x/4294967296*(y/4294967296)+(x/4294967296*(y%4294967296)+x%4294967296*(y%4294967296)/4294967296)/4294967296+((x/4294967296*(y%4294967296)+x%4294967296*(y%4294967296)/4294967296)%4294967296+x%4294967296*(y/4294967296))/4294967296<18446744073709551616:=by
  have:=(dZ (show 0<18446744073709551616 by omega)).2 (Nat.mul_lt_mul'' hx hy);omega
 refine Fv mixed A7 (by kernel_rfl) rfl (j6 ⟨_,rfl⟩ (j6 ⟨_,rfl⟩ (Cf ?_ rfl)));simp only[rxs,Bv,fw,Ye x hx,Ye y hy,Og,Ij,Bw _ bd,Bw _ bb',Bw _ bt,Ye _ bt,Bw _ bc',Bw _ bw,Bw _ ba',Bw _ bh1,Bw _ bh,HB (x*y)];rw[hhi]
theorem Qz (k:Nat) (h:k<=9223372036854775807):IntKind.i64.wrap (k:Int)=(k:Int):=i64_in _ ⟨by omega,by omega⟩
theorem D6 (k:Nat) (j:Nat):(k:Int)+(j:Int)=((k+j:Nat):Int):=by omega
end Go.Proofs.Z
/- Contracts of package wide: Add, Sub, Mul, Of, Int, Sign, Cmp. -/
namespace Go.Proofs.Z
open Go.Proofs.Tryz
open Go.RowKit Go.RX Go.WD Go.IntWalk
theorem HC (n:Int):IntKind.u64.wrap n=((n%18446744073709551616).toNat:Int):=by
 rw[IntKind.wrap_u64];omega
theorem HD (u:Nat):spl (words 0) 0 [.int .u64 (u:Int)]=wf fun j=>if j=0 then u else 0:=by
 refine Eq.trans (fj (dig 0) (show 0<8 by omega) u) (Oe fun i _=> ?_);rw[Ya]
theorem ub (n:Int) (h0: -9223372036854775808<=n) (h1:n<9223372036854775808):Det prog 29 [.int .i64 n] (iw n):=by
 have hw:=C9 (n:=n) (by omega) (by omega);refine Fv mixed A6 (by kernel_rfl) rfl (j6 ⟨n,rfl⟩ (Da (b:=decide (n<0)) rfl (fun h=> ?_) (fun h=> ?_)))
 ·have hn:=oDt h;refine⟨fun l=>∃k,1<=k/\k<=8/\l=[.int .i64 (k:Nat),.agg (wf fun j=>if j<k then(if j=0 then(n%18446744073709551616).toNat else 18446744073709551615)else 0)],fun l=>(8-intOf (l.getD 0 undef)).toNat,⟨1,by omega,by omega,?_⟩,?_⟩
  ·simp only[rxs,Qy,HC,HD];congr 3
  ·rintro vals-⟨k,tH,hk,rfl⟩;refine j6 ⟨_,rfl⟩ (Da (b:=decide ((k:Int)<8)) rfl (fun h=> ?_) (fun h=> ?_))
   ·have hk:k<8:=by simp at h;omega
    have e3:IntKind.i64.wrap ((k:Int)+1)=((k+1:Nat):Int):=Qz (k+1) (by omega);refine j6 ⟨_,_,rfl⟩ (j6 ⟨?_,?_⟩ ?_)
    ·show(0:Int)<=(k:Int);omega
    ·show(k:Int)<8;omega
    ·refine⟨⟨k+1,by omega,by omega,?_⟩,?_⟩
     ·have:=fj (fun j=>if j<k then(if j=0 then(n%18446744073709551616).toNat else 18446744073709551615)else 0) hk 18446744073709551615;simp only[rxs,e3];rw[show(18446744073709551615:Int)=((18446744073709551615:Nat):Int)from rfl,this];congr 3;refine Oe fun i _=> ?_;by_cases e:i=k
      ·subst e;rw[if_pos rfl,if_pos (show i<i+1 by omega),if_neg (show ¬i=0 by omega)]
      ·rw[if_neg e];by_cases e':i<k
       ·rw[if_pos e',if_pos (show i<k+1 by omega)]
       ·rw[if_neg e',if_neg (show ¬i<k+1 by omega)]
     ·simp only[rxs,e3];omega
   ·have hk:k=8:=by simp at h;omega
    subst hk;refine Cf rfl ?_;simp only[rxs,Bv,iw,wd,hw];congr 1;exact Oe fun i hi=>by rw[if_pos hi,if_pos hn]
 ·have hn:=oDf h;refine Cf rfl ?_;simp only[rxs,Bv,Qy,HC,HD,iw,wd,hw];congr 1;exact Oe fun i hi=>by rw[if_neg hn]
end Go.Proofs.Z
/- Contracts: lengths, division by words. -/
namespace Go.Proofs.Z
open Go.Proofs.Tryz
open Go.RowKit Go.RX Go.WD Go.IntWalk
theorem D7 (a:Nat):(a:Int).fdiv (2^min (nK 16) (IntKind.bits .u64))=((a/65536:Nat):Int):=Up a 16 (by omega)
theorem D8 (a:Nat):(a:Int).fdiv (2^min (nK 8) (IntKind.bits .u64))=((a/256:Nat):Int):=Up a 8 (by omega)
def len8:ByteArray:=⟨#[0,1,2,2,3,3,3,3,4,4,4,4,4,4,4,4,5,5,5,5,5,5,5,5,5,5,5,5,5,5,5,5,6,6,6,6,6,6,6,6,6,6,6,6,6,6,6,6,6,6,6,6,6,6,6,6,6,6,6,6,6,6,6,6,7,7,7,7,7,7,7,7,7,7,7,7,7,7,7,7,7,7,7,7,7,7,7,7,7,7,7,7,7,7,7,7,7,7,7,7,7,7,7,7,7,7,7,7,7,7,7,7,7,7,7,7,7,7,7,7,7,7,7,7,7,7,7,7,8,8,8,8,8,8,8,8,8,8,8,8,8,8,8,8,8,8,8,8,8,8,8,8,8,8,8,8,8,8,8,8,8,8,8,8,8,8,8,8,8,8,8,8,8,8,8,8,8,8,8,8,8,8,8,8,8,8,8,8,8,8,8,8,8,8,8,8,8,8,8,8,8,8,8,8,8,8,8,8,8,8,8,8,8,8,8,8,8,8,8,8,8,8,8,8,8,8,8,8,8,8,8,8,8,8,8,8,8,8,8,8,8,8,8,8,8,8,8,8,8,8,8,8,8,8,8,8]⟩
theorem D9:len8.size=256:=by kernel_rfl
theorem E0:(List.range 256).all (fun b=>(len8.data.getD b 0).toNat==blen b)=true:=by kernel_rfl
theorem E2 {b:Nat} (h:b<256):(len8.data.getD b 0).toNat=blen b:=by
 have:=List.all_eq_true.1 E0 b (List.mem_range.2 h);simpa using this
set_option maxRecDepth 100000 in
theorem Yi (x:Nat) (hx:x<18446744073709551616):Det prog 117 [.int .u64 x] (.int .i64 (blen x)):=by
 refine Fv mixed A9 (by kernel_rfl) rfl (j6 ⟨_,rfl⟩ ⟨fun l=>∃y n,l=[.int .u64 (y:Nat),.int .i64 (n:Nat)]/\y<4294967296/\n<=32/\n+blen y=blen x,?_,?_⟩)
 ·refine Da (b:=decide ((x:Int)≥4294967296)) rfl (fun h=> ?_) (fun h=> ?_)
  ·have h:=oDt h;exact⟨x/4294967296,32,by simp only[rxs,fw];rfl,by omega,by omega,(fp (k:=32) (by omega)).symm⟩
  ·have h:=oDf h;exact⟨x,0,rfl,by omega,by omega,by omega⟩
 rintro vals-⟨y,n,rfl,hy,hn,hb⟩;refine j6 ⟨_,rfl⟩ ⟨fun l=>∃y n,l=[.int .u64 (y:Nat),.int .i64 (n:Nat)]/\y<65536/\n<=48/\n+blen y=blen x,?_,?_⟩
 ·refine Da (b:=decide ((y:Int)≥65536)) rfl (fun h=> ?_) (fun h=> ?_)
  ·have h:=oDt h;have e:=fp (x:=y) (k:=16) (by omega);refine j6 ⟨_,rfl⟩ ⟨y/65536,n+16,?_,by omega,by omega,?_⟩
   ·have e3:IntKind.i64.wrap ((n:Int)+16)=((n+16:Nat):Int):=Qz (n+16) (by omega);simp only[rxs,D7,e3]
   ·rw[show(2:Nat)^16=65536 from rfl]at e;omega
  ·have h:=oDf h;exact⟨y,n,rfl,by omega,by omega,hb⟩
 rintro vals-⟨y,n,rfl,hy,hn,hb⟩;refine j6 ⟨_,rfl⟩ ⟨fun l=>∃y n,l=[.int .u64 (y:Nat),.int .i64 (n:Nat)]/\y<256/\n<=56/\n+blen y=blen x,?_,?_⟩
 ·refine Da (b:=decide ((y:Int)≥256)) rfl (fun h=> ?_) (fun h=> ?_)
  ·have h:=oDt h;have e:=fp (x:=y) (k:=8) (by omega);refine j6 ⟨_,rfl⟩ ⟨y/256,n+8,?_,by omega,by omega,?_⟩
   ·have e3:IntKind.i64.wrap ((n:Int)+8)=((n+8:Nat):Int):=Qz (n+8) (by omega);simp only[rxs,D8,e3]
   ·rw[show(2:Nat)^8=256 from rfl]at e;omega
  ·have h:=oDf h;exact⟨y,n,rfl,by omega,by omega,hb⟩
 rintro vals-⟨y,n,rfl,hy,hn,hb⟩;have hu8:IntKind.u8.wrap (y:Int)=(y:Int):=by rw[IntKind.wrap_u8];omega
 have hyl:blen y<=8:=blen_le hy;refine j6 ⟨_,rfl⟩ (YX (ZC (s:=len8) (k:= .u8) (m:=y) (vs:=[.string len8,.int .u8 y]) rfl rfl rfl (by kernel_rfl) (by rw[D9];exact hy)) ?_ ?_)
 ·simp only[rxs,hu8];rfl
 ·rw[E2 hy];refine j6 ⟨_,rfl⟩ (j6 ⟨_,rfl⟩ (Cf ?_ rfl));simp only[rxs,Bv];rw[Qz (blen y) (by omega),D6,Qz (n+blen y) (by omega),hb]
theorem HE (x:Nat) (hx:x<18446744073709551616):Det prog 264 [.int .u64 x] (.int .i64 ((64-blen x:Nat):Int)):=by
 have hl:blen x<=64:=blen_le hx;refine Fv mixed B5 (by kernel_rfl) rfl (Jt (Yi x hx) rfl (j6 ⟨_,rfl⟩ (Cf ?_ rfl)));simp only[rxs,Bv];rw[show(64:Int)-(blen x:Int)=((64-blen x:Nat):Int)from by omega,Qz _ (by omega)]
end Go.Proofs.Z

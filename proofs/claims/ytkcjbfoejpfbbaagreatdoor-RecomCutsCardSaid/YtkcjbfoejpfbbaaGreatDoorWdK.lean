/- Products of words: plain. -/
import Derived.Test.YtkcjbfoejpfbbaaGreatDoorWdG
import Derived.Lib.Mul64
import Derived.Test.YtkcjbfoejpfbbaaGreatDoorRxT
namespace Go.WD
open Go.RX
theorem c6t:PW 1=18446744073709551616:=by rw[a0o,a2K,Nat.one_mul]
theorem a6C {p i:Nat} (h:p<PW i):dig p i=0:=by
 unfold dig;rw[Nat.div_eq_of_lt h]
theorem b8e (p:Nat):dig p 0=p%18446744073709551616:=by unfold dig;rw[a2K,Nat.div_one]
theorem b8f (a b:Nat) (ha:a<18446744073709551616) (hb:b<18446744073709551616):IntKind.u64.wrap ((BitVec.ofInt (IntKind.bits .u64) (a:Int)|||BitVec.ofInt (IntKind.bits .u64) (b:Int)).toNat:Int)=((a|||b:Nat):Int):=by
 have h:=Nat.or_lt_two_pow (n:=64) ha hb
 have e:(BitVec.ofInt 64 (a:Int)|||BitVec.ofInt 64 (b:Int)).toNat=a|||b:=by
  rw[BitVec.toNat_or,BitVec.toNat_ofInt,BitVec.toNat_ofInt]
  congr 1<;>omega
 show IntKind.u64.wrap ((BitVec.ofInt 64 (a:Int)|||BitVec.ofInt 64 (b:Int)).toNat:Int)=_
 rw[e,IntKind.wrap_u64]
 omega
theorem b0v (a:Nat) (ha:a<18446744073709551616):IntKind.u64.wrap ((BitVec.ofInt (IntKind.bits .u64) (a:Int)&&&BitVec.ofInt (IntKind.bits .u64) 4294967295).toNat:Int)=((a%4294967296:Nat):Int):=by
 have e:(BitVec.ofInt 64 (a:Int)&&&BitVec.ofInt 64 4294967295).toNat=a%4294967296:=by
  rw[BitVec.toNat_and,BitVec.toNat_ofInt,BitVec.toNat_ofInt,show((4294967295:Int)%(2^64:Nat)).toNat=2^32-1 from by decide,Nat.and_two_pow_sub_one_eq_mod]
  omega
 show IntKind.u64.wrap ((BitVec.ofInt 64 (a:Int)&&&BitVec.ofInt 64 4294967295).toNat:Int)=_
 rw[e,IntKind.wrap_u64]
 omega
theorem a4Q (a k:Nat) (hk:k<=64):(a:Int).fdiv (2^min k (IntKind.bits .u64))=((a/2^k:Nat):Int):=by
 rw[show min k (IntKind.bits .u64)=k from Nat.min_eq_left hk,show(2:Int)^k=((2^k:Nat):Int)from by simp,Int.fdiv_eq_ediv_of_nonneg _ (Int.natCast_nonneg _)]
 exact(Int.natCast_ediv a (2^k)).symm
open Go.RX
theorem c4b {k i:Nat} (h:i<k):dig (PW k-1) i=18446744073709551615:=by
 obtain⟨d,rfl⟩:=Nat.exists_eq_add_of_lt h
 unfold dig
 have hp:=a1v i
 have hd:=a1v d
 have e:PW (i+d+1)-1=(PW i-1)+PW i*(PW (d+1)-1):=by
  have h1:PW (i+d+1)=PW i*PW (d+1):=by rw[Nat.add_assoc,a7M]
  have h2:0<PW (d+1):=a1v _
  rw[h1,Nat.mul_sub,Nat.mul_one]
  have h3:PW i<=PW i*PW (d+1):=Nat.le_mul_of_pos_right _ h2
  omega
 rw[e,Nat.add_mul_div_left _ _ hp,Nat.div_eq_of_lt (by omega),Nat.zero_add,a0o]
 omega
theorem M_W:M=18446744073709551616*PW 7:=by rw[a4n,show(8:Nat)=7+1 from rfl,a0o];exact Nat.mul_comm _ _
theorem c8n {t:Nat} (h0:0<t) (h1:t<=18446744073709551616) {i:Nat} (hi:i<8):dig (M-t) i=if i=0 then 18446744073709551616-t else 18446744073709551615:=by
 have e:M-t=(18446744073709551616-t)+18446744073709551616*(PW 7-1):=by
  have:=a1v 7
  rw[M_W];omega
 rw[e]
 split
 ·rename_i h;subst h
  rw[b8e,Nat.add_mul_mod_self_left,Nat.mod_eq_of_lt (by omega)]
 ·rename_i h
  obtain⟨j,rfl⟩:∃j,i=j+1:=⟨i-1,by omega⟩
  rw[<-c4b (show j<7 by omega)]
  unfold dig
  rw[a0o j,Nat.mul_comm (PW j),<-Nat.div_div_eq_div_mul,Nat.add_mul_div_left _ _ (by omega),Nat.div_eq_of_lt (show 18446744073709551616-t<18446744073709551616 by omega),Nat.zero_add]
theorem c4c {t:Nat} (h:t<18446744073709551616) (i:Nat):dig t i=if i=0 then t else 0:=by
 split
 ·rename_i e;subst e;rw[b8e,Nat.mod_eq_of_lt h]
 ·rename_i e
  exact a6C (Nat.lt_of_lt_of_le (by rw[c6t];exact h) (b2l (show 1<=i by omega)))
theorem c8o:18446744073709551616<=HM/\HM<M:=by
 have h1:=b7Y
 have h2:PW 1<=PW 7:=b2l (by omega)
 rw[c6t]at h2
 have h3:=c3W
 constructor
 ·rw[h1];omega
 ·omega
theorem b2p {n:Int} (h0: -18446744073709551616<=n) (h1:n<18446744073709551616):words (rs n)=wf fun i=>if i=0 then(n%18446744073709551616).toNat else if n<0 then 18446744073709551615 else 0:=by
 have hM:=c8o
 refine(a2n fun i hi=> ?_)
 by_cases hn:n<0
 ·rw[b3A hn (by omega),show(n+M).toNat=M-n.natAbs from by omega,c8n (by omega) (by omega) hi]
  split
  ·omega
  ·rfl
 ·rw[b3z (by omega) (by omega),c4c (by omega)]
  split
  ·omega
  ·rfl
def sgI (x y:Int):Int:=if x<y then -1 else if x=y then 0 else 1
theorem a4R {n:Int} (h0: -9223372036854775808<=n) (h1:n<9223372036854775808):c6s n:=by
 have:=c8o
 unfold c6s;omega
open Go.RX
def blen (x:Nat):Nat:=if x=0 then 0 else x.log2+1
theorem a6D (x:Nat):x<2^blen x:=by
 unfold blen
 split
 ·rename_i h;subst h;decide
 ·exact Nat.lt_log2_self
theorem a4q {x:Nat} (h:x≠0):0<blen x/\2^(blen x-1)<=x:=by
 unfold blen
 rw[if_neg h]
 exact⟨by omega,by simpa using Nat.log2_self_le h⟩
theorem c8p {x k:Nat} (h0:0<k) (h1:2^(k-1)<=x) (h2:x<2^k):blen x=k:=by
 have hx:x≠0:=fun e=>by subst e;have:=Nat.pow_pos (n:=k-1) (show 0<2 by omega);omega
 obtain⟨p1,p2⟩:=a4q hx
 have p3:=a6D x
 have a1:k-1<blen x:=(Nat.pow_lt_pow_iff_right (show 1<2 by omega)).1 (Nat.lt_of_le_of_lt h1 p3)
 have a2:blen x-1<k:=(Nat.pow_lt_pow_iff_right (show 1<2 by omega)).1 (Nat.lt_of_le_of_lt p2 h2)
 omega
theorem a3y {x k:Nat} (h:2^k<=x):blen x=k+blen (x/2^k):=by
 have hp:0<2^k:=Nat.pow_pos (by omega)
 have hq:x/2^k≠0:=by
  have:=(Nat.le_div_iff_mul_le hp).2 (show 1*2^k<=x by omega)
  omega
 obtain⟨p1,p2⟩:=a4q hq
 have p3:=a6D (x/2^k)
 refine c8p (by omega) ?_ ?_
 ·rw[show k+blen (x/2^k)-1=(blen (x/2^k)-1)+k from by omega,Nat.pow_add]
  exact(Nat.le_div_iff_mul_le hp).1 p2
 ·rw[Nat.pow_add,Nat.mul_comm]
  exact(Nat.div_lt_iff_lt_mul hp).1 p3
theorem blen_le {x k:Nat} (h:x<2^k):blen x<=k:=by
 by_cases hx:x=0
 ·subst hx;simp[blen]
 ·obtain⟨p1,p2⟩:=a4q hx
  have:=(Nat.pow_lt_pow_iff_right (show 1<2 by omega)).1 (Nat.lt_of_le_of_lt p2 h)
  omega
theorem blen_ge {x k:Nat} (h:2^k<=x):k<blen x:=(Nat.pow_lt_pow_iff_right (show 1<2 by omega)).1 (Nat.lt_of_le_of_lt h (a6D x))
theorem b3C (k:Nat):PW k=2^(64*k):=by unfold PW;rfl
theorem a8X:(18446744073709551616:Nat)=2^64:=rfl
theorem b5Z {A i:Nat} (h:dig A i≠0) (hs:A<PW (i+1)):blen A=64*i+blen (dig A i):=by
 have hd:A/PW i=dig A i:=by
  unfold dig
  rw[Nat.mod_eq_of_lt]
  rw[a0o]at hs
  exact(Nat.div_lt_iff_lt_mul (a1v i)).2 (by rw[Nat.mul_comm];exact hs)
 have hle:PW i<=A:=by
  rcases Nat.lt_or_ge A (PW i)with h1|h1
  ·rw[a6C h1]at h;exact absurd rfl h
  ·exact h1
 rw[b3C]at hle hd
 rw[a3y hle,hd]
section
variable {y1 y0 u n q r:Nat}
theorem b8g (hu:u=q*y1+r) (ho:4294967296*r+n<q*y0):(u*4294967296+n)/(y1*4294967296+y0)<q:=by
 have hp:0<y1*4294967296+y0:=by
  rcases Nat.eq_zero_or_pos y0 with h|h
  ·subst h;omega
  ·omega
 refine(Nat.div_lt_iff_lt_mul hp).2 ?_
 rw[Nat.mul_add,<-Nat.mul_assoc,hu,Nat.add_mul]
 omega
theorem a8Y (hu:u=q*y1+r) (hp:0<y1) (ho:q*y0<=4294967296*r+n):q<=(u*4294967296+n)/(y1*4294967296+y0):=by
 refine(Nat.le_div_iff_mul_le (by omega)).2 ?_
 rw[Nat.mul_add,<-Nat.mul_assoc,hu,Nat.add_mul]
 omega
theorem b3D (hn:n<4294967296) (hp:0<y1):(u*4294967296+n)/(y1*4294967296+y0)<=u/y1:=by
 have h1:(u*4294967296+n)/(y1*4294967296+y0)<=(u*4294967296+n)/(4294967296*y1):=Nat.div_le_div_left (by omega) (by omega)
 rw[<-Nat.div_div_eq_div_mul,show(u*4294967296+n)/4294967296=u from by omega]at h1
 exact h1
theorem c6u (h1:2147483648<=y1) (hu:u<y1*4294967296+y0) (h0:y0<4294967296):u/y1<=4294967297:=by
 have:u/y1<4294967298:=(Nat.div_lt_iff_lt_mul (by omega)).2 (by omega)
 omega
theorem c4d (hn:n<4294967296) (hu:u<y1*4294967296+y0):(u*4294967296+n)/(y1*4294967296+y0)<4294967296:=by
 refine(Nat.div_lt_iff_lt_mul (by omega)).2 ?_
 have:(u+1)*4294967296<=(y1*4294967296+y0)*4294967296:=Nat.mul_le_mul_right _ hu
 rw[Nat.mul_comm 4294967296];omega
end
theorem b8h {U Y X n q1 r1 q0 r0:Nat} (hX:X=q1*Y+r1) (hU:U=X*4294967296+n) (h0:r1*4294967296+n=q0*Y+r0) (hr:r0<Y):U/Y=q1*4294967296+q0/\U%Y=r0:=by
 have e:U=r0+Y*(q1*4294967296+q0):=by
  rw[hU,hX,Nat.add_mul,Nat.add_assoc,h0,Nat.mul_add,Nat.mul_comm Y q0,Nat.mul_comm Y,Nat.mul_right_comm]
  omega
 rw[e]
 exact⟨by rw[Nat.add_mul_div_left _ _ (by omega),Nat.div_eq_of_lt hr,Nat.zero_add],by rw[Nat.add_mul_mod_self_left,Nat.mod_eq_of_lt hr]⟩
theorem c6v {a b i:Nat} (hb:b<2^i):(a*2^i)|||b=a*2^i+b:=by
 rw[Nat.mul_comm,Nat.two_pow_add_eq_or_of_lt hb]
theorem a2e {r:Nat} (h:r<=64):(18446744073709551616:Nat)=2^(64-r)*2^r:=by
 rw[<-Nat.pow_add,show 64-r+r=64 from by omega]
theorem c8q (d:Nat) {r:Nat} (h:r<=64):d*2^r%18446744073709551616=(d%2^(64-r))*2^r:=by
 rw[a2e h,Nat.mul_mod_mul_right]
theorem c6w {d:Nat} (hd:d<18446744073709551616) {r:Nat} (h:r<=64):d/2^(64-r)<2^r:=by
 refine(Nat.div_lt_iff_lt_mul (Nat.pow_pos (by omega))).2 ?_
 rw[Nat.mul_comm,<-a2e h];exact hd
theorem d2w {q k:Nat} (h:2^(k+1) ∣ q):q|||2^k=q+2^k:=by
 obtain⟨d,rfl⟩:=h
 exact(Nat.two_pow_add_eq_or_of_lt (Nat.pow_lt_pow_right (by omega) (by omega)) d).symm
end Go.WD
/- Contracts of package wide: products. -/
namespace Go.Proofs.YtkcjbfoejpfbbaaGreatDoor
open Go.Proofs.Tryz
open Go.RowKit Go.RX Go.WD Go.IntWalk
theorem a1I (a:Nat) (ha:a<18446744073709551616):IntKind.u64.wrap (a:Int)=(a:Int):=by rw[IntKind.wrap_u64];omega
theorem d2x (a:Nat):IntKind.u64.wrap (a:Int)=((a%18446744073709551616:Nat):Int):=by rw[IntKind.wrap_u64];omega
theorem c6x (a b:Nat):(a:Int)*(b:Int)=((a*b:Nat):Int):=(Int.natCast_mul a b).symm
theorem b6z (a b:Nat):(a:Int)+(b:Int)=((a+b:Nat):Int):=(Int.natCast_add a b).symm
theorem c4e (a:Nat):(a:Int).fdiv (2^min (Int.toNat 32) (IntKind.bits .u64))=((a/4294967296:Nat):Int):=a4Q a 32 (by omega)
theorem b0w (x y:Nat) (hx:x<18446744073709551616) (hy:y<18446744073709551616):Det prog 260 [.int .u64 x,.int .u64 y] (.tuple #[.int .u64 ((x*y/18446744073709551616:Nat):Int),.int .u64 ((x*y%18446744073709551616:Nat):Int)]):=by
 obtain⟨bd,bt,bw,hhi⟩:=Lib.mul64_hi x y hx hy
 have ba:=Lib.half_mul_le (a:=x/4294967296) (b:=y/4294967296) (by omega) (by omega)
 have bb:=Lib.half_mul_le (a:=x/4294967296) (b:=y%4294967296) (by omega) (by omega)
 have bc:=Lib.half_mul_le (a:=x%4294967296) (b:=y/4294967296) (by omega) (by omega)
 have ba':x/4294967296*(y/4294967296)<18446744073709551616:=by omega
 have bb':x/4294967296*(y%4294967296)<18446744073709551616:=by omega
 have bc':x%4294967296*(y/4294967296)<18446744073709551616:=by omega
 have bh1:x/4294967296*(y/4294967296)+(x/4294967296*(y%4294967296)+x%4294967296*(y%4294967296)/4294967296)/4294967296<18446744073709551616:=by omega
 have bh:x/4294967296*(y/4294967296)+(x/4294967296*(y%4294967296)+x%4294967296*(y%4294967296)/4294967296)/4294967296+((x/4294967296*(y%4294967296)+x%4294967296*(y%4294967296)/4294967296)%4294967296+x%4294967296*(y/4294967296))/4294967296<18446744073709551616:=by
  have:=(Nat.div_lt_iff_lt_mul (show 0<18446744073709551616 by omega)).2 (Nat.mul_lt_mul'' hx hy)
  omega
 refine a0z a0r c3T (by kernel_rfl) rfl (a0m ⟨_,rfl⟩ (a0m ⟨_,rfl⟩ (a0X ?_ rfl)))
 simp only[rxs,a2S,c4e,b0v x hx,b0v y hy,c6x,b6z,a1I _ bd,a1I _ bb',a1I _ bt,b0v _ bt,a1I _ bc',a1I _ bw,a1I _ ba',a1I _ bh1,a1I _ bh,d2x (x*y)]
 rw[hhi]
theorem c8r (k:Nat) (h:k<=9223372036854775807):IntKind.i64.wrap (k:Int)=(k:Int):=i64_in _ ⟨by omega,by omega⟩
theorem d7c (k:Nat) (j:Nat):(k:Int)+(j:Int)=((k+j:Nat):Int):=by omega
end Go.Proofs.YtkcjbfoejpfbbaaGreatDoor
/- Contracts of package wide: Add, Sub, Mul, Of, Int, Sign, Cmp. -/
namespace Go.Proofs.YtkcjbfoejpfbbaaGreatDoor
open Go.Proofs.Tryz
open Go.RowKit Go.RX Go.WD Go.IntWalk
theorem b0x (n:Int):IntKind.u64.wrap n=((n%18446744073709551616).toNat:Int):=by
 rw[IntKind.wrap_u64];omega
theorem d6z (u:Nat):spl (words 0) 0 [.int .u64 (u:Int)]=wf fun j=>if j=0 then u else 0:=by
 refine Eq.trans (b3w (dig 0) (show 0<8 by omega) u) (a2n fun i _=> ?_)
 rw[a4o]
theorem b8i (n:Int) (h0: -9223372036854775808<=n) (h1:n<9223372036854775808):Det prog 36 [.int .i64 n] (iw n):=by
 have hw:=b2p (n:=n) (by omega) (by omega)
 refine a0z a0r d2k (by kernel_rfl) rfl (a0m ⟨n,rfl⟩ (a1R (b:=decide (n<0)) rfl (fun h=> ?_) (fun h=> ?_)))
 ·have hn:=of_decide_eq_true h
  refine⟨fun l=>∃k,1<=k/\k<=8/\l=[.int .i64 (k:Nat),.agg (wf fun j=>if j<k then(if j=0 then(n%18446744073709551616).toNat else 18446744073709551615)else 0)],fun l=>(8-intOf (l.getD 0 undef)).toNat,⟨1,by omega,by omega,?_⟩,?_⟩
  ·simp only[rxs,b0r,b0x,d6z]
   congr 3
  ·rintro vals-⟨k,hk1,hk,rfl⟩
   refine a0m ⟨_,rfl⟩ (a1R (b:=decide ((k:Int)<8)) rfl (fun h=> ?_) (fun h=> ?_))
   ·have hk:k<8:=by simp at h;omega
    have e3:IntKind.i64.wrap ((k:Int)+1)=((k+1:Nat):Int):=c8r (k+1) (by omega)
    refine a0m ⟨_,_,rfl⟩ (a0m ⟨?_,?_⟩ ?_)
    ·show(0:Int)<=(k:Int);omega
    ·show(k:Int)<8;omega
    ·refine⟨⟨k+1,by omega,by omega,?_⟩,?_⟩
     ·have:=b3w (fun j=>if j<k then(if j=0 then(n%18446744073709551616).toNat else 18446744073709551615)else 0) hk 18446744073709551615
      simp only[rxs,e3]
      rw[show(18446744073709551615:Int)=((18446744073709551615:Nat):Int)from rfl,this]
      congr 3
      refine a2n fun i _=> ?_
      by_cases e:i=k
      ·subst e;rw[if_pos rfl,if_pos (show i<i+1 by omega),if_neg (show ¬i=0 by omega)]
      ·rw[if_neg e]
       by_cases e':i<k
       ·rw[if_pos e',if_pos (show i<k+1 by omega)]
       ·rw[if_neg e',if_neg (show ¬i<k+1 by omega)]
     ·simp only[rxs,e3]
      omega
   ·have hk:k=8:=by simp at h;omega
    subst hk
    refine a0X rfl ?_
    simp only[rxs,a2S,iw,wd,hw]
    congr 1
    exact a2n fun i hi=>by rw[if_pos hi,if_pos hn]
 ·have hn:=of_decide_eq_false h
  refine a0X rfl ?_
  simp only[rxs,a2S,b0r,b0x,d6z,iw,wd,hw]
  congr 1
  exact a2n fun i hi=>by rw[if_neg hn]
def a7O (z:Int):Value:=if -9223372036854775808<=z/\z<9223372036854775808 then .tuple #[.int .i64 z,.int .i64 0]else .tuple #[.int .i64 0,.int .i64 6]
theorem c8s (n:Int): -9223372036854775808<=IntKind.i64.wrap n/\IntKind.i64.wrap n<9223372036854775808/\(IntKind.i64.wrap n-n)%18446744073709551616=0:=by
 rw[IntKind.wrap_i64];omega
theorem c8t (a:Nat):Det prog 34 [wd a] (a7O (toI a)):=by
 obtain⟨w1,w2,w3⟩:=c8s (dig a 0:Nat)
 have hO:=b8i _ w1 w2
 have hM:=c8o
 have hmw:=M_W
 have hl:=Nat.mod_lt a b0n
 have hd0:((dig a 0:Nat):Int)=toI a%18446744073709551616:=by
  rw[b8e]
  have e1:a%18446744073709551616=(a%M)%18446744073709551616:=by rw[hmw,Nat.mod_mul_right_mod]
  rw[e1]
  unfold toI
  split
  ·omega
  ·rw[hmw]
   have:=Int.add_mul_emod_self_left ((a%(18446744073709551616*PW 7):Nat):Int) 18446744073709551616 (-(PW 7:Int))
   rw[show((a%(18446744073709551616*PW 7):Nat):Int)-((18446744073709551616*PW 7:Nat):Int)=((a%(18446744073709551616*PW 7):Nat):Int)+18446744073709551616* -(PW 7:Int)from by omega,this]
   omega
 have key:(IntKind.i64.wrap ((dig a 0:Nat):Int)=toI a)↔(-9223372036854775808<=toI a/\toI a<9223372036854775808):=by
  constructor
  ·intro h;rw[<-h];exact⟨w1,w2⟩
  ·intro⟨h1,h2⟩;omega
 have heq:decide (rs (IntKind.i64.wrap ((dig a 0:Nat):Int))%M=a%M)=decide (-9223372036854775808<=toI a/\toI a<9223372036854775808):=by
  rw[Bool.eq_iff_iff,decide_eq_true_iff,decide_eq_true_iff,<-key,d2t,<-d2s,d2u (a4R w1 w2) (b3y a)]
 refine a0z a0r d2l (by kernel_rfl) rfl (a0m ⟨words_size a,words_one a⟩ (a0m ⟨dig a 0,rfl⟩ (a2r hO rfl ?_)))
 refine b7m (c8m (a:=rs (IntKind.i64.wrap ((dig a 0:Nat):Int))) (b:=a) rfl rfl rfl rfl rfl) rfl ?_
 rw[heq]
 refine a0m ⟨_,rfl⟩ (a1R rfl (fun h=> ?_) (fun h=> ?_))
 ·refine a0X rfl ?_
  simp only[rxs,a2S,a7O]
  have h:toI a< -9223372036854775808\/9223372036854775808<=toI a:=by simpa using h
  rw[if_neg (by omega)]
 ·refine a0X rfl ?_
  have h: -9223372036854775808<=toI a/\toI a<9223372036854775808:=by simpa using h
  show Value.tuple #[.int .i64 (IntKind.i64.wrap ((dig a 0:Nat):Int)),.int .i64 0]=_
  simp only[a7O]
  rw[if_pos h,key.2 h]
end Go.Proofs.YtkcjbfoejpfbbaaGreatDoor
/- Contracts: lengths, division by words. -/
namespace Go.Proofs.YtkcjbfoejpfbbaaGreatDoor
open Go.Proofs.Tryz
open Go.RowKit Go.RX Go.WD Go.IntWalk
theorem d5s (a:Nat):(a:Int).fdiv (2^min (Int.toNat 16) (IntKind.bits .u64))=((a/65536:Nat):Int):=a4Q a 16 (by omega)
theorem d7d (a:Nat):(a:Int).fdiv (2^min (Int.toNat 8) (IntKind.bits .u64))=((a/256:Nat):Int):=a4Q a 8 (by omega)
def len8:ByteArray:=⟨#[0,1,2,2,3,3,3,3,4,4,4,4,4,4,4,4,5,5,5,5,5,5,5,5,5,5,5,5,5,5,5,5,6,6,6,6,6,6,6,6,6,6,6,6,6,6,6,6,6,6,6,6,6,6,6,6,6,6,6,6,6,6,6,6,7,7,7,7,7,7,7,7,7,7,7,7,7,7,7,7,7,7,7,7,7,7,7,7,7,7,7,7,7,7,7,7,7,7,7,7,7,7,7,7,7,7,7,7,7,7,7,7,7,7,7,7,7,7,7,7,7,7,7,7,7,7,7,7,8,8,8,8,8,8,8,8,8,8,8,8,8,8,8,8,8,8,8,8,8,8,8,8,8,8,8,8,8,8,8,8,8,8,8,8,8,8,8,8,8,8,8,8,8,8,8,8,8,8,8,8,8,8,8,8,8,8,8,8,8,8,8,8,8,8,8,8,8,8,8,8,8,8,8,8,8,8,8,8,8,8,8,8,8,8,8,8,8,8,8,8,8,8,8,8,8,8,8,8,8,8,8,8,8,8,8,8,8,8,8,8,8,8,8,8,8,8,8,8,8,8,8,8,8,8,8,8]⟩
theorem b8j:len8.size=256:=by kernel_rfl
theorem c4f:(List.range 256).all (fun b=>(len8.data.getD b 0).toNat==blen b)=true:=by kernel_rfl
theorem c4g {b:Nat} (h:b<256):(len8.data.getD b 0).toNat=blen b:=by
 have:=List.all_eq_true.1 c4f b (List.mem_range.2 h)
 simpa using this
set_option maxRecDepth 100000 in
theorem a4r (x:Nat) (hx:x<18446744073709551616):Det prog 160 [.int .u64 x] (.int .i64 (blen x)):=by
 refine a0z a0r c3V (by kernel_rfl) rfl (a0m ⟨_,rfl⟩ ⟨fun l=>∃y n,l=[.int .u64 (y:Nat),.int .i64 (n:Nat)]/\y<4294967296/\n<=32/\n+blen y=blen x,?_,?_⟩)
 ·refine a1R (b:=decide ((x:Int)≥4294967296)) rfl (fun h=> ?_) (fun h=> ?_)
  ·have h:=of_decide_eq_true h
   exact⟨x/4294967296,32,by simp only[rxs,c4e];rfl,by omega,by omega,(a3y (k:=32) (by omega)).symm⟩
  ·have h:=of_decide_eq_false h
   exact⟨x,0,rfl,by omega,by omega,by omega⟩
 rintro vals-⟨y,n,rfl,hy,hn,hb⟩
 refine a0m ⟨_,rfl⟩ ⟨fun l=>∃y n,l=[.int .u64 (y:Nat),.int .i64 (n:Nat)]/\y<65536/\n<=48/\n+blen y=blen x,?_,?_⟩
 ·refine a1R (b:=decide ((y:Int)≥65536)) rfl (fun h=> ?_) (fun h=> ?_)
  ·have h:=of_decide_eq_true h
   have e:=a3y (x:=y) (k:=16) (by omega)
   refine a0m ⟨_,rfl⟩ ⟨y/65536,n+16,?_,by omega,by omega,?_⟩
   ·have e3:IntKind.i64.wrap ((n:Int)+16)=((n+16:Nat):Int):=c8r (n+16) (by omega)
    simp only[rxs,d5s,e3]
   ·rw[show(2:Nat)^16=65536 from rfl]at e
    omega
  ·have h:=of_decide_eq_false h
   exact⟨y,n,rfl,by omega,by omega,hb⟩
 rintro vals-⟨y,n,rfl,hy,hn,hb⟩
 refine a0m ⟨_,rfl⟩ ⟨fun l=>∃y n,l=[.int .u64 (y:Nat),.int .i64 (n:Nat)]/\y<256/\n<=56/\n+blen y=blen x,?_,?_⟩
 ·refine a1R (b:=decide ((y:Int)≥256)) rfl (fun h=> ?_) (fun h=> ?_)
  ·have h:=of_decide_eq_true h
   have e:=a3y (x:=y) (k:=8) (by omega)
   refine a0m ⟨_,rfl⟩ ⟨y/256,n+8,?_,by omega,by omega,?_⟩
   ·have e3:IntKind.i64.wrap ((n:Int)+8)=((n+8:Nat):Int):=c8r (n+8) (by omega)
    simp only[rxs,d7d,e3]
   ·rw[show(2:Nat)^8=256 from rfl]at e
    omega
  ·have h:=of_decide_eq_false h
   exact⟨y,n,rfl,by omega,by omega,hb⟩
 rintro vals-⟨y,n,rfl,hy,hn,hb⟩
 have hu8:IntKind.u8.wrap (y:Int)=(y:Int):=by rw[IntKind.wrap_u8];omega
 have hyl:blen y<=8:=blen_le hy
 refine a0m ⟨_,rfl⟩ (b7m (a9X (s:=len8) (k:= .u8) (m:=y) (vs:=[.string len8,.int .u8 y]) rfl rfl rfl (by kernel_rfl) (by rw[b8j];exact hy)) ?_ ?_)
 ·simp only[rxs,hu8];rfl
 ·rw[c4g hy]
  refine a0m ⟨_,rfl⟩ (a0m ⟨_,rfl⟩ (a0X ?_ rfl))
  simp only[rxs,a2S]
  rw[c8r (blen y) (by omega),d7c,c8r (n+blen y) (by omega),hb]
theorem b3E (x:Nat) (hx:x<18446744073709551616):Det prog 268 [.int .u64 x] (.int .i64 ((64-blen x:Nat):Int)):=by
 have hl:blen x<=64:=blen_le hx
 refine a0z a0r b7U (by kernel_rfl) rfl (a2r (a4r x hx) rfl (a0m ⟨_,rfl⟩ (a0X ?_ rfl)))
 simp only[rxs,a2S]
 rw[show(64:Int)-(blen x:Int)=((64-blen x:Nat):Int)from by omega,c8r _ (by omega)]
end Go.Proofs.YtkcjbfoejpfbbaaGreatDoor

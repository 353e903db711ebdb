/- Contracts of package wide: numbers. -/
import Derived.Test.YtlmgkkjgdapnpaaGreatDoorWdB
import Derived.Lib.Mul64
import Derived.Test.YtlmgkkjgdapnpaaGreatDoorRxT
namespace Go.Proofs.YtlmgkkjgdapnpaaGreatDoor
open Go.Proofs.Tryz
open Go.RowKit Go.RX Go.WD Go.IntWalk
theorem d6D (d:Nat) (h:d<18446744073709551616):((d:Int).fdiv (2^(min ((63:Int).toNat) (IntKind.bits .u64)))==1)=decide (¬d<9223372036854775808):=by
 have e:(2:Int)^(min ((63:Int).toNat) (IntKind.bits .u64))=9223372036854775808:=by decide
 rw[e,Int.fdiv_eq_ediv_of_nonneg _ (by omega),Bool.eq_iff_iff]
 simp
 omega
theorem b3o {a:Nat} (h:¬a%M<HM):sb 0 a%M=(toI a).natAbs%M:=by
 have hl:=Nat.mod_lt a b1k
 have:=c3o
 unfold sb toI
 rw[if_neg h]
 congr 1
 omega
theorem a2r (a:Nat):(toI a).natAbs<M:=by
 obtain⟨h1,h2⟩:=c4j a
 have:=c3o
 omega
theorem a9U (a:Nat):Det prog 119 [wd a] (nm (toI a)):=by
 have hl:=Nat.mod_lt a b1k
 have hM:=c3o
 have htop:=c9q a
 have hc:∀ρ:List Value,D prog (wd a::ρ) (.op2 .eql .u64 (.op2 .shr .u64 (.cell (.v 0) 7 0 noI) (.k (.int .u64 (63)))) (.k (.int .u64 (1))))= .bool (decide (¬a%M<HM)):=fun ρ=>by
  simp only[rxs,a1v a (show 7<8 by omega)]
  rw[d6D _ (a6p a 7)]
  congr 1
  rw[Bool.eq_iff_iff,decide_eq_true_iff,decide_eq_true_iff,htop]
 refine a0H mixed c9g (by kernel_rfl) rfl (a0v ⟨a0r a,a0x a⟩ (a0v ⟨dig a 7,?_⟩ (a1I (hc []) (fun h=> ?_) (fun h=> ?_))))
 ·simp only[rxs,a1v a (show 7<8 by omega)]
 ·have h:¬a%M<HM:=by simpa using h
  refine a1l (a3V 0 a) (by simp only[rxs,a8T];rfl) ?_
  refine a0v ⟨_,rfl,Nat.zero_lt_succ _⟩ (a0v ⟨_,rfl,Nat.lt_succ_self _⟩ (a0v ⟨a0r _,a0x _⟩ (a0Z rfl ?_)))
  simp only[List.map_cons,List.map_nil,a4w]
  rw[D,List.cons_append,List.nil_append,hc]
  simp only[rxs]
  show nb _ (sb 0 a)=nm (toI a)
  exact a5i (by rw[Bool.eq_iff_iff];simp[toI,if_neg h];omega) (b3o h)
 ·have h:a%M<HM:=by simpa using h
  refine a0Z rfl ?_
  simp only[List.map_cons,List.map_nil,a4w]
  rw[D,hc]
  simp only[rxs]
  show nb _ a=nm (toI a)
  refine a5i (by rw[Bool.eq_iff_iff];simp[toI,if_pos h];omega) ?_
  unfold toI;rw[if_pos h,Int.natAbs_natCast,Nat.mod_mod]
theorem a2J (b:Bool) (n:Nat):(nb b n).cells= #[.bool b]++words n:=rfl
def b2I (z:Int):Value:=if -(HM:Int)<=z/\z<HM then .tuple #[iw z,.int .i64 0]else .tuple #[wd 0,.int .i64 6]
theorem b4m (z:Int) (hz:z.natAbs<M):Det prog 120 [nm z] (b2I z):=by
 have hH:=d6C
 refine a0H mixed c9h (by kernel_rfl) rfl (a0v ⟨a1z _ _,a3H _ _⟩ (a1l (b1p z.natAbs HM) ?_ (a0v ⟨_,rfl⟩ ?_)))
 ·simp only[rxs,nm,a2J,b8j,a8T,b3m]
  rfl
 ·rw[Nat.mod_eq_of_lt hz,Nat.mod_eq_of_lt hH]
  refine a1I (b:=decide (sg z.natAbs HM>0)) rfl (fun h=> ?_) (fun h=> ?_)
  ·have h:=sg_pos.1 (of_decide_eq_true h)
   refine a0Z rfl ?_
   simp only[rxs,a4w,a3U,b2I]
   rw[if_neg (by omega)]
  ·have h:¬HM<z.natAbs:=fun e=>of_decide_eq_false h (sg_pos.2 e)
   refine a1I (b:=sg z.natAbs HM==0) rfl (fun h1=> ?_) (fun h1=> ?_)
   ·have h1:=sg_zero.1 (by simpa using h1)
    refine a0v ⟨_,rfl⟩ (a1I (b:= !decide (z<0)) rfl (fun h2=> ?_) (fun h2=> ?_))
    ·have h2:¬z<0:=by simpa using h2
     refine a0Z rfl ?_
     simp only[rxs,a4w,a3U,b2I]
     rw[if_neg (by omega)]
    ·have h2:z<0:=by simpa using h2
     refine a1l (a3V 0 z.natAbs) ?_ (a0v ⟨_,rfl,Nat.zero_lt_succ _⟩ (a0v ⟨_,rfl,Nat.lt_succ_self _⟩ (a0v ⟨a0r _,a0x _⟩ (a0Z rfl ?_))))
     ·simp only[rxs,nm,a2J,b8j,a8T];rfl
     ·simp only[rxs,a4w,b2I]
      rw[if_pos (by omega),<-a6q h2 hz];rfl
   ·have h1:z.natAbs≠HM:=fun e=>by simp[sg_zero.2 e]at h1
    refine a0v ⟨_,rfl⟩ (a1I (b:=decide (z<0)) rfl (fun h2=> ?_) (fun h2=> ?_))
    ·have h2:z<0:=by simpa using h2
     refine a1l (a3V 0 z.natAbs) ?_ (a0v ⟨_,rfl,Nat.zero_lt_succ _⟩ (a0v ⟨_,rfl,Nat.lt_succ_self _⟩ (a0v ⟨a0r _,a0x _⟩ (a0Z rfl ?_))))
     ·simp only[rxs,nm,a2J,b8j,a8T];rfl
     ·simp only[rxs,a4w,b2I]
      rw[if_pos (by omega),<-a6q h2 hz];rfl
    ·have h2:¬z<0:=by simpa using h2
     refine a0Z rfl ?_
     simp only[b2I]
     rw[if_pos (by omega),<-b8i (by omega) hz]
     rfl
set_option maxHeartbeats 2000000 in
theorem c9v (x y:Int) (hx:x.natAbs<M) (hy:y.natAbs<M):∃v,Det prog 163 [nm x,nm y] (.tuple #[.agg v,.bool (decide (M<=(x+y).natAbs))])/\v.size=9/\a0p v/\((x+y).natAbs<M->Value.agg v=nm (x+y)):=by
 have hcr:cr x.natAbs y.natAbs 8=if M<=x.natAbs+y.natAbs then 1 else 0:=by
  unfold cr
  rw[<-a3L,Nat.mod_eq_of_lt hx,Nat.mod_eq_of_lt hy]
  split
  ·rename_i h
   rw[Nat.div_eq_sub_div b1k h,Nat.div_eq_of_lt (by omega)]
  ·rename_i h
   exact Nat.div_eq_of_lt (by omega)
 by_cases hs:(decide (x<0))=(decide (y<0))
 ·have hs':x<0↔y<0:=by simpa using hs
  refine⟨#[.bool (decide (x<0)&& !decide ((x.natAbs+y.natAbs)%M=0))]++words (x.natAbs+y.natAbs),a0H mixed c7C (by kernel_rfl) rfl ?_,a1z _ _,a3H _ _,fun h=> ?_⟩
  ·refine a0v ⟨a1z _ _,a3H _ _⟩ (a0v ⟨a1z _ _,a3H _ _⟩ (a0v ⟨_,rfl⟩ (a0v ⟨_,rfl⟩ (c9b ?_ ?_))))
   ·show Value.bool (false !=(decide (x<0)==decide (y<0)))=_
    rw[hs];simp
   ·refine a1l (c4l x.natAbs y.natAbs) rfl (a0v ⟨_,rfl,Nat.zero_lt_succ _⟩ (a0v ⟨_,rfl,Nat.lt_succ_self _⟩ (a0v ⟨a0r _,a0x _⟩ ?_)))
    refine a1l (b8m (decide (x<0)) (x.natAbs+y.natAbs)) rfl (a0v ⟨_,rfl⟩ (a0v ⟨a1z _ _,a3H _ _⟩ (a0Z rfl ?_)))
    show Value.tuple #[nb _ _,.bool (decide (((cr x.natAbs y.natAbs 8:Nat):Int)>0))]=_
    rw[hcr]
    have:(decide ((((if M<=x.natAbs+y.natAbs then 1 else 0:Nat)):Int)>0))=decide (M<=(x+y).natAbs):=by
     rw[Bool.eq_iff_iff,decide_eq_true_iff,decide_eq_true_iff]
     split<;>omega
    rw[this];rfl
  ·show nb _ _=nb _ _
   refine a5i ?_ (congrArg (· %M) (by omega))
   rw[Nat.mod_eq_of_lt (by omega),Bool.eq_iff_iff]
   simp;omega
 ·have hs':¬(x<0↔y<0):=by simpa using hs
  have hlt:(x+y).natAbs<M:=by omega
  have hsub:∀a b:Nat,a<M->b<=a->sb a b%M=(a-b)%M:=fun a b ha hb=>by
   unfold sb
   rw[Nat.mod_eq_of_lt (show b<M by omega),show a+(M-b)=(a-b)+M from by omega,Nat.add_mod_right]
  refine⟨#[.bool (decide (x+y<0))]++words (x+y).natAbs,a0H mixed c7C (by kernel_rfl) rfl ?_,a1z _ _,a3H _ _,fun h=>rfl⟩
  refine a0v ⟨a1z _ _,a3H _ _⟩ (a0v ⟨a1z _ _,a3H _ _⟩ (a0v ⟨_,rfl⟩ (a0v ⟨_,rfl⟩ (a9L ?_ ?_))))
  ·show Value.bool (false !=(decide (x<0)==decide (y<0)))=_
   rw[beq_eq_false_iff_ne.2 hs];rfl
  ·refine a1l (b1p x.natAbs y.natAbs) (by simp only[rxs,nm,a2J];rfl) (a0v ⟨_,rfl⟩ (a1I (b:=decide (sg (x.natAbs%M) (y.natAbs%M)≥0)) rfl (fun h=> ?_) (fun h=> ?_)))
   ·have h:=sg_nonneg.1 (of_decide_eq_true h)
    rw[Nat.mod_eq_of_lt hx,Nat.mod_eq_of_lt hy]at h
    have e:=hsub x.natAbs y.natAbs hx h
    refine a1l (a3V x.natAbs y.natAbs) (by simp only[rxs,nm,a2J];rfl) (a0v ⟨_,rfl,Nat.zero_lt_succ _⟩ (a0v ⟨_,rfl,Nat.lt_succ_self _⟩ (a0v ⟨a0r _,a0x _⟩ ?_)))
    refine a1l (b8m (decide (x<0)) (sb x.natAbs y.natAbs)) (by simp only[rxs,nm,a2J];rfl) (a0v ⟨a1z _ _,a3H _ _⟩ (a0Z rfl ?_))
    show Value.tuple #[nb _ _,.bool false]= .tuple #[nb _ _,_]
    rw[a5i (b':=decide (x+y<0)) (n:=(x+y).natAbs) ?_ (by rw[e];exact congrArg (· %M) (by omega)),decide_eq_false (show ¬M<=(x+y).natAbs by omega)]
    rw[e,Nat.mod_eq_of_lt (by omega),Bool.eq_iff_iff]
    simp;omega
   ·have h:¬y.natAbs<=x.natAbs:=fun e=>of_decide_eq_false h (sg_nonneg.2 (by rw[Nat.mod_eq_of_lt hx,Nat.mod_eq_of_lt hy];exact e))
    have e:=hsub y.natAbs x.natAbs hy (by omega)
    refine a1l (a3V y.natAbs x.natAbs) (by simp only[rxs,nm,a2J];rfl) (a0v ⟨_,rfl,Nat.zero_lt_succ _⟩ (a0v ⟨_,rfl,Nat.lt_succ_self _⟩ (a0v ⟨a0r _,a0x _⟩ ?_)))
    refine a1l (b8m (decide (y<0)) (sb y.natAbs x.natAbs)) (by simp only[rxs,nm,a2J];rfl) (a0v ⟨a1z _ _,a3H _ _⟩ (a0Z rfl ?_))
    show Value.tuple #[nb _ _,.bool false]= .tuple #[nb _ _,_]
    rw[a5i (b':=decide (x+y<0)) (n:=(x+y).natAbs) ?_ (by rw[e];exact congrArg (· %M) (by omega)),decide_eq_false (show ¬M<=(x+y).natAbs by omega)]
    rw[e,Nat.mod_eq_of_lt (by omega),Bool.eq_iff_iff]
    simp;omega
open Go.RowKit Go.RX Go.WD Go.IntWalk
theorem a5l (z:Int):∃a b,b2I z= .tuple #[wd a,b]:=by
 unfold b2I;split
 ·exact⟨_,_,rfl⟩
 ·exact⟨_,_,rfl⟩
end Go.Proofs.YtlmgkkjgdapnpaaGreatDoor
/- Products of words: plain. -/
namespace Go.WD
open Go.RX
theorem c7F:PW 1=18446744073709551616:=by rw[a0C,a2X,Nat.one_mul]
theorem a7w {p i:Nat} (h:p<PW i):dig p i=0:=by
 unfold dig;rw[Nat.div_eq_of_lt h]
theorem c7G (p:Nat):dig p 0=p%18446744073709551616:=by unfold dig;rw[a2X,Nat.div_one]
theorem b8o (a b:Nat) (ha:a<18446744073709551616) (hb:b<18446744073709551616):IntKind.u64.wrap ((BitVec.ofInt (IntKind.bits .u64) (a:Int)|||BitVec.ofInt (IntKind.bits .u64) (b:Int)).toNat:Int)=((a|||b:Nat):Int):=by
 have h:=Nat.or_lt_two_pow (n:=64) ha hb
 have e:(BitVec.ofInt 64 (a:Int)|||BitVec.ofInt 64 (b:Int)).toNat=a|||b:=by
  rw[BitVec.toNat_or,BitVec.toNat_ofInt,BitVec.toNat_ofInt]
  congr 1<;>omega
 show IntKind.u64.wrap ((BitVec.ofInt 64 (a:Int)|||BitVec.ofInt 64 (b:Int)).toNat:Int)=_
 rw[e,IntKind.wrap_u64]
 omega
theorem b1q (a:Nat) (ha:a<18446744073709551616):IntKind.u64.wrap ((BitVec.ofInt (IntKind.bits .u64) (a:Int)&&&BitVec.ofInt (IntKind.bits .u64) 4294967295).toNat:Int)=((a%4294967296:Nat):Int):=by
 have e:(BitVec.ofInt 64 (a:Int)&&&BitVec.ofInt 64 4294967295).toNat=a%4294967296:=by
  rw[BitVec.toNat_and,BitVec.toNat_ofInt,BitVec.toNat_ofInt,show((4294967295:Int)%(2^64:Nat)).toNat=2^32-1 from by decide,Nat.and_two_pow_sub_one_eq_mod]
  omega
 show IntKind.u64.wrap ((BitVec.ofInt 64 (a:Int)&&&BitVec.ofInt 64 4294967295).toNat:Int)=_
 rw[e,IntKind.wrap_u64]
 omega
theorem a5Q (a k:Nat) (hk:k<=64):(a:Int).fdiv (2^min k (IntKind.bits .u64))=((a/2^k:Nat):Int):=by
 rw[show min k (IntKind.bits .u64)=k from Nat.min_eq_left hk,show(2:Int)^k=((2^k:Nat):Int)from by simp,Int.fdiv_eq_ediv_of_nonneg _ (Int.natCast_nonneg _)]
 exact(Int.natCast_ediv a (2^k)).symm
open Go.RX
theorem c4o {k i:Nat} (h:i<k):dig (PW k-1) i=18446744073709551615:=by
 obtain⟨d,rfl⟩:=Nat.exists_eq_add_of_lt h
 unfold dig
 have hp:=a1k i
 have hd:=a1k d
 have e:PW (i+d+1)-1=(PW i-1)+PW i*(PW (d+1)-1):=by
  have h1:PW (i+d+1)=PW i*PW (d+1):=by rw[Nat.add_assoc,a8Q]
  have h2:0<PW (d+1):=a1k _
  rw[h1,Nat.mul_sub,Nat.mul_one]
  have h3:PW i<=PW i*PW (d+1):=Nat.le_mul_of_pos_right _ h2
  omega
 rw[e,Nat.add_mul_div_left _ _ hp,Nat.div_eq_of_lt (by omega),Nat.zero_add,a0C]
 omega
theorem M_W:M=18446744073709551616*PW 7:=by rw[a3L,show(8:Nat)=7+1 from rfl,a0C];exact Nat.mul_comm _ _
theorem c9w {t:Nat} (h0:0<t) (h1:t<=18446744073709551616) {i:Nat} (hi:i<8):dig (M-t) i=if i=0 then 18446744073709551616-t else 18446744073709551615:=by
 have e:M-t=(18446744073709551616-t)+18446744073709551616*(PW 7-1):=by
  have:=a1k 7
  rw[M_W];omega
 rw[e]
 split
 ·rename_i h;subst h
  rw[c7G,Nat.add_mul_mod_self_left,Nat.mod_eq_of_lt (by omega)]
 ·rename_i h
  obtain⟨j,rfl⟩:∃j,i=j+1:=⟨i-1,by omega⟩
  rw[<-c4o (show j<7 by omega)]
  unfold dig
  rw[a0C j,Nat.mul_comm (PW j),<-Nat.div_div_eq_div_mul,Nat.add_mul_div_left _ _ (by omega),Nat.div_eq_of_lt (show 18446744073709551616-t<18446744073709551616 by omega),Nat.zero_add]
theorem c4p {t:Nat} (h:t<18446744073709551616) (i:Nat):dig t i=if i=0 then t else 0:=by
 split
 ·rename_i e;subst e;rw[c7G,Nat.mod_eq_of_lt h]
 ·rename_i e
  exact a7w (Nat.lt_of_lt_of_le (by rw[c7F];exact h) (b3l (show 1<=i by omega)))
theorem M_big:18446744073709551616<=HM/\HM<M:=by
 have h1:=b6b
 have h2:PW 1<=PW 7:=b3l (by omega)
 rw[c7F]at h2
 have h3:=c3o
 constructor
 ·rw[h1];omega
 ·omega
theorem b3p {n:Int} (h0: -18446744073709551616<=n) (h1:n<18446744073709551616):words (rs n)=wf fun i=>if i=0 then(n%18446744073709551616).toNat else if n<0 then 18446744073709551615 else 0:=by
 have hM:=M_big
 refine(a2l fun i hi=> ?_)
 by_cases hn:n<0
 ·rw[b8h hn (by omega),show(n+M).toNat=M-n.natAbs from by omega,c9w (by omega) (by omega) hi]
  split
  ·omega
  ·rfl
 ·rw[b8g (by omega) (by omega),c4p (by omega)]
  split
  ·omega
  ·rfl
def sgI (x y:Int):Int:=if x<y then -1 else if x=y then 0 else 1
theorem fits_small {n:Int} (h0: -9223372036854775808<=n) (h1:n<9223372036854775808):c3p n:=by
 have:=M_big
 unfold c3p;omega
open Go.RX
def blen (x:Nat):Nat:=if x=0 then 0 else x.log2+1
theorem a7x (x:Nat):x<2^blen x:=by
 unfold blen
 split
 ·rename_i h;subst h;decide
 ·exact Nat.lt_log2_self
theorem a5m {x:Nat} (h:x≠0):0<blen x/\2^(blen x-1)<=x:=by
 unfold blen
 rw[if_neg h]
 exact⟨by omega,by simpa using Nat.log2_self_le h⟩
theorem c9x {x k:Nat} (h0:0<k) (h1:2^(k-1)<=x) (h2:x<2^k):blen x=k:=by
 have hx:x≠0:=fun e=>by subst e;have:=Nat.pow_pos (n:=k-1) (show 0<2 by omega);omega
 obtain⟨p1,p2⟩:=a5m hx
 have p3:=a7x x
 have a1:k-1<blen x:=(Nat.pow_lt_pow_iff_right (show 1<2 by omega)).1 (Nat.lt_of_le_of_lt h1 p3)
 have a2:blen x-1<k:=(Nat.pow_lt_pow_iff_right (show 1<2 by omega)).1 (Nat.lt_of_le_of_lt p2 h2)
 omega
theorem a4n {x k:Nat} (h:2^k<=x):blen x=k+blen (x/2^k):=by
 have hp:0<2^k:=Nat.pow_pos (by omega)
 have hq:x/2^k≠0:=by
  have:=(Nat.le_div_iff_mul_le hp).2 (show 1*2^k<=x by omega)
  omega
 obtain⟨p1,p2⟩:=a5m hq
 have p3:=a7x (x/2^k)
 refine c9x (by omega) ?_ ?_
 ·rw[show k+blen (x/2^k)-1=(blen (x/2^k)-1)+k from by omega,Nat.pow_add]
  exact(Nat.le_div_iff_mul_le hp).1 p2
 ·rw[Nat.pow_add,Nat.mul_comm]
  exact(Nat.div_lt_iff_lt_mul hp).1 p3
theorem blen_le {x k:Nat} (h:x<2^k):blen x<=k:=by
 by_cases hx:x=0
 ·subst hx;simp[blen]
 ·obtain⟨p1,p2⟩:=a5m hx
  have:=(Nat.pow_lt_pow_iff_right (show 1<2 by omega)).1 (Nat.lt_of_le_of_lt p2 h)
  omega
theorem blen_ge {x k:Nat} (h:2^k<=x):k<blen x:=(Nat.pow_lt_pow_iff_right (show 1<2 by omega)).1 (Nat.lt_of_le_of_lt h (a7x x))
theorem a8V (k:Nat):PW k=2^(64*k):=by unfold PW;rfl
theorem a9V:(18446744073709551616:Nat)=2^64:=rfl
theorem b6d {A i:Nat} (h:dig A i≠0) (hs:A<PW (i+1)):blen A=64*i+blen (dig A i):=by
 have hd:A/PW i=dig A i:=by
  unfold dig
  rw[Nat.mod_eq_of_lt]
  rw[a0C]at hs
  exact(Nat.div_lt_iff_lt_mul (a1k i)).2 (by rw[Nat.mul_comm];exact hs)
 have hle:PW i<=A:=by
  rcases Nat.lt_or_ge A (PW i)with h1|h1
  ·rw[a7w h1]at h;exact absurd rfl h
  ·exact h1
 rw[a8V]at hle hd
 rw[a4n hle,hd]
section
variable {y1 y0 u n q r:Nat}
theorem b8p (hu:u=q*y1+r) (ho:4294967296*r+n<q*y0):(u*4294967296+n)/(y1*4294967296+y0)<q:=by
 have hp:0<y1*4294967296+y0:=by
  rcases Nat.eq_zero_or_pos y0 with h|h
  ·subst h;omega
  ·omega
 refine(Nat.div_lt_iff_lt_mul hp).2 ?_
 rw[Nat.mul_add,<-Nat.mul_assoc,hu,Nat.add_mul]
 omega
theorem a9W (hu:u=q*y1+r) (hp:0<y1) (ho:q*y0<=4294967296*r+n):q<=(u*4294967296+n)/(y1*4294967296+y0):=by
 refine(Nat.le_div_iff_mul_le (by omega)).2 ?_
 rw[Nat.mul_add,<-Nat.mul_assoc,hu,Nat.add_mul]
 omega
theorem b4n (hn:n<4294967296) (hp:0<y1):(u*4294967296+n)/(y1*4294967296+y0)<=u/y1:=by
 have h1:(u*4294967296+n)/(y1*4294967296+y0)<=(u*4294967296+n)/(4294967296*y1):=Nat.div_le_div_left (by omega) (by omega)
 rw[<-Nat.div_div_eq_div_mul,show(u*4294967296+n)/4294967296=u from by omega]at h1
 exact h1
theorem c7H (h1:2147483648<=y1) (hu:u<y1*4294967296+y0) (h0:y0<4294967296):u/y1<=4294967297:=by
 have:u/y1<4294967298:=(Nat.div_lt_iff_lt_mul (by omega)).2 (by omega)
 omega
theorem c4q (hn:n<4294967296) (hu:u<y1*4294967296+y0):(u*4294967296+n)/(y1*4294967296+y0)<4294967296:=by
 refine(Nat.div_lt_iff_lt_mul (by omega)).2 ?_
 have:(u+1)*4294967296<=(y1*4294967296+y0)*4294967296:=Nat.mul_le_mul_right _ hu
 rw[Nat.mul_comm 4294967296];omega
end
theorem b8q {U Y X n q1 r1 q0 r0:Nat} (hX:X=q1*Y+r1) (hU:U=X*4294967296+n) (h0:r1*4294967296+n=q0*Y+r0) (hr:r0<Y):U/Y=q1*4294967296+q0/\U%Y=r0:=by
 have e:U=r0+Y*(q1*4294967296+q0):=by
  rw[hU,hX,Nat.add_mul,Nat.add_assoc,h0,Nat.mul_add,Nat.mul_comm Y q0,Nat.mul_comm Y,Nat.mul_right_comm]
  omega
 rw[e]
 exact⟨by rw[Nat.add_mul_div_left _ _ (by omega),Nat.div_eq_of_lt hr,Nat.zero_add],by rw[Nat.add_mul_mod_self_left,Nat.mod_eq_of_lt hr]⟩
theorem c7I {a b i:Nat} (hb:b<2^i):(a*2^i)|||b=a*2^i+b:=by
 rw[Nat.mul_comm,Nat.two_pow_add_eq_or_of_lt hb]
theorem a2m {r:Nat} (h:r<=64):(18446744073709551616:Nat)=2^(64-r)*2^r:=by
 rw[<-Nat.pow_add,show 64-r+r=64 from by omega]
theorem c9y (d:Nat) {r:Nat} (h:r<=64):d*2^r%18446744073709551616=(d%2^(64-r))*2^r:=by
 rw[a2m h,Nat.mul_mod_mul_right]
theorem c7J {d:Nat} (hd:d<18446744073709551616) {r:Nat} (h:r<=64):d/2^(64-r)<2^r:=by
 refine(Nat.div_lt_iff_lt_mul (Nat.pow_pos (by omega))).2 ?_
 rw[Nat.mul_comm,<-a2m h];exact hd
theorem d4b {q k:Nat} (h:2^(k+1) ∣ q):q|||2^k=q+2^k:=by
 obtain⟨d,rfl⟩:=h
 exact(Nat.two_pow_add_eq_or_of_lt (Nat.pow_lt_pow_right (by omega) (by omega)) d).symm
end Go.WD
/- Contracts of package wide: products. -/
namespace Go.Proofs.YtlmgkkjgdapnpaaGreatDoor
open Go.Proofs.Tryz
open Go.RowKit Go.RX Go.WD Go.IntWalk
theorem a1J (a:Nat) (ha:a<18446744073709551616):IntKind.u64.wrap (a:Int)=(a:Int):=by rw[IntKind.wrap_u64];omega
theorem d4c (a:Nat):IntKind.u64.wrap (a:Int)=((a%18446744073709551616:Nat):Int):=by rw[IntKind.wrap_u64];omega
theorem c7K (a b:Nat):(a:Int)*(b:Int)=((a*b:Nat):Int):=(Int.natCast_mul a b).symm
theorem b6X (a b:Nat):(a:Int)+(b:Int)=((a+b:Nat):Int):=(Int.natCast_add a b).symm
theorem c4r (a:Nat):(a:Int).fdiv (2^min (Int.toNat 32) (IntKind.bits .u64))=((a/4294967296:Nat):Int):=a5Q a 32 (by omega)
theorem b8r (x y:Nat) (hx:x<18446744073709551616) (hy:y<18446744073709551616):Det prog 208 [.int .u64 x,.int .u64 y] (.tuple #[.int .u64 ((x*y/18446744073709551616:Nat):Int),.int .u64 ((x*y%18446744073709551616:Nat):Int)]):=by
 obtain⟨bd,bt,bw,hhi⟩:=Lib.mul64_hi x y hx hy
 have ba:=Lib.half_mul_le (a:=x/4294967296) (b:=y/4294967296) (by omega) (by omega)
 have bb:=Lib.half_mul_le (a:=x/4294967296) (b:=y%4294967296) (by omega) (by omega)
 have bc:=Lib.half_mul_le (a:=x%4294967296) (b:=y/4294967296) (by omega) (by omega)
 have ba':x/4294967296*(y/4294967296)<18446744073709551616:=by omega
 have bb':x/4294967296*(y%4294967296)<18446744073709551616:=by omega
 have bc':x%4294967296*(y/4294967296)<18446744073709551616:=by omega
 have bh1:x/4294967296*(y/4294967296)+(x/4294967296*(y%4294967296)+x%4294967296*(y%4294967296)/4294967296)/4294967296<18446744073709551616:=by omega
 have bh:x/4294967296*(y/4294967296)+(x/4294967296*(y%4294967296)+x%4294967296*(y%4294967296)/4294967296)/4294967296+((x/4294967296*(y%4294967296)+x%4294967296*(y%4294967296)/4294967296)%4294967296+x%4294967296*(y/4294967296))/4294967296<18446744073709551616:=by
  have:=(Nat.div_lt_iff_lt_mul (show 0<18446744073709551616 by omega)).2 (Nat.mul_lt_mul'' hx hy)
  omega
 refine a0H mixed c4g (by kernel_rfl) rfl (a0v ⟨_,rfl⟩ (a0v ⟨_,rfl⟩ (a0Z ?_ rfl)))
 simp only[rxs,a4w,c4r,b1q x hx,b1q y hy,c7K,b6X,a1J _ bd,a1J _ bb',a1J _ bt,b1q _ bt,a1J _ bc',a1J _ bw,a1J _ ba',a1J _ bh1,a1J _ bh,d4c (x*y)]
 rw[hhi]
theorem c9z (k:Nat) (h:k<=9223372036854775807):IntKind.i64.wrap (k:Int)=(k:Int):=i64_in _ ⟨by omega,by omega⟩
theorem d8c (k:Nat) (j:Nat):(k:Int)+(j:Int)=((k+j:Nat):Int):=by omega
end Go.Proofs.YtlmgkkjgdapnpaaGreatDoor
/- Contracts of package wide: Add, Sub, Mul, Of, Int, Sign, Cmp. -/
namespace Go.Proofs.YtlmgkkjgdapnpaaGreatDoor
open Go.Proofs.Tryz
open Go.RowKit Go.RX Go.WD Go.IntWalk
def opM:Array MapEntry:= #[⟨.int .u8 43,.func (.func 163) #[] #[],0⟩,⟨.int .u8 45,.func (.func 164) #[] #[],1⟩,⟨.int .u8 42,.func (.func 165) #[] #[],2⟩]
theorem d6f:prog.underlying 223=some (.map 5 (prog.mapElemOf 223)):=by kernel_rfl
theorem uU8:prog.underlying 5=some (.int .u8):=by kernel_rfl
set_option maxRecDepth 100000 in
theorem c4s (H:PH):Con prog 118 [] H fun v H'=>∃r,H r=none/\v= .map (some r)/\H'=H.put r (.map opM 3):=by
 refine a0b mixed c9i (by kernel_rfl) rfl (a0n (a7r rfl) rfl ?_)
 rintro v H1 ⟨r,hr,rfl,rfl⟩
 refine⟨(fun h=>nomatch h),a0n (a5O (r:=r) (key:= .int .u8 43) (val:= .func (.func 163) #[] #[]) (vs:=[.map (some r),.int .u8 43,.func (.func 163) #[] #[]]) (.inl rfl) rfl rfl rfl d6f uU8 (a2c uU8 false) (PH.put_self _ _ _) rfl) rfl ?_⟩
 rintro v H2 ⟨rfl,rfl⟩
 refine⟨(fun h=>nomatch h),a0n (a5O (r:=r) (key:= .int .u8 45) (val:= .func (.func 164) #[] #[]) (vs:=[.map (some r),.int .u8 45,.func (.func 164) #[] #[]]) (.inl rfl) rfl rfl rfl d6f uU8 (a2c uU8 false) (PH.put_self _ _ _) rfl) rfl ?_⟩
 rintro v H3 ⟨rfl,rfl⟩
 refine⟨(fun h=>nomatch h),a0n (a5O (r:=r) (key:= .int .u8 42) (val:= .func (.func 165) #[] #[]) (vs:=[.map (some r),.int .u8 42,.func (.func 165) #[] #[]]) (.inl rfl) rfl rfl rfl d6f uU8 (a2c uU8 false) (PH.put_self _ _ _) rfl) rfl ?_⟩
 rintro v H4 ⟨rfl,rfl⟩
 refine⟨(fun h=>nomatch h),a0c rfl ⟨r,hr,rfl,?_⟩⟩
 rw[PH.put_put,PH.put_put,PH.put_put]
 rfl
set_option maxRecDepth 100000 in
theorem c4t (a b:Nat) (s:Int) (i:Nat) (f:FuncId) (z:Int) (v:Array Value) (hs:Instr.findNow (.int .u8) (.int .u8 s) opM.toList 0=some (some (i,.func (.func f) #[] #[]))) (he:a1q prog f=true)
  (hd:Det prog f [nm (toI a),nm (toI b)] (.tuple #[.agg v,.bool (decide (M<=z.natAbs))])) (hv:v.size=9) (h1:a0p v) (hz:z.natAbs<M->Value.agg v=nm z):Det prog 70 [wd a,wd b,.int .u8 s] (b2I z):=by
 have hM:=c3o
 refine b5W (a0b mixed c9j (by kernel_rfl) rfl (a0a ⟨a0r a,a0x a⟩ (a0a ⟨a0r b,a0x b⟩ (a0d (c4s _) rfl ?_))))
 rintro m H1 ⟨r,hr,rfl,rfl⟩
 refine⟨fun _=>PH.le_put hr _,a0l (b5X (r:=r) (key:= .int .u8 s) (vs:=[.map (some r),.int .u8 s]) rfl rfl rfl d6f uU8 (a2c uU8) (PH.put_self _ _ _) hs) rfl ?_⟩
 refine a1o (a9U a) rfl (a1o (a9U b) rfl ?_)
 refine a0n (a0D (f:=f) (caps:= #[]) (vs:=[nm (toI a),nm (toI b)]) rfl rfl rfl he (hd.con _)) rfl ?_
 rintro u H2 ⟨rfl,rfl⟩
 refine⟨fun _=>PH.le.refl _,a0a ⟨_,rfl,Nat.zero_lt_succ _⟩ (a0a ⟨_,rfl,Nat.lt_succ_self _⟩ (a0a ⟨hv,h1⟩ (a0a ⟨_,rfl⟩ (a0f rfl (fun h=> ?_) (fun h=> ?_)))))⟩
 ·have h:=of_decide_eq_true h
  refine a0c rfl ?_
  simp only[rxs,a4w,a3U,b2I]
  rw[if_neg (by omega)]
 ·have h:=of_decide_eq_false h
  have hzz:=hz (by omega)
  obtain⟨p,q,hf⟩:=a5l z
  have ht:=b4m z (by omega)
  rw[hf]at ht⊢
  refine a1o ht ?_ (a0a ⟨_,rfl,Nat.zero_lt_succ _⟩ (a0a ⟨_,rfl,Nat.lt_succ_self _⟩ (a0a ⟨a0r _,a0x _⟩ (a0c rfl rfl))))
  show[Value.agg v]=_
  rw[hzz]
theorem c9A (a b:Nat):Det prog 23 [wd a,wd b] (b2I (toI a+toI b)):=by
 obtain⟨v,hd,hs,h1,hv⟩:=c9v (toI a) (toI b) (a2r a) (a2r b)
 have hb:=c4t a b 43 0 _ _ v rfl (by kernel_rfl) hd hs h1 hv
 obtain⟨p,q,hf⟩:=a5l (toI a+toI b)
 rw[hf]at hb⊢
 exact a0H mixed d3Q (by kernel_rfl) rfl (a0v ⟨a0r a,a0x a⟩ (a0v ⟨a0r b,a0x b⟩ (a1l hb rfl (a0v ⟨_,rfl,Nat.zero_lt_succ _⟩ (a0v ⟨_,rfl,Nat.lt_succ_self _⟩ (a0v ⟨a0r _,a0x _⟩ (a0Z rfl rfl)))))))
theorem b1r (n:Int):IntKind.u64.wrap n=((n%18446744073709551616).toNat:Int):=by
 rw[IntKind.wrap_u64];omega
theorem d7M (u:Nat):spl (words 0) 0 [.int .u64 (u:Int)]=wf fun j=>if j=0 then u else 0:=by
 refine Eq.trans (b1l (dig 0) (show 0<8 by omega) u) (a2l fun i _=> ?_)
 rw[a5h]
theorem b4o (n:Int) (h0: -9223372036854775808<=n) (h1:n<9223372036854775808):Det prog 24 [.int .i64 n] (iw n):=by
 have hw:=b3p (n:=n) (by omega) (by omega)
 refine a0H mixed d6z (by kernel_rfl) rfl (a0v ⟨n,rfl⟩ (a1I (b:=decide (n<0)) rfl (fun h=> ?_) (fun h=> ?_)))
 ·have hn:=of_decide_eq_true h
  refine⟨fun l=>∃k,1<=k/\k<=8/\l=[.int .i64 (k:Nat),.agg (wf fun j=>if j<k then(if j=0 then(n%18446744073709551616).toNat else 18446744073709551615)else 0)],fun l=>(8-intOf (l.getD 0 undef)).toNat,⟨1,by omega,by omega,?_⟩,?_⟩
  ·simp only[rxs,a3U,b1r,d7M]
   congr 3
  ·rintro vals-⟨k,hk1,hk,rfl⟩
   refine a0v ⟨_,rfl⟩ (a1I (b:=decide ((k:Int)<8)) rfl (fun h=> ?_) (fun h=> ?_))
   ·have hk:k<8:=by simp at h;omega
    have e3:IntKind.i64.wrap ((k:Int)+1)=((k+1:Nat):Int):=c9z (k+1) (by omega)
    refine a0v ⟨_,_,rfl⟩ (a0v ⟨?_,?_⟩ ?_)
    ·show(0:Int)<=(k:Int);omega
    ·show(k:Int)<8;omega
    ·refine⟨⟨k+1,by omega,by omega,?_⟩,?_⟩
     ·have:=b1l (fun j=>if j<k then(if j=0 then(n%18446744073709551616).toNat else 18446744073709551615)else 0) hk 18446744073709551615
      simp only[rxs,e3]
      rw[show(18446744073709551615:Int)=((18446744073709551615:Nat):Int)from rfl,this]
      congr 3
      refine a2l fun i _=> ?_
      by_cases e:i=k
      ·subst e;rw[if_pos rfl,if_pos (show i<i+1 by omega),if_neg (show ¬i=0 by omega)]
      ·rw[if_neg e]
       by_cases e':i<k
       ·rw[if_pos e',if_pos (show i<k+1 by omega)]
       ·rw[if_neg e',if_neg (show ¬i<k+1 by omega)]
     ·simp only[rxs,e3]
      omega
   ·have hk:k=8:=by simp at h;omega
    subst hk
    refine a0Z rfl ?_
    simp only[rxs,a4w,iw,wd,hw]
    congr 1
    exact a2l fun i hi=>by rw[if_pos hi,if_pos hn]
 ·have hn:=of_decide_eq_false h
  refine a0Z rfl ?_
  simp only[rxs,a4w,a3U,b1r,d7M,iw,wd,hw]
  congr 1
  exact a2l fun i hi=>by rw[if_neg hn]
end Go.Proofs.YtlmgkkjgdapnpaaGreatDoor
/- Contracts: lengths, division by words. -/
namespace Go.Proofs.YtlmgkkjgdapnpaaGreatDoor
open Go.Proofs.Tryz
open Go.RowKit Go.RX Go.WD Go.IntWalk
theorem d6E (a:Nat):(a:Int).fdiv (2^min (Int.toNat 16) (IntKind.bits .u64))=((a/65536:Nat):Int):=a5Q a 16 (by omega)
theorem d8d (a:Nat):(a:Int).fdiv (2^min (Int.toNat 8) (IntKind.bits .u64))=((a/256:Nat):Int):=a5Q a 8 (by omega)
def len8:ByteArray:=⟨#[0,1,2,2,3,3,3,3,4,4,4,4,4,4,4,4,5,5,5,5,5,5,5,5,5,5,5,5,5,5,5,5,6,6,6,6,6,6,6,6,6,6,6,6,6,6,6,6,6,6,6,6,6,6,6,6,6,6,6,6,6,6,6,6,7,7,7,7,7,7,7,7,7,7,7,7,7,7,7,7,7,7,7,7,7,7,7,7,7,7,7,7,7,7,7,7,7,7,7,7,7,7,7,7,7,7,7,7,7,7,7,7,7,7,7,7,7,7,7,7,7,7,7,7,7,7,7,7,8,8,8,8,8,8,8,8,8,8,8,8,8,8,8,8,8,8,8,8,8,8,8,8,8,8,8,8,8,8,8,8,8,8,8,8,8,8,8,8,8,8,8,8,8,8,8,8,8,8,8,8,8,8,8,8,8,8,8,8,8,8,8,8,8,8,8,8,8,8,8,8,8,8,8,8,8,8,8,8,8,8,8,8,8,8,8,8,8,8,8,8,8,8,8,8,8,8,8,8,8,8,8,8,8,8,8,8,8,8,8,8,8,8,8,8,8,8,8,8,8,8,8,8,8,8,8,8]⟩
theorem b8s:len8.size=256:=by kernel_rfl
theorem c4u:(List.range 256).all (fun b=>(len8.data.getD b 0).toNat==blen b)=true:=by kernel_rfl
theorem c4v {b:Nat} (h:b<256):(len8.data.getD b 0).toNat=blen b:=by
 have:=List.all_eq_true.1 c4u b (List.mem_range.2 h)
 simpa using this
set_option maxRecDepth 100000 in
theorem a7y (x:Nat) (hx:x<18446744073709551616):Det prog 177 [.int .u64 x] (.int .i64 (blen x)):=by
 refine a0H mixed c4i (by kernel_rfl) rfl (a0v ⟨_,rfl⟩ ⟨fun l=>∃y n,l=[.int .u64 (y:Nat),.int .i64 (n:Nat)]/\y<4294967296/\n<=32/\n+blen y=blen x,?_,?_⟩)
 ·refine a1I (b:=decide ((x:Int)≥4294967296)) rfl (fun h=> ?_) (fun h=> ?_)
  ·have h:=of_decide_eq_true h
   exact⟨x/4294967296,32,by simp only[rxs,c4r];rfl,by omega,by omega,(a4n (k:=32) (by omega)).symm⟩
  ·have h:=of_decide_eq_false h
   exact⟨x,0,rfl,by omega,by omega,by omega⟩
 rintro vals-⟨y,n,rfl,hy,hn,hb⟩
 refine a0v ⟨_,rfl⟩ ⟨fun l=>∃y n,l=[.int .u64 (y:Nat),.int .i64 (n:Nat)]/\y<65536/\n<=48/\n+blen y=blen x,?_,?_⟩
 ·refine a1I (b:=decide ((y:Int)≥65536)) rfl (fun h=> ?_) (fun h=> ?_)
  ·have h:=of_decide_eq_true h
   have e:=a4n (x:=y) (k:=16) (by omega)
   refine a0v ⟨_,rfl⟩ ⟨y/65536,n+16,?_,by omega,by omega,?_⟩
   ·have e3:IntKind.i64.wrap ((n:Int)+16)=((n+16:Nat):Int):=c9z (n+16) (by omega)
    simp only[rxs,d6E,e3]
   ·rw[show(2:Nat)^16=65536 from rfl]at e
    omega
  ·have h:=of_decide_eq_false h
   exact⟨y,n,rfl,by omega,by omega,hb⟩
 rintro vals-⟨y,n,rfl,hy,hn,hb⟩
 refine a0v ⟨_,rfl⟩ ⟨fun l=>∃y n,l=[.int .u64 (y:Nat),.int .i64 (n:Nat)]/\y<256/\n<=56/\n+blen y=blen x,?_,?_⟩
 ·refine a1I (b:=decide ((y:Int)≥256)) rfl (fun h=> ?_) (fun h=> ?_)
  ·have h:=of_decide_eq_true h
   have e:=a4n (x:=y) (k:=8) (by omega)
   refine a0v ⟨_,rfl⟩ ⟨y/256,n+8,?_,by omega,by omega,?_⟩
   ·have e3:IntKind.i64.wrap ((n:Int)+8)=((n+8:Nat):Int):=c9z (n+8) (by omega)
    simp only[rxs,d8d,e3]
   ·rw[show(2:Nat)^8=256 from rfl]at e
    omega
  ·have h:=of_decide_eq_false h
   exact⟨y,n,rfl,by omega,by omega,hb⟩
 rintro vals-⟨y,n,rfl,hy,hn,hb⟩
 have hu8:IntKind.u8.wrap (y:Int)=(y:Int):=by rw[IntKind.wrap_u8];omega
 have hyl:blen y<=8:=blen_le hy
 refine a0v ⟨_,rfl⟩ (b7X (a6o (s:=len8) (k:= .u8) (m:=y) (vs:=[.string len8,.int .u8 y]) rfl rfl rfl (by kernel_rfl) (by rw[b8s];exact hy)) ?_ ?_)
 ·simp only[rxs,hu8];rfl
 ·rw[c4v hy]
  refine a0v ⟨_,rfl⟩ (a0v ⟨_,rfl⟩ (a0Z ?_ rfl))
  simp only[rxs,a4w]
  rw[c9z (blen y) (by omega),d8c,c9z (n+blen y) (by omega),hb]
theorem b4p (x:Nat) (hx:x<18446744073709551616):Det prog 266 [.int .u64 x] (.int .i64 ((64-blen x:Nat):Int)):=by
 have hl:blen x<=64:=blen_le hx
 refine a0H mixed c9k (by kernel_rfl) rfl (a1l (a7y x hx) rfl (a0v ⟨_,rfl⟩ (a0Z ?_ rfl)))
 simp only[rxs,a4w]
 rw[show(64:Int)-(blen x:Int)=((64-blen x:Nat):Int)from by omega,c9z _ (by omega)]
end Go.Proofs.YtlmgkkjgdapnpaaGreatDoor

/- Contracts of package wide: numbers. -/
import Derived.Test.YtmannekkmdockaaGreatDoorWdB
import Derived.Lib.Mul64
namespace Go.Proofs.YtmannekkmdockaaGreatDoor
open Go.Proofs.Tryz
open Go.RowKit Go.RX Go.WD Go.IntWalk
theorem d6A (d:Nat) (h:d<18446744073709551616):((d:Int).fdiv (2^(min ((63:Int).toNat) (IntKind.bits .u64)))==1)=decide (¬d<9223372036854775808):=by
 have e:(2:Int)^(min ((63:Int).toNat) (IntKind.bits .u64))=9223372036854775808:=by decide
 rw[e,Int.fdiv_eq_ediv_of_nonneg _ (by omega),Bool.eq_iff_iff]
 simp
 omega
theorem b3X {a:Nat} (h:¬a%M<HM):sb 0 a%M=(toI a).natAbs%M:=by
 have hl:=Nat.mod_lt a b0C
 have:=c3H
 unfold sb toI
 rw[if_neg h]
 congr 1
 omega
theorem a2t (a:Nat):(toI a).natAbs<M:=by
 obtain⟨h1,h2⟩:=c4u a
 have:=c3H
 omega
theorem b0G (a:Nat):Det prog 128 [wd a] (nm (toI a)):=by
 have hl:=Nat.mod_lt a b0C
 have hM:=c3H
 have htop:=c9a a
 have hc:∀ρ:List Value,D prog (wd a::ρ) (.op2 .eql .u64 (.op2 .shr .u64 (.cell (.v 0) 7 0 noI) (.k (.int .u64 (63)))) (.k (.int .u64 (1))))= .bool (decide (¬a%M<HM)):=fun ρ=>by
  simp only[rxs,a1b a (show 7<8 by omega)]
  rw[d6A _ (a2x a 7)]
  congr 1
  rw[Bool.eq_iff_iff,decide_eq_true_iff,decide_eq_true_iff,htop]
 refine a0C mixed c8R (by kernel_rfl) rfl (a0m ⟨words_size a,words_one a⟩ (a0m ⟨dig a 7,?_⟩ (a1V (hc []) (fun h=> ?_) (fun h=> ?_))))
 ·simp only[rxs,a1b a (show 7<8 by omega)]
 ·have h:¬a%M<HM:=by simpa using h
  refine a2f (a7P 0 a) (by simp only[rxs,a9w];rfl) ?_
  refine a0m ⟨_,rfl,Nat.zero_lt_succ _⟩ (a0m ⟨_,rfl,Nat.lt_succ_self _⟩ (a0m ⟨words_size _,words_one _⟩ (a1d rfl ?_)))
  simp only[List.map_cons,List.map_nil,a4M]
  rw[D,List.cons_append,List.nil_append,hc]
  simp only[rxs]
  show nb _ (sb 0 a)=nm (toI a)
  exact b0D (by rw[Bool.eq_iff_iff];simp[toI,if_neg h];omega) (b3X h)
 ·have h:a%M<HM:=by simpa using h
  refine a1d rfl ?_
  simp only[List.map_cons,List.map_nil,a4M]
  rw[D,hc]
  simp only[rxs]
  show nb _ a=nm (toI a)
  refine b0D (by rw[Bool.eq_iff_iff];simp[toI,if_pos h];omega) ?_
  unfold toI;rw[if_pos h,Int.natAbs_natCast,Nat.mod_mod]
theorem b0H (b:Bool) (n:Nat):(nb b n).cells= #[.bool b]++words n:=rfl
def told (z:Int):Value:=if -(HM:Int)<=z/\z<HM then .tuple #[iw z,.int .i64 0]else .tuple #[wd 0,.int .i64 6]
theorem b5i (z:Int) (hz:z.natAbs<M):Det prog 126 [nm z] (told z):=by
 have hH:=d6z
 refine a0C mixed c8S (by kernel_rfl) rfl (a0m ⟨a2S _ _,a7O _ _⟩ (a2f (b9A z.natAbs HM) ?_ (a0m ⟨_,rfl⟩ ?_)))
 ·simp only[rxs,nm,b0H,b9z,a9w,b3V]
  rfl
 ·rw[Nat.mod_eq_of_lt hz,Nat.mod_eq_of_lt hH]
  refine a1V (b:=decide (sg z.natAbs HM>0)) rfl (fun h=> ?_) (fun h=> ?_)
  ·have h:=sg_pos.1 (of_decide_eq_true h)
   refine a1d rfl ?_
   simp only[rxs,a4M,a6J,told]
   rw[if_neg (by omega)]
  ·have h:¬HM<z.natAbs:=fun e=>of_decide_eq_false h (sg_pos.2 e)
   refine a1V (b:=sg z.natAbs HM==0) rfl (fun h1=> ?_) (fun h1=> ?_)
   ·have h1:=sg_zero.1 (by simpa using h1)
    refine a0m ⟨_,rfl⟩ (a1V (b:= !decide (z<0)) rfl (fun h2=> ?_) (fun h2=> ?_))
    ·have h2:¬z<0:=by simpa using h2
     refine a1d rfl ?_
     simp only[rxs,a4M,a6J,told]
     rw[if_neg (by omega)]
    ·have h2:z<0:=by simpa using h2
     refine a2f (a7P 0 z.natAbs) ?_ (a0m ⟨_,rfl,Nat.zero_lt_succ _⟩ (a0m ⟨_,rfl,Nat.lt_succ_self _⟩ (a0m ⟨words_size _,words_one _⟩ (a1d rfl ?_))))
     ·simp only[rxs,nm,b0H,b9z,a9w];rfl
     ·simp only[rxs,a4M,told]
      rw[if_pos (by omega),<-a6I h2 hz];rfl
   ·have h1:z.natAbs≠HM:=fun e=>by simp[sg_zero.2 e]at h1
    refine a0m ⟨_,rfl⟩ (a1V (b:=decide (z<0)) rfl (fun h2=> ?_) (fun h2=> ?_))
    ·have h2:z<0:=by simpa using h2
     refine a2f (a7P 0 z.natAbs) ?_ (a0m ⟨_,rfl,Nat.zero_lt_succ _⟩ (a0m ⟨_,rfl,Nat.lt_succ_self _⟩ (a0m ⟨words_size _,words_one _⟩ (a1d rfl ?_))))
     ·simp only[rxs,nm,b0H,b9z,a9w];rfl
     ·simp only[rxs,a4M,told]
      rw[if_pos (by omega),<-a6I h2 hz];rfl
    ·have h2:¬z<0:=by simpa using h2
     refine a1d rfl ?_
     simp only[told]
     rw[if_pos (by omega),<-b9x (by omega) hz]
     rfl
open Go.RowKit Go.RX Go.WD Go.IntWalk
theorem a5k (z:Int):∃a b,told z= .tuple #[wd a,b]:=by
 unfold told;split
 ·exact⟨_,_,rfl⟩
 ·exact⟨_,_,rfl⟩
end Go.Proofs.YtmannekkmdockaaGreatDoor
/- Products of words: plain. -/
namespace Go.WD
open Go.RX
def wa (n:Nat) (f:Nat->Nat):Array Value:=((List.range n).map fun i=>Value.int .u64 (f i)).toArray
theorem a7Q (n:Nat) (f:Nat->Nat):(wa n f).size=n:=by simp[wa]
theorem d3D {n:Nat} (f:Nat->Nat) {i:Nat} (h:i<n):(wa n f).getD i undef= .int .u64 (f i):=by
 simp[wa,Array.getD_eq_getD_getElem?,h]
theorem a6Y {n:Nat} {f g:Nat->Nat} (h:∀i,i<n->f i=g i):wa n f=wa n g:=by
 unfold wa
 congr 1
 exact List.map_congr_left fun i hi=>by rw[h i (List.mem_range.1 hi)]
theorem d3E {n:Nat} (f:Nat->Nat) {i:Nat} (h:i<n) (d:Nat):(wa n f).setIfInBounds i (.int .u64 d)=wa n (fun j=>if j=i then d else f j):=by
 unfold wa
 rw[List.setIfInBounds_toArray]
 congr 1
 apply List.ext_getElem?
 intro j
 rw[List.getElem?_set,List.getElem?_map,List.getElem?_map]
 by_cases e:i=j
 ·subst e;simp[h]
 ·rw[if_neg e]
  by_cases hj:j<n
  ·simp[hj];rw[if_neg (fun e':j=i=>e e'.symm)]
  ·simp[hj]
theorem d3F {n:Nat} (f:Nat->Nat) {i:Nat} (h:i<n) (d:Nat):spl (wa n f) i [.int .u64 d]=wa n (fun j=>if j=i then d else f j):=d3E f h d
theorem a7R (p c i:Nat):dig (p*PW c) (c+i)=dig p i:=by
 unfold dig
 rw[a4C,Nat.mul_comm p,Nat.mul_div_mul_left _ _ (a1a c)]
theorem b2p (p:Nat) {c i:Nat} (h:i<c):dig (p*PW c) i=0:=by
 obtain⟨d,rfl⟩:=Nat.exists_eq_add_of_lt h
 unfold dig
 rw[show i+d+1=(d+1)+i from by omega,a4C,<-Nat.mul_assoc,Nat.mul_div_cancel _ (a1a i),a0s,<-Nat.mul_assoc,Nat.mul_mod_left]
theorem b5j (N p:Nat) {c i:Nat} (h:i<=c):cr N (p*PW c) i=0:=by
 unfold cr
 rw[Nat.mod_eq_zero_of_dvd (Nat.dvd_trans (c7w h) (Nat.dvd_mul_left _ _)),Nat.add_zero]
 exact Nat.div_eq_of_lt (Nat.mod_lt _ (a1a i))
theorem b5k:PW 1=18446744073709551616:=by rw[a0s,a2g,Nat.one_mul]
theorem b9C:PW 2=18446744073709551616*18446744073709551616:=by rw[a0s,b5k]
theorem a3e {p i:Nat} (h:p<PW i):dig p i=0:=by
 unfold dig;rw[Nat.div_eq_of_lt h]
theorem b9D (p:Nat):dig p 0=p%18446744073709551616:=by unfold dig;rw[a2g,Nat.div_one]
theorem b7y {x y:Nat} (hx:x<18446744073709551616) (hy:y<18446744073709551616):x*y<PW 2:=by
 rw[b9C];exact Nat.mul_lt_mul'' hx hy
theorem d3G {p:Nat} (h:p<PW 2):dig p 1=p/18446744073709551616:=by
 unfold dig
 rw[b5k]
 refine Nat.mod_eq_of_lt ?_
 rw[b9C]at h
 exact(Nat.div_lt_iff_lt_mul (by omega)).2 h
theorem d3H {p i:Nat} (h:p<PW 2) (hi:2<=i):dig p i=0:=a3e (Nat.lt_of_lt_of_le h (a7J hi))
section
variable {N p c:Nat}
theorem g0:(dig N c+p%18446744073709551616+0)%18446744073709551616=dig (N+p*PW c) c/\(dig N c+p%18446744073709551616+0)/18446744073709551616=cr N (p*PW c) (c+1):=by
 have h1:=a7M N (p*PW c) c
 have h2:=b3T N (p*PW c) c
 have h3:=a7R p c 0
 rw[Nat.add_zero,b9D]at h3
 rw[h3,b5j N p (Nat.le_refl c)]at h1 h2
 exact⟨h1.symm,h2.symm⟩
theorem g1 (hp:p<PW 2):(dig N (c+1)+p/18446744073709551616+cr N (p*PW c) (c+1))%18446744073709551616=dig (N+p*PW c) (c+1)/\(dig N (c+1)+p/18446744073709551616+cr N (p*PW c) (c+1))/18446744073709551616=cr N (p*PW c) (c+2):=by
 have h1:=a7M N (p*PW c) (c+1)
 have h2:=b3T N (p*PW c) (c+1)
 rw[a7R p c 1,d3G hp]at h1 h2
 exact⟨h1.symm,h2.symm⟩
theorem gk (hp:p<PW 2) {k:Nat} (hk:c+2<=k):(dig N k+0+cr N (p*PW c) k)%18446744073709551616=dig (N+p*PW c) k/\(dig N k+0+cr N (p*PW c) k)/18446744073709551616=cr N (p*PW c) (k+1):=by
 have h1:=a7M N (p*PW c) k
 have h2:=b3T N (p*PW c) k
 obtain⟨d,rfl⟩:=Nat.exists_eq_add_of_le hk
 rw[show c+2+d=c+(2+d)from by omega]at h1 h2⊢
 rw[a7R p c (2+d),d3H hp (by omega)]at h1 h2
 exact⟨h1.symm,h2.symm⟩
theorem d7N (hp:p<PW 2) {k:Nat} (hk:c+2<=k) (h0:cr N (p*PW c) k=0):∀i,k<=i->cr N (p*PW c) i=0/\dig (N+p*PW c) i=dig N i:=by
 have key:∀j,cr N (p*PW c) (k+j)=0:=by
  intro j
  induction j with
  |zero=>exact h0
  |succ j ih=>
   have:=(gk (N:=N) hp (show c+2<=k+j by omega)).2
   rw[ih]at this
   have hl:=a2x N (k+j)
   rw[<-Nat.add_assoc,<-this]
   exact Nat.div_eq_of_lt (by omega)
 intro i hi
 obtain⟨j,rfl⟩:=Nat.exists_eq_add_of_le hi
 refine⟨key j,?_⟩
 have:=(gk (N:=N) hp (show c+2<=k+j by omega)).1
 rw[key j]at this
 have hl:=a2x N (k+j)
 rw[<-this,Nat.add_zero,Nat.mod_eq_of_lt hl]
end
def acc (A B i j:Nat):Nat:=(A%PW i)*B+dig A i*PW i*(B%PW j)
theorem c4x (A B:Nat):acc A B 0 0=0:=by simp[acc,a2g,Nat.mod_one]
theorem c4y (A B i j:Nat):acc A B i j+dig A i*dig B j*PW (i+j)=acc A B i (j+1):=by
 unfold acc
 rw[a1q B j,a4C,Nat.mul_add,<-Nat.add_assoc]
 congr 1
 rw[show dig A i*PW i*(PW j*dig B j)=dig A i*dig B j*(PW i*PW j)from by
  rw[Nat.mul_assoc (dig A i),Nat.mul_assoc (dig A i),<-Nat.mul_assoc (PW i),Nat.mul_comm (PW i*PW j)]]
theorem c4z (A B i:Nat) (hB:B<PW 8):acc A B i 8=acc A B (i+1) 0:=by
 unfold acc
 rw[Nat.mod_eq_of_lt hB,a2g,Nat.mod_one,Nat.mul_zero,Nat.add_zero,a1q A i,Nat.add_mul,Nat.mul_comm (PW i) (dig A i)]
theorem c9e (A B:Nat) (hA:A<PW 8):acc A B 8 0=A*B:=by
 unfold acc
 rw[a2g,Nat.mod_one,Nat.mul_zero,Nat.add_zero,Nat.mod_eq_of_lt hA]
def orn (N:Nat):Nat->Nat
 |0=>0
 |k+1=>orn N k|||dig N (8+k)
theorem c7A (N:Nat):∀k,orn N k<18446744073709551616
 |0=>by simp[orn]
 |k+1=>by
  have h1:=c7A N k
  have h2:=a2x N (8+k)
  exact Nat.or_lt_two_pow (n:=64) h1 h2
theorem b5l (N:Nat):∀k,orn N k=0↔∀i,i<k->dig N (8+i)=0
 |0=>by simp[orn]
 |k+1=>by
  have ih:=b5l N k
  simp only[orn,Nat.or_eq_zero_iff,ih]
  constructor
  ·intro⟨h1,h2⟩ i hi
   rcases Nat.lt_or_eq_of_le (Nat.le_of_lt_succ hi)with h|h
   ·exact h1 i h
   ·subst h;exact h2
  ·intro h
   exact⟨fun i hi=>h i (by omega),h k (by omega)⟩
theorem b9E {N:Nat} (h:N<PW 16):orn N 8=0↔N<M:=by
 rw[b5l,a3t]
 constructor
 ·intro h0
  have:N%PW 16=(N%PW 8)%PW 16:=a5V fun i hi=>by
   by_cases h8:i<8
   ·rw[b3S N h8]
   ·rw[a3e (Nat.lt_of_lt_of_le (Nat.mod_lt N (a1a 8)) (a7J (show 8<=i by omega)))]
    have:=h0 (i-8) (by omega)
    rwa[show 8+(i-8)=i from by omega]at this
  rw[Nat.mod_eq_of_lt h,Nat.mod_eq_of_lt (Nat.lt_of_lt_of_le (Nat.mod_lt N (a1a 8)) (a7J (by omega)))]at this
  rw[this];exact Nat.mod_lt N (a1a 8)
 ·intro hlt i _
  exact a3e (Nat.lt_of_lt_of_le hlt (a7J (by omega)))
theorem b5m (a b:Nat) (ha:a<18446744073709551616) (hb:b<18446744073709551616):IntKind.u64.wrap ((BitVec.ofInt (IntKind.bits .u64) (a:Int)|||BitVec.ofInt (IntKind.bits .u64) (b:Int)).toNat:Int)=((a|||b:Nat):Int):=by
 have h:=Nat.or_lt_two_pow (n:=64) ha hb
 have e:(BitVec.ofInt 64 (a:Int)|||BitVec.ofInt 64 (b:Int)).toNat=a|||b:=by
  rw[BitVec.toNat_or,BitVec.toNat_ofInt,BitVec.toNat_ofInt]
  congr 1<;>omega
 show IntKind.u64.wrap ((BitVec.ofInt 64 (a:Int)|||BitVec.ofInt 64 (b:Int)).toNat:Int)=_
 rw[e,IntKind.wrap_u64]
 omega
theorem b2q (a:Nat) (ha:a<18446744073709551616):IntKind.u64.wrap ((BitVec.ofInt (IntKind.bits .u64) (a:Int)&&&BitVec.ofInt (IntKind.bits .u64) 4294967295).toNat:Int)=((a%4294967296:Nat):Int):=by
 have e:(BitVec.ofInt 64 (a:Int)&&&BitVec.ofInt 64 4294967295).toNat=a%4294967296:=by
  rw[BitVec.toNat_and,BitVec.toNat_ofInt,BitVec.toNat_ofInt,show((4294967295:Int)%(2^64:Nat)).toNat=2^32-1 from by decide,Nat.and_two_pow_sub_one_eq_mod]
  omega
 show IntKind.u64.wrap ((BitVec.ofInt 64 (a:Int)&&&BitVec.ofInt 64 4294967295).toNat:Int)=_
 rw[e,IntKind.wrap_u64]
 omega
theorem a5W (a k:Nat) (hk:k<=64):(a:Int).fdiv (2^min k (IntKind.bits .u64))=((a/2^k:Nat):Int):=by
 rw[show min k (IntKind.bits .u64)=k from Nat.min_eq_left hk,show(2:Int)^k=((2^k:Nat):Int)from by simp,Int.fdiv_eq_ediv_of_nonneg _ (Int.natCast_nonneg _)]
 exact(Int.natCast_ediv a (2^k)).symm
open Go.RX
theorem c4A {k i:Nat} (h:i<k):dig (PW k-1) i=18446744073709551615:=by
 obtain⟨d,rfl⟩:=Nat.exists_eq_add_of_lt h
 unfold dig
 have hp:=a1a i
 have hd:=a1a d
 have e:PW (i+d+1)-1=(PW i-1)+PW i*(PW (d+1)-1):=by
  have h1:PW (i+d+1)=PW i*PW (d+1):=by rw[Nat.add_assoc,a4C]
  have h2:0<PW (d+1):=a1a _
  rw[h1,Nat.mul_sub,Nat.mul_one]
  have h3:PW i<=PW i*PW (d+1):=Nat.le_mul_of_pos_right _ h2
  omega
 rw[e,Nat.add_mul_div_left _ _ hp,Nat.div_eq_of_lt (by omega),Nat.zero_add,a0s]
 omega
theorem M_W:M=18446744073709551616*PW 7:=by rw[a3t,show(8:Nat)=7+1 from rfl,a0s];exact Nat.mul_comm _ _
theorem c9f {t:Nat} (h0:0<t) (h1:t<=18446744073709551616) {i:Nat} (hi:i<8):dig (M-t) i=if i=0 then 18446744073709551616-t else 18446744073709551615:=by
 have e:M-t=(18446744073709551616-t)+18446744073709551616*(PW 7-1):=by
  have:=a1a 7
  rw[M_W];omega
 rw[e]
 split
 ·rename_i h;subst h
  rw[b9D,Nat.add_mul_mod_self_left,Nat.mod_eq_of_lt (by omega)]
 ·rename_i h
  obtain⟨j,rfl⟩:∃j,i=j+1:=⟨i-1,by omega⟩
  rw[<-c4A (show j<7 by omega)]
  unfold dig
  rw[a0s j,Nat.mul_comm (PW j),<-Nat.div_div_eq_div_mul,Nat.add_mul_div_left _ _ (by omega),Nat.div_eq_of_lt (show 18446744073709551616-t<18446744073709551616 by omega),Nat.zero_add]
theorem c4B {t:Nat} (h:t<18446744073709551616) (i:Nat):dig t i=if i=0 then t else 0:=by
 split
 ·rename_i e;subst e;rw[b9D,Nat.mod_eq_of_lt h]
 ·rename_i e
  exact a3e (Nat.lt_of_lt_of_le (by rw[b5k];exact h) (a7J (show 1<=i by omega)))
theorem d3I:18446744073709551616<=HM/\HM<M:=by
 have h1:=b3U
 have h2:PW 1<=PW 7:=a7J (by omega)
 rw[b5k]at h2
 have h3:=c3H
 constructor
 ·rw[h1];omega
 ·omega
theorem b3Y {n:Int} (h0: -18446744073709551616<=n) (h1:n<18446744073709551616):words (rs n)=wf fun i=>if i=0 then(n%18446744073709551616).toNat else if n<0 then 18446744073709551615 else 0:=by
 have hM:=d3I
 refine(a2D fun i hi=> ?_)
 by_cases hn:n<0
 ·rw[b9w hn (by omega),show(n+M).toNat=M-n.natAbs from by omega,c9f (by omega) (by omega) hi]
  split
  ·omega
  ·rfl
 ·rw[b9v (by omega) (by omega),c4B (by omega)]
  split
  ·omega
  ·rfl
def sgI (x y:Int):Int:=if x<y then -1 else if x=y then 0 else 1
theorem a5X {n:Int} (h0: -9223372036854775808<=n) (h1:n<9223372036854775808):a8Y n:=by
 have:=d3I
 unfold a8Y;omega
open Go.RX
def blen (x:Nat):Nat:=if x=0 then 0 else x.log2+1
theorem a7S (x:Nat):x<2^blen x:=by
 unfold blen
 split
 ·rename_i h;subst h;decide
 ·exact Nat.lt_log2_self
theorem a5l {x:Nat} (h:x≠0):0<blen x/\2^(blen x-1)<=x:=by
 unfold blen
 rw[if_neg h]
 exact⟨by omega,by simpa using Nat.log2_self_le h⟩
theorem c9g {x k:Nat} (h0:0<k) (h1:2^(k-1)<=x) (h2:x<2^k):blen x=k:=by
 have hx:x≠0:=fun e=>by subst e;have:=Nat.pow_pos (n:=k-1) (show 0<2 by omega);omega
 obtain⟨p1,p2⟩:=a5l hx
 have p3:=a7S x
 have a1:k-1<blen x:=(Nat.pow_lt_pow_iff_right (show 1<2 by omega)).1 (Nat.lt_of_le_of_lt h1 p3)
 have a2:blen x-1<k:=(Nat.pow_lt_pow_iff_right (show 1<2 by omega)).1 (Nat.lt_of_le_of_lt p2 h2)
 omega
theorem a4r {x k:Nat} (h:2^k<=x):blen x=k+blen (x/2^k):=by
 have hp:0<2^k:=Nat.pow_pos (by omega)
 have hq:x/2^k≠0:=by
  have:=(Nat.le_div_iff_mul_le hp).2 (show 1*2^k<=x by omega)
  omega
 obtain⟨p1,p2⟩:=a5l hq
 have p3:=a7S (x/2^k)
 refine c9g (by omega) ?_ ?_
 ·rw[show k+blen (x/2^k)-1=(blen (x/2^k)-1)+k from by omega,Nat.pow_add]
  exact(Nat.le_div_iff_mul_le hp).1 p2
 ·rw[Nat.pow_add,Nat.mul_comm]
  exact(Nat.div_lt_iff_lt_mul hp).1 p3
theorem blen_le {x k:Nat} (h:x<2^k):blen x<=k:=by
 by_cases hx:x=0
 ·subst hx;simp[blen]
 ·obtain⟨p1,p2⟩:=a5l hx
  have:=(Nat.pow_lt_pow_iff_right (show 1<2 by omega)).1 (Nat.lt_of_le_of_lt p2 h)
  omega
theorem blen_ge {x k:Nat} (h:2^k<=x):k<blen x:=(Nat.pow_lt_pow_iff_right (show 1<2 by omega)).1 (Nat.lt_of_le_of_lt h (a7S x))
theorem a9x (k:Nat):PW k=2^(64*k):=by unfold PW;rfl
theorem b0I:(18446744073709551616:Nat)=2^64:=rfl
theorem b7z {A i:Nat} (h:dig A i≠0) (hs:A<PW (i+1)):blen A=64*i+blen (dig A i):=by
 have hd:A/PW i=dig A i:=by
  unfold dig
  rw[Nat.mod_eq_of_lt]
  rw[a0s]at hs
  exact(Nat.div_lt_iff_lt_mul (a1a i)).2 (by rw[Nat.mul_comm];exact hs)
 have hle:PW i<=A:=by
  rcases Nat.lt_or_ge A (PW i)with h1|h1
  ·rw[a3e h1]at h;exact absurd rfl h
  ·exact h1
 rw[a9x]at hle hd
 rw[a4r hle,hd]
section
variable {y1 y0 u n q r:Nat}
theorem b9F (hu:u=q*y1+r) (ho:4294967296*r+n<q*y0):(u*4294967296+n)/(y1*4294967296+y0)<q:=by
 have hp:0<y1*4294967296+y0:=by
  rcases Nat.eq_zero_or_pos y0 with h|h
  ·subst h;omega
  ·omega
 refine(Nat.div_lt_iff_lt_mul hp).2 ?_
 rw[Nat.mul_add,<-Nat.mul_assoc,hu,Nat.add_mul]
 omega
theorem b0J (hu:u=q*y1+r) (hp:0<y1) (ho:q*y0<=4294967296*r+n):q<=(u*4294967296+n)/(y1*4294967296+y0):=by
 refine(Nat.le_div_iff_mul_le (by omega)).2 ?_
 rw[Nat.mul_add,<-Nat.mul_assoc,hu,Nat.add_mul]
 omega
theorem b5n (hn:n<4294967296) (hp:0<y1):(u*4294967296+n)/(y1*4294967296+y0)<=u/y1:=by
 have h1:(u*4294967296+n)/(y1*4294967296+y0)<=(u*4294967296+n)/(4294967296*y1):=Nat.div_le_div_left (by omega) (by omega)
 rw[<-Nat.div_div_eq_div_mul,show(u*4294967296+n)/4294967296=u from by omega]at h1
 exact h1
theorem c7B (h1:2147483648<=y1) (hu:u<y1*4294967296+y0) (h0:y0<4294967296):u/y1<=4294967297:=by
 have:u/y1<4294967298:=(Nat.div_lt_iff_lt_mul (by omega)).2 (by omega)
 omega
theorem c4C (hn:n<4294967296) (hu:u<y1*4294967296+y0):(u*4294967296+n)/(y1*4294967296+y0)<4294967296:=by
 refine(Nat.div_lt_iff_lt_mul (by omega)).2 ?_
 have:(u+1)*4294967296<=(y1*4294967296+y0)*4294967296:=Nat.mul_le_mul_right _ hu
 rw[Nat.mul_comm 4294967296];omega
end
theorem b9G {U Y X n q1 r1 q0 r0:Nat} (hX:X=q1*Y+r1) (hU:U=X*4294967296+n) (h0:r1*4294967296+n=q0*Y+r0) (hr:r0<Y):U/Y=q1*4294967296+q0/\U%Y=r0:=by
 have e:U=r0+Y*(q1*4294967296+q0):=by
  rw[hU,hX,Nat.add_mul,Nat.add_assoc,h0,Nat.mul_add,Nat.mul_comm Y q0,Nat.mul_comm Y,Nat.mul_right_comm]
  omega
 rw[e]
 exact⟨by rw[Nat.add_mul_div_left _ _ (by omega),Nat.div_eq_of_lt hr,Nat.zero_add],by rw[Nat.add_mul_mod_self_left,Nat.mod_eq_of_lt hr]⟩
theorem c7C {a b i:Nat} (hb:b<2^i):(a*2^i)|||b=a*2^i+b:=by
 rw[Nat.mul_comm,Nat.two_pow_add_eq_or_of_lt hb]
theorem a2l {r:Nat} (h:r<=64):(18446744073709551616:Nat)=2^(64-r)*2^r:=by
 rw[<-Nat.pow_add,show 64-r+r=64 from by omega]
theorem c9h (d:Nat) {r:Nat} (h:r<=64):d*2^r%18446744073709551616=(d%2^(64-r))*2^r:=by
 rw[a2l h,Nat.mul_mod_mul_right]
theorem c7D {d:Nat} (hd:d<18446744073709551616) {r:Nat} (h:r<=64):d/2^(64-r)<2^r:=by
 refine(Nat.div_lt_iff_lt_mul (Nat.pow_pos (by omega))).2 ?_
 rw[Nat.mul_comm,<-a2l h];exact hd
theorem d3J {q k:Nat} (h:2^(k+1) ∣ q):q|||2^k=q+2^k:=by
 obtain⟨d,rfl⟩:=h
 exact(Nat.two_pow_add_eq_or_of_lt (Nat.pow_lt_pow_right (by omega) (by omega)) d).symm
end Go.WD

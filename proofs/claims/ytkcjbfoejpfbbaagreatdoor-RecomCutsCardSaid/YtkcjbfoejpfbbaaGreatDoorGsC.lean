/- Sets of nodes as words: plain laws. -/
import Derived.Test.YtkcjbfoejpfbbaaGreatDoorRxY
namespace Go.GS
open Go.RX
def uv (s:Nat):Value:= .int .u64 (s:Nat)
def ii (z:Int):Value:= .int .i64 z
abbrev M64:Nat:=18446744073709551616
theorem b5S {a:Nat} (h:a<M64):(BitVec.ofInt 64 (a:Int)).toNat=a:=by
 have h:a<18446744073709551616:=h
 rw[BitVec.toNat_ofInt];simp;omega
theorem u64_and {a b:Nat} (ha:a<M64) (hb:b<M64):IntKind.u64.wrap ((BitVec.ofInt (IntKind.bits .u64) (a:Int)&&&BitVec.ofInt (IntKind.bits .u64) (b:Int)).toNat:Int)=((a&&&b:Nat):Int):=by
 have e:(BitVec.ofInt 64 (a:Int)&&&BitVec.ofInt 64 (b:Int)).toNat=a&&&b:=by rw[BitVec.toNat_and,b5S ha,b5S hb]
 show IntKind.u64.wrap ((BitVec.ofInt 64 (a:Int)&&&BitVec.ofInt 64 (b:Int)).toNat:Int)=_
 rw[e,IntKind.wrap_u64]
 have:=Nat.and_lt_two_pow a (n:=64) (y:=b) (by simpa using hb)
 exact Int.emod_eq_of_lt (by omega) (by omega)
theorem u64_or {a b:Nat} (ha:a<M64) (hb:b<M64):IntKind.u64.wrap ((BitVec.ofInt (IntKind.bits .u64) (a:Int)|||BitVec.ofInt (IntKind.bits .u64) (b:Int)).toNat:Int)=((a|||b:Nat):Int):=by
 have e:(BitVec.ofInt 64 (a:Int)|||BitVec.ofInt 64 (b:Int)).toNat=a|||b:=by rw[BitVec.toNat_or,b5S ha,b5S hb]
 show IntKind.u64.wrap ((BitVec.ofInt 64 (a:Int)|||BitVec.ofInt 64 (b:Int)).toNat:Int)=_
 rw[e,IntKind.wrap_u64]
 have:=Nat.or_lt_two_pow (n:=64) (x:=a) (y:=b) (by simpa using ha) (by simpa using hb)
 exact Int.emod_eq_of_lt (by omega) (by omega)
def sdf (a b:Nat):Nat:=a^^^(a&&&b)
theorem b7u (a b i:Nat):(sdf a b).testBit i=(a.testBit i&& !b.testBit i):=by
 unfold sdf;rw[Nat.testBit_xor,Nat.testBit_and];cases a.testBit i<;>cases b.testBit i<;>rfl
theorem sdf_lt {a b:Nat} (ha:a<M64):sdf a b<M64:=by
 have h1:a&&&b<2^64:=Nat.lt_of_le_of_lt Nat.and_le_left (by simpa using ha)
 exact Nat.xor_lt_two_pow (n:=64) (by simpa using ha) h1
theorem u64_andn {a b:Nat} (ha:a<M64) (hb:b<M64):IntKind.u64.wrap ((BitVec.ofInt (IntKind.bits .u64) (a:Int)&&& ~~~BitVec.ofInt (IntKind.bits .u64) (b:Int)).toNat:Int)=((sdf a b:Nat):Int):=by
 have e:(BitVec.ofInt 64 (a:Int)&&& ~~~BitVec.ofInt 64 (b:Int)).toNat=sdf a b:=by
  apply Nat.eq_of_testBit_eq
  intro i
  rw[BitVec.toNat_and,b7u,Nat.testBit_and,b5S ha,<-BitVec.getLsbD,BitVec.getLsbD_not,BitVec.getLsbD,b5S hb]
  by_cases hi:i<64
  ·simp[hi]
  ·have:a.testBit i=false:=Nat.testBit_lt_two_pow (Nat.lt_of_lt_of_le (by simpa using ha:a<2^64) (Nat.pow_le_pow_right (by omega) (by omega)))
   simp[this]
 show IntKind.u64.wrap ((BitVec.ofInt 64 (a:Int)&&& ~~~BitVec.ofInt 64 (b:Int)).toNat:Int)=_
 rw[e,IntKind.wrap_u64]
 have:=sdf_lt (b:=b) ha
 exact Int.emod_eq_of_lt (by omega) (by simp only[M64]at this;omega)
theorem u64_shl {a k:Nat} (hk:k<64):IntKind.u64.wrap ((a:Int)*2^(min ((k:Nat):Int).toNat (IntKind.bits .u64)))=((a*2^k%M64:Nat):Int):=by
 have e:min ((k:Nat):Int).toNat (IntKind.bits .u64)=k:=by show min ((k:Nat):Int).toNat 64=k;rw[Int.toNat_natCast];omega
 rw[e,IntKind.wrap_u64];simp[M64]
theorem u64_shr {a k:Nat}:(a:Int).fdiv (2^(min ((k:Nat):Int).toNat (IntKind.bits .u64)))=((a/2^(min k 64):Nat):Int):=by
 show(a:Int).fdiv (2^(min ((k:Nat):Int).toNat 64))=_
 rw[Int.toNat_natCast,show(2:Int)^(min k 64)=((2^(min k 64):Nat):Int)from by simp,Int.fdiv_eq_ediv_of_nonneg _ (Int.natCast_nonneg _)]
 simp
theorem u64_neg {a:Nat} (ha:a<M64):IntKind.u64.wrap (0-(a:Int))=(((M64-a)%M64:Nat):Int):=by
 rw[IntKind.wrap_u64];simp only[M64]at*;omega
theorem u64_sub {a b:Nat} (ha:a<M64) (hb:b<=a):IntKind.u64.wrap ((a:Int)-(b:Int))=((a-b:Nat):Int):=by
 rw[IntKind.wrap_u64];simp only[M64]at*;omega
def bit (s x:Nat):Bool:=s.testBit x
theorem b2a {s x:Nat} (hs:s<M64) (hx:64<=x):bit s x=false:=
 Nat.testBit_lt_two_pow (Nat.lt_of_lt_of_le (by simpa using hs:s<2^64) (Nat.pow_le_pow_right (by omega) hx))
theorem a1D {s x:Nat} (hs:s<M64) (h:bit s x=true):x<64:=by
 rcases Nat.lt_or_ge x 64 with h1|h1
 ·exact h1
 ·rw[b2a hs h1]at h;cases h
theorem a2Z (a b x:Nat):bit (a&&&b) x=(bit a x&&bit b x):=Nat.testBit_and ..
theorem a0T (a b x:Nat):bit (a|||b) x=(bit a x||bit b x):=Nat.testBit_or ..
theorem a1T (a b x:Nat):bit (sdf a b) x=(bit a x&& !bit b x):=b7u ..
theorem a0D (k x:Nat):bit (2^k) x=decide (k=x):=Nat.testBit_two_pow ..
theorem a1L (x:Nat):bit 0 x=false:=Nat.zero_testBit x
theorem a1y {a b:Nat} (h:∀x,bit a x=bit b x):a=b:=Nat.eq_of_testBit_eq h
theorem b7v {a b:Nat} (ha:a<M64) (hb:b<M64) (h:∀x,x<64->bit a x=bit b x):a=b:=a1y fun x=>by
 rcases Nat.lt_or_ge x 64 with h1|h1
 ·exact h x h1
 ·rw[b2a ha h1,b2a hb h1]
theorem a0N {k:Nat} (h:k<64):2^k<M64:=by
 have:=Nat.pow_lt_pow_right (a:=2) (by omega) h
 exact this
theorem c7O {k:Nat} (h:k<64):1*2^k%M64=2^k:=by rw[Nat.one_mul,Nat.mod_eq_of_lt (a0N h)]
theorem a4L {a b:Nat} (ha:a<M64) (hb:b<M64):a|||b<M64:=Nat.or_lt_two_pow (n:=64) (by simpa using ha) (by simpa using hb)
theorem b3j {a b:Nat} (ha:a<M64):a&&&b<M64:=Nat.lt_of_le_of_lt Nat.and_le_left ha
theorem c7P {a b:Nat} (hb:b<M64):a&&&b<M64:=Nat.lt_of_le_of_lt Nat.and_le_right hb
theorem c7Q {s x:Nat}:((s/2^x)&&&1:Nat)=if bit s x then 1 else 0:=by
 have h1:bit s x=((s/2^x)&&&1 !=0):=by
  unfold bit Nat.testBit
  rw[Nat.shiftRight_eq_div_pow,Nat.and_comm]
 rw[h1,Nat.and_one_is_mod]
 rcases Nat.mod_two_eq_zero_or_one (s/2^x)with h|h<;>simp[h]
theorem b2b {s x:Nat} (h:s<M64):s/2^x<M64:=Nat.lt_of_le_of_lt (Nat.div_le_self _ _) h
def els (s:Nat):List Nat:=(List.range 64).filter (bit s)
theorem a2v {s x:Nat} (hs:s<M64):x∈els s↔bit s x=true:=by
 unfold els
 rw[List.mem_filter,List.mem_range]
 exact⟨fun h=>h.2,fun h=>⟨a1D hs h,h⟩⟩
theorem c3C {s x:Nat} (h:x∈els s):x<64/\bit s x=true:=by
 unfold els at h
 rw[List.mem_filter,List.mem_range]at h;exact h
theorem a8P:els 0=[]:=by
 unfold els
 rw[List.filter_eq_nil_iff]
 intro x _;simp[a1L]
theorem a4M {s:Nat} (hs:s<M64) (h:els s=[]):s=0:=b7v hs (by decide) fun x hx=>by
 rw[a1L]
 cases e:bit s x with
 |false=>rfl
 |true=>have:=(a2v hs).2 e;rw[h]at this;cases this
theorem b2c {s k:Nat} (hk:bit s k=true) (hl:∀j,j<k->bit s j=false):s=2^(k+1)*(s/2^(k+1))+2^k:=by
 have h:=Nat.div_add_mod s (2^(k+1))
 have e:s%2^(k+1)=2^k:=by
  apply Nat.eq_of_testBit_eq
  intro i
  rw[Nat.testBit_mod_two_pow,Nat.testBit_two_pow]
  by_cases h1:i<k
  ·have:=hl i h1
   unfold bit at this
   simp[this,show ¬k=i from by omega]
  ·by_cases h2:i=k
   ·subst h2
    unfold bit at hk
    simp[hk]
   ·simp[show ¬i<k+1 from by omega,show ¬k=i from fun e=>h2 e.symm]
 rw[e]at h;exact h.symm
theorem b3k {s k:Nat} (hk:bit s k=true) (hl:∀j,j<k->bit s j=false) (i:Nat):bit (s-1) i=if i<k then true else if i=k then false else bit s i:=by
 have h:=b2c hk hl
 have h2:=Nat.two_pow_pos k
 generalize s/2^(k+1)=q at h
 have e1:s-1=2^(k+1)*q+(2^k-1):=by omega
 have hlt:2^k-1<2^(k+1):=by rw[Nat.pow_succ];omega
 have hlt2:2^k<2^(k+1):=by rw[Nat.pow_succ];omega
 unfold bit
 rw[e1,Nat.testBit_two_pow_mul_add _ hlt]
 rw[h,Nat.testBit_two_pow_mul_add _ hlt2,Nat.testBit_two_pow_sub_one,Nat.testBit_two_pow]
 by_cases c1:i<k
 ·simp[c1,show i<k+1 from by omega]
 ·by_cases c2:i=k
  ·subst c2;simp
  ·simp[c1,c2,show ¬i<k+1 from by omega]
theorem a3x {s x:Nat} {r:List Nat} (h:els s=x::r):bit s x=true/\x<64/\∀j,j<x->bit s j=false:=by
 have hm:=c3C (s:=s) (x:=x) (by rw[h];simp)
 refine⟨hm.2,hm.1,fun j hj=> ?_⟩
 cases e:bit s j with
 |false=>rfl
 |true=>
  have hp:(els s).Pairwise (· < ·):=List.pairwise_lt_range.filter _
  have hj':j∈els s:=by unfold els;rw[List.mem_filter,List.mem_range];exact⟨by omega,e⟩
  rw[h]at hj' hp
  rcases List.mem_cons.1 hj' with rfl|hj'
  ·omega
  ·have:=(List.pairwise_cons.1 hp).1 j hj';omega
theorem a3a (s:Nat):(els s).Pairwise (· < ·):=List.pairwise_lt_range.filter _
theorem b5T:∀{a b:List Nat},a.Pairwise (· < ·)->b.Pairwise (· < ·)->(∀x,x∈a↔x∈b)->a=b:=by
 intro a
 induction a with
 |nil=>intro b _ _ h;cases b with
  |nil=>rfl
  |cons y b=>exact absurd ((h y).2 (by simp)) (by simp)
 |cons x a ih=>
  intro b ha hb h
  cases b with
  |nil=>exact absurd ((h x).1 (by simp)) (by simp)
  |cons y b=>
   rw[List.pairwise_cons]at ha hb
   have e:x=y:=by
    rcases List.mem_cons.1 ((h x).1 (by simp))with h1|h1
    ·exact h1
    ·rcases List.mem_cons.1 ((h y).2 (by simp))with h2|h2
     ·exact h2.symm
     ·have:=ha.1 y h2;have:=hb.1 x h1;omega
   subst e
   rw[ih ha.2 hb.2 fun z=> ?_]
   constructor
   ·intro hz
    rcases List.mem_cons.1 ((h z).1 (by simp[hz]))with h1|h1
    ·have:=ha.1 z hz;omega
    ·exact h1
   ·intro hz
    rcases List.mem_cons.1 ((h z).2 (by simp[hz]))with h1|h1
    ·have:=hb.1 z hz;omega
    ·exact h1
theorem b3l {s x:Nat} {r:List Nat} (hs:s<M64) (h:els s=x::r):els (s&&&(s-1))=r:=by
 obtain⟨h1,h2,h3⟩:=a3x h
 have hp:=a3a s
 rw[h,List.pairwise_cons]at hp
 refine b5T (a3a _) hp.2 fun y=> ?_
 rw[a2v (b3j hs),a2Z,b3k h1 h3]
 have hy:=a2v (x:=y) hs
 rw[h]at hy
 constructor
 ·intro hh
  rw[Bool.and_eq_true]at hh
  rcases List.mem_cons.1 (hy.2 hh.1)with rfl|h4
  ·simp at hh
  ·exact h4
 ·intro hh
  have h4:=hp.1 y hh
  rw[hy.1 (by simp[hh])]
  simp[show ¬y<x from by omega,show ¬y=x from by omega]
theorem b0c {s x:Nat} {r:List Nat} (hs:s<M64) (h:els s=x::r):s&&&((M64-s)%M64)=2^x:=by
 obtain⟨h1,h2,h3⟩:=a3x h
 have h0:s≠0:=fun e=>by rw[e,a1L]at h1;cases h1
 apply a1y
 intro i
 have e1:(M64-s)%M64=2^64-((s-1)+1):=by
  rw[Nat.mod_eq_of_lt (by omega)]
  show 2^64-s=_
  congr 1;omega
 have e2:bit (2^64-((s-1)+1)) i=(decide (i<64)&& !bit (s-1) i):=Nat.testBit_two_pow_sub_succ (by simp only[M64]at hs;omega) i
 rw[a2Z,e1,e2,b3k h1 h3,a0D]
 by_cases c1:i<x
 ·simp[c1,show ¬x=i from by omega]
 ·by_cases c2:i=x
  ·subst c2;simp[h1,h2]
  ·simp[c1,c2,show ¬x=i from fun e=>c2 e.symm]
   intro h5 _;exact h5
def card (s:Nat):Nat:=(els s).length
end Go.GS
/- How many bits: plain. -/
namespace Go.GS
def Fd (s:Nat):List Nat->Nat
 |[]=>0
 |d::l=>d+2^s*Fd s l
def a1z:List Nat->List Nat
 |[]=>[]
 |[a]=>[a]
 |a::_::l=>a::a1z l
def Mk (s:Nat):Nat->Nat
 |0=>0
 |n+1=>(2^s-1)+2^(2*s)*Mk s n
def a3E:List Nat->List Nat->List Nat
 |a::l,b::r=>(a+b)::a3E l r
 |l,[]=>l
 |[],r=>r
theorem b0d {k p q r t:Nat} (hp:p<2^k) (hr:r<2^k):(p+2^k*q)&&&(r+2^k*t)=(p&&&r)+2^k*(q&&&t):=by
 have h1:p&&&r<2^k:=Nat.lt_of_le_of_lt Nat.and_le_left hp
 apply Nat.eq_of_testBit_eq
 intro i
 rw[Nat.testBit_and,Nat.add_comm p,Nat.add_comm r,Nat.add_comm (p&&&r),Nat.testBit_two_pow_mul_add _ hp,Nat.testBit_two_pow_mul_add _ hr,Nat.testBit_two_pow_mul_add _ h1]
 split
 ·rw[Nat.testBit_and]
 ·rw[Nat.testBit_and]
theorem b7w {s:Nat}:∀(n:Nat) (l:List Nat),(∀d∈l,d<2^s)->l.length<=2*n->Fd s l&&&Mk s n=Fd (2*s) (a1z l):=by
 intro n
 induction n with
 |zero=>
  intro l _ hl
  have:l=[]:=List.eq_nil_of_length_eq_zero (by omega)
  subst this;simp[Fd,a1z,Mk]
 |succ n ih=>
  intro l hd hl
  have hp:=Nat.two_pow_pos s
  have hm:2^s-1<2^(2*s):=by
   have:2^s<=2^(2*s):=Nat.pow_le_pow_right (by omega) (by omega)
   omega
  cases l with
  |nil=>simp[Fd,a1z]
  |cons a l=>
   have ha:=hd a (by simp)
   have ham:a&&&(2^s-1)=a:=by rw[Nat.and_two_pow_sub_one_eq_mod,Nat.mod_eq_of_lt ha]
   cases l with
   |nil=>
    have ha2:a<2^(2*s):=by omega
    have:=b0d (q:=0) (t:=Mk s n) ha2 hm
    simp only[Fd,a1z,Mk,Nat.mul_zero,Nat.add_zero]at this⊢
    rw[this,ham];simp
   |cons b l=>
    have hb:=hd b (by simp)
    have hab:a+2^s*b<2^(2*s):=by
     rw[Nat.two_mul,Nat.pow_add]
     have:2^s*(b+1)<=2^s*2^s:=Nat.mul_le_mul_left _ hb
     rw[Nat.mul_add]at this;omega
    have e:Fd s (a::b::l)=(a+2^s*b)+2^(2*s)*Fd s l:=by
     simp only[Fd,Nat.mul_add,<-Nat.mul_assoc,<-Nat.pow_add,Nat.two_mul,Nat.add_assoc]
    have e2:(a+2^s*b)&&&(2^s-1)=a:=by
     rw[Nat.and_two_pow_sub_one_eq_mod,Nat.add_mul_mod_self_left,Nat.mod_eq_of_lt ha]
    rw[e]
    simp only[Mk,a1z,Fd]
    rw[b0d hab hm,e2,ih l (fun d h=>hd d (by simp[h])) (by simp at hl;omega)]
theorem c3D {s d:Nat} {l:List Nat} (hd:d<2^s):Fd s (d::l)/2^s=Fd s l:=by
 simp only[Fd]
 rw[Nat.add_mul_div_left _ _ (Nat.two_pow_pos s),Nat.div_eq_of_lt hd,Nat.zero_add]
theorem a6v {s:Nat}:∀(k:Nat) (l:List Nat),(∀d∈l,d<2^s)->Fd s l/2^(k*s)=Fd s (l.drop k):=by
 intro k
 induction k with
 |zero=>intro l _;simp
 |succ k ih=>
  intro l hd
  cases l with
  |nil=>simp[Fd]
  |cons a l=>rw[Nat.add_mul,Nat.one_mul,Nat.add_comm,Nat.pow_add,<-Nat.div_div_eq_div_mul,c3D (hd a (by simp)),ih l (fun d h=>hd d (by simp[h])),List.drop_succ_cons]
theorem b0e {s:Nat}:∀(l r:List Nat),Fd s (a3E l r)=Fd s l+Fd s r:=by
 intro l
 induction l with
 |nil=>intro r;cases r<;>simp[a3E,Fd]
 |cons a l ih=>
  intro r
  cases r with
  |nil=>simp[a3E,Fd]
  |cons b r=>simp only[a3E,Fd,ih,Nat.mul_add];omega
theorem d5k {s:Nat}:∀(l:List Nat),(∀d∈l,d<2^s)->Fd s l<2^(s*l.length):=by
 intro l
 induction l with
 |nil=>intro _;simp[Fd]
 |cons a l ih=>
  intro hd
  have h1:=ih fun d h=>hd d (by simp[h])
  have h2:=hd a (by simp)
  simp only[Fd,List.length_cons]
  rw[Nat.mul_add,Nat.mul_one,Nat.add_comm (s*l.length),Nat.pow_add]
  have:2^s*(Fd s l+1)<=2^s*2^(s*l.length):=Nat.mul_le_mul_left _ h1
  rw[Nat.mul_add]at this;omega
theorem b2d {B C:Nat}:∀{l r:List Nat},(∀d∈l,d<=B)->(∀d∈r,d<=C)->∀d∈a3E l r,d<=B+C:=by
 intro l
 induction l with
 |nil=>intro r _ hr d hd;cases r with
  |nil=>simp[a3E]at hd
  |cons b r=>simp only[a3E]at hd;have:=hr d hd;omega
 |cons a l ih=>
  intro r hl hr d hd
  cases r with
  |nil=>simp only[a3E]at hd;have:=hl d hd;omega
  |cons b r=>
   simp only[a3E,List.mem_cons]at hd
   rcases hd with rfl|hd
   ·have:=hl a (by simp);have:=hr b (by simp);omega
   ·exact ih (fun x h=>hl x (by simp[h])) (fun x h=>hr x (by simp[h])) d hd
theorem b7x:∀{n:Nat} {l:List Nat},l.length<=n->∀d∈a1z l,d∈l:=by
 intro n
 induction n with
 |zero=>intro l hl d hd;have:l=[]:=List.eq_nil_of_length_eq_zero (by omega);subst this;simp[a1z]at hd
 |succ n ih=>
  intro l hl d hd
  match l,hl,hd with
  |[],_,hd=>simp[a1z]at hd
  |[a],_,hd=>simpa[a1z]using hd
  |a::b::l,hl,hd=>
   simp only[a1z,List.mem_cons]at hd
   rcases hd with rfl|hd
   ·simp
   ·have:=ih (l:=l) (by simp at hl;omega) d hd
    simp[this]
theorem a4h {B:Nat} {l:List Nat} (h:∀d∈l,d<=B):∀d∈a1z l,d<=B:=fun d hd=>h d (b7x (Nat.le_refl _) d hd)
theorem b2e {B:Nat} {l:List Nat} (k:Nat) (h:∀d∈l,d<=B):∀d∈l.drop k,d<=B:=fun d hd=>h d (List.mem_of_mem_drop hd)
theorem c3E:∀(l r:List Nat),r.length<=l.length->(a3E l r).length=l.length:=by
 intro l
 induction l with
 |nil=>intro r h;cases r with
  |nil=>rfl
  |cons b r=>simp at h
 |cons a l ih=>intro r h;cases r with
  |nil=>rfl
  |cons b r=>simp only[a3E,List.length_cons];rw[ih r (by simpa using h)]
def a3b (l:List Nat):List Nat:=a3E (a1z l) (a1z (l.drop 1))
theorem a8Q:∀(n:Nat) (l:List Nat),l.length=2*n->(a3b l).sum=l.sum/\(a3b l).length=n:=by
 intro n
 induction n with
 |zero=>intro l h;have:l=[]:=List.eq_nil_of_length_eq_zero (by omega);subst this;exact⟨rfl,rfl⟩
 |succ n ih=>
  intro l h
  match l,h with
  | [a, b], h => simp only [List.length_cons, List.length_nil] at h; obtain rfl : n = 0 := by omega
                 simp[a3b,a1z,a3E]
  |a::b::c::l,h=>
   have:=ih (c::l) (by simp at h⊢;omega)
   have e:a3b (a::b::c::l)=(a+b)::a3b (c::l):=by
    simp only[a3b,List.drop_succ_cons,List.drop_zero,a1z,a3E]
   rw[e]
   simp only[List.sum_cons,List.length_cons]at this⊢
   omega
def a2b (x n:Nat):List Nat:=(List.range n).map fun i=>if x.testBit i then 1 else 0
theorem b7y (x n:Nat):a2b x (n+1)=(if x.testBit 0 then 1 else 0)::a2b (x/2) n:=by
 unfold a2b
 rw[List.range_succ_eq_map,List.map_cons,List.map_map]
 congr 1
 apply List.map_congr_left
 intro i _
 simp only[Function.comp,Nat.testBit_succ]
theorem b7z:∀(n x:Nat),x<2^n->Fd 1 (a2b x n)=x:=by
 intro n
 induction n with
 |zero=>intro x h;simp at h;subst h;rfl
 |succ n ih=>
  intro x h
  rw[b7y]
  simp only[Fd,Nat.pow_one]
  rw[ih (x/2) (by rw[Nat.pow_succ]at h;omega),Nat.testBit_zero]
  rcases Nat.mod_two_eq_zero_or_one x with h1|h1
  ·simp[h1];omega
  ·simp[h1];omega
theorem c7R (x n:Nat):∀d∈a2b x n,d<=1:=by
 intro d hd
 unfold a2b at hd
 rw[List.mem_map]at hd
 obtain⟨i,_,rfl⟩:=hd
 split<;>omega
theorem b3m (x n:Nat):(a2b x n).length=n:=by simp[a2b]
theorem b7A (x:Nat):(a2b x 64).sum=card x:=by
 unfold a2b card els bit
 generalize List.range 64=l
 induction l with
 |nil=>rfl
 |cons i l ih=>
  rw[List.map_cons,List.sum_cons,ih,List.filter_cons]
  split
  ·simp;omega
  ·simp
theorem d1Z {s n B:Nat} {l:List Nat} (hl:l.length=2*n) (hB:∀d∈l,d<=B) (hs:B<2^s) (hx:Fd s l<M64):(Fd s l/2^s&&&Mk s n)+(Fd s l&&&Mk s n)=Fd (2*s) (a3b l):=by
 have hd:∀d∈l,d<2^s:=fun d h=>Nat.lt_of_le_of_lt (hB d h) hs
 have h1:=a6v 1 l hd
 rw[Nat.one_mul]at h1
 rw[h1,b7w n _ (fun d h=>hd d (List.mem_of_mem_drop h)) (by rw[List.length_drop];omega),b7w n l hd (by omega),Nat.add_comm,<-b0e]
 rfl
theorem b7B {l:List Nat} {s m:Nat} (hl:s*l.length<=64) (h:∀d∈l,d<2^s):Fd s l<M64:=by
 have h1:=d5k l h
 have h2:2^(s*l.length)<=2^64:=Nat.pow_le_pow_right (by omega) hl
 exact Nat.lt_of_lt_of_le h1 h2
end Go.GS
/- Words as sets, part 3: how many; the terms of the code. -/
namespace Go.GS
theorem b5U:∀(n:Nat) (l r:List Nat),l.length<=n->r.length<=n->a1z (a3E l r)=a3E (a1z l) (a1z r):=by
 intro n
 induction n using Nat.strongRecOn with
 |_ n ih=>
  intro l r hl hr
  match l,r with
  |[],[]=>simp[a3E,a1z]
  |[],[b]=>simp[a3E,a1z]
  |[],b::c::r=>simp[a3E,a1z]
  |[a],[]=>simp[a3E,a1z]
  |a::c::l,[]=>simp[a3E,a1z]
  |[a],[b]=>simp[a3E,a1z]
  |[a],b::c::r=>cases hh:a1z r<;>simp[a3E,a1z,hh]
  |a::c::l,[b]=>cases hh:a1z l<;>simp[a3E,a1z,hh]
  |a::c::l,b::d::r=>
   simp only[List.length_cons]at hl hr
   simp only[a3E,a1z]
   rw[ih (n-2) (by omega) l r (by omega) (by omega)]
def c3F (x:Nat):Nat:=(x/2&&&6148914691236517205)+(x&&&6148914691236517205)
def c7S (x:Nat):Nat:=(x/4&&&3689348814741910323)+(x&&&3689348814741910323)
def d5l (x:Nat):Nat:=(x/16+x)&&&1085102592571150095
theorem d5m {x:Nat} (hx:x<M64):∃l,l.length=8/\(∀d∈l,d<=8)/\d5l (c7S (c3F x))=Fd 8 l/\l.sum=card x/\c3F x<M64/\c7S (c3F x)<M64/\c7S (c3F x)/16+c7S (c3F x)<M64:=by
 have b1:=c7R x 64
 have h1:=d1Z (s:=1) (n:=32) (B:=1) (l:=a2b x 64) (by rw[b3m]) b1 (by decide) (by rw[b7z 64 x hx];exact hx)
 rw[b7z 64 x hx]at h1
 have l1:=a8Q 32 (a2b x 64) (b3m x 64)
 have c1:∀d∈a3b (a2b x 64),d<=2:=b2d (a4h b1) (a4h (b2e 1 b1))
 have e1:c3F x=Fd 2 (a3b (a2b x 64)):=h1
 have m1:Fd 2 (a3b (a2b x 64))<M64:=b7B (m:=0) (by rw[l1.2];decide) fun d hd=>Nat.lt_of_le_of_lt (c1 d hd) (by decide)
 generalize a3b (a2b x 64)=q1 at*
 have h2:=d1Z (s:=2) (n:=16) (B:=2) (l:=q1) l1.2 c1 (by decide) m1
 have l2:=a8Q 16 q1 l1.2
 have c2:∀d∈a3b q1,d<=4:=b2d (a4h c1) (a4h (b2e 1 c1))
 have e2:c7S (Fd 2 q1)=Fd 4 (a3b q1):=h2
 have m2:Fd 4 (a3b q1)<M64:=b7B (m:=0) (by rw[l2.2];decide) fun d hd=>Nat.lt_of_le_of_lt (c2 d hd) (by decide)
 generalize a3b q1=q2 at*
 have h3:Fd 4 q2/16=Fd 4 (q2.drop 1):=a6v 1 q2 fun d hd=>Nat.lt_of_le_of_lt (c2 d hd) (by decide)
 have l3:=a8Q 8 q2 l2.2
 have c3:∀d∈a3E q2 (q2.drop 1),d<=8:=b2d c2 (b2e 1 c2)
 have n3:(a3E q2 (q2.drop 1)).length=16:=by rw[c3E _ _ (by simp),l2.2]
 have e3:Fd 4 q2/16+Fd 4 q2=Fd 4 (a3E q2 (q2.drop 1)):=by rw[h3,b0e,Nat.add_comm]
 have m3:Fd 4 (a3E q2 (q2.drop 1))<M64:=b7B (m:=0) (by rw[n3];decide) fun d hd=>Nat.lt_of_le_of_lt (c3 d hd) (by decide)
 have h4:=b7w (s:=4) 8 (a3E q2 (q2.drop 1)) (fun d hd=>Nat.lt_of_le_of_lt (c3 d hd) (by decide)) (by rw[n3];decide)
 have e4:a1z (a3E q2 (q2.drop 1))=a3b q2:=b5U 16 _ _ (by rw[l2.2];decide) (by simp[l2.2])
 refine⟨a3b q2,l3.2,by rw[<-e4];exact a4h c3,?_,?_,by rw[e1];exact m1,by rw[e1,e2];exact m2,by rw[e1,e2,e3];exact m3⟩
 ·rw[e1,e2]
  unfold d5l
  rw[e3,<-e4];exact h4
 ·rw[l3.1,l2.1,l1.1,b7A]
def a5D (k x:Nat):Nat:=x+x/2^k
theorem d5n {l:List Nat} (hl:l.length=8) (hd:∀d∈l,d<=8):a5D 8 (Fd 8 l)<M64/\a5D 16 (a5D 8 (Fd 8 l))<M64/\a5D 32 (a5D 16 (a5D 8 (Fd 8 l)))<M64/\a5D 32 (a5D 16 (a5D 8 (Fd 8 l)))%128=l.sum:=by
 match l,hl with
 |[a,b,c,d,e,f,g,h],_=>
  simp only[List.mem_cons,List.not_mem_nil,or_false,forall_eq_or_imp,forall_eq]at hd
  obtain⟨h1,h2,h3,h4,h5,h6,h7,h8⟩:=hd
  have q1:a5D 8 (Fd 8 [a,b,c,d,e,f,g,h])=Fd 8 [a+b,b+c,c+d,d+e,e+f,f+g,g+h,h]:=by
   unfold a5D
   rw[a6v 1 (s:=8) _ (by simp only[List.mem_cons,List.not_mem_nil,or_false,forall_eq_or_imp,forall_eq];omega),<-b0e];rfl
  have q2:a5D 16 (Fd 8 [a+b,b+c,c+d,d+e,e+f,f+g,g+h,h])=Fd 8 [a+b+(c+d),b+c+(d+e),c+d+(e+f),d+e+(f+g),e+f+(g+h),f+g+h,g+h,h]:=by
   unfold a5D
   rw[a6v 2 (s:=8) _ (by simp only[List.mem_cons,List.not_mem_nil,or_false,forall_eq_or_imp,forall_eq];omega),<-b0e];rfl
  have q3:a5D 32 (Fd 8 [a+b+(c+d),b+c+(d+e),c+d+(e+f),d+e+(f+g),e+f+(g+h),f+g+h,g+h,h])=Fd 8 [a+b+(c+d)+(e+f+(g+h)),b+c+(d+e)+(f+g+h),c+d+(e+f)+(g+h),d+e+(f+g)+h,e+f+(g+h),f+g+h,g+h,h]:=by
   unfold a5D
   rw[a6v 4 (s:=8) _ (by simp only[List.mem_cons,List.not_mem_nil,or_false,forall_eq_or_imp,forall_eq];omega),<-b0e];rfl
  rw[q1,q2,q3]
  simp only[Fd,M64,List.sum_cons,List.sum_nil,show(2:Nat)^8=256 from by decide]
  refine⟨by omega,by omega,by omega,by omega⟩
end Go.GS
namespace Go.RX
open Go.RowKit Go.GS
section
variable {P:Program} {ρ:List Value} {a b:SV} {A B:Nat}
theorem a9y (ha:D P ρ a=uv A) (hb:D P ρ b=uv B) (hA:A<M64) (hB:B<M64):D P ρ (.op2 .or .u64 a b)=uv (A|||B):=by
 show a1H .or .u64 (intOf (D P ρ a)) (intOf (D P ρ b))=_
 rw[ha,hb]
 show Value.int .u64 _= .int .u64 _
 congr 1
 exact Go.GS.u64_or hA hB
theorem a3T (ha:D P ρ a=uv A) (hb:D P ρ b=uv B) (hA:A<M64) (hB:B<M64):D P ρ (.op2 .and .u64 a b)=uv (A&&&B):=by
 show a1H .and .u64 (intOf (D P ρ a)) (intOf (D P ρ b))=_
 rw[ha,hb]
 show Value.int .u64 _= .int .u64 _
 congr 1
 exact Go.GS.u64_and hA hB
theorem b3n (ha:D P ρ a=uv A) (hb:D P ρ b=uv B) (hA:A<M64) (hB:B<M64):D P ρ (.op2 .andNot .u64 a b)=uv (sdf A B):=by
 show a1H .andNot .u64 (intOf (D P ρ a)) (intOf (D P ρ b))=_
 rw[ha,hb]
 show Value.int .u64 _= .int .u64 _
 congr 1
 exact Go.GS.u64_andn hA hB
theorem a6w {n:Nat} {k:IntKind} (ha:D P ρ a=uv A) (hb:D P ρ b= .int k (n:Nat)) (hn:n<=64):D P ρ (.op2 .shr .u64 a b)=uv (A/2^n):=by
 show a1H .shr .u64 (intOf (D P ρ a)) (intOf (D P ρ b))=_
 rw[ha,hb]
 show Value.int .u64 _= .int .u64 _
 congr 1
 have:=Go.GS.u64_shr (a:=A) (k:=n)
 rw[Nat.min_eq_left hn]at this
 exact this
theorem d2a {n:Nat} {k:IntKind} (ha:D P ρ a=uv A) (hb:D P ρ b= .int k (n:Nat)) (hn:n<64):D P ρ (.op2 .shl .u64 a b)=uv (A*2^n%M64):=by
 show a1H .shl .u64 (intOf (D P ρ a)) (intOf (D P ρ b))=_
 rw[ha,hb]
 show Value.int .u64 _= .int .u64 _
 congr 1
 exact Go.GS.u64_shl hn
theorem a4N {n:Nat} {k:IntKind} (hb:D P ρ b= .int k (n:Nat)) (hn:n<64):D P ρ (.op2 .shl .u64 (.k (.int .u64 1)) b)=uv (2^n):=by
 rw[d2a (A:=1) rfl hb hn,c7O hn]
theorem a7K (ha:D P ρ a=uv A) (hb:D P ρ b=uv B) (h:A+B<M64):D P ρ (.op2 .add .u64 a b)=uv (A+B):=by
 show a1H .add .u64 (intOf (D P ρ a)) (intOf (D P ρ b))=_
 rw[ha,hb]
 show Value.int .u64 (IntKind.u64.wrap ((A:Int)+(B:Int)))= .int .u64 _
 congr 1
 rw[IntKind.wrap_u64]
 simp only[M64]at h
 omega
theorem b0f (ha:D P ρ a=uv A) (hb:D P ρ b=uv B) (hA:A<M64) (h:B<=A):D P ρ (.op2 .sub .u64 a b)=uv (A-B):=by
 show a1H .sub .u64 (intOf (D P ρ a)) (intOf (D P ρ b))=_
 rw[ha,hb]
 show Value.int .u64 _= .int .u64 _
 congr 1
 exact Go.GS.u64_sub hA h
theorem b7C (ha:D P ρ a=uv A) (hA:A<M64):D P ρ (.op1 .neg .u64 a)=uv ((M64-A)%M64):=by
 show unV .neg .u64 (intOf (D P ρ a))=_
 rw[ha]
 show Value.int .u64 _= .int .u64 _
 congr 1
 exact Go.GS.u64_neg hA
theorem b7D {n:Nat} {k:IntKind} (ha:D P ρ a=uv A) (hA:A<M64) (hb:D P ρ b= .int k (n:Nat)) (hn:n<=64):D P ρ (.op2 .eql .u64 (.op2 .and .u64 (.op2 .shr .u64 a b) (.k (.int .u64 1))) (.k (.int .u64 1)))= .bool (Go.GS.bit A n):=by
 show a1H .eql .u64 (intOf (D P ρ (.op2 .and .u64 (.op2 .shr .u64 a b) (.k (.int .u64 1))))) 1=_
 rw[a3T (B:=1) (a6w ha hb hn) rfl (b2b hA) (by decide),c7Q]
 cases Go.GS.bit A n<;>rfl
theorem b3o {x y:Int} (ha:D P ρ a=ii x) (hb:D P ρ b=ii y) (h1: -9223372036854775808<=x+y) (h2:x+y<9223372036854775808):D P ρ (.op2 .add .i64 a b)=ii (x+y):=by
 show a1H .add .i64 (intOf (D P ρ a)) (intOf (D P ρ b))=_
 rw[ha,hb]
 show Value.int .i64 (IntKind.i64.wrap (x+y))= .int .i64 _
 congr 1
 rw[IntKind.wrap_i64];omega
theorem b0g {x y:Int} (ha:D P ρ a=ii x) (hb:D P ρ b=ii y) (h1: -9223372036854775808<=x-y) (h2:x-y<9223372036854775808):D P ρ (.op2 .sub .i64 a b)=ii (x-y):=by
 show a1H .sub .i64 (intOf (D P ρ a)) (intOf (D P ρ b))=_
 rw[ha,hb]
 show Value.int .i64 (IntKind.i64.wrap (x-y))= .int .i64 _
 congr 1
 rw[IntKind.wrap_i64];omega
theorem d2b {m:Nat} (hm:m<M64):IntKind.i64.wrap ((BitVec.ofInt 64 (IntKind.i64.wrap (m:Int))&&&BitVec.ofInt 64 127).toNat:Nat)=((m%128:Nat):Int):=by
 have e:BitVec.ofInt 64 (IntKind.i64.wrap (m:Int))=BitVec.ofNat 64 m:=by
  apply BitVec.eq_of_toNat_eq
  simp only[M64]at hm
  rw[IntKind.wrap_i64,BitVec.toNat_ofInt,BitVec.toNat_ofNat,Nat.mod_eq_of_lt (show m<2^64 by omega)]
  omega
 have e2:BitVec.ofInt 64 127=BitVec.ofNat 64 127:=by decide
 rw[e,e2]
 have e3:(BitVec.ofNat 64 m&&&BitVec.ofNat 64 127).toNat=m%128:=by
  rw[BitVec.toNat_and,BitVec.toNat_ofNat,BitVec.toNat_ofNat,Nat.mod_eq_of_lt (show m<2^64 by simp only[M64]at hm;omega)]
  exact Nat.and_two_pow_sub_one_eq_mod m 7
 have e4:∀n:Nat,n<128->IntKind.i64.wrap (n:Int)=n:=fun n h=>by rw[IntKind.wrap_i64];omega
 rw[e3,e4 _ (Nat.mod_lt _ (by decide))]
theorem d5o {m:Nat} {P:Program} {ρ:List Value} {y:SV} (hy:D P ρ y=uv m) (hm:m<M64):D P ρ (.op2 .and .i64 (.cv .i64 y) (.k (.int .i64 127)))=ii ((m%128:Nat):Int):=by
 show a1H .and .i64 (IntKind.i64.wrap (intOf (D P ρ y))) 127=_
 rw[hy]
 have:=d2b hm
 show Value.int .i64 _=Value.int .i64 _
 exact congrArg (Value.int .i64) this
theorem a0x {n:Nat} (ha:D P ρ a=ii (n:Nat)) (h:n+1<9223372036854775808):D P ρ (.op2 .add .i64 a (.k (.int .i64 1)))=ii ((n+1:Nat):Int):=by
 rw[b3o ha (y:=1) rfl (by omega) (by omega)];rfl
end
theorem a5E {P:Program} {ρ:List Value} {a:SV} {x:Value} (h:D P ρ a=x):[a].map (D P ρ)=[x]:=by rw[List.map_cons,h];rfl
theorem a1s {P:Program} {ρ:List Value} {a b:SV} {x y:Value} (h:D P ρ a=x) (h2:D P ρ b=y):[a,b].map (D P ρ)=[x,y]:=by rw[List.map_cons,h,a5E h2]
theorem a7m {P:Program} {ρ:List Value} {a b c:SV} {x y z:Value} (h:D P ρ a=x) (h2:D P ρ b=y) (h3:D P ρ c=z):[a,b,c].map (D P ρ)=[x,y,z]:=by rw[List.map_cons,h,a1s h2 h3]
theorem d1J {P:Program} {ρ:List Value} {a b c d:SV} {x y z u:Value} (h:D P ρ a=x) (h2:D P ρ b=y) (h3:D P ρ c=z) (h4:D P ρ d=u):[a,b,c,d].map (D P ρ)=[x,y,z,u]:=by rw[List.map_cons,h,a7m h2 h3 h4]
end Go.RX

/- Sets of nodes as words: plain laws. -/
import Derived.Test.YtpdipcopnmiddaaGreatDoorRxY
namespace Go.GS
open Go.RX

def uv (s : Nat) : Value := .int .u64 (s : Nat)
def ii (z : Int) : Value := .int .i64 z
abbrev M64 : Nat := 18446744073709551616

theorem bv_of {a : Nat} (h : a < M64) : (BitVec.ofInt 64 (a : Int)).toNat = a := by
 have h : a < 18446744073709551616 := h
 rw [BitVec.toNat_ofInt]; simp; omega
theorem u64_and {a b : Nat} (ha : a < M64) (hb : b < M64) : IntKind.u64.wrap ((BitVec.ofInt (IntKind.bits .u64) (a : Int) &&& BitVec.ofInt (IntKind.bits .u64) (b : Int)).toNat : Int) = ((a &&& b : Nat) : Int) := by
 have e : (BitVec.ofInt 64 (a : Int) &&& BitVec.ofInt 64 (b : Int)).toNat = a &&& b := by rw [BitVec.toNat_and,bv_of ha,bv_of hb]
 show IntKind.u64.wrap ((BitVec.ofInt 64 (a : Int) &&& BitVec.ofInt 64 (b : Int)).toNat : Int) = _
 rw [e,IntKind.wrap_u64]
 have := Nat.and_lt_two_pow a (n := 64) (y := b) (by simpa using hb)
 exact Int.emod_eq_of_lt (by omega) (by omega)
theorem u64_or {a b : Nat} (ha : a < M64) (hb : b < M64) : IntKind.u64.wrap ((BitVec.ofInt (IntKind.bits .u64) (a : Int) ||| BitVec.ofInt (IntKind.bits .u64) (b : Int)).toNat : Int) = ((a ||| b : Nat) : Int) := by
 have e : (BitVec.ofInt 64 (a : Int) ||| BitVec.ofInt 64 (b : Int)).toNat = a ||| b := by rw [BitVec.toNat_or,bv_of ha,bv_of hb]
 show IntKind.u64.wrap ((BitVec.ofInt 64 (a : Int) ||| BitVec.ofInt 64 (b : Int)).toNat : Int) = _
 rw [e,IntKind.wrap_u64]
 have := Nat.or_lt_two_pow (n := 64) (x := a) (y := b) (by simpa using ha) (by simpa using hb)
 exact Int.emod_eq_of_lt (by omega) (by omega)
def sdf (a b : Nat) : Nat := a ^^^ (a &&& b)
theorem sdf_bit (a b i : Nat) : (sdf a b).testBit i = (a.testBit i && !b.testBit i) := by
 unfold sdf; rw [Nat.testBit_xor,Nat.testBit_and]; cases a.testBit i <;> cases b.testBit i <;> rfl
theorem sdf_lt {a b : Nat} (ha : a < M64) : sdf a b < M64 := by
 have h1 : a &&& b < 2 ^ 64 := Nat.lt_of_le_of_lt Nat.and_le_left (by simpa using ha)
 exact Nat.xor_lt_two_pow (n := 64) (by simpa using ha) h1
theorem u64_andn {a b : Nat} (ha : a < M64) (hb : b < M64) : IntKind.u64.wrap ((BitVec.ofInt (IntKind.bits .u64) (a : Int) &&& ~~~ BitVec.ofInt (IntKind.bits .u64) (b : Int)).toNat : Int) = ((sdf a b : Nat) : Int) := by
 have e : (BitVec.ofInt 64 (a : Int) &&& ~~~ BitVec.ofInt 64 (b : Int)).toNat = sdf a b := by
  apply Nat.eq_of_testBit_eq
  intro i
  rw [BitVec.toNat_and,sdf_bit,Nat.testBit_and,bv_of ha,<- BitVec.getLsbD,BitVec.getLsbD_not,BitVec.getLsbD,bv_of hb]
  by_cases hi : i < 64
  ·simp [hi]
  ·have : a.testBit i = false := Nat.testBit_lt_two_pow (Nat.lt_of_lt_of_le (by simpa using ha : a < 2 ^ 64) (Nat.pow_le_pow_right (by omega) (by omega)))
   simp [this]
 show IntKind.u64.wrap ((BitVec.ofInt 64 (a : Int) &&& ~~~ BitVec.ofInt 64 (b : Int)).toNat : Int) = _
 rw [e,IntKind.wrap_u64]
 have := sdf_lt (b := b) ha
 exact Int.emod_eq_of_lt (by omega) (by simp only [M64] at this; omega)
theorem u64_shl {a k : Nat} (hk : k < 64) : IntKind.u64.wrap ((a : Int) * 2 ^ (min ((k : Nat) : Int).toNat (IntKind.bits .u64))) = ((a * 2 ^ k % M64 : Nat) : Int) := by
 have e : min ((k : Nat) : Int).toNat (IntKind.bits .u64) = k := by show min ((k : Nat) : Int).toNat 64 = k; rw [Int.toNat_natCast]; omega
 rw [e,IntKind.wrap_u64]; simp [M64]
theorem u64_shr {a k : Nat} : (a : Int).fdiv (2 ^ (min ((k : Nat) : Int).toNat (IntKind.bits .u64))) = ((a / 2 ^ (min k 64) : Nat) : Int) := by
 show (a : Int).fdiv (2 ^ (min ((k : Nat) : Int).toNat 64)) = _
 rw [Int.toNat_natCast,show (2 : Int) ^ (min k 64) = ((2 ^ (min k 64) : Nat) : Int) from by simp,Int.fdiv_eq_ediv_of_nonneg _ (Int.natCast_nonneg _)]
 simp
theorem u64_neg {a : Nat} (ha : a < M64) : IntKind.u64.wrap (0 - (a : Int)) = (((M64 - a) % M64 : Nat) : Int) := by
 rw [IntKind.wrap_u64]; simp only [M64] at *; omega
theorem u64_sub {a b : Nat} (ha : a < M64) (hb : b <= a) : IntKind.u64.wrap ((a : Int) - (b : Int)) = ((a - b : Nat) : Int) := by
 rw [IntKind.wrap_u64]; simp only [M64] at *; omega

def bit (s x : Nat) : Bool := s.testBit x
theorem has_big {s x : Nat} (hs : s < M64) (hx : 64 <= x) : bit s x = false :=
 Nat.testBit_lt_two_pow (Nat.lt_of_lt_of_le (by simpa using hs : s < 2 ^ 64) (Nat.pow_le_pow_right (by omega) hx))
theorem has_lt {s x : Nat} (hs : s < M64) (h : bit s x = true) : x < 64 := by
 rcases Nat.lt_or_ge x 64 with h1 | h1
 ·exact h1
 ·rw [has_big hs h1] at h; cases h
theorem has_and (a b x : Nat) : bit (a &&& b) x = (bit a x && bit b x) := Nat.testBit_and ..
theorem has_pow (k x : Nat) : bit (2 ^ k) x = decide (k = x) := Nat.testBit_two_pow ..
theorem has_zero (x : Nat) : bit 0 x = false := Nat.zero_testBit x
theorem set_ext {a b : Nat} (h : ∀ x,bit a x = bit b x) : a = b := Nat.eq_of_testBit_eq h
theorem set_ext64 {a b : Nat} (ha : a < M64) (hb : b < M64) (h : ∀ x,x < 64 -> bit a x = bit b x) : a = b := set_ext fun x => by
 rcases Nat.lt_or_ge x 64 with h1 | h1
 ·exact h x h1
 ·rw [has_big ha h1,has_big hb h1]
theorem and_lt {a b : Nat} (ha : a < M64) : a &&& b < M64 := Nat.lt_of_le_of_lt Nat.and_le_left ha
theorem bit_has {s x : Nat} : ((s / 2 ^ x) &&& 1 : Nat) = if bit s x then 1 else 0 := by
 have h1 : bit s x = ((s / 2 ^ x) &&& 1 != 0) := by
  unfold bit Nat.testBit
  rw [Nat.shiftRight_eq_div_pow,Nat.and_comm]
 rw [h1,Nat.and_one_is_mod]
 rcases Nat.mod_two_eq_zero_or_one (s / 2 ^ x) with h | h <;> simp [h]
theorem div_lt' {s x : Nat} (h : s < M64) : s / 2 ^ x < M64 := Nat.lt_of_le_of_lt (Nat.div_le_self _ _) h

def els (s : Nat) : List Nat := (List.range 64).filter (bit s)
theorem mem_els {s x : Nat} (hs : s < M64) : x ∈ els s ↔ bit s x = true := by
 unfold els
 rw [List.mem_filter,List.mem_range]
 exact ⟨fun h => h.2,fun h => ⟨has_lt hs h,h⟩⟩
theorem mem_els' {s x : Nat} (h : x ∈ els s) : x < 64 /\ bit s x = true := by
 unfold els at h
 rw [List.mem_filter,List.mem_range] at h; exact h
theorem els_zero : els 0 = [] := by
 unfold els
 rw [List.filter_eq_nil_iff]
 intro x _; simp [has_zero]
theorem els_nil {s : Nat} (hs : s < M64) (h : els s = []) : s = 0 := set_ext64 hs (by decide) fun x hx => by
 rw [has_zero]
 cases e : bit s x with
 | false => rfl
 | true => have := (mem_els hs).2 e; rw [h] at this; cases this
theorem split_least {s k : Nat} (hk : bit s k = true) (hl : ∀ j,j < k -> bit s j = false) : s = 2 ^ (k + 1) * (s / 2 ^ (k + 1)) + 2 ^ k := by
 have h := Nat.div_add_mod s (2 ^ (k + 1))
 have e : s % 2 ^ (k + 1) = 2 ^ k := by
  apply Nat.eq_of_testBit_eq
  intro i
  rw [Nat.testBit_mod_two_pow,Nat.testBit_two_pow]
  by_cases h1 : i < k
  ·have := hl i h1
   unfold bit at this
   simp [this,show ¬ k = i from by omega]
  ·by_cases h2 : i = k
   ·subst h2
    unfold bit at hk
    simp [hk]
   ·simp [show ¬ i < k + 1 from by omega,show ¬ k = i from fun e => h2 e.symm]
 rw [e] at h; exact h.symm
theorem has_pred {s k : Nat} (hk : bit s k = true) (hl : ∀ j,j < k -> bit s j = false) (i : Nat) : bit (s - 1) i = if i < k then true else if i = k then false else bit s i := by
 have h := split_least hk hl
 have h2 := Nat.two_pow_pos k
 generalize s / 2 ^ (k + 1) = q at h
 have e1 : s - 1 = 2 ^ (k + 1) * q + (2 ^ k - 1) := by omega
 have hlt : 2 ^ k - 1 < 2 ^ (k + 1) := by rw [Nat.pow_succ]; omega
 have hlt2 : 2 ^ k < 2 ^ (k + 1) := by rw [Nat.pow_succ]; omega
 unfold bit
 rw [e1,Nat.testBit_two_pow_mul_add _ hlt]
 rw [h,Nat.testBit_two_pow_mul_add _ hlt2,Nat.testBit_two_pow_sub_one,Nat.testBit_two_pow]
 by_cases c1 : i < k
 ·simp [c1,show i < k + 1 from by omega]
 ·by_cases c2 : i = k
  ·subst c2; simp
  ·simp [c1,c2,show ¬ i < k + 1 from by omega]
theorem least_of {s x : Nat} {r : List Nat} (h : els s = x :: r) : bit s x = true /\ x < 64 /\ ∀ j,j < x -> bit s j = false := by
 have hm := mem_els' (s := s) (x := x) (by rw [h]; simp)
 refine ⟨hm.2,hm.1,fun j hj => ?_⟩
 cases e : bit s j with
 | false => rfl
 | true =>
  have hp : (els s).Pairwise (· < ·) := List.pairwise_lt_range.filter _
  have hj' : j ∈ els s := by unfold els; rw [List.mem_filter,List.mem_range]; exact ⟨by omega,e⟩
  rw [h] at hj' hp
  rcases List.mem_cons.1 hj' with rfl | hj'
  ·omega
  ·have := (List.pairwise_cons.1 hp).1 j hj'; omega
theorem els_pairwise (s : Nat) : (els s).Pairwise (· < ·) := List.pairwise_lt_range.filter _
theorem sorted_ext : ∀ {a b : List Nat},a.Pairwise (· < ·) -> b.Pairwise (· < ·) -> (∀ x,x ∈ a ↔ x ∈ b) -> a = b := by
 intro a
 induction a with
 | nil => intro b _ _ h; cases b with
  | nil => rfl
  | cons y b => exact absurd ((h y).2 (by simp)) (by simp)
 | cons x a ih =>
  intro b ha hb h
  cases b with
  | nil => exact absurd ((h x).1 (by simp)) (by simp)
  | cons y b =>
   rw [List.pairwise_cons] at ha hb
   have e : x = y := by
    rcases List.mem_cons.1 ((h x).1 (by simp)) with h1 | h1
    ·exact h1
    ·rcases List.mem_cons.1 ((h y).2 (by simp)) with h2 | h2
     ·exact h2.symm
     ·have := ha.1 y h2; have := hb.1 x h1; omega
   subst e
   rw [ih ha.2 hb.2 fun z => ?_]
   constructor
   ·intro hz
    rcases List.mem_cons.1 ((h z).1 (by simp [hz])) with h1 | h1
    ·have := ha.1 z hz; omega
    ·exact h1
   ·intro hz
    rcases List.mem_cons.1 ((h z).2 (by simp [hz])) with h1 | h1
    ·have := hb.1 z hz; omega
    ·exact h1
theorem els_pred {s x : Nat} {r : List Nat} (hs : s < M64) (h : els s = x :: r) : els (s &&& (s - 1)) = r := by
 obtain ⟨h1,h2,h3⟩ := least_of h
 have hp := els_pairwise s
 rw [h,List.pairwise_cons] at hp
 refine sorted_ext (els_pairwise _) hp.2 fun y => ?_
 rw [mem_els (and_lt hs),has_and,has_pred h1 h3]
 have hy := mem_els (x := y) hs
 rw [h] at hy
 constructor
 ·intro hh
  rw [Bool.and_eq_true] at hh
  rcases List.mem_cons.1 (hy.2 hh.1) with rfl | h4
  ·simp at hh
  ·exact h4
 ·intro hh
  have h4 := hp.1 y hh
  rw [hy.1 (by simp [hh])]
  simp [show ¬ y < x from by omega,show ¬ y = x from by omega]
theorem neg_least {s x : Nat} {r : List Nat} (hs : s < M64) (h : els s = x :: r) : s &&& ((M64 - s) % M64) = 2 ^ x := by
 obtain ⟨h1,h2,h3⟩ := least_of h
 have h0 : s ≠ 0 := fun e => by rw [e,has_zero] at h1; cases h1
 apply set_ext
 intro i
 have e1 : (M64 - s) % M64 = 2 ^ 64 - ((s - 1) + 1) := by
  rw [Nat.mod_eq_of_lt (by omega)]
  show 2 ^ 64 - s = _
  congr 1; omega
 have e2 : bit (2 ^ 64 - ((s - 1) + 1)) i = (decide (i < 64) && !bit (s - 1) i) := Nat.testBit_two_pow_sub_succ (by simp only [M64] at hs; omega) i
 rw [has_and,e1,e2,has_pred h1 h3,has_pow]
 by_cases c1 : i < x
 ·simp [c1,show ¬ x = i from by omega]
 ·by_cases c2 : i = x
  ·subst c2; simp [h1,h2]
  ·simp [c1,c2,show ¬ x = i from fun e => c2 e.symm]
   intro h5 _ ; exact h5
def card (s : Nat) : Nat := (els s).length
end Go.GS

/- How many bits: plain. -/
namespace Go.GS

def Fd (s : Nat) : List Nat -> Nat
 | [] => 0
 | d :: l => d + 2 ^ s * Fd s l
def evens : List Nat -> List Nat
 | [] => []
 | [a] => [a]
 | a :: _ :: l => a :: evens l
def Mk (s : Nat) : Nat -> Nat
 | 0 => 0
 | n + 1 => (2 ^ s - 1) + 2 ^ (2 * s) * Mk s n
def addL : List Nat -> List Nat -> List Nat
 | a :: l,b :: r => (a + b) :: addL l r
 | l,[] => l
 | [],r => r
theorem and_split {k p q r t : Nat} (hp : p < 2 ^ k) (hr : r < 2 ^ k) : (p + 2 ^ k * q) &&& (r + 2 ^ k * t) = (p &&& r) + 2 ^ k * (q &&& t) := by
 have h1 : p &&& r < 2 ^ k := Nat.lt_of_le_of_lt Nat.and_le_left hp
 apply Nat.eq_of_testBit_eq
 intro i
 rw [Nat.testBit_and,Nat.add_comm p,Nat.add_comm r,Nat.add_comm (p &&& r),Nat.testBit_two_pow_mul_add _ hp,Nat.testBit_two_pow_mul_add _ hr,Nat.testBit_two_pow_mul_add _ h1]
 split
 ·rw [Nat.testBit_and]
 ·rw [Nat.testBit_and]
theorem Fd_and {s : Nat} : ∀ (n : Nat) (l : List Nat),(∀ d ∈ l,d < 2 ^ s) -> l.length <= 2 * n -> Fd s l &&& Mk s n = Fd (2 * s) (evens l) := by
 intro n
 induction n with
 | zero =>
  intro l _ hl
  have : l = [] := List.eq_nil_of_length_eq_zero (by omega)
  subst this; simp [Fd,evens,Mk]
 | succ n ih =>
  intro l hd hl
  have hp := Nat.two_pow_pos s
  have hm : 2 ^ s - 1 < 2 ^ (2 * s) := by
   have : 2 ^ s <= 2 ^ (2 * s) := Nat.pow_le_pow_right (by omega) (by omega)
   omega
  cases l with
  | nil => simp [Fd,evens]
  | cons a l =>
   have ha := hd a (by simp)
   have ham : a &&& (2 ^ s - 1) = a := by rw [Nat.and_two_pow_sub_one_eq_mod,Nat.mod_eq_of_lt ha]
   cases l with
   | nil =>
    have ha2 : a < 2 ^ (2 * s) := by omega
    have := and_split (q := 0) (t := Mk s n) ha2 hm
    simp only [Fd,evens,Mk,Nat.mul_zero,Nat.add_zero] at this ⊢
    rw [this,ham]; simp
   | cons b l =>
    have hb := hd b (by simp)
    have hab : a + 2 ^ s * b < 2 ^ (2 * s) := by
     rw [Nat.two_mul,Nat.pow_add]
     have : 2 ^ s * (b + 1) <= 2 ^ s * 2 ^ s := Nat.mul_le_mul_left _ hb
     rw [Nat.mul_add] at this; omega
    have e : Fd s (a :: b :: l) = (a + 2 ^ s * b) + 2 ^ (2 * s) * Fd s l := by
     simp only [Fd,Nat.mul_add,<- Nat.mul_assoc,<- Nat.pow_add,Nat.two_mul,Nat.add_assoc]
    have e2 : (a + 2 ^ s * b) &&& (2 ^ s - 1) = a := by
     rw [Nat.and_two_pow_sub_one_eq_mod,Nat.add_mul_mod_self_left,Nat.mod_eq_of_lt ha]
    rw [e]
    simp only [Mk,evens,Fd]
    rw [and_split hab hm,e2,ih l (fun d h => hd d (by simp [h])) (by simp at hl; omega)]
theorem Fd_shift {s d : Nat} {l : List Nat} (hd : d < 2 ^ s) : Fd s (d :: l) / 2 ^ s = Fd s l := by
 simp only [Fd]
 rw [Nat.add_mul_div_left _ _ (Nat.two_pow_pos s),Nat.div_eq_of_lt hd,Nat.zero_add]
theorem Fd_drop {s : Nat} : ∀ (k : Nat) (l : List Nat),(∀ d ∈ l,d < 2 ^ s) -> Fd s l / 2 ^ (k * s) = Fd s (l.drop k) := by
 intro k
 induction k with
 | zero => intro l _; simp
 | succ k ih =>
  intro l hd
  cases l with
  | nil => simp [Fd]
  | cons a l => rw [Nat.add_mul,Nat.one_mul,Nat.add_comm,Nat.pow_add,<- Nat.div_div_eq_div_mul,Fd_shift (hd a (by simp)),ih l (fun d h => hd d (by simp [h])),List.drop_succ_cons]
theorem Fd_add {s : Nat} : ∀ (l r : List Nat),Fd s (addL l r) = Fd s l + Fd s r := by
 intro l
 induction l with
 | nil => intro r; cases r <;> simp [addL,Fd]
 | cons a l ih =>
  intro r
  cases r with
  | nil => simp [addL,Fd]
  | cons b r => simp only [addL,Fd,ih,Nat.mul_add]; omega
theorem Fd_lt {s : Nat} : ∀ (l : List Nat),(∀ d ∈ l,d < 2 ^ s) -> Fd s l < 2 ^ (s * l.length) := by
 intro l
 induction l with
 | nil => intro _; simp [Fd]
 | cons a l ih =>
  intro hd
  have h1 := ih fun d h => hd d (by simp [h])
  have h2 := hd a (by simp)
  simp only [Fd,List.length_cons]
  rw [Nat.mul_add,Nat.mul_one,Nat.add_comm (s * l.length),Nat.pow_add]
  have : 2 ^ s * (Fd s l + 1) <= 2 ^ s * 2 ^ (s * l.length) := Nat.mul_le_mul_left _ h1
  rw [Nat.mul_add] at this; omega
theorem addL_le {B C : Nat} : ∀ {l r : List Nat},(∀ d ∈ l,d <= B) -> (∀ d ∈ r,d <= C) -> ∀ d ∈ addL l r,d <= B + C := by
 intro l
 induction l with
 | nil => intro r _ hr d hd; cases r with
  | nil => simp [addL] at hd
  | cons b r => simp only [addL] at hd; have := hr d hd; omega
 | cons a l ih =>
  intro r hl hr d hd
  cases r with
  | nil => simp only [addL] at hd; have := hl d hd; omega
  | cons b r =>
   simp only [addL,List.mem_cons] at hd
   rcases hd with rfl | hd
   ·have := hl a (by simp); have := hr b (by simp); omega
   ·exact ih (fun x h => hl x (by simp [h])) (fun x h => hr x (by simp [h])) d hd
theorem evens_sub : ∀ {n : Nat} {l : List Nat},l.length <= n -> ∀ d ∈ evens l,d ∈ l := by
 intro n
 induction n with
 | zero => intro l hl d hd; have : l = [] := List.eq_nil_of_length_eq_zero (by omega); subst this; simp [evens] at hd
 | succ n ih =>
  intro l hl d hd
  match l,hl,hd with
  | [],_,hd => simp [evens] at hd
  | [a],_,hd => simpa [evens] using hd
  | a :: b :: l,hl,hd =>
   simp only [evens,List.mem_cons] at hd
   rcases hd with rfl | hd
   ·simp
   ·have := ih (l := l) (by simp at hl; omega) d hd
    simp [this]
theorem evens_le {B : Nat} {l : List Nat} (h : ∀ d ∈ l,d <= B) : ∀ d ∈ evens l,d <= B := fun d hd => h d (evens_sub (Nat.le_refl _) d hd)
theorem drop_le {B : Nat} {l : List Nat} (k : Nat) (h : ∀ d ∈ l,d <= B) : ∀ d ∈ l.drop k,d <= B := fun d hd => h d (List.mem_of_mem_drop hd)
theorem addL_len : ∀ (l r : List Nat),r.length <= l.length -> (addL l r).length = l.length := by
 intro l
 induction l with
 | nil => intro r h; cases r with
  | nil => rfl
  | cons b r => simp at h
 | cons a l ih => intro r h; cases r with
  | nil => rfl
  | cons b r => simp only [addL,List.length_cons]; rw [ih r (by simpa using h)]
def pairL (l : List Nat) : List Nat := addL (evens l) (evens (l.drop 1))
theorem pair_sum : ∀ (n : Nat) (l : List Nat),l.length = 2 * n -> (pairL l).sum = l.sum /\ (pairL l).length = n := by
 intro n
 induction n with
 | zero => intro l h; have : l = [] := List.eq_nil_of_length_eq_zero (by omega); subst this; exact ⟨rfl,rfl⟩
 | succ n ih =>
  intro l h
  match l,h with
  | [a, b], h => simp only [List.length_cons, List.length_nil] at h; obtain rfl : n = 0 := by omega
                 simp [pairL,evens,addL]
  | a :: b :: c :: l,h =>
   have := ih (c :: l) (by simp at h ⊢; omega)
   have e : pairL (a :: b :: c :: l) = (a + b) :: pairL (c :: l) := by
    simp only [pairL,List.drop_succ_cons,List.drop_zero,evens,addL]
   rw [e]
   simp only [List.sum_cons,List.length_cons] at this ⊢
   omega
def bitsOf (x n : Nat) : List Nat := (List.range n).map fun i => if x.testBit i then 1 else 0
theorem bits_cons (x n : Nat) : bitsOf x (n + 1) = (if x.testBit 0 then 1 else 0) :: bitsOf (x / 2) n := by
 unfold bitsOf
 rw [List.range_succ_eq_map,List.map_cons,List.map_map]
 congr 1
 apply List.map_congr_left
 intro i _
 simp only [Function.comp,Nat.testBit_succ]
theorem Fd_bits : ∀ (n x : Nat),x < 2 ^ n -> Fd 1 (bitsOf x n) = x := by
 intro n
 induction n with
 | zero => intro x h; simp at h; subst h; rfl
 | succ n ih =>
  intro x h
  rw [bits_cons]
  simp only [Fd,Nat.pow_one]
  rw [ih (x / 2) (by rw [Nat.pow_succ] at h; omega),Nat.testBit_zero]
  rcases Nat.mod_two_eq_zero_or_one x with h1 | h1
  ·simp [h1]; omega
  ·simp [h1]; omega
theorem bits_le (x n : Nat) : ∀ d ∈ bitsOf x n,d <= 1 := by
 intro d hd
 unfold bitsOf at hd
 rw [List.mem_map] at hd
 obtain ⟨i,_,rfl⟩ := hd
 split <;> omega
theorem bits_len (x n : Nat) : (bitsOf x n).length = n := by simp [bitsOf]
theorem bits_card (x : Nat) : (bitsOf x 64).sum = card x := by
 unfold bitsOf card els bit
 generalize List.range 64 = l
 induction l with
 | nil => rfl
 | cons i l ih =>
  rw [List.map_cons,List.sum_cons,ih,List.filter_cons]
  split
  ·simp; omega
  ·simp
theorem stage {s n B : Nat} {l : List Nat} (hl : l.length = 2 * n) (hB : ∀ d ∈ l,d <= B) (hs : B < 2 ^ s) (hx : Fd s l < M64) : (Fd s l / 2 ^ s &&& Mk s n) + (Fd s l &&& Mk s n) = Fd (2 * s) (pairL l) := by
 have hd : ∀ d ∈ l,d < 2 ^ s := fun d h => Nat.lt_of_le_of_lt (hB d h) hs
 have h1 := Fd_drop 1 l hd
 rw [Nat.one_mul] at h1
 rw [h1,Fd_and n _ (fun d h => hd d (List.mem_of_mem_drop h)) (by rw [List.length_drop]; omega),Fd_and n l hd (by omega),Nat.add_comm,<- Fd_add]
 rfl
theorem Fd_le8 {l : List Nat} {s m : Nat} (hl : s * l.length <= 64) (h : ∀ d ∈ l,d < 2 ^ s) : Fd s l < M64 := by
 have h1 := Fd_lt l h
 have h2 : 2 ^ (s * l.length) <= 2 ^ 64 := Nat.pow_le_pow_right (by omega) hl
 exact Nat.lt_of_lt_of_le h1 h2
end Go.GS

/- Words as sets, part 3: how many; the terms of the code. -/
namespace Go.GS
theorem evens_addL : ∀ (n : Nat) (l r : List Nat),l.length <= n -> r.length <= n -> evens (addL l r) = addL (evens l) (evens r) := by
 intro n
 induction n using Nat.strongRecOn with
 | _ n ih =>
  intro l r hl hr
  match l,r with
  | [],[] => simp [addL,evens]
  | [],[b] => simp [addL,evens]
  | [],b :: c :: r => simp [addL,evens]
  | [a],[] => simp [addL,evens]
  | a :: c :: l,[] => simp [addL,evens]
  | [a],[b] => simp [addL,evens]
  | [a],b :: c :: r => cases hh : evens r <;> simp [addL,evens,hh]
  | a :: c :: l,[b] => cases hh : evens l <;> simp [addL,evens,hh]
  | a :: c :: l,b :: d :: r =>
   simp only [List.length_cons] at hl hr
   simp only [addL,evens]
   rw [ih (n - 2) (by omega) l r (by omega) (by omega)]
def pop1 (x : Nat) : Nat := (x / 2 &&& 6148914691236517205) + (x &&& 6148914691236517205)
def pop2 (x : Nat) : Nat := (x / 4 &&& 3689348814741910323) + (x &&& 3689348814741910323)
def pop3 (x : Nat) : Nat := (x / 16 + x) &&& 1085102592571150095
theorem pop_3 {x : Nat} (hx : x < M64) : ∃ l,l.length = 8 /\ (∀ d ∈ l,d <= 8) /\ pop3 (pop2 (pop1 x)) = Fd 8 l /\ l.sum = card x /\ pop1 x < M64 /\ pop2 (pop1 x) < M64 /\ pop2 (pop1 x) / 16 + pop2 (pop1 x) < M64 := by
 have b1 := bits_le x 64
 have h1 := stage (s := 1) (n := 32) (B := 1) (l := bitsOf x 64) (by rw [bits_len]) b1 (by decide) (by rw [Fd_bits 64 x hx]; exact hx)
 rw [Fd_bits 64 x hx] at h1
 have l1 := pair_sum 32 (bitsOf x 64) (bits_len x 64)
 have c1 : ∀ d ∈ pairL (bitsOf x 64),d <= 2 := addL_le (evens_le b1) (evens_le (drop_le 1 b1))
 have e1 : pop1 x = Fd 2 (pairL (bitsOf x 64)) := h1
 have m1 : Fd 2 (pairL (bitsOf x 64)) < M64 := Fd_le8 (m := 0) (by rw [l1.2]; decide) fun d hd => Nat.lt_of_le_of_lt (c1 d hd) (by decide)
 generalize pairL (bitsOf x 64) = q1 at *
 have h2 := stage (s := 2) (n := 16) (B := 2) (l := q1) l1.2 c1 (by decide) m1
 have l2 := pair_sum 16 q1 l1.2
 have c2 : ∀ d ∈ pairL q1,d <= 4 := addL_le (evens_le c1) (evens_le (drop_le 1 c1))
 have e2 : pop2 (Fd 2 q1) = Fd 4 (pairL q1) := h2
 have m2 : Fd 4 (pairL q1) < M64 := Fd_le8 (m := 0) (by rw [l2.2]; decide) fun d hd => Nat.lt_of_le_of_lt (c2 d hd) (by decide)
 generalize pairL q1 = q2 at *
 have h3 : Fd 4 q2 / 16 = Fd 4 (q2.drop 1) := Fd_drop 1 q2 fun d hd => Nat.lt_of_le_of_lt (c2 d hd) (by decide)
 have l3 := pair_sum 8 q2 l2.2
 have c3 : ∀ d ∈ addL q2 (q2.drop 1),d <= 8 := addL_le c2 (drop_le 1 c2)
 have n3 : (addL q2 (q2.drop 1)).length = 16 := by rw [addL_len _ _ (by simp),l2.2]
 have e3 : Fd 4 q2 / 16 + Fd 4 q2 = Fd 4 (addL q2 (q2.drop 1)) := by rw [h3,Fd_add,Nat.add_comm]
 have m3 : Fd 4 (addL q2 (q2.drop 1)) < M64 := Fd_le8 (m := 0) (by rw [n3]; decide) fun d hd => Nat.lt_of_le_of_lt (c3 d hd) (by decide)
 have h4 := Fd_and (s := 4) 8 (addL q2 (q2.drop 1)) (fun d hd => Nat.lt_of_le_of_lt (c3 d hd) (by decide)) (by rw [n3]; decide)
 have e4 : evens (addL q2 (q2.drop 1)) = pairL q2 := evens_addL 16 _ _ (by rw [l2.2]; decide) (by simp [l2.2])
 refine ⟨pairL q2,l3.2,by rw [<- e4]; exact evens_le c3,?_,?_,by rw [e1]; exact m1,by rw [e1,e2]; exact m2,by rw [e1,e2,e3]; exact m3⟩
 ·rw [e1,e2]
  unfold pop3
  rw [e3,<- e4]; exact h4
 ·rw [l3.1,l2.1,l1.1,bits_card]
def pop4 (k x : Nat) : Nat := x + x / 2 ^ k
theorem pop_4 {l : List Nat} (hl : l.length = 8) (hd : ∀ d ∈ l,d <= 8) : pop4 8 (Fd 8 l) < M64 /\ pop4 16 (pop4 8 (Fd 8 l)) < M64 /\ pop4 32 (pop4 16 (pop4 8 (Fd 8 l))) < M64 /\ pop4 32 (pop4 16 (pop4 8 (Fd 8 l))) % 128 = l.sum := by
 match l,hl with
 | [a,b,c,d,e,f,g,h],_ =>
  simp only [List.mem_cons,List.not_mem_nil,or_false,forall_eq_or_imp,forall_eq] at hd
  obtain ⟨h1,h2,h3,h4,h5,h6,h7,h8⟩ := hd
  have q1 : pop4 8 (Fd 8 [a,b,c,d,e,f,g,h]) = Fd 8 [a + b,b + c,c + d,d + e,e + f,f + g,g + h,h] := by
   unfold pop4
   rw [Fd_drop 1 (s := 8) _ (by simp only [List.mem_cons,List.not_mem_nil,or_false,forall_eq_or_imp,forall_eq]; omega),<- Fd_add]; rfl
  have q2 : pop4 16 (Fd 8 [a + b,b + c,c + d,d + e,e + f,f + g,g + h,h]) = Fd 8 [a + b + (c + d),b + c + (d + e),c + d + (e + f),d + e + (f + g),e + f + (g + h),f + g + h,g + h,h] := by
   unfold pop4
   rw [Fd_drop 2 (s := 8) _ (by simp only [List.mem_cons,List.not_mem_nil,or_false,forall_eq_or_imp,forall_eq]; omega),<- Fd_add]; rfl
  have q3 : pop4 32 (Fd 8 [a + b + (c + d),b + c + (d + e),c + d + (e + f),d + e + (f + g),e + f + (g + h),f + g + h,g + h,h]) = Fd 8 [a + b + (c + d) + (e + f + (g + h)),b + c + (d + e) + (f + g + h),c + d + (e + f) + (g + h),d + e + (f + g) + h,e + f + (g + h),f + g + h,g + h,h] := by
   unfold pop4
   rw [Fd_drop 4 (s := 8) _ (by simp only [List.mem_cons,List.not_mem_nil,or_false,forall_eq_or_imp,forall_eq]; omega),<- Fd_add]; rfl
  rw [q1,q2,q3]
  simp only [Fd,M64,List.sum_cons,List.sum_nil,show (2 : Nat) ^ 8 = 256 from by decide]
  refine ⟨by omega,by omega,by omega,by omega⟩
end Go.GS
namespace Go.RX
open Go.RowKit Go.GS
section
variable {P : Program} {ρ : List Value} {a b : SV} {A B : Nat}
theorem D_or (ha : D P ρ a = uv A) (hb : D P ρ b = uv B) (hA : A < M64) (hB : B < M64) : D P ρ (.op2 .or .u64 a b) = uv (A ||| B) := by
 show binV .or .u64 (intOf (D P ρ a)) (intOf (D P ρ b)) = _
 rw [ha,hb]
 show Value.int .u64 _ = .int .u64 _
 congr 1
 exact Go.GS.u64_or hA hB
theorem D_and (ha : D P ρ a = uv A) (hb : D P ρ b = uv B) (hA : A < M64) (hB : B < M64) : D P ρ (.op2 .and .u64 a b) = uv (A &&& B) := by
 show binV .and .u64 (intOf (D P ρ a)) (intOf (D P ρ b)) = _
 rw [ha,hb]
 show Value.int .u64 _ = .int .u64 _
 congr 1
 exact Go.GS.u64_and hA hB
theorem D_andn (ha : D P ρ a = uv A) (hb : D P ρ b = uv B) (hA : A < M64) (hB : B < M64) : D P ρ (.op2 .andNot .u64 a b) = uv (sdf A B) := by
 show binV .andNot .u64 (intOf (D P ρ a)) (intOf (D P ρ b)) = _
 rw [ha,hb]
 show Value.int .u64 _ = .int .u64 _
 congr 1
 exact Go.GS.u64_andn hA hB
theorem D_shrk {n : Nat} {k : IntKind} (ha : D P ρ a = uv A) (hb : D P ρ b = .int k (n : Nat)) (hn : n <= 64) : D P ρ (.op2 .shr .u64 a b) = uv (A / 2 ^ n) := by
 show binV .shr .u64 (intOf (D P ρ a)) (intOf (D P ρ b)) = _
 rw [ha,hb]
 show Value.int .u64 _ = .int .u64 _
 congr 1
 have := Go.GS.u64_shr (a := A) (k := n)
 rw [Nat.min_eq_left hn] at this
 exact this
theorem D_addu (ha : D P ρ a = uv A) (hb : D P ρ b = uv B) (h : A + B < M64) : D P ρ (.op2 .add .u64 a b) = uv (A + B) := by
 show binV .add .u64 (intOf (D P ρ a)) (intOf (D P ρ b)) = _
 rw [ha,hb]
 show Value.int .u64 (IntKind.u64.wrap ((A : Int) + (B : Int))) = .int .u64 _
 congr 1
 rw [IntKind.wrap_u64]
 simp only [M64] at h
 omega
theorem D_subu (ha : D P ρ a = uv A) (hb : D P ρ b = uv B) (hA : A < M64) (h : B <= A) : D P ρ (.op2 .sub .u64 a b) = uv (A - B) := by
 show binV .sub .u64 (intOf (D P ρ a)) (intOf (D P ρ b)) = _
 rw [ha,hb]
 show Value.int .u64 _ = .int .u64 _
 congr 1
 exact Go.GS.u64_sub hA h
theorem D_negu (ha : D P ρ a = uv A) (hA : A < M64) : D P ρ (.op1 .neg .u64 a) = uv ((M64 - A) % M64) := by
 show unV .neg .u64 (intOf (D P ρ a)) = _
 rw [ha]
 show Value.int .u64 _ = .int .u64 _
 congr 1
 exact Go.GS.u64_neg hA
theorem D_bit {n : Nat} {k : IntKind} (ha : D P ρ a = uv A) (hA : A < M64) (hb : D P ρ b = .int k (n : Nat)) (hn : n <= 64) : D P ρ (.op2 .eql .u64 (.op2 .and .u64 (.op2 .shr .u64 a b) (.k (.int .u64 1))) (.k (.int .u64 1))) = .bool (Go.GS.bit A n) := by
 show binV .eql .u64 (intOf (D P ρ (.op2 .and .u64 (.op2 .shr .u64 a b) (.k (.int .u64 1))))) 1 = _
 rw [D_and (B := 1) (D_shrk ha hb hn) rfl (div_lt' hA) (by decide),bit_has]
 cases Go.GS.bit A n <;> rfl
theorem D_addi {x y : Int} (ha : D P ρ a = ii x) (hb : D P ρ b = ii y) (h1 : -9223372036854775808 <= x + y) (h2 : x + y < 9223372036854775808) : D P ρ (.op2 .add .i64 a b) = ii (x + y) := by
 show binV .add .i64 (intOf (D P ρ a)) (intOf (D P ρ b)) = _
 rw [ha,hb]
 show Value.int .i64 (IntKind.i64.wrap (x + y)) = .int .i64 _
 congr 1
 rw [IntKind.wrap_i64]; omega
theorem and127 {m : Nat} (hm : m < M64) : IntKind.i64.wrap ((BitVec.ofInt 64 (IntKind.i64.wrap (m : Int)) &&& BitVec.ofInt 64 127).toNat : Nat) = ((m % 128 : Nat) : Int) := by
 have e : BitVec.ofInt 64 (IntKind.i64.wrap (m : Int)) = BitVec.ofNat 64 m := by
  apply BitVec.eq_of_toNat_eq
  simp only [M64] at hm
  rw [IntKind.wrap_i64,BitVec.toNat_ofInt,BitVec.toNat_ofNat,Nat.mod_eq_of_lt (show m < 2 ^ 64 by omega)]
  omega
 have e2 : BitVec.ofInt 64 127 = BitVec.ofNat 64 127 := by decide
 rw [e,e2]
 have e3 : (BitVec.ofNat 64 m &&& BitVec.ofNat 64 127).toNat = m % 128 := by
  rw [BitVec.toNat_and,BitVec.toNat_ofNat,BitVec.toNat_ofNat,Nat.mod_eq_of_lt (show m < 2 ^ 64 by simp only [M64] at hm; omega)]
  exact Nat.and_two_pow_sub_one_eq_mod m 7
 have e4 : ∀ n : Nat,n < 128 -> IntKind.i64.wrap (n : Int) = n := fun n h => by rw [IntKind.wrap_i64]; omega
 rw [e3,e4 _ (Nat.mod_lt _ (by decide))]
theorem D_127 {m : Nat} {P : Program} {ρ : List Value} {y : SV} (hy : D P ρ y = uv m) (hm : m < M64) : D P ρ (.op2 .and .i64 (.cv .i64 y) (.k (.int .i64 127))) = ii ((m % 128 : Nat) : Int) := by
 show binV .and .i64 (IntKind.i64.wrap (intOf (D P ρ y))) 127 = _
 rw [hy]
 have := and127 hm
 show Value.int .i64 _ = Value.int .i64 _
 exact congrArg (Value.int .i64) this
theorem D_inc {n : Nat} (ha : D P ρ a = ii (n : Nat)) (h : n + 1 < 9223372036854775808) : D P ρ (.op2 .add .i64 a (.k (.int .i64 1))) = ii ((n + 1 : Nat) : Int) := by
 rw [D_addi ha (y := 1) rfl (by omega) (by omega)]; rfl
end
theorem map1 {P : Program} {ρ : List Value} {a : SV} {x : Value} (h : D P ρ a = x) : [a].map (D P ρ) = [x] := by rw [List.map_cons,h]; rfl
theorem map2 {P : Program} {ρ : List Value} {a b : SV} {x y : Value} (h : D P ρ a = x) (h2 : D P ρ b = y) : [a,b].map (D P ρ) = [x,y] := by rw [List.map_cons,h,map1 h2]
end Go.RX


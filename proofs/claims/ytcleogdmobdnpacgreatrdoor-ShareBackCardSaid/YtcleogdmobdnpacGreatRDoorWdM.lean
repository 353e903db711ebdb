/- Products of words: plain. -/
import Derived.Test.YtcleogdmobdnpacGreatRDoorWdA
import Derived.Lib.Mul64
namespace Go.WD
open Go.RX

/-! ### n words -/
def wa (n : Nat) (f : Nat → Nat) : Array Value := ((List.range n).map fun i => Value.int .u64 (f i)).toArray
theorem wa_size (n : Nat) (f : Nat → Nat) : (wa n f).size = n := by simp [wa]
theorem wa_get {n : Nat} (f : Nat → Nat) {i : Nat} (h : i < n) : (wa n f).getD i undef = .int .u64 (f i) := by
  simp [wa, Array.getD_eq_getD_getElem?, h]
theorem wa_one (n : Nat) (f : Nat → Nat) : oneAll (wa n f) := by
  intro c hc
  simp [wa] at hc
  obtain ⟨i, _, rfl⟩ := hc
  rfl
theorem wa_congr {n : Nat} {f g : Nat → Nat} (h : ∀ i, i < n → f i = g i) : wa n f = wa n g := by
  unfold wa
  congr 1
  exact List.map_congr_left fun i hi => by rw [h i (List.mem_range.1 hi)]
theorem wa_set {n : Nat} (f : Nat → Nat) {i : Nat} (h : i < n) (d : Nat) : (wa n f).setIfInBounds i (.int .u64 d) = wa n (fun j => if j = i then d else f j) := by
  unfold wa
  rw [List.setIfInBounds_toArray]
  congr 1
  apply List.ext_getElem?
  intro j
  rw [List.getElem?_set, List.getElem?_map, List.getElem?_map]
  by_cases e : i = j
  · subst e; simp [h]
  · rw [if_neg e]
    by_cases hj : j < n
    · simp [hj]; rw [if_neg (fun e' : j = i => e e'.symm)]
    · simp [hj]
theorem wa_spl {n : Nat} (f : Nat → Nat) {i : Nat} (h : i < n) (d : Nat) : spl (wa n f) i [.int .u64 d] = wa n (fun j => if j = i then d else f j) := wa_set f h d
theorem wa_eight (f : Nat → Nat) : wa 8 f = wf f := rfl

/-! ### Adding a product of two words at a place -/
theorem dig_shift (p c i : Nat) : dig (p * PW c) (c + i) = dig p i := by
  unfold dig
  rw [PW_add, Nat.mul_comm p, Nat.mul_div_mul_left _ _ (PW_pos c)]
theorem dig_shift_lt (p : Nat) {c i : Nat} (h : i < c) : dig (p * PW c) i = 0 := by
  obtain ⟨d, rfl⟩ := Nat.exists_eq_add_of_lt h
  unfold dig
  rw [show i + d + 1 = (d + 1) + i from by omega, PW_add, ← Nat.mul_assoc, Nat.mul_div_cancel _ (PW_pos i), PW_succ, ← Nat.mul_assoc, Nat.mul_mod_left]
theorem cr_shift (N p : Nat) {c i : Nat} (h : i ≤ c) : cr N (p * PW c) i = 0 := by
  unfold cr
  rw [Nat.mod_eq_zero_of_dvd (Nat.dvd_trans (PW_dvd h) (Nat.dvd_mul_left _ _)), Nat.add_zero]
  exact Nat.div_eq_of_lt (Nat.mod_lt _ (PW_pos i))
theorem PW_one : PW 1 = 18446744073709551616 := by rw [PW_succ, PW_zero, Nat.one_mul]
theorem PW_two : PW 2 = 18446744073709551616 * 18446744073709551616 := by rw [PW_succ, PW_one]
theorem dig_small {p i : Nat} (h : p < PW i) : dig p i = 0 := by
  unfold dig; rw [Nat.div_eq_of_lt h]
theorem dig_p0 (p : Nat) : dig p 0 = p % 18446744073709551616 := by unfold dig; rw [PW_zero, Nat.div_one]
theorem mul_lt_PW2 {x y : Nat} (hx : x < 18446744073709551616) (hy : y < 18446744073709551616) : x * y < PW 2 := by
  rw [PW_two]; exact Nat.mul_lt_mul'' hx hy
theorem dig_p1 {p : Nat} (h : p < PW 2) : dig p 1 = p / 18446744073709551616 := by
  unfold dig
  rw [PW_one]
  refine Nat.mod_eq_of_lt ?_
  rw [PW_two] at h
  exact (Nat.div_lt_iff_lt_mul (by omega)).2 h
theorem dig_p2 {p i : Nat} (h : p < PW 2) (hi : 2 ≤ i) : dig p i = 0 := dig_small (Nat.lt_of_lt_of_le h (PW_le hi))
section
variable {N p c : Nat}
theorem g0 : (dig N c + p % 18446744073709551616 + 0) % 18446744073709551616 = dig (N + p * PW c) c ∧ (dig N c + p % 18446744073709551616 + 0) / 18446744073709551616 = cr N (p * PW c) (c + 1) := by
  have h1 := dig_add N (p * PW c) c
  have h2 := cr_succ N (p * PW c) c
  have h3 := dig_shift p c 0
  rw [Nat.add_zero, dig_p0] at h3
  rw [h3, cr_shift N p (Nat.le_refl c)] at h1 h2
  exact ⟨h1.symm, h2.symm⟩
theorem g1 (hp : p < PW 2) : (dig N (c + 1) + p / 18446744073709551616 + cr N (p * PW c) (c + 1)) % 18446744073709551616 = dig (N + p * PW c) (c + 1) ∧ (dig N (c + 1) + p / 18446744073709551616 + cr N (p * PW c) (c + 1)) / 18446744073709551616 = cr N (p * PW c) (c + 2) := by
  have h1 := dig_add N (p * PW c) (c + 1)
  have h2 := cr_succ N (p * PW c) (c + 1)
  rw [dig_shift p c 1, dig_p1 hp] at h1 h2
  exact ⟨h1.symm, h2.symm⟩
theorem gk (hp : p < PW 2) {k : Nat} (hk : c + 2 ≤ k) : (dig N k + 0 + cr N (p * PW c) k) % 18446744073709551616 = dig (N + p * PW c) k ∧ (dig N k + 0 + cr N (p * PW c) k) / 18446744073709551616 = cr N (p * PW c) (k + 1) := by
  have h1 := dig_add N (p * PW c) k
  have h2 := cr_succ N (p * PW c) k
  obtain ⟨d, rfl⟩ := Nat.exists_eq_add_of_le hk
  rw [show c + 2 + d = c + (2 + d) from by omega] at h1 h2 ⊢
  rw [dig_shift p c (2 + d), dig_p2 hp (by omega)] at h1 h2
  exact ⟨h1.symm, h2.symm⟩
theorem gend (hp : p < PW 2) {k : Nat} (hk : c + 2 ≤ k) (h0 : cr N (p * PW c) k = 0) : ∀ i, k ≤ i → cr N (p * PW c) i = 0 ∧ dig (N + p * PW c) i = dig N i := by
  have key : ∀ j, cr N (p * PW c) (k + j) = 0 := by
    intro j
    induction j with
    | zero => exact h0
    | succ j ih =>
      have := (gk (N := N) hp (show c + 2 ≤ k + j by omega)).2
      rw [ih] at this
      have hl := dig_lt N (k + j)
      rw [← Nat.add_assoc, ← this]
      exact Nat.div_eq_of_lt (by omega)
  intro i hi
  obtain ⟨j, rfl⟩ := Nat.exists_eq_add_of_le hi
  refine ⟨key j, ?_⟩
  have := (gk (N := N) hp (show c + 2 ≤ k + j by omega)).1
  rw [key j] at this
  have hl := dig_lt N (k + j)
  rw [← this, Nat.add_zero, Nat.mod_eq_of_lt hl]
end

/-! ### Products -/
def acc (A B i j : Nat) : Nat := (A % PW i) * B + dig A i * PW i * (B % PW j)
theorem acc_zero (A B : Nat) : acc A B 0 0 = 0 := by simp [acc, PW_zero, Nat.mod_one]
theorem acc_step (A B i j : Nat) : acc A B i j + dig A i * dig B j * PW (i + j) = acc A B i (j + 1) := by
  unfold acc
  rw [mod_succ B j, PW_add, Nat.mul_add, ← Nat.add_assoc]
  congr 1
  rw [show dig A i * PW i * (PW j * dig B j) = dig A i * dig B j * (PW i * PW j) from by
    rw [Nat.mul_assoc (dig A i), Nat.mul_assoc (dig A i), ← Nat.mul_assoc (PW i), Nat.mul_comm (PW i * PW j)]]
theorem acc_next (A B i : Nat) (hB : B < PW 8) : acc A B i 8 = acc A B (i + 1) 0 := by
  unfold acc
  rw [Nat.mod_eq_of_lt hB, PW_zero, Nat.mod_one, Nat.mul_zero, Nat.add_zero, mod_succ A i, Nat.add_mul, Nat.mul_comm (PW i) (dig A i)]
theorem acc_end (A B : Nat) (hA : A < PW 8) : acc A B 8 0 = A * B := by
  unfold acc
  rw [PW_zero, Nat.mod_one, Nat.mul_zero, Nat.add_zero, Nat.mod_eq_of_lt hA]

/-! ### What is above -/
def orn (N : Nat) : Nat → Nat
  | 0 => 0
  | k + 1 => orn N k ||| dig N (8 + k)
theorem orn_lt (N : Nat) : ∀ k, orn N k < 18446744073709551616
  | 0 => by simp [orn]
  | k + 1 => by
    have h1 := orn_lt N k
    have h2 := dig_lt N (8 + k)
    exact Nat.or_lt_two_pow (n := 64) h1 h2
theorem orn_zero (N : Nat) : ∀ k, orn N k = 0 ↔ ∀ i, i < k → dig N (8 + i) = 0
  | 0 => by simp [orn]
  | k + 1 => by
    have ih := orn_zero N k
    simp only [orn, Nat.or_eq_zero_iff, ih]
    constructor
    · intro ⟨h1, h2⟩ i hi
      rcases Nat.lt_or_eq_of_le (Nat.le_of_lt_succ hi) with h | h
      · exact h1 i h
      · subst h; exact h2
    · intro h
      exact ⟨fun i hi => h i (by omega), h k (by omega)⟩
theorem orn_eight {N : Nat} (h : N < PW 16) : orn N 8 = 0 ↔ N < M := by
  rw [orn_zero, M_def]
  constructor
  · intro h0
    have : N % PW 16 = (N % PW 8) % PW 16 := mod_of_dig fun i hi => by
      by_cases h8 : i < 8
      · rw [dig_mod N h8]
      · rw [dig_small (Nat.lt_of_lt_of_le (Nat.mod_lt N (PW_pos 8)) (PW_le (show 8 ≤ i by omega)))]
        have := h0 (i - 8) (by omega)
        rwa [show 8 + (i - 8) = i from by omega] at this
    rw [Nat.mod_eq_of_lt h, Nat.mod_eq_of_lt (Nat.lt_of_lt_of_le (Nat.mod_lt N (PW_pos 8)) (PW_le (by omega)))] at this
    rw [this]; exact Nat.mod_lt N (PW_pos 8)
  · intro hlt i _
    exact dig_small (Nat.lt_of_lt_of_le hlt (PW_le (by omega)))
theorem orn_small {N : Nat} (h : N < PW 9) : orn N 8 = N / M := by
  have h0 : ∀ k, orn N (k + 1) = dig N 8 := by
    intro k
    induction k with
    | zero => simp [orn]
    | succ k ih =>
      rw [orn, ih, dig_small (Nat.lt_of_lt_of_le h (PW_le (show 9 ≤ 8 + (k + 1) by omega))), Nat.or_zero]
  rw [h0 7, M_def]
  unfold dig
  refine Nat.mod_eq_of_lt ?_
  rw [PW_succ] at h
  exact (Nat.div_lt_iff_lt_mul (PW_pos 8)).2 (by rw [Nat.mul_comm]; exact h)
theorem or_u64 (a b : Nat) (ha : a < 18446744073709551616) (hb : b < 18446744073709551616) : IntKind.u64.wrap ((BitVec.ofInt (IntKind.bits .u64) (a : Int) ||| BitVec.ofInt (IntKind.bits .u64) (b : Int)).toNat : Int) = ((a ||| b : Nat) : Int) := by
  have h := Nat.or_lt_two_pow (n := 64) ha hb
  have e : (BitVec.ofInt 64 (a : Int) ||| BitVec.ofInt 64 (b : Int)).toNat = a ||| b := by
    rw [BitVec.toNat_or, BitVec.toNat_ofInt, BitVec.toNat_ofInt]
    congr 1 <;> omega
  show IntKind.u64.wrap ((BitVec.ofInt 64 (a : Int) ||| BitVec.ofInt 64 (b : Int)).toNat : Int) = _
  rw [e, IntKind.wrap_u64]
  omega
theorem mask32 (a : Nat) (ha : a < 18446744073709551616) : IntKind.u64.wrap ((BitVec.ofInt (IntKind.bits .u64) (a : Int) &&& BitVec.ofInt (IntKind.bits .u64) 4294967295).toNat : Int) = ((a % 4294967296 : Nat) : Int) := by
  have e : (BitVec.ofInt 64 (a : Int) &&& BitVec.ofInt 64 4294967295).toNat = a % 4294967296 := by
    rw [BitVec.toNat_and, BitVec.toNat_ofInt, BitVec.toNat_ofInt, show ((4294967295 : Int) % (2 ^ 64 : Nat)).toNat = 2 ^ 32 - 1 from by decide, Nat.and_two_pow_sub_one_eq_mod]
    omega
  show IntKind.u64.wrap ((BitVec.ofInt 64 (a : Int) &&& BitVec.ofInt 64 4294967295).toNat : Int) = _
  rw [e, IntKind.wrap_u64]
  omega
theorem shr_u64 (a k : Nat) (hk : k ≤ 64) : (a : Int).fdiv (2 ^ min k (IntKind.bits .u64)) = ((a / 2 ^ k : Nat) : Int) := by
  rw [show min k (IntKind.bits .u64) = k from Nat.min_eq_left hk, show (2 : Int) ^ k = ((2 ^ k : Nat) : Int) from by simp, Int.fdiv_eq_ediv_of_nonneg _ (Int.natCast_nonneg _)]
  exact (Int.natCast_ediv a (2 ^ k)).symm
end Go.WD
namespace Go.WD
open Go.RX

theorem dig_ones {k i : Nat} (h : i < k) : dig (PW k - 1) i = 18446744073709551615 := by
  obtain ⟨d, rfl⟩ := Nat.exists_eq_add_of_lt h
  unfold dig
  have hp := PW_pos i
  have hd := PW_pos d
  have e : PW (i + d + 1) - 1 = (PW i - 1) + PW i * (PW (d + 1) - 1) := by
    have h1 : PW (i + d + 1) = PW i * PW (d + 1) := by rw [Nat.add_assoc, PW_add]
    have h2 : 0 < PW (d + 1) := PW_pos _
    rw [h1, Nat.mul_sub, Nat.mul_one]
    have h3 : PW i ≤ PW i * PW (d + 1) := Nat.le_mul_of_pos_right _ h2
    omega
  rw [e, Nat.add_mul_div_left _ _ hp, Nat.div_eq_of_lt (by omega), Nat.zero_add, PW_succ]
  omega
theorem M_W : M = 18446744073709551616 * PW 7 := by rw [M_def, show (8 : Nat) = 7 + 1 from rfl, PW_succ]; exact Nat.mul_comm _ _
theorem dig_neg {t : Nat} (h0 : 0 < t) (h1 : t ≤ 18446744073709551616) {i : Nat} (hi : i < 8) : dig (M - t) i = if i = 0 then 18446744073709551616 - t else 18446744073709551615 := by
  have e : M - t = (18446744073709551616 - t) + 18446744073709551616 * (PW 7 - 1) := by
    have := PW_pos 7
    rw [M_W]; omega
  rw [e]
  split
  · rename_i h; subst h
    rw [dig_p0, Nat.add_mul_mod_self_left, Nat.mod_eq_of_lt (by omega)]
  · rename_i h
    obtain ⟨j, rfl⟩ : ∃ j, i = j + 1 := ⟨i - 1, by omega⟩
    rw [← dig_ones (show j < 7 by omega)]
    unfold dig
    rw [PW_succ j, Nat.mul_comm (PW j), ← Nat.div_div_eq_div_mul, Nat.add_mul_div_left _ _ (by omega), Nat.div_eq_of_lt (show 18446744073709551616 - t < 18446744073709551616 by omega), Nat.zero_add]
theorem dig_word {t : Nat} (h : t < 18446744073709551616) (i : Nat) : dig t i = if i = 0 then t else 0 := by
  split
  · rename_i e; subst e; rw [dig_p0, Nat.mod_eq_of_lt h]
  · rename_i e
    exact dig_small (Nat.lt_of_lt_of_le (by rw [PW_one]; exact h) (PW_le (show 1 ≤ i by omega)))
theorem M_big : 18446744073709551616 ≤ HM ∧ HM < M := by
  have h1 := HM_PW
  have h2 : PW 1 ≤ PW 7 := PW_le (by omega)
  rw [PW_one] at h2
  have h3 := M_HM
  constructor
  · rw [h1]; omega
  · omega
/-- The words of a small integer. -/
theorem words_small {n : Int} (h0 : -18446744073709551616 ≤ n) (h1 : n < 18446744073709551616) : words (rs n) = wf fun i => if i = 0 then (n % 18446744073709551616).toNat else if n < 0 then 18446744073709551615 else 0 := by
  have hM := M_big
  refine (wf_congr fun i hi => ?_)
  by_cases hn : n < 0
  · rw [rs_neg hn (by omega), show (n + M).toNat = M - n.natAbs from by omega, dig_neg (by omega) (by omega) hi]
    split
    · omega
    · rfl
  · rw [rs_pos (by omega) (by omega), dig_word (by omega)]
    split
    · omega
    · rfl
theorem xor_top {u : Nat} (h : u < 18446744073709551616) : u ^^^ 9223372036854775808 = (u + 9223372036854775808) % 18446744073709551616 := by
  apply Nat.eq_of_testBit_eq
  intro j
  rw [Nat.testBit_xor, show (9223372036854775808 : Nat) = 2 ^ 63 from rfl, show (18446744073709551616 : Nat) = 2 ^ 64 from rfl, Nat.testBit_mod_two_pow, Nat.testBit_two_pow, Nat.add_comm u]
  rcases Nat.lt_trichotomy j 63 with hj | hj | hj
  · rw [Nat.testBit_two_pow_add_gt hj]
    simp [show ¬ 63 = j by omega, show j < 64 by omega]
  · subst hj
    rw [Nat.testBit_two_pow_add_eq]
    simp
  · rw [Nat.testBit_lt_two_pow (show u < 2 ^ j from Nat.lt_of_lt_of_le h (by rw [show (18446744073709551616 : Nat) = 2 ^ 64 from rfl]; exact Nat.pow_le_pow_right (by omega) (by omega)))]
    simp [show ¬ 63 = j by omega, show ¬ j < 64 by omega]
theorem xor_u64 (a : Nat) (ha : a < 18446744073709551616) : IntKind.u64.wrap ((BitVec.ofInt (IntKind.bits .u64) (a : Int) ^^^ BitVec.ofInt (IntKind.bits .u64) 9223372036854775808).toNat : Int) = (((a + 9223372036854775808) % 18446744073709551616 : Nat) : Int) := by
  have e : (BitVec.ofInt 64 (a : Int) ^^^ BitVec.ofInt 64 9223372036854775808).toNat = (a + 9223372036854775808) % 18446744073709551616 := by
    rw [BitVec.toNat_xor, BitVec.toNat_ofInt, BitVec.toNat_ofInt, show ((9223372036854775808 : Int) % (2 ^ 64 : Nat)).toNat = 9223372036854775808 from by decide, ← xor_top ha]
    congr 1
    omega
  show IntKind.u64.wrap ((BitVec.ofInt 64 (a : Int) ^^^ BitVec.ofInt 64 9223372036854775808).toNat : Int) = _
  rw [e, IntKind.wrap_u64]
  omega
theorem words_turn (a : Nat) : spl (words a) 7 [.int .u64 (((dig a 7 + 9223372036854775808) % 18446744073709551616 : Nat) : Int)] = words (a + HM) := by
  refine Eq.trans (wf_spl (dig a) (show 7 < 8 by omega) _) (wf_words fun i hi => ?_)
  have hc : ∀ k, k ≤ 7 → cr a HM k = 0 := fun k hk => by
    have := cr_shift a 9223372036854775808 (c := 7) hk
    rwa [HM_PW]
  rw [dig_add, hc i (by omega), dig_HM hi]
  split
  · rename_i e; subst e; simp
  · simp [Nat.mod_eq_of_lt (dig_lt a i)]
/-- -1, 0 or 1. -/
def sgI (x y : Int) : Int := if x < y then -1 else if x = y then 0 else 1
theorem sg_turn (a b : Nat) : sg ((a + HM) % M) ((b + HM) % M) = sgI (toI a) (toI b) := by
  have hM := M_HM
  have key : ∀ a : Nat, ((a + HM) % M : Nat) = (toI a + HM).toNat ∧ 0 ≤ toI a + HM := fun a => by
    have hl := Nat.mod_lt a M_pos
    rw [Nat.add_mod, Nat.mod_eq_of_lt (show HM < M from HM_lt)]
    unfold toI
    split
    · rw [Nat.mod_eq_of_lt (by omega)]; omega
    · rw [Nat.mod_eq_sub_mod (by omega), Nat.mod_eq_of_lt (by omega)]; omega
  obtain ⟨h1, h2⟩ := key a
  obtain ⟨h3, h4⟩ := key b
  rw [h1, h3]
  unfold sg sgI
  split
  · rw [if_pos (by omega)]
  · split
    · rw [if_neg (by omega), if_pos (by omega)]
    · rw [if_neg (by omega), if_neg (by omega)]
theorem fits_small {n : Int} (h0 : -9223372036854775808 ≤ n) (h1 : n < 9223372036854775808) : Fits n := by
  have := M_big
  unfold Fits; omega
end Go.WD
namespace Go.WD
open Go.RX

/-! ### Lengths -/
def blen (x : Nat) : Nat := if x = 0 then 0 else x.log2 + 1
theorem blen_lt (x : Nat) : x < 2 ^ blen x := by
  unfold blen
  split
  · rename_i h; subst h; decide
  · exact Nat.lt_log2_self
theorem blen_pos {x : Nat} (h : x ≠ 0) : 0 < blen x ∧ 2 ^ (blen x - 1) ≤ x := by
  unfold blen
  rw [if_neg h]
  exact ⟨by omega, by simpa using Nat.log2_self_le h⟩
theorem blen_eq {x k : Nat} (h0 : 0 < k) (h1 : 2 ^ (k - 1) ≤ x) (h2 : x < 2 ^ k) : blen x = k := by
  have hx : x ≠ 0 := fun e => by subst e; have := Nat.pow_pos (n := k - 1) (show 0 < 2 by omega); omega
  obtain ⟨p1, p2⟩ := blen_pos hx
  have p3 := blen_lt x
  have a1 : k - 1 < blen x := (Nat.pow_lt_pow_iff_right (show 1 < 2 by omega)).1 (Nat.lt_of_le_of_lt h1 p3)
  have a2 : blen x - 1 < k := (Nat.pow_lt_pow_iff_right (show 1 < 2 by omega)).1 (Nat.lt_of_le_of_lt p2 h2)
  omega
theorem blen_shift {x k : Nat} (h : 2 ^ k ≤ x) : blen x = k + blen (x / 2 ^ k) := by
  have hp : 0 < 2 ^ k := Nat.pow_pos (by omega)
  have hq : x / 2 ^ k ≠ 0 := by
    have := (Nat.le_div_iff_mul_le hp).2 (show 1 * 2 ^ k ≤ x by omega)
    omega
  obtain ⟨p1, p2⟩ := blen_pos hq
  have p3 := blen_lt (x / 2 ^ k)
  refine blen_eq (by omega) ?_ ?_
  · rw [show k + blen (x / 2 ^ k) - 1 = (blen (x / 2 ^ k) - 1) + k from by omega, Nat.pow_add]
    exact (Nat.le_div_iff_mul_le hp).1 p2
  · rw [Nat.pow_add, Nat.mul_comm]
    exact (Nat.div_lt_iff_lt_mul hp).1 p3
theorem blen_le {x k : Nat} (h : x < 2 ^ k) : blen x ≤ k := by
  by_cases hx : x = 0
  · subst hx; simp [blen]
  · obtain ⟨p1, p2⟩ := blen_pos hx
    have := (Nat.pow_lt_pow_iff_right (show 1 < 2 by omega)).1 (Nat.lt_of_le_of_lt p2 h)
    omega
theorem blen_ge {x k : Nat} (h : 2 ^ k ≤ x) : k < blen x := (Nat.pow_lt_pow_iff_right (show 1 < 2 by omega)).1 (Nat.lt_of_le_of_lt h (blen_lt x))
theorem PW_pow (k : Nat) : PW k = 2 ^ (64 * k) := by unfold PW; rfl
theorem W_pow : (18446744073709551616 : Nat) = 2 ^ 64 := rfl
/-- The length of a number whose highest word is word i. -/
theorem blen_words {A i : Nat} (h : dig A i ≠ 0) (hs : A < PW (i + 1)) : blen A = 64 * i + blen (dig A i) := by
  have hd : A / PW i = dig A i := by
    unfold dig
    rw [Nat.mod_eq_of_lt]
    rw [PW_succ] at hs
    exact (Nat.div_lt_iff_lt_mul (PW_pos i)).2 (by rw [Nat.mul_comm]; exact hs)
  have hle : PW i ≤ A := by
    rcases Nat.lt_or_ge A (PW i) with h1 | h1
    · rw [dig_small h1] at h; exact absurd rfl h
    · exact h1
  rw [PW_pow] at hle hd
  rw [blen_shift hle, hd]

/-! ### One step of a long division: b = 2^32 -/
section
variable {y1 y0 u n q r : Nat}
theorem dq_over (hu : u = q * y1 + r) (ho : 4294967296 * r + n < q * y0) : (u * 4294967296 + n) / (y1 * 4294967296 + y0) < q := by
  have hp : 0 < y1 * 4294967296 + y0 := by
    rcases Nat.eq_zero_or_pos y0 with h | h
    · subst h; omega
    · omega
  refine (Nat.div_lt_iff_lt_mul hp).2 ?_
  rw [Nat.mul_add, ← Nat.mul_assoc, hu, Nat.add_mul]
  omega
theorem dq_under (hu : u = q * y1 + r) (hp : 0 < y1) (ho : q * y0 ≤ 4294967296 * r + n) : q ≤ (u * 4294967296 + n) / (y1 * 4294967296 + y0) := by
  refine (Nat.le_div_iff_mul_le (by omega)).2 ?_
  rw [Nat.mul_add, ← Nat.mul_assoc, hu, Nat.add_mul]
  omega
theorem dq_start (hn : n < 4294967296) (hp : 0 < y1) : (u * 4294967296 + n) / (y1 * 4294967296 + y0) ≤ u / y1 := by
  have h1 : (u * 4294967296 + n) / (y1 * 4294967296 + y0) ≤ (u * 4294967296 + n) / (4294967296 * y1) := Nat.div_le_div_left (by omega) (by omega)
  rw [← Nat.div_div_eq_div_mul, show (u * 4294967296 + n) / 4294967296 = u from by omega] at h1
  exact h1
theorem dq_top (h1 : 2147483648 ≤ y1) (hu : u < y1 * 4294967296 + y0) (h0 : y0 < 4294967296) : u / y1 ≤ 4294967297 := by
  have : u / y1 < 4294967298 := (Nat.div_lt_iff_lt_mul (by omega)).2 (by omega)
  omega
theorem dq_lt (hn : n < 4294967296) (hu : u < y1 * 4294967296 + y0) : (u * 4294967296 + n) / (y1 * 4294967296 + y0) < 4294967296 := by
  refine (Nat.div_lt_iff_lt_mul (by omega)).2 ?_
  have : (u + 1) * 4294967296 ≤ (y1 * 4294967296 + y0) * 4294967296 := Nat.mul_le_mul_right _ hu
  rw [Nat.mul_comm 4294967296]; omega
end
theorem two_steps {U Y X n q1 r1 q0 r0 : Nat} (hX : X = q1 * Y + r1) (hU : U = X * 4294967296 + n) (h0 : r1 * 4294967296 + n = q0 * Y + r0) (hr : r0 < Y) : U / Y = q1 * 4294967296 + q0 ∧ U % Y = r0 := by
  have e : U = r0 + Y * (q1 * 4294967296 + q0) := by
    rw [hU, hX, Nat.add_mul, Nat.add_assoc, h0, Nat.mul_add, Nat.mul_comm Y q0, Nat.mul_comm Y, Nat.mul_right_comm]
    omega
  rw [e]
  exact ⟨by rw [Nat.add_mul_div_left _ _ (by omega), Nat.div_eq_of_lt hr, Nat.zero_add], by rw [Nat.add_mul_mod_self_left, Nat.mod_eq_of_lt hr]⟩

/-! ### Or, where nothing overlaps -/
theorem or_add {a b i : Nat} (hb : b < 2 ^ i) : (a * 2 ^ i) ||| b = a * 2 ^ i + b := by
  rw [Nat.mul_comm, Nat.two_pow_add_eq_or_of_lt hb]
theorem two_pow_split {r : Nat} (h : r ≤ 64) : (18446744073709551616 : Nat) = 2 ^ (64 - r) * 2 ^ r := by
  rw [← Nat.pow_add, show 64 - r + r = 64 from by omega]
theorem shl_mod (d : Nat) {r : Nat} (h : r ≤ 64) : d * 2 ^ r % 18446744073709551616 = (d % 2 ^ (64 - r)) * 2 ^ r := by
  rw [two_pow_split h, Nat.mul_mod_mul_right]
theorem shr_lt {d : Nat} (hd : d < 18446744073709551616) {r : Nat} (h : r ≤ 64) : d / 2 ^ (64 - r) < 2 ^ r := by
  refine (Nat.div_lt_iff_lt_mul (Nat.pow_pos (by omega))).2 ?_
  rw [Nat.mul_comm, ← two_pow_split h]; exact hd
/-- The words of A 2^r. -/
theorem dig_shl0 (A : Nat) (r : Nat) : dig (A * 2 ^ r) 0 = dig A 0 * 2 ^ r % 18446744073709551616 := by
  rw [dig_p0, dig_p0, Nat.mod_mul_mod]
theorem dig_shl (A j : Nat) {r : Nat} (h : r ≤ 64) : dig (A * 2 ^ r) (j + 1) = dig A (j + 1) * 2 ^ r % 18446744073709551616 + dig A j / 2 ^ (64 - r) := by
  have hp : 0 < 2 ^ r := Nat.pow_pos (by omega)
  have hs := two_pow_split h
  -- A 2^r / PW (j + 1) is (A / PW j) / 2^(64 - r)
  have e1 : A * 2 ^ r / PW (j + 1) = A / PW j / 2 ^ (64 - r) := by
    rw [PW_succ, hs, ← Nat.mul_assoc, Nat.mul_div_mul_right _ _ hp, Nat.div_div_eq_div_mul]
  have e2 : A / PW j = dig A j + 18446744073709551616 * (A / PW (j + 1)) := by
    have := Nat.mod_add_div (A / PW j) 18446744073709551616
    rw [Nat.div_div_eq_div_mul, ← PW_succ] at this
    exact this.symm
  have e3 : A / PW j / 2 ^ (64 - r) = dig A j / 2 ^ (64 - r) + 2 ^ r * (A / PW (j + 1)) := by
    rw [e2, show 18446744073709551616 * (A / PW (j + 1)) = 2 ^ (64 - r) * (2 ^ r * (A / PW (j + 1))) from by rw [← Nat.mul_assoc, ← hs], Nat.add_mul_div_left _ _ (Nat.pow_pos (by omega))]
  have hlt := shr_lt (dig_lt A j) h
  have e4 : A / PW (j + 1) % 18446744073709551616 = dig A (j + 1) := rfl
  unfold dig at *
  rw [e1, e3]
  rw [Nat.add_mod, show (2 ^ r * (A / PW (j + 1))) % 18446744073709551616 = (A / PW (j + 1) % 18446744073709551616) * 2 ^ r % 18446744073709551616 from by rw [Nat.mul_comm, Nat.mod_mul_mod], Nat.mod_eq_of_lt (Nat.lt_of_lt_of_le hlt (by rw [W_pow]; exact Nat.pow_le_pow_right (by omega) h)), shl_mod _ h]
  have hq : A / PW (j + 1) % 18446744073709551616 % 2 ^ (64 - r) * 2 ^ r + A / PW j % 18446744073709551616 / 2 ^ (64 - r) < 18446744073709551616 := by
    have h1 := Nat.mod_lt (A / PW (j + 1) % 18446744073709551616) (show 0 < 2 ^ (64 - r) from Nat.pow_pos (by omega))
    have h2 : (A / PW (j + 1) % 18446744073709551616 % 2 ^ (64 - r) + 1) * 2 ^ r ≤ 2 ^ (64 - r) * 2 ^ r := Nat.mul_le_mul_right _ h1
    rw [← hs, Nat.add_mul, Nat.one_mul] at h2
    omega
  rw [Nat.mod_eq_of_lt (by omega)]
  omega
/-- The word of a shift as the program computes it. -/
theorem dig_shl_or (A j : Nat) {r : Nat} (h : r ≤ 64) : (dig A (j + 1) * 2 ^ r % 18446744073709551616) ||| (dig A j / 2 ^ (64 - r)) = dig (A * 2 ^ r) (j + 1) := by
  rw [dig_shl A j h, shl_mod _ h, or_add (shr_lt (dig_lt A j) h)]
theorem shift_split (A q r : Nat) : A * 2 ^ (64 * q + r) = (A * 2 ^ r) * PW q := by
  rw [PW_pow, Nat.pow_add, Nat.mul_comm (2 ^ (64 * q)), ← Nat.mul_assoc]

/-! ### A bit is set -/
theorem dig_or (a b i : Nat) : dig (a ||| b) i = dig a i ||| dig b i := by
  unfold dig
  rw [PW_pow, ← Nat.shiftRight_eq_div_pow, ← Nat.shiftRight_eq_div_pow, ← Nat.shiftRight_eq_div_pow, Nat.shiftRight_or_distrib, W_pow, Nat.or_mod_two_pow]
theorem dig_bit (k i : Nat) : dig (2 ^ k) i = if i = k / 64 then 2 ^ (k % 64) else 0 := by
  have e : (2 : Nat) ^ k = 2 ^ (k % 64) * PW (k / 64) := by rw [PW_pow, ← Nat.pow_add]; congr 1; omega
  have hlt : (2 : Nat) ^ (k % 64) < 18446744073709551616 := by rw [W_pow]; exact Nat.pow_lt_pow_right (by omega) (by omega)
  rw [e]
  split
  · rename_i h; subst h
    have := dig_shift (2 ^ (k % 64)) (k / 64) 0
    rw [Nat.add_zero] at this
    rw [this, dig_p0, Nat.mod_eq_of_lt hlt]
  · rename_i h
    rcases Nat.lt_or_ge i (k / 64) with h1 | h1
    · exact dig_shift_lt _ h1
    · obtain ⟨d, rfl⟩ := Nat.exists_eq_add_of_le h1
      rw [dig_shift]
      exact dig_small (Nat.lt_of_lt_of_le (by rw [PW_one]; exact hlt) (PW_le (show 1 ≤ d by omega)))
theorem or_bit {q k : Nat} (h : 2 ^ (k + 1) ∣ q) : q ||| 2 ^ k = q + 2 ^ k := by
  obtain ⟨d, rfl⟩ := h
  exact (Nat.two_pow_add_eq_or_of_lt (Nat.pow_lt_pow_right (by omega) (by omega)) d).symm
theorem words_bit {q k : Nat} (h : 2 ^ (k + 1) ∣ q) (hk : k < 512) : spl (words q) (k / 64) [.int .u64 ((dig q (k / 64) ||| 2 ^ (k % 64) : Nat) : Int)] = words (q + 2 ^ k) := by
  refine Eq.trans (wf_spl (dig q) (show k / 64 < 8 by omega) _) (wf_words fun i _ => ?_)
  rw [← or_bit h, dig_or, dig_bit]
  split
  · rename_i e; rw [e]
  · rw [Nat.or_zero]

/-! ### Division by one word -/
theorem short_step (A d k : Nat) (hd : 0 < d) (h64 : d < 18446744073709551616) : (A / PW (k + 1) % d * 18446744073709551616 + dig A k) / d = dig (A / d) k ∧ (A / PW (k + 1) % d * 18446744073709551616 + dig A k) % d = A / PW k % d := by
  have e : A / PW k = dig A k + 18446744073709551616 * (A / PW (k + 1)) := by
    have := Nat.mod_add_div (A / PW k) 18446744073709551616
    rw [Nat.div_div_eq_div_mul, ← PW_succ] at this
    exact this.symm
  generalize A / PW (k + 1) = T at e ⊢
  have hT := Nat.div_add_mod T d
  have hr := Nat.mod_lt T hd
  have e2 : A / PW k = (T % d * 18446744073709551616 + dig A k) + d * (T / d * 18446744073709551616) := by
    rw [e, ← Nat.mul_assoc]
    have : 18446744073709551616 * T = 18446744073709551616 * (d * (T / d)) + 18446744073709551616 * (T % d) := by rw [← Nat.mul_add, hT]
    rw [this, Nat.mul_comm (d * (T / d)), Nat.mul_comm (T % d)]
    omega
  have hlt : (T % d * 18446744073709551616 + dig A k) / d < 18446744073709551616 := by
    refine (Nat.div_lt_iff_lt_mul hd).2 ?_
    have h1 := dig_lt A k
    have h2 : (T % d + 1) * 18446744073709551616 ≤ d * 18446744073709551616 := Nat.mul_le_mul_right _ hr
    rw [Nat.mul_comm 18446744073709551616]
    omega
  constructor
  · rw [show dig (A / d) k = A / d / PW k % 18446744073709551616 from rfl, Nat.div_div_eq_div_mul, Nat.mul_comm d, ← Nat.div_div_eq_div_mul, e2, Nat.add_mul_div_left _ _ hd, Nat.add_mul_mod_self_right, Nat.mod_eq_of_lt hlt]
  · rw [e2, Nat.add_mul_mod_self_left]
end Go.WD

/- Small integers as wide values, comparing: plain. -/
import Derived.Test.YtimnofpofbnjbaaWdM
namespace Go.WD
open Go.RX

theorem dig_ones {k i : Nat} (h : i < k) : dig (PW k - 1) i = 18446744073709551615 := by
  obtain ⟨d, rfl⟩ := Nat.exists_eq_add_of_lt h
  unfold dig
  have hp := PW_pos i
  have hd := PW_pos d
  have e : PW (i + d + 1) - 1 = (PW i - 1) + PW i * (PW (d + 1) - 1) := by
    have h1 : PW (i + d + 1) = PW i * PW (d + 1) := by rw [Nat.add_assoc, PW_add]
    have h2 : 0 < PW (d + 1) := PW_pos _
    rw [h1, Nat.mul_sub, Nat.mul_one]
    have h3 : PW i ≤ PW i * PW (d + 1) := Nat.le_mul_of_pos_right _ h2
    omega
  rw [e, Nat.add_mul_div_left _ _ hp, Nat.div_eq_of_lt (by omega), Nat.zero_add, PW_succ]
  omega
theorem M_W : M = 18446744073709551616 * PW 7 := by rw [M_def, show (8 : Nat) = 7 + 1 from rfl, PW_succ]; exact Nat.mul_comm _ _
theorem dig_neg {t : Nat} (h0 : 0 < t) (h1 : t ≤ 18446744073709551616) {i : Nat} (hi : i < 8) : dig (M - t) i = if i = 0 then 18446744073709551616 - t else 18446744073709551615 := by
  have e : M - t = (18446744073709551616 - t) + 18446744073709551616 * (PW 7 - 1) := by
    have := PW_pos 7
    rw [M_W]; omega
  rw [e]
  split
  · rename_i h; subst h
    rw [dig_p0, Nat.add_mul_mod_self_left, Nat.mod_eq_of_lt (by omega)]
  · rename_i h
    obtain ⟨j, rfl⟩ : ∃ j, i = j + 1 := ⟨i - 1, by omega⟩
    rw [← dig_ones (show j < 7 by omega)]
    unfold dig
    rw [PW_succ j, Nat.mul_comm (PW j), ← Nat.div_div_eq_div_mul, Nat.add_mul_div_left _ _ (by omega), Nat.div_eq_of_lt (show 18446744073709551616 - t < 18446744073709551616 by omega), Nat.zero_add]
theorem dig_word {t : Nat} (h : t < 18446744073709551616) (i : Nat) : dig t i = if i = 0 then t else 0 := by
  split
  · rename_i e; subst e; rw [dig_p0, Nat.mod_eq_of_lt h]
  · rename_i e
    exact dig_small (Nat.lt_of_lt_of_le (by rw [PW_one]; exact h) (PW_le (show 1 ≤ i by omega)))
theorem M_big : 18446744073709551616 ≤ HM ∧ HM < M := by
  have h1 := HM_PW
  have h2 : PW 1 ≤ PW 7 := PW_le (by omega)
  rw [PW_one] at h2
  have h3 := M_HM
  constructor
  · rw [h1]; omega
  · omega
/-- The words of a small integer. -/
theorem words_small {n : Int} (h0 : -18446744073709551616 ≤ n) (h1 : n < 18446744073709551616) : words (rs n) = wf fun i => if i = 0 then (n % 18446744073709551616).toNat else if n < 0 then 18446744073709551615 else 0 := by
  have hM := M_big
  refine (wf_congr fun i hi => ?_)
  by_cases hn : n < 0
  · rw [rs_neg hn (by omega), show (n + M).toNat = M - n.natAbs from by omega, dig_neg (by omega) (by omega) hi]
    split
    · omega
    · rfl
  · rw [rs_pos (by omega) (by omega), dig_word (by omega)]
    split
    · omega
    · rfl
theorem xor_top {u : Nat} (h : u < 18446744073709551616) : u ^^^ 9223372036854775808 = (u + 9223372036854775808) % 18446744073709551616 := by
  apply Nat.eq_of_testBit_eq
  intro j
  rw [Nat.testBit_xor, show (9223372036854775808 : Nat) = 2 ^ 63 from rfl, show (18446744073709551616 : Nat) = 2 ^ 64 from rfl, Nat.testBit_mod_two_pow, Nat.testBit_two_pow, Nat.add_comm u]
  rcases Nat.lt_trichotomy j 63 with hj | hj | hj
  · rw [Nat.testBit_two_pow_add_gt hj]
    simp [show ¬ 63 = j by omega, show j < 64 by omega]
  · subst hj
    rw [Nat.testBit_two_pow_add_eq]
    simp
  · rw [Nat.testBit_lt_two_pow (show u < 2 ^ j from Nat.lt_of_lt_of_le h (by rw [show (18446744073709551616 : Nat) = 2 ^ 64 from rfl]; exact Nat.pow_le_pow_right (by omega) (by omega)))]
    simp [show ¬ 63 = j by omega, show ¬ j < 64 by omega]
theorem xor_u64 (a : Nat) (ha : a < 18446744073709551616) : IntKind.u64.wrap ((BitVec.ofInt (IntKind.bits .u64) (a : Int) ^^^ BitVec.ofInt (IntKind.bits .u64) 9223372036854775808).toNat : Int) = (((a + 9223372036854775808) % 18446744073709551616 : Nat) : Int) := by
  have e : (BitVec.ofInt 64 (a : Int) ^^^ BitVec.ofInt 64 9223372036854775808).toNat = (a + 9223372036854775808) % 18446744073709551616 := by
    rw [BitVec.toNat_xor, BitVec.toNat_ofInt, BitVec.toNat_ofInt, show ((9223372036854775808 : Int) % (2 ^ 64 : Nat)).toNat = 9223372036854775808 from by decide, ← xor_top ha]
    congr 1
    omega
  show IntKind.u64.wrap ((BitVec.ofInt 64 (a : Int) ^^^ BitVec.ofInt 64 9223372036854775808).toNat : Int) = _
  rw [e, IntKind.wrap_u64]
  omega
theorem words_turn (a : Nat) : spl (words a) 7 [.int .u64 (((dig a 7 + 9223372036854775808) % 18446744073709551616 : Nat) : Int)] = words (a + HM) := by
  refine Eq.trans (wf_spl (dig a) (show 7 < 8 by omega) _) (wf_words fun i hi => ?_)
  have hc : ∀ k, k ≤ 7 → cr a HM k = 0 := fun k hk => by
    have := cr_shift a 9223372036854775808 (c := 7) hk
    rwa [HM_PW]
  rw [dig_add, hc i (by omega), dig_HM hi]
  split
  · rename_i e; subst e; simp
  · simp [Nat.mod_eq_of_lt (dig_lt a i)]
/-- -1, 0 or 1. -/
def sgI (x y : Int) : Int := if x < y then -1 else if x = y then 0 else 1
theorem sg_turn (a b : Nat) : sg ((a + HM) % M) ((b + HM) % M) = sgI (toI a) (toI b) := by
  have hM := M_HM
  have key : ∀ a : Nat, ((a + HM) % M : Nat) = (toI a + HM).toNat ∧ 0 ≤ toI a + HM := fun a => by
    have hl := Nat.mod_lt a M_pos
    rw [Nat.add_mod, Nat.mod_eq_of_lt (show HM < M from HM_lt)]
    unfold toI
    split
    · rw [Nat.mod_eq_of_lt (by omega)]; omega
    · rw [Nat.mod_eq_sub_mod (by omega), Nat.mod_eq_of_lt (by omega)]; omega
  obtain ⟨h1, h2⟩ := key a
  obtain ⟨h3, h4⟩ := key b
  rw [h1, h3]
  unfold sg sgI
  split
  · rw [if_pos (by omega)]
  · split
    · rw [if_neg (by omega), if_pos (by omega)]
    · rw [if_neg (by omega), if_neg (by omega)]
theorem fits_small {n : Int} (h0 : -9223372036854775808 ≤ n) (h1 : n < 9223372036854775808) : Fits n := by
  have := M_big
  unfold Fits; omega
end Go.WD

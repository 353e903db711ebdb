/- Lengths in bits, long division, shifts: plain. -/
import Derived.Test.YtimnofpofbnjbaaWdN
namespace Go.WD
open Go.RX

/-! ### Lengths -/
def blen (x : Nat) : Nat := if x = 0 then 0 else x.log2 + 1
theorem blen_lt (x : Nat) : x < 2 ^ blen x := by
  unfold blen
  split
  · rename_i h; subst h; decide
  · exact Nat.lt_log2_self
theorem blen_pos {x : Nat} (h : x ≠ 0) : 0 < blen x ∧ 2 ^ (blen x - 1) ≤ x := by
  unfold blen
  rw [if_neg h]
  exact ⟨by omega, by simpa using Nat.log2_self_le h⟩
theorem blen_eq {x k : Nat} (h0 : 0 < k) (h1 : 2 ^ (k - 1) ≤ x) (h2 : x < 2 ^ k) : blen x = k := by
  have hx : x ≠ 0 := fun e => by subst e; have := Nat.pow_pos (n := k - 1) (show 0 < 2 by omega); omega
  obtain ⟨p1, p2⟩ := blen_pos hx
  have p3 := blen_lt x
  have a1 : k - 1 < blen x := (Nat.pow_lt_pow_iff_right (show 1 < 2 by omega)).1 (Nat.lt_of_le_of_lt h1 p3)
  have a2 : blen x - 1 < k := (Nat.pow_lt_pow_iff_right (show 1 < 2 by omega)).1 (Nat.lt_of_le_of_lt p2 h2)
  omega
theorem blen_shift {x k : Nat} (h : 2 ^ k ≤ x) : blen x = k + blen (x / 2 ^ k) := by
  have hp : 0 < 2 ^ k := Nat.pow_pos (by omega)
  have hq : x / 2 ^ k ≠ 0 := by
    have := (Nat.le_div_iff_mul_le hp).2 (show 1 * 2 ^ k ≤ x by omega)
    omega
  obtain ⟨p1, p2⟩ := blen_pos hq
  have p3 := blen_lt (x / 2 ^ k)
  refine blen_eq (by omega) ?_ ?_
  · rw [show k + blen (x / 2 ^ k) - 1 = (blen (x / 2 ^ k) - 1) + k from by omega, Nat.pow_add]
    exact (Nat.le_div_iff_mul_le hp).1 p2
  · rw [Nat.pow_add, Nat.mul_comm]
    exact (Nat.div_lt_iff_lt_mul hp).1 p3
theorem blen_le {x k : Nat} (h : x < 2 ^ k) : blen x ≤ k := by
  by_cases hx : x = 0
  · subst hx; simp [blen]
  · obtain ⟨p1, p2⟩ := blen_pos hx
    have := (Nat.pow_lt_pow_iff_right (show 1 < 2 by omega)).1 (Nat.lt_of_le_of_lt p2 h)
    omega
theorem blen_ge {x k : Nat} (h : 2 ^ k ≤ x) : k < blen x := (Nat.pow_lt_pow_iff_right (show 1 < 2 by omega)).1 (Nat.lt_of_le_of_lt h (blen_lt x))
theorem PW_pow (k : Nat) : PW k = 2 ^ (64 * k) := by unfold PW; rfl
theorem W_pow : (18446744073709551616 : Nat) = 2 ^ 64 := rfl
/-- The length of a number whose highest word is word i. -/
theorem blen_words {A i : Nat} (h : dig A i ≠ 0) (hs : A < PW (i + 1)) : blen A = 64 * i + blen (dig A i) := by
  have hd : A / PW i = dig A i := by
    unfold dig
    rw [Nat.mod_eq_of_lt]
    rw [PW_succ] at hs
    exact (Nat.div_lt_iff_lt_mul (PW_pos i)).2 (by rw [Nat.mul_comm]; exact hs)
  have hle : PW i ≤ A := by
    rcases Nat.lt_or_ge A (PW i) with h1 | h1
    · rw [dig_small h1] at h; exact absurd rfl h
    · exact h1
  rw [PW_pow] at hle hd
  rw [blen_shift hle, hd]

/-! ### One step of a long division: b = 2^32 -/
section
variable {y1 y0 u n q r : Nat}
theorem dq_over (hu : u = q * y1 + r) (ho : 4294967296 * r + n < q * y0) : (u * 4294967296 + n) / (y1 * 4294967296 + y0) < q := by
  have hp : 0 < y1 * 4294967296 + y0 := by
    rcases Nat.eq_zero_or_pos y0 with h | h
    · subst h; omega
    · omega
  refine (Nat.div_lt_iff_lt_mul hp).2 ?_
  rw [Nat.mul_add, ← Nat.mul_assoc, hu, Nat.add_mul]
  omega
theorem dq_under (hu : u = q * y1 + r) (hp : 0 < y1) (ho : q * y0 ≤ 4294967296 * r + n) : q ≤ (u * 4294967296 + n) / (y1 * 4294967296 + y0) := by
  refine (Nat.le_div_iff_mul_le (by omega)).2 ?_
  rw [Nat.mul_add, ← Nat.mul_assoc, hu, Nat.add_mul]
  omega
theorem dq_start (hn : n < 4294967296) (hp : 0 < y1) : (u * 4294967296 + n) / (y1 * 4294967296 + y0) ≤ u / y1 := by
  have h1 : (u * 4294967296 + n) / (y1 * 4294967296 + y0) ≤ (u * 4294967296 + n) / (4294967296 * y1) := Nat.div_le_div_left (by omega) (by omega)
  rw [← Nat.div_div_eq_div_mul, show (u * 4294967296 + n) / 4294967296 = u from by omega] at h1
  exact h1
theorem dq_top (h1 : 2147483648 ≤ y1) (hu : u < y1 * 4294967296 + y0) (h0 : y0 < 4294967296) : u / y1 ≤ 4294967297 := by
  have : u / y1 < 4294967298 := (Nat.div_lt_iff_lt_mul (by omega)).2 (by omega)
  omega
theorem dq_lt (hn : n < 4294967296) (hu : u < y1 * 4294967296 + y0) : (u * 4294967296 + n) / (y1 * 4294967296 + y0) < 4294967296 := by
  refine (Nat.div_lt_iff_lt_mul (by omega)).2 ?_
  have : (u + 1) * 4294967296 ≤ (y1 * 4294967296 + y0) * 4294967296 := Nat.mul_le_mul_right _ hu
  rw [Nat.mul_comm 4294967296]; omega
end
theorem two_steps {U Y X n q1 r1 q0 r0 : Nat} (hX : X = q1 * Y + r1) (hU : U = X * 4294967296 + n) (h0 : r1 * 4294967296 + n = q0 * Y + r0) (hr : r0 < Y) : U / Y = q1 * 4294967296 + q0 ∧ U % Y = r0 := by
  have e : U = r0 + Y * (q1 * 4294967296 + q0) := by
    rw [hU, hX, Nat.add_mul, Nat.add_assoc, h0, Nat.mul_add, Nat.mul_comm Y q0, Nat.mul_comm Y, Nat.mul_right_comm]
    omega
  rw [e]
  exact ⟨by rw [Nat.add_mul_div_left _ _ (by omega), Nat.div_eq_of_lt hr, Nat.zero_add], by rw [Nat.add_mul_mod_self_left, Nat.mod_eq_of_lt hr]⟩

/-! ### Or, where nothing overlaps -/
theorem or_add {a b i : Nat} (hb : b < 2 ^ i) : (a * 2 ^ i) ||| b = a * 2 ^ i + b := by
  rw [Nat.mul_comm, Nat.two_pow_add_eq_or_of_lt hb]
theorem two_pow_split {r : Nat} (h : r ≤ 64) : (18446744073709551616 : Nat) = 2 ^ (64 - r) * 2 ^ r := by
  rw [← Nat.pow_add, show 64 - r + r = 64 from by omega]
theorem shl_mod (d : Nat) {r : Nat} (h : r ≤ 64) : d * 2 ^ r % 18446744073709551616 = (d % 2 ^ (64 - r)) * 2 ^ r := by
  rw [two_pow_split h, Nat.mul_mod_mul_right]
theorem shr_lt {d : Nat} (hd : d < 18446744073709551616) {r : Nat} (h : r ≤ 64) : d / 2 ^ (64 - r) < 2 ^ r := by
  refine (Nat.div_lt_iff_lt_mul (Nat.pow_pos (by omega))).2 ?_
  rw [Nat.mul_comm, ← two_pow_split h]; exact hd
/-- The words of A 2^r. -/
theorem dig_shl0 (A : Nat) (r : Nat) : dig (A * 2 ^ r) 0 = dig A 0 * 2 ^ r % 18446744073709551616 := by
  rw [dig_p0, dig_p0, Nat.mod_mul_mod]
theorem dig_shl (A j : Nat) {r : Nat} (h : r ≤ 64) : dig (A * 2 ^ r) (j + 1) = dig A (j + 1) * 2 ^ r % 18446744073709551616 + dig A j / 2 ^ (64 - r) := by
  have hp : 0 < 2 ^ r := Nat.pow_pos (by omega)
  have hs := two_pow_split h
  -- A 2^r / PW (j + 1) is (A / PW j) / 2^(64 - r)
  have e1 : A * 2 ^ r / PW (j + 1) = A / PW j / 2 ^ (64 - r) := by
    rw [PW_succ, hs, ← Nat.mul_assoc, Nat.mul_div_mul_right _ _ hp, Nat.div_div_eq_div_mul]
  have e2 : A / PW j = dig A j + 18446744073709551616 * (A / PW (j + 1)) := by
    have := Nat.mod_add_div (A / PW j) 18446744073709551616
    rw [Nat.div_div_eq_div_mul, ← PW_succ] at this
    exact this.symm
  have e3 : A / PW j / 2 ^ (64 - r) = dig A j / 2 ^ (64 - r) + 2 ^ r * (A / PW (j + 1)) := by
    rw [e2, show 18446744073709551616 * (A / PW (j + 1)) = 2 ^ (64 - r) * (2 ^ r * (A / PW (j + 1))) from by rw [← Nat.mul_assoc, ← hs], Nat.add_mul_div_left _ _ (Nat.pow_pos (by omega))]
  have hlt := shr_lt (dig_lt A j) h
  have e4 : A / PW (j + 1) % 18446744073709551616 = dig A (j + 1) := rfl
  unfold dig at *
  rw [e1, e3]
  rw [Nat.add_mod, show (2 ^ r * (A / PW (j + 1))) % 18446744073709551616 = (A / PW (j + 1) % 18446744073709551616) * 2 ^ r % 18446744073709551616 from by rw [Nat.mul_comm, Nat.mod_mul_mod], Nat.mod_eq_of_lt (Nat.lt_of_lt_of_le hlt (by rw [W_pow]; exact Nat.pow_le_pow_right (by omega) h)), shl_mod _ h]
  have hq : A / PW (j + 1) % 18446744073709551616 % 2 ^ (64 - r) * 2 ^ r + A / PW j % 18446744073709551616 / 2 ^ (64 - r) < 18446744073709551616 := by
    have h1 := Nat.mod_lt (A / PW (j + 1) % 18446744073709551616) (show 0 < 2 ^ (64 - r) from Nat.pow_pos (by omega))
    have h2 : (A / PW (j + 1) % 18446744073709551616 % 2 ^ (64 - r) + 1) * 2 ^ r ≤ 2 ^ (64 - r) * 2 ^ r := Nat.mul_le_mul_right _ h1
    rw [← hs, Nat.add_mul, Nat.one_mul] at h2
    omega
  rw [Nat.mod_eq_of_lt (by omega)]
  omega
/-- The word of a shift as the program computes it. -/
theorem dig_shl_or (A j : Nat) {r : Nat} (h : r ≤ 64) : (dig A (j + 1) * 2 ^ r % 18446744073709551616) ||| (dig A j / 2 ^ (64 - r)) = dig (A * 2 ^ r) (j + 1) := by
  rw [dig_shl A j h, shl_mod _ h, or_add (shr_lt (dig_lt A j) h)]
theorem shift_split (A q r : Nat) : A * 2 ^ (64 * q + r) = (A * 2 ^ r) * PW q := by
  rw [PW_pow, Nat.pow_add, Nat.mul_comm (2 ^ (64 * q)), ← Nat.mul_assoc]

/-! ### A bit is set -/
theorem dig_or (a b i : Nat) : dig (a ||| b) i = dig a i ||| dig b i := by
  unfold dig
  rw [PW_pow, ← Nat.shiftRight_eq_div_pow, ← Nat.shiftRight_eq_div_pow, ← Nat.shiftRight_eq_div_pow, Nat.shiftRight_or_distrib, W_pow, Nat.or_mod_two_pow]
theorem dig_bit (k i : Nat) : dig (2 ^ k) i = if i = k / 64 then 2 ^ (k % 64) else 0 := by
  have e : (2 : Nat) ^ k = 2 ^ (k % 64) * PW (k / 64) := by rw [PW_pow, ← Nat.pow_add]; congr 1; omega
  have hlt : (2 : Nat) ^ (k % 64) < 18446744073709551616 := by rw [W_pow]; exact Nat.pow_lt_pow_right (by omega) (by omega)
  rw [e]
  split
  · rename_i h; subst h
    have := dig_shift (2 ^ (k % 64)) (k / 64) 0
    rw [Nat.add_zero] at this
    rw [this, dig_p0, Nat.mod_eq_of_lt hlt]
  · rename_i h
    rcases Nat.lt_or_ge i (k / 64) with h1 | h1
    · exact dig_shift_lt _ h1
    · obtain ⟨d, rfl⟩ := Nat.exists_eq_add_of_le h1
      rw [dig_shift]
      exact dig_small (Nat.lt_of_lt_of_le (by rw [PW_one]; exact hlt) (PW_le (show 1 ≤ d by omega)))
theorem or_bit {q k : Nat} (h : 2 ^ (k + 1) ∣ q) : q ||| 2 ^ k = q + 2 ^ k := by
  obtain ⟨d, rfl⟩ := h
  exact (Nat.two_pow_add_eq_or_of_lt (Nat.pow_lt_pow_right (by omega) (by omega)) d).symm
theorem words_bit {q k : Nat} (h : 2 ^ (k + 1) ∣ q) (hk : k < 512) : spl (words q) (k / 64) [.int .u64 ((dig q (k / 64) ||| 2 ^ (k % 64) : Nat) : Int)] = words (q + 2 ^ k) := by
  refine Eq.trans (wf_spl (dig q) (show k / 64 < 8 by omega) _) (wf_words fun i _ => ?_)
  rw [← or_bit h, dig_or, dig_bit]
  split
  · rename_i e; rw [e]
  · rw [Nat.or_zero]

/-! ### Division by one word -/
theorem short_step (A d k : Nat) (hd : 0 < d) (h64 : d < 18446744073709551616) : (A / PW (k + 1) % d * 18446744073709551616 + dig A k) / d = dig (A / d) k ∧ (A / PW (k + 1) % d * 18446744073709551616 + dig A k) % d = A / PW k % d := by
  have e : A / PW k = dig A k + 18446744073709551616 * (A / PW (k + 1)) := by
    have := Nat.mod_add_div (A / PW k) 18446744073709551616
    rw [Nat.div_div_eq_div_mul, ← PW_succ] at this
    exact this.symm
  generalize A / PW (k + 1) = T at e ⊢
  have hT := Nat.div_add_mod T d
  have hr := Nat.mod_lt T hd
  have e2 : A / PW k = (T % d * 18446744073709551616 + dig A k) + d * (T / d * 18446744073709551616) := by
    rw [e, ← Nat.mul_assoc]
    have : 18446744073709551616 * T = 18446744073709551616 * (d * (T / d)) + 18446744073709551616 * (T % d) := by rw [← Nat.mul_add, hT]
    rw [this, Nat.mul_comm (d * (T / d)), Nat.mul_comm (T % d)]
    omega
  have hlt : (T % d * 18446744073709551616 + dig A k) / d < 18446744073709551616 := by
    refine (Nat.div_lt_iff_lt_mul hd).2 ?_
    have h1 := dig_lt A k
    have h2 : (T % d + 1) * 18446744073709551616 ≤ d * 18446744073709551616 := Nat.mul_le_mul_right _ hr
    rw [Nat.mul_comm 18446744073709551616]
    omega
  constructor
  · rw [show dig (A / d) k = A / d / PW k % 18446744073709551616 from rfl, Nat.div_div_eq_div_mul, Nat.mul_comm d, ← Nat.div_div_eq_div_mul, e2, Nat.add_mul_div_left _ _ hd, Nat.add_mul_mod_self_right, Nat.mod_eq_of_lt hlt]
  · rw [e2, Nat.add_mul_mod_self_left]
end Go.WD

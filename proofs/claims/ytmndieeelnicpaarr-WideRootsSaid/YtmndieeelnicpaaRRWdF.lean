/- Integers as wide values: plain. -/
import Derived.Test.YtmndieeelnicpaaRRWdA
namespace Go.WD
open Go.RX

/-- -1, 0 or 1. -/
def sg (a b : Nat) : Int := if a < b then -1 else if a = b then 0 else 1
/-- 2 to the power 511. -/
@[irreducible] def HM : Nat := 9223372036854775808 * PW 7
theorem HM_PW : HM = 9223372036854775808 * PW 7 := by unfold HM; rfl
theorem M_HM : M = 2 * HM := by rw [M_def, HM_PW, show (8 : Nat) = 7 + 1 from rfl, PW_succ]; omega
theorem HM_pos : 0 < HM := by rw [HM_PW]; have := PW_pos 7; omega
/-- An integer, modulo 2^512. -/
def rs (z : Int) : Nat := (z % (M : Int)).toNat
theorem rs_lt (z : Int) : rs z < M := by
  unfold rs
  have := M_pos
  have h := Int.emod_lt_of_pos z (show (0 : Int) < M by omega)
  have h' := Int.emod_nonneg z (show (M : Int) ≠ 0 by omega)
  omega
theorem rs_cast (z : Int) : ((rs z : Nat) : Int) = z % (M : Int) := by
  unfold rs
  have := M_pos
  have h' := Int.emod_nonneg z (show (M : Int) ≠ 0 by omega)
  omega
def iw (z : Int) : Value := wd (rs z)
def nm (z : Int) : Value := nb (decide (z < 0)) z.natAbs
/-- The integer of a wide value. -/
def toI (a : Nat) : Int := if a % M < HM then (a % M : Nat) else (a % M : Nat) - (M : Int)
def Fits (z : Int) : Prop := -(HM : Int) ≤ z ∧ z < HM
theorem toI_fits (a : Nat) : Fits (toI a) := by
  have h := Nat.mod_lt a M_pos
  have := M_HM
  unfold Fits toI; split <;> omega
theorem rs_pos {z : Int} (h0 : 0 ≤ z) (h : z < M) : rs z = z.toNat := by
  unfold rs; rw [Int.emod_eq_of_lt h0 h]
theorem rs_neg {z : Int} (h0 : z < 0) (h : -(M : Int) ≤ z) : rs z = (z + M).toNat := by
  unfold rs
  have := M_pos
  rw [← Int.add_emod_right, Int.emod_eq_of_lt (by omega) (by omega)]
theorem rs_toI (a : Nat) : rs (toI a) = a % M := by
  have h := Nat.mod_lt a M_pos
  have := M_HM
  unfold toI
  split
  · rw [rs_pos (by omega) (by omega)]; omega
  · rw [rs_neg (by omega) (by omega)]; omega
theorem wd_toI (a : Nat) : wd a = iw (toI a) := by
  unfold iw wd; rw [rs_toI, words_mod]
theorem toI_rs {z : Int} (h : Fits z) : toI (rs z) = z := by
  have hM := M_HM
  have hl := rs_lt z
  obtain ⟨h1, h2⟩ := h
  unfold toI
  rw [Nat.mod_eq_of_lt hl]
  by_cases h0 : 0 ≤ z
  · rw [rs_pos h0 (by omega)]
    split <;> omega
  · rw [rs_neg (by omega) (by omega)]
    split <;> omega
theorem rs_mod (z : Int) : rs z % M = rs z := Nat.mod_eq_of_lt (rs_lt z)
theorem rs_inj {x y : Int} (hx : Fits x) (hy : Fits y) : rs x = rs y ↔ x = y :=
  ⟨fun h => by rw [← toI_rs hx, ← toI_rs hy, h], fun h => by rw [h]⟩
/-- The top word tells the sign. -/
theorem top_bit (a : Nat) : dig a 7 < 9223372036854775808 ↔ a % M < HM := by
  have e : a % M = a % PW 7 + PW 7 * dig a 7 := by rw [M_def]; exact mod_succ a 7
  have hlt := Nat.mod_lt a (PW_pos 7)
  rw [e, HM_PW]
  constructor
  · intro h
    have := Nat.mul_le_mul_left (PW 7) (show dig a 7 + 1 ≤ 9223372036854775808 by omega)
    rw [Nat.mul_succ] at this
    rw [Nat.mul_comm 9223372036854775808]; omega
  · intro h
    rcases Nat.lt_or_ge (dig a 7) 9223372036854775808 with h1 | h1
    · exact h1
    · have := Nat.mul_le_mul_left (PW 7) h1
      rw [Nat.mul_comm 9223372036854775808] at h; omega
theorem nb_congr {b b' : Bool} {m n : Nat} (h : b = b') (hm : m % M = n % M) : nb b m = nb b' n := by unfold nb; rw [h, words_congr hm]
theorem wd_congr {m n : Nat} (hm : m % M = n % M) : wd m = wd n := by unfold wd; rw [words_congr hm]
theorem dig_HM {i : Nat} (h : i < 8) : dig HM i = if i = 7 then 9223372036854775808 else 0 := by
  unfold dig
  rw [HM_PW]
  split
  · rename_i e; subst e
    rw [Nat.mul_div_cancel _ (PW_pos 7)]
  · obtain ⟨d, hd⟩ : ∃ d, 7 = (d + 1) + i := ⟨7 - i - 1, by omega⟩
    rw [hd, PW_add, ← Nat.mul_assoc, Nat.mul_div_cancel _ (PW_pos i), PW_succ, ← Nat.mul_assoc, Nat.mul_mod_left]
theorem HM_lt : HM < M := by have := M_HM; have := HM_pos; omega
theorem limit_words : spl (words 0) 7 [.int .u64 9223372036854775808] = words HM := by
  have := wf_spl (dig 0) (show 7 < 8 by omega) 9223372036854775808
  refine Eq.trans this (wf_words fun i hi => ?_)
  rw [dig_HM hi, dig_zero]
theorem sb_zero_neg' {z : Int} (h : z < 0) (hm : z.natAbs < M) : wd (sb 0 z.natAbs) = iw z := by
  unfold iw
  refine wd_congr ?_
  rw [rs_neg h (by omega)]
  unfold sb
  rw [Nat.mod_eq_of_lt hm]
  congr 1
  omega
theorem iw_nonneg {z : Int} (h : 0 ≤ z) (hm : z.natAbs < M) : wd z.natAbs = iw z := by
  unfold iw
  rw [rs_pos h (by omega)]
  congr 1
  omega
theorem sg_pos {a b : Nat} : sg a b > 0 ↔ b < a := by unfold sg; split <;> (try split) <;> omega
theorem sg_zero {a b : Nat} : sg a b = 0 ↔ a = b := by unfold sg; split <;> (try split) <;> omega
theorem sg_nonneg {a b : Nat} : sg a b ≥ 0 ↔ b ≤ a := by unfold sg; split <;> (try split) <;> omega
end Go.WD

/- The law ShareRounds; its tree is printed by rxgen.py. -/
import Derived.Test.YtcleogdmobdnpacGreatRDoorWdT
import Derived.Test.YtcleogdmobdnpacGreatRDoorSrD
import Derived.Test.YtcleogdmobdnpacGreatRDoorSdA
import Derived.Test.YtcleogdmobdnpacGreatRDoorWdM
namespace Go.WD
/-! ### Integers around a fraction -/
theorem frac_bounds (r : Rat) : 0 ≤ r - (r.floor : Rat) ∧ r - (r.floor : Rat) < 1 := by
  have h1 := Rat.floor_le r
  have h2 := Rat.lt_floor_add_one r
  rw [Rat.intCast_add] at h2
  have h3 : ((1 : Int) : Rat) = 1 := rfl
  rw [h3] at h2
  grind
theorem near_bounds (r : Rat) : -(1/2) ≤ r - ((r + 1/2).floor : Rat) ∧ r - ((r + 1/2).floor : Rat) < 1/2 := by
  have := frac_bounds (r + 1/2)
  grind
theorem ceil_gap (r : Rat) : -(-r).floor - r.floor = if r.den = 1 then 0 else 1 := by
  have h1 := frac_bounds r
  have h2 := frac_bounds (-r)
  split
  · rename_i h
    have hr : r = ((r.num : Int) : Rat) := by
      apply Rat.ext
      · rw [Rat.num_intCast]
      · rw [Rat.den_intCast]; exact h
    rw [hr]
    rw [← Rat.intCast_neg, Rat.floor_intCast, Rat.floor_intCast]; omega
  · rename_i h
    have hne : r ≠ (r.floor : Rat) := fun e => h (by rw [e, Rat.den_intCast])
    have hne2 : -r ≠ ((-r).floor : Rat) := fun e => h (by have := congrArg Rat.den e; rw [Rat.den_intCast, Rat.neg_den] at this; exact this)
    have h3 : (0 : Rat) < ((-(-r).floor - r.floor : Int) : Rat) := by
      rw [Rat.intCast_sub, Rat.intCast_neg]; grind
    have h4 : ((-(-r).floor - r.floor : Int) : Rat) < ((2 : Int) : Rat) := by
      rw [Rat.intCast_sub, Rat.intCast_neg]
      have : ((2 : Int) : Rat) = 2 := rfl
      rw [this]; grind
    have h5 := Rat.intCast_lt_intCast.1 h4
    have h6 := Rat.intCast_lt_intCast.1 (show ((0 : Int) : Rat) < _ from h3)
    omega
theorem floor_near {r : Rat} {k : Nat} (h : r.floor.natAbs < 2 ^ k) : (r + 1 / 2).floor.natAbs < 2 ^ (k + 1) := by
  have h1 : r.floor ≤ (r + 1 / 2).floor := Rat.floor_monotone (by grind)
  have h2 : (r + 1 / 2).floor ≤ (r + 1).floor := Rat.floor_monotone (by grind)
  rw [Rat.floor_add_one] at h2
  rw [Nat.pow_succ]
  have := Nat.pow_pos (n := k) (show 0 < 2 by omega)
  omega
end Go.WD
namespace Go.Proofs.YtcleogdmobdnpacGreatRDoor
open Go.RowKit Go.RX Go.WD
theorem sgR_lt {r s : Rat} (h : r < s) : sgR r s = -1 := by unfold sgR; rw [if_pos h]
theorem sgR_ge {r s : Rat} (h : s ≤ r) : 0 ≤ sgR r s := by
  unfold sgR; rw [if_neg (Rat.not_lt.2 h)]; split <;> omega
theorem sgI_ge {r : Rat} (h : 0 ≤ r) : 0 ≤ sgI r.num 0 := by
  have := Rat.num_nonneg.2 h
  unfold sgI; rw [if_neg (by omega)]; split <;> omega
end Go.Proofs.YtcleogdmobdnpacGreatRDoor

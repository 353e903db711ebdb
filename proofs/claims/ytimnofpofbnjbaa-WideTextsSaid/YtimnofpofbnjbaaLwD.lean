/- The law WideEnds returns true. -/
import Derived.Test.YtimnofpofbnjbaaLwC
import Derived.Test.YtimnofpofbnjbaaLwE
namespace Go.Proofs.Ytimnofpofbnjbaa
open Go.RowKit Go.RX Go.WD Go.IntWalk

theorem s20 {a b : Value} : 0 < #[a, b].size := Nat.zero_lt_succ _
theorem s21 {a b : Value} : 1 < #[a, b].size := Nat.lt_succ_self _
theorem s30 {a b c : Value} : 0 < #[a, b, c].size := Nat.zero_lt_succ _
theorem s31 {a b c : Value} : 1 < #[a, b, c].size := Nat.succ_lt_succ (Nat.zero_lt_succ _)
theorem s32 {a b c : Value} : 2 < #[a, b, c].size := Nat.lt_succ_self _
theorem walk_of {P : Program} {f : FuncId} {args : List Value} {H : PH} {W : World} (h : Con P f args H fun v H' => v = .bool true ∧ PH.le H H') (hW : H.In W) : Calls P f args.toArray W fun e W' => e = .returned (.bool true) ∧ Below W.heap.size W W' :=
  (h W hW).mono fun _ _ ⟨_, _, he, hs, hv, hl⟩ => ⟨by rw [he, hv], hs.toExt hW hl⟩
theorem Div_2 (x : Nat) : Det Try.prog 22 [wd x, iw 2] (.tuple #[iw (toI x / 2), iw (toI x % 2), .int .i64 0]) := by
  have h := det_Div x (rs 2)
  have hf := toI_fits x
  rw [toI_rs (fitsS (by omega) (by omega)), divV_fits (by omega) (by unfold Fits at hf ⊢; omega)] at h
  exact h
theorem tok {z : Int} (h : Fits z) : told z = .tuple #[iw z, .int .i64 0] := told_fits h
end Go.Proofs.Ytimnofpofbnjbaa

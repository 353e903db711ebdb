/- Contracts of package wide: Add, Sub, Mul, Of, Int, Sign, Cmp. -/
import Derived.Test.YtcleogdmobdnpaaGreatWdI
import Derived.Test.YtcleogdmobdnpaaGreatWdM
import Derived.Test.YtcleogdmobdnpaaGreatRxJ
namespace Go.Proofs.YtcleogdmobdnpaaGreat
open Go.RowKit Go.RX Go.WD Go.IntWalk

theorem natAbs_lt_mul {x y : Int} (hx : x.natAbs < M) (hy : y.natAbs < M) : x.natAbs * y.natAbs < PW 16 := by
  rw [show (16 : Nat) = 8 + 8 from rfl, PW_add, ← M_def]
  exact Nat.mul_lt_mul'' hx hy
/-! ### The map of operations -/
theorem uU8 : Tryz.prog.underlying 5 = some (.int .u8) := by kernel_rfl
/-! ### Of, Int, Sign, Cmp -/
theorem wrap_u64n (n : Int) : IntKind.u64.wrap n = ((n % 18446744073709551616).toNat : Int) := by
  rw [IntKind.wrap_u64]; omega
theorem put0 (u : Nat) : spl (words 0) 0 [.int .u64 (u : Int)] = wf fun j => if j = 0 then u else 0 := by
  refine Eq.trans (wf_spl (dig 0) (show 0 < 8 by omega) u) (wf_congr fun i _ => ?_)
  rw [dig_zero]
theorem det_Of (n : Int) (h0 : -9223372036854775808 ≤ n) (h1 : n < 9223372036854775808) : Det Tryz.prog 39 [.int .i64 n] (iw n) := by
  have hw := words_small (n := n) (by omega) (by omega)
  refine det_of_tree mixed tr_Of np_Of rfl (pd_rq ⟨n, rfl⟩ (pd_br (b := decide (n < 0)) rfl (fun h => ?_) (fun h => ?_)))
  · have hn := of_decide_eq_true h
    refine ⟨fun l => ∃ k, 1 ≤ k ∧ k ≤ 8 ∧ l = [.int .i64 (k : Nat), .agg (wf fun j => if j < k then (if j = 0 then (n % 18446744073709551616).toNat else 18446744073709551615) else 0)], fun l => (8 - intOf (l.getD 0 undef)).toNat, ⟨1, by omega, by omega, ?_⟩, ?_⟩
    · simp only [rxs, z_wide, wrap_u64n, put0]
      congr 3
    · rintro vals - ⟨k, hk1, hk, rfl⟩
      refine pd_rq ⟨_, rfl⟩ (pd_br (b := decide ((k : Int) < 8)) rfl (fun h => ?_) (fun h => ?_))
      · have hk : k < 8 := by simp at h; omega
        have e3 : IntKind.i64.wrap ((k : Int) + 1) = ((k + 1 : Nat) : Int) := i64n (k + 1) (by omega)
        refine pd_rq ⟨_, _, rfl⟩ (pd_rq ⟨?_, ?_⟩ ?_)
        · show (0 : Int) ≤ (k : Int); omega
        · show (k : Int) < 8; omega
        · refine ⟨⟨k + 1, by omega, by omega, ?_⟩, ?_⟩
          · have := wf_spl (fun j => if j < k then (if j = 0 then (n % 18446744073709551616).toNat else 18446744073709551615) else 0) hk 18446744073709551615
            simp only [rxs, e3]
            rw [show (18446744073709551615 : Int) = ((18446744073709551615 : Nat) : Int) from rfl, this]
            congr 3
            refine wf_congr fun i _ => ?_
            by_cases e : i = k
            · subst e; rw [if_pos rfl, if_pos (show i < i + 1 by omega), if_neg (show ¬ i = 0 by omega)]
            · rw [if_neg e]
              by_cases e' : i < k
              · rw [if_pos e', if_pos (show i < k + 1 by omega)]
              · rw [if_neg e', if_neg (show ¬ i < k + 1 by omega)]
          · simp only [rxs, e3]
            omega
      · have hk : k = 8 := by simp at h; omega
        subst hk
        refine pd_ret rfl ?_
        simp only [rxs, retV, iw, wd, hw]
        congr 1
        exact wf_congr fun i hi => by rw [if_pos hi, if_pos hn]
  · have hn := of_decide_eq_false h
    refine pd_ret rfl ?_
    simp only [rxs, retV, z_wide, wrap_u64n, put0, iw, wd, hw]
    congr 1
    exact wf_congr fun i hi => by rw [if_neg hn]
/-- What Int gives. -/
def told64 (z : Int) : Value := if -9223372036854775808 ≤ z ∧ z < 9223372036854775808 then .tuple #[.int .i64 z, .int .i64 0] else .tuple #[.int .i64 0, .int .i64 6]
theorem wrap64n (n : Int) : -9223372036854775808 ≤ IntKind.i64.wrap n ∧ IntKind.i64.wrap n < 9223372036854775808 ∧ (IntKind.i64.wrap n - n) % 18446744073709551616 = 0 := by
  rw [IntKind.wrap_i64]; omega
theorem toI_zero (a : Nat) : toI a = 0 ↔ a % M = 0 := by
  have := M_HM
  have hl := Nat.mod_lt a M_pos
  unfold toI; split <;> omega
end Go.Proofs.YtcleogdmobdnpaaGreat

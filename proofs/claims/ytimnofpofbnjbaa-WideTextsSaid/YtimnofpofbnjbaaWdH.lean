/- Contracts of package wide: differences, Neg, Abs; bits.Mul64. -/
import Derived.Test.YtimnofpofbnjbaaWdG
namespace Go.Proofs.Ytimnofpofbnjbaa
open Go.RowKit Go.RX Go.WD Go.IntWalk

theorem det_diff (x y : Int) (hx : x.natAbs < M) (hy : y.natAbs < M) : ∃ v, Det Try.prog 88 [nm x, nm y] (.tuple #[.agg v, .bool (decide (M ≤ (x - y).natAbs))]) ∧ v.size = 9 ∧ oneAll v ∧ ((x - y).natAbs < M → Value.agg v = nm (x - y)) := by
  obtain ⟨v, hd, hs, h1, hv⟩ := det_sum x (-y) hx (by rw [Int.natAbs_neg]; exact hy)
  rw [← Int.sub_eq_add_neg] at hd hv
  refine ⟨v, det_of_tree mixed tr_diff np_diff rfl ?_, hs, h1, hv⟩
  refine pd_rq ⟨nb_size _ _, nb_one _ _⟩ (pd_rq ⟨nb_size _ _, nb_one _ _⟩ (pd_call (det_turned y hy) rfl (pd_call hd rfl ?_)))
  exact pd_rq ⟨_, rfl, Nat.zero_lt_succ _⟩ (pd_rq ⟨_, rfl, Nat.lt_succ_self _⟩ (pd_rq ⟨hs, h1⟩ (pd_ret rfl rfl)))
theorem told_form (z : Int) : ∃ a b, told z = .tuple #[wd a, b] := by
  unfold told; split
  · exact ⟨_, _, rfl⟩
  · exact ⟨_, _, rfl⟩
theorem det_Neg (a : Nat) : Det Try.prog 18 [wd a] (told (-(toI a))) := by
  obtain ⟨u, v, hf⟩ := told_form (-(toI a))
  have ht := det_told (-(toI a)) (by rw [Int.natAbs_neg]; exact toI_abs_lt a)
  rw [hf] at ht ⊢
  refine det_of_tree mixed tr_Neg np_Neg rfl (pd_rq ⟨words_size a, words_one a⟩ (pd_call (det_read a) rfl (pd_call (det_turned (toI a) (toI_abs_lt a)) rfl (pd_call ht rfl ?_))))
  exact pd_rq ⟨_, rfl, Nat.zero_lt_succ _⟩ (pd_rq ⟨_, rfl, Nat.lt_succ_self _⟩ (pd_rq ⟨words_size _, words_one _⟩ (pd_ret rfl rfl)))
end Go.Proofs.Ytimnofpofbnjbaa

/- Contracts of package wide: numbers. -/
import Derived.Test.YtcleogdmobdnpacGreatRDoorWdB
import Derived.Test.YtcleogdmobdnpacGreatRDoorWdA
namespace Go.Proofs.YtcleogdmobdnpacGreatRDoor
open Go.RowKit Go.RX Go.WD Go.IntWalk

theorem shr63 (d : Nat) (h : d < 18446744073709551616) : ((d : Int).fdiv (2 ^ (min ((63 : Int).toNat) (IntKind.bits .u64))) == 1) = decide (¬ d < 9223372036854775808) := by
  have e : (2 : Int) ^ (min ((63 : Int).toNat) (IntKind.bits .u64)) = 9223372036854775808 := by decide
  rw [e, Int.fdiv_eq_ediv_of_nonneg _ (by omega), Bool.eq_iff_iff]
  simp
  omega

theorem sb_zero_neg {a : Nat} (h : ¬ a % M < HM) : sb 0 a % M = (toI a).natAbs % M := by
  have hl := Nat.mod_lt a M_pos
  have := M_HM
  unfold sb toI
  rw [if_neg h]
  congr 1
  omega
theorem toI_abs_lt (a : Nat) : (toI a).natAbs < M := by
  obtain ⟨h1, h2⟩ := toI_fits a
  have := M_HM
  omega

theorem det_read (a : Nat) : Det Tryz.prog 90 [wd a] (nm (toI a)) := by
  have hl := Nat.mod_lt a M_pos
  have hM := M_HM
  have htop := top_bit a
  have hc : ∀ ρ : List Value, D Tryz.prog (wd a :: ρ) (.op2 .eql .u64 (.op2 .shr .u64 (.cell (.v 0) 7 0 noI) (.k (.int .u64 (63)))) (.k (.int .u64 (1)))) = .bool (decide (¬ a % M < HM)) := fun ρ => by
    simp only [rxs, words_get a (show 7 < 8 by omega)]
    rw [shr63 _ (dig_lt a 7)]
    congr 1
    rw [Bool.eq_iff_iff, decide_eq_true_iff, decide_eq_true_iff, htop]
  refine det_of_tree mixed tr_read np_read rfl (pd_rq ⟨words_size a, words_one a⟩ (pd_rq ⟨dig a 7, ?_⟩ (pd_br (hc []) (fun h => ?_) (fun h => ?_))))
  · simp only [rxs, words_get a (show 7 < 8 by omega)]
  · have h : ¬ a % M < HM := by simpa using h
    refine pd_call (det_minus 0 a) (by simp only [rxs, z_size]; rfl) ?_
    refine pd_rq ⟨_, rfl, Nat.zero_lt_succ _⟩ (pd_rq ⟨_, rfl, Nat.lt_succ_self _⟩ (pd_rq ⟨words_size _, words_one _⟩ (pd_ret rfl ?_)))
    simp only [List.map_cons, List.map_nil, retV]
    rw [D, List.cons_append, List.nil_append, hc]
    simp only [rxs]
    show nb _ (sb 0 a) = nm (toI a)
    exact nb_congr (by rw [Bool.eq_iff_iff]; simp [toI, if_neg h]; omega) (sb_zero_neg h)
  · have h : a % M < HM := by simpa using h
    refine pd_ret rfl ?_
    simp only [List.map_cons, List.map_nil, retV]
    rw [D, hc]
    simp only [rxs]
    show nb _ a = nm (toI a)
    refine nb_congr (by rw [Bool.eq_iff_iff]; simp [toI, if_pos h]; omega) ?_
    unfold toI; rw [if_pos h, Int.natAbs_natCast, Nat.mod_mod]

theorem nb_get0 (b : Bool) (n : Nat) : (#[Value.bool b] ++ words n).getD 0 undef = .bool b := rfl
theorem nb_cells (b : Bool) (n : Nat) : (nb b n).cells = #[.bool b] ++ words n := rfl
/-- What Told gives. -/
def told (z : Int) : Value := if -(HM : Int) ≤ z ∧ z < HM then .tuple #[iw z, .int .i64 0] else .tuple #[wd 0, .int .i64 6]
theorem det_told (z : Int) (hz : z.natAbs < M) : Det Tryz.prog 54 [nm z] (told z) := by
  have hH := HM_lt
  refine det_of_tree mixed tr_told np_told rfl (pd_rq ⟨nb_size _ _, nb_one _ _⟩ (pd_call (det_order z.natAbs HM) ?_ (pd_rq ⟨_, rfl⟩ ?_)))
  · simp only [rxs, nm, nb_cells, nb_sub, z_size, limit_words]
    rfl
  · rw [Nat.mod_eq_of_lt hz, Nat.mod_eq_of_lt hH]
    refine pd_br (b := decide (sg z.natAbs HM > 0)) rfl (fun h => ?_) (fun h => ?_)
    · have h := sg_pos.1 (of_decide_eq_true h)
      refine pd_ret rfl ?_
      simp only [rxs, retV, z_wide, told]
      rw [if_neg (by omega)]
    · have h : ¬ HM < z.natAbs := fun e => of_decide_eq_false h (sg_pos.2 e)
      refine pd_br (b := sg z.natAbs HM == 0) rfl (fun h1 => ?_) (fun h1 => ?_)
      · have h1 := sg_zero.1 (by simpa using h1)
        refine pd_rq ⟨_, rfl⟩ (pd_br (b := !decide (z < 0)) rfl (fun h2 => ?_) (fun h2 => ?_))
        · have h2 : ¬ z < 0 := by simpa using h2
          refine pd_ret rfl ?_
          simp only [rxs, retV, z_wide, told]
          rw [if_neg (by omega)]
        · have h2 : z < 0 := by simpa using h2
          refine pd_call (det_minus 0 z.natAbs) ?_ (pd_rq ⟨_, rfl, Nat.zero_lt_succ _⟩ (pd_rq ⟨_, rfl, Nat.lt_succ_self _⟩ (pd_rq ⟨words_size _, words_one _⟩ (pd_ret rfl ?_))))
          · simp only [rxs, nm, nb_cells, nb_sub, z_size]; rfl
          · simp only [rxs, retV, told]
            rw [if_pos (by omega), ← sb_zero_neg' h2 hz]; rfl
      · have h1 : z.natAbs ≠ HM := fun e => by simp [sg_zero.2 e] at h1
        refine pd_rq ⟨_, rfl⟩ (pd_br (b := decide (z < 0)) rfl (fun h2 => ?_) (fun h2 => ?_))
        · have h2 : z < 0 := by simpa using h2
          refine pd_call (det_minus 0 z.natAbs) ?_ (pd_rq ⟨_, rfl, Nat.zero_lt_succ _⟩ (pd_rq ⟨_, rfl, Nat.lt_succ_self _⟩ (pd_rq ⟨words_size _, words_one _⟩ (pd_ret rfl ?_))))
          · simp only [rxs, nm, nb_cells, nb_sub, z_size]; rfl
          · simp only [rxs, retV, told]
            rw [if_pos (by omega), ← sb_zero_neg' h2 hz]; rfl
        · have h2 : ¬ z < 0 := by simpa using h2
          refine pd_ret rfl ?_
          simp only [told]
          rw [if_pos (by omega), ← iw_nonneg (by omega) hz]
          rfl

theorem det_turned (z : Int) (hz : z.natAbs < M) : Det Tryz.prog 159 [nm z] (nm (-z)) := by
  refine det_of_tree mixed tr_turned np_turned rfl (pd_rq ⟨nb_size _ _, nb_one _ _⟩ (pd_rq ⟨_, rfl⟩ (pd_call (det_of (!decide (z < 0)) z.natAbs) rfl (pd_rq ⟨nb_size _ _, nb_one _ _⟩ (pd_ret rfl ?_)))))
  show nb _ _ = nm (-z)
  unfold nm
  refine nb_congr ?_ (by rw [Int.natAbs_neg])
  rw [Bool.eq_iff_iff]
  simp [Nat.mod_eq_of_lt hz]
  omega
set_option maxHeartbeats 2000000 in
/-- The sum of two numbers: whether it is too big, and if not, what it is. -/
theorem det_sum (x y : Int) (hx : x.natAbs < M) (hy : y.natAbs < M) : ∃ v, Det Tryz.prog 140 [nm x, nm y] (.tuple #[.agg v, .bool (decide (M ≤ (x + y).natAbs))]) ∧ v.size = 9 ∧ oneAll v ∧ ((x + y).natAbs < M → Value.agg v = nm (x + y)) := by
  have hcr : cr x.natAbs y.natAbs 8 = if M ≤ x.natAbs + y.natAbs then 1 else 0 := by
    unfold cr
    rw [← M_def, Nat.mod_eq_of_lt hx, Nat.mod_eq_of_lt hy]
    split
    · rename_i h
      rw [Nat.div_eq_sub_div M_pos h, Nat.div_eq_of_lt (by omega)]
    · rename_i h
      exact Nat.div_eq_of_lt (by omega)
  by_cases hs : (decide (x < 0)) = (decide (y < 0))
  · have hs' : x < 0 ↔ y < 0 := by simpa using hs
    refine ⟨#[.bool (decide (x < 0) && !decide ((x.natAbs + y.natAbs) % M = 0))] ++ words (x.natAbs + y.natAbs), det_of_tree mixed tr_sum np_sum rfl ?_, nb_size _ _, nb_one _ _, fun h => ?_⟩
    · refine pd_rq ⟨nb_size _ _, nb_one _ _⟩ (pd_rq ⟨nb_size _ _, nb_one _ _⟩ (pd_rq ⟨_, rfl⟩ (pd_rq ⟨_, rfl⟩ (pd_true ?_ ?_))))
      · show Value.bool (false != (decide (x < 0) == decide (y < 0))) = _
        rw [hs]; simp
      · refine pd_call (det_plus x.natAbs y.natAbs) rfl (pd_rq ⟨_, rfl, Nat.zero_lt_succ _⟩ (pd_rq ⟨_, rfl, Nat.lt_succ_self _⟩ (pd_rq ⟨words_size _, words_one _⟩ ?_)))
        refine pd_call (det_of (decide (x < 0)) (x.natAbs + y.natAbs)) rfl (pd_rq ⟨_, rfl⟩ (pd_rq ⟨nb_size _ _, nb_one _ _⟩ (pd_ret rfl ?_)))
        show Value.tuple #[nb _ _, .bool (decide (((cr x.natAbs y.natAbs 8 : Nat) : Int) > 0))] = _
        rw [hcr]
        have : (decide ((((if M ≤ x.natAbs + y.natAbs then 1 else 0 : Nat)) : Int) > 0)) = decide (M ≤ (x + y).natAbs) := by
          rw [Bool.eq_iff_iff, decide_eq_true_iff, decide_eq_true_iff]
          split <;> omega
        rw [this]; rfl
    · show nb _ _ = nb _ _
      refine nb_congr ?_ (congrArg (· % M) (by omega))
      rw [Nat.mod_eq_of_lt (by omega), Bool.eq_iff_iff]
      simp; omega
  · have hs' : ¬ (x < 0 ↔ y < 0) := by simpa using hs
    have hlt : (x + y).natAbs < M := by omega
    have hsub : ∀ a b : Nat, a < M → b ≤ a → sb a b % M = (a - b) % M := fun a b ha hb => by
      unfold sb
      rw [Nat.mod_eq_of_lt (show b < M by omega), show a + (M - b) = (a - b) + M from by omega, Nat.add_mod_right]
    refine ⟨#[.bool (decide (x + y < 0))] ++ words (x + y).natAbs, det_of_tree mixed tr_sum np_sum rfl ?_, nb_size _ _, nb_one _ _, fun h => rfl⟩
    refine pd_rq ⟨nb_size _ _, nb_one _ _⟩ (pd_rq ⟨nb_size _ _, nb_one _ _⟩ (pd_rq ⟨_, rfl⟩ (pd_rq ⟨_, rfl⟩ (pd_false ?_ ?_))))
    · show Value.bool (false != (decide (x < 0) == decide (y < 0))) = _
      rw [beq_eq_false_iff_ne.2 hs]; rfl
    · refine pd_call (det_order x.natAbs y.natAbs) (by simp only [rxs, nm, nb_cells]; rfl) (pd_rq ⟨_, rfl⟩ (pd_br (b := decide (sg (x.natAbs % M) (y.natAbs % M) ≥ 0)) rfl (fun h => ?_) (fun h => ?_)))
      · have h := sg_nonneg.1 (of_decide_eq_true h)
        rw [Nat.mod_eq_of_lt hx, Nat.mod_eq_of_lt hy] at h
        have e := hsub x.natAbs y.natAbs hx h
        refine pd_call (det_minus x.natAbs y.natAbs) (by simp only [rxs, nm, nb_cells]; rfl) (pd_rq ⟨_, rfl, Nat.zero_lt_succ _⟩ (pd_rq ⟨_, rfl, Nat.lt_succ_self _⟩ (pd_rq ⟨words_size _, words_one _⟩ ?_)))
        refine pd_call (det_of (decide (x < 0)) (sb x.natAbs y.natAbs)) (by simp only [rxs, nm, nb_cells]; rfl) (pd_rq ⟨nb_size _ _, nb_one _ _⟩ (pd_ret rfl ?_))
        show Value.tuple #[nb _ _, .bool false] = .tuple #[nb _ _, _]
        rw [nb_congr (b' := decide (x + y < 0)) (n := (x + y).natAbs) ?_ (by rw [e]; exact congrArg (· % M) (by omega)), decide_eq_false (show ¬ M ≤ (x + y).natAbs by omega)]
        rw [e, Nat.mod_eq_of_lt (by omega), Bool.eq_iff_iff]
        simp; omega
      · have h : ¬ y.natAbs ≤ x.natAbs := fun e => of_decide_eq_false h (sg_nonneg.2 (by rw [Nat.mod_eq_of_lt hx, Nat.mod_eq_of_lt hy]; exact e))
        have e := hsub y.natAbs x.natAbs hy (by omega)
        refine pd_call (det_minus y.natAbs x.natAbs) (by simp only [rxs, nm, nb_cells]; rfl) (pd_rq ⟨_, rfl, Nat.zero_lt_succ _⟩ (pd_rq ⟨_, rfl, Nat.lt_succ_self _⟩ (pd_rq ⟨words_size _, words_one _⟩ ?_)))
        refine pd_call (det_of (decide (y < 0)) (sb y.natAbs x.natAbs)) (by simp only [rxs, nm, nb_cells]; rfl) (pd_rq ⟨nb_size _ _, nb_one _ _⟩ (pd_ret rfl ?_))
        show Value.tuple #[nb _ _, .bool false] = .tuple #[nb _ _, _]
        rw [nb_congr (b' := decide (x + y < 0)) (n := (x + y).natAbs) ?_ (by rw [e]; exact congrArg (· % M) (by omega)), decide_eq_false (show ¬ M ≤ (x + y).natAbs by omega)]
        rw [e, Nat.mod_eq_of_lt (by omega), Bool.eq_iff_iff]
        simp; omega
end Go.Proofs.YtcleogdmobdnpacGreatRDoor
namespace Go.Proofs.YtcleogdmobdnpacGreatRDoor
open Go.RowKit Go.RX Go.WD Go.IntWalk

theorem det_diff (x y : Int) (hx : x.natAbs < M) (hy : y.natAbs < M) : ∃ v, Det Tryz.prog 141 [nm x, nm y] (.tuple #[.agg v, .bool (decide (M ≤ (x - y).natAbs))]) ∧ v.size = 9 ∧ oneAll v ∧ ((x - y).natAbs < M → Value.agg v = nm (x - y)) := by
  obtain ⟨v, hd, hs, h1, hv⟩ := det_sum x (-y) hx (by rw [Int.natAbs_neg]; exact hy)
  rw [← Int.sub_eq_add_neg] at hd hv
  refine ⟨v, det_of_tree mixed tr_diff np_diff rfl ?_, hs, h1, hv⟩
  refine pd_rq ⟨nb_size _ _, nb_one _ _⟩ (pd_rq ⟨nb_size _ _, nb_one _ _⟩ (pd_call (det_turned y hy) rfl (pd_call hd rfl ?_)))
  exact pd_rq ⟨_, rfl, Nat.zero_lt_succ _⟩ (pd_rq ⟨_, rfl, Nat.lt_succ_self _⟩ (pd_rq ⟨hs, h1⟩ (pd_ret rfl rfl)))
theorem told_form (z : Int) : ∃ a b, told z = .tuple #[wd a, b] := by
  unfold told; split
  · exact ⟨_, _, rfl⟩
  · exact ⟨_, _, rfl⟩
end Go.Proofs.YtcleogdmobdnpacGreatRDoor

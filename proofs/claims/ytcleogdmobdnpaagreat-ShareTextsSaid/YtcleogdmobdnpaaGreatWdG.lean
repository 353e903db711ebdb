/- Contracts of package wide: numbers. -/
import Derived.Test.YtcleogdmobdnpaaGreatWdB
import Derived.Test.YtcleogdmobdnpaaGreatWdA
namespace Go.Proofs.YtcleogdmobdnpaaGreat
open Go.RowKit Go.RX Go.WD Go.IntWalk

theorem shr63 (d : Nat) (h : d < 18446744073709551616) : ((d : Int).fdiv (2 ^ (min ((63 : Int).toNat) (IntKind.bits .u64))) == 1) = decide (¬ d < 9223372036854775808) := by
  have e : (2 : Int) ^ (min ((63 : Int).toNat) (IntKind.bits .u64)) = 9223372036854775808 := by decide
  rw [e, Int.fdiv_eq_ediv_of_nonneg _ (by omega), Bool.eq_iff_iff]
  simp
  omega

theorem sb_zero_neg {a : Nat} (h : ¬ a % M < HM) : sb 0 a % M = (toI a).natAbs % M := by
  have hl := Nat.mod_lt a M_pos
  have := M_HM
  unfold sb toI
  rw [if_neg h]
  congr 1
  omega
theorem toI_abs_lt (a : Nat) : (toI a).natAbs < M := by
  obtain ⟨h1, h2⟩ := toI_fits a
  have := M_HM
  omega

theorem det_read (a : Nat) : Det Tryz.prog 105 [wd a] (nm (toI a)) := by
  have hl := Nat.mod_lt a M_pos
  have hM := M_HM
  have htop := top_bit a
  have hc : ∀ ρ : List Value, D Tryz.prog (wd a :: ρ) (.op2 .eql .u64 (.op2 .shr .u64 (.cell (.v 0) 7 0 noI) (.k (.int .u64 (63)))) (.k (.int .u64 (1)))) = .bool (decide (¬ a % M < HM)) := fun ρ => by
    simp only [rxs, words_get a (show 7 < 8 by omega)]
    rw [shr63 _ (dig_lt a 7)]
    congr 1
    rw [Bool.eq_iff_iff, decide_eq_true_iff, decide_eq_true_iff, htop]
  refine det_of_tree mixed tr_read np_read rfl (pd_rq ⟨words_size a, words_one a⟩ (pd_rq ⟨dig a 7, ?_⟩ (pd_br (hc []) (fun h => ?_) (fun h => ?_))))
  · simp only [rxs, words_get a (show 7 < 8 by omega)]
  · have h : ¬ a % M < HM := by simpa using h
    refine pd_call (det_minus 0 a) (by simp only [rxs, z_size]; rfl) ?_
    refine pd_rq ⟨_, rfl, Nat.zero_lt_succ _⟩ (pd_rq ⟨_, rfl, Nat.lt_succ_self _⟩ (pd_rq ⟨words_size _, words_one _⟩ (pd_ret rfl ?_)))
    simp only [List.map_cons, List.map_nil, retV]
    rw [D, List.cons_append, List.nil_append, hc]
    simp only [rxs]
    show nb _ (sb 0 a) = nm (toI a)
    exact nb_congr (by rw [Bool.eq_iff_iff]; simp [toI, if_neg h]; omega) (sb_zero_neg h)
  · have h : a % M < HM := by simpa using h
    refine pd_ret rfl ?_
    simp only [List.map_cons, List.map_nil, retV]
    rw [D, hc]
    simp only [rxs]
    show nb _ a = nm (toI a)
    refine nb_congr (by rw [Bool.eq_iff_iff]; simp [toI, if_pos h]; omega) ?_
    unfold toI; rw [if_pos h, Int.natAbs_natCast, Nat.mod_mod]

theorem nb_get0 (b : Bool) (n : Nat) : (#[Value.bool b] ++ words n).getD 0 undef = .bool b := rfl
theorem nb_cells (b : Bool) (n : Nat) : (nb b n).cells = #[.bool b] ++ words n := rfl
/-- What Told gives. -/
def told (z : Int) : Value := if -(HM : Int) ≤ z ∧ z < HM then .tuple #[iw z, .int .i64 0] else .tuple #[wd 0, .int .i64 6]
theorem det_told (z : Int) (hz : z.natAbs < M) : Det Tryz.prog 127 [nm z] (told z) := by
  have hH := HM_lt
  refine det_of_tree mixed tr_told np_told rfl (pd_rq ⟨nb_size _ _, nb_one _ _⟩ (pd_call (det_order z.natAbs HM) ?_ (pd_rq ⟨_, rfl⟩ ?_)))
  · simp only [rxs, nm, nb_cells, nb_sub, z_size, limit_words]
    rfl
  · rw [Nat.mod_eq_of_lt hz, Nat.mod_eq_of_lt hH]
    refine pd_br (b := decide (sg z.natAbs HM > 0)) rfl (fun h => ?_) (fun h => ?_)
    · have h := sg_pos.1 (of_decide_eq_true h)
      refine pd_ret rfl ?_
      simp only [rxs, retV, z_wide, told]
      rw [if_neg (by omega)]
    · have h : ¬ HM < z.natAbs := fun e => of_decide_eq_false h (sg_pos.2 e)
      refine pd_br (b := sg z.natAbs HM == 0) rfl (fun h1 => ?_) (fun h1 => ?_)
      · have h1 := sg_zero.1 (by simpa using h1)
        refine pd_rq ⟨_, rfl⟩ (pd_br (b := !decide (z < 0)) rfl (fun h2 => ?_) (fun h2 => ?_))
        · have h2 : ¬ z < 0 := by simpa using h2
          refine pd_ret rfl ?_
          simp only [rxs, retV, z_wide, told]
          rw [if_neg (by omega)]
        · have h2 : z < 0 := by simpa using h2
          refine pd_call (det_minus 0 z.natAbs) ?_ (pd_rq ⟨_, rfl, Nat.zero_lt_succ _⟩ (pd_rq ⟨_, rfl, Nat.lt_succ_self _⟩ (pd_rq ⟨words_size _, words_one _⟩ (pd_ret rfl ?_))))
          · simp only [rxs, nm, nb_cells, nb_sub, z_size]; rfl
          · simp only [rxs, retV, told]
            rw [if_pos (by omega), ← sb_zero_neg' h2 hz]; rfl
      · have h1 : z.natAbs ≠ HM := fun e => by simp [sg_zero.2 e] at h1
        refine pd_rq ⟨_, rfl⟩ (pd_br (b := decide (z < 0)) rfl (fun h2 => ?_) (fun h2 => ?_))
        · have h2 : z < 0 := by simpa using h2
          refine pd_call (det_minus 0 z.natAbs) ?_ (pd_rq ⟨_, rfl, Nat.zero_lt_succ _⟩ (pd_rq ⟨_, rfl, Nat.lt_succ_self _⟩ (pd_rq ⟨words_size _, words_one _⟩ (pd_ret rfl ?_))))
          · simp only [rxs, nm, nb_cells, nb_sub, z_size]; rfl
          · simp only [rxs, retV, told]
            rw [if_pos (by omega), ← sb_zero_neg' h2 hz]; rfl
        · have h2 : ¬ z < 0 := by simpa using h2
          refine pd_ret rfl ?_
          simp only [told]
          rw [if_pos (by omega), ← iw_nonneg (by omega) hz]
          rfl

end Go.Proofs.YtcleogdmobdnpaaGreat
namespace Go.Proofs.YtcleogdmobdnpaaGreat
open Go.RowKit Go.RX Go.WD Go.IntWalk

theorem told_form (z : Int) : ∃ a b, told z = .tuple #[wd a, b] := by
  unfold told; split
  · exact ⟨_, _, rfl⟩
  · exact ⟨_, _, rfl⟩
end Go.Proofs.YtcleogdmobdnpaaGreat

/- Contracts: Root, Div, Gcd, Pow. -/
import Derived.Test.YtcleogdmobdnpacGreatRDoorWdO
namespace Go.Proofs.YtcleogdmobdnpacGreatRDoor
open Go.RowKit Go.RX Go.WD Go.IntWalk

/-! ### Roots -/
theorem isq_exists (A : Nat) : ∃ s, s * s ≤ A ∧ A < (s + 1) * (s + 1) := by
  induction A with
  | zero => exact ⟨0, by omega, by omega⟩
  | succ A ih =>
    obtain ⟨s, h1, h2⟩ := ih
    by_cases h : A + 1 < (s + 1) * (s + 1)
    · exact ⟨s, by omega, h⟩
    · refine ⟨s + 1, by omega, ?_⟩
      have : (s + 1 + 1) * (s + 1 + 1) = (s + 1) * (s + 1) + 2 * (s + 1) + 1 := by simp only [Nat.add_mul, Nat.mul_add]; omega
      omega
theorem isq_unique {A s t : Nat} (h1 : s * s ≤ A) (h2 : A < (s + 1) * (s + 1)) (h3 : t * t ≤ A) (h4 : A < (t + 1) * (t + 1)) : s = t := by
  rcases Nat.lt_trichotomy s t with h | h | h
  · have := Nat.mul_le_mul (show s + 1 ≤ t by omega) (show s + 1 ≤ t by omega); omega
  · exact h
  · have := Nat.mul_le_mul (show t + 1 ≤ s by omega) (show t + 1 ≤ s by omega); omega
theorem sq_lt {A s : Nat} (hA : A < M) (h : s * s ≤ A) : s < PW 4 := by
  rcases Nat.lt_or_ge s (PW 4) with h1 | h1
  · exact h1
  · have := Nat.mul_le_mul h1 h1
    rw [← PW_add, ← M_def] at this
    omega
theorem PW4_M : PW 4 + PW 4 < M := by
  have h : PW 4 * 18446744073709551616 ≤ PW 8 := by rw [← PW_succ]; exact PW_le (by omega)
  have := PW_pos 4
  rw [M_def]; omega
/-! ### Div -/
theorem div_unique {x y q r : Int} (hy : y ≠ 0) (he : x = q * y + r) (h0 : 0 ≤ r) (h1 : r < y.natAbs) : x / y = q ∧ x % y = r := by
  rcases Int.lt_or_lt_of_ne hy with h | h
  · have := (Int.ediv_emod_unique (a := x) (b := -y) (q := -q) (r := r) (by omega)).2 ⟨by rw [he, Int.neg_mul_neg, Int.mul_comm]; omega, h0, by omega⟩
    rw [Int.ediv_neg, Int.emod_neg] at this
    exact ⟨by omega, this.2⟩
  · exact (Int.ediv_emod_unique (a := x) (b := y) (q := q) (r := r) h).2 ⟨by rw [he, Int.mul_comm]; omega, h0, by omega⟩
/-- What Div gives. -/
def divV (x y : Int) : Value :=
  if y = 0 then .tuple #[wd 0, wd 0, .int .i64 7]
  else if -(HM : Int) ≤ x / y ∧ x / y < HM then .tuple #[iw (x / y), iw (x % y), .int .i64 0]
  else .tuple #[wd 0, wd 0, .int .i64 6]
theorem told_fits {z : Int} (h : -(HM : Int) ≤ z ∧ z < HM) : told z = .tuple #[iw z, .int .i64 0] := by unfold told; rw [if_pos h]
theorem told_big {z : Int} (h : ¬ (-(HM : Int) ≤ z ∧ z < HM)) : told z = .tuple #[wd 0, .int .i64 6] := by unfold told; rw [if_neg h]
theorem nb_nm (b : Bool) (n : Nat) (h : n < M) : nb (b && !decide (n % M = 0)) n = nm (if b then -(n : Int) else n) := by
  unfold nm
  refine nb_congr ?_ ?_
  · rw [Nat.mod_eq_of_lt h]
    cases b with
    | false => simp
    | true => rw [Bool.eq_iff_iff]; simp; omega
  · cases b <;> simp
theorem det_ofn (b : Bool) (n : Nat) (h : n < M) : Det Tryz.prog 53 [.bool b, wd n] (nm (if b then -(n : Int) else n)) := by
  rw [← nb_nm b n h]; exact det_of b n
theorem mnn (a b : Nat) : (-(a : Int)) * (-(b : Int)) = ((a * b : Nat) : Int) := by rw [Int.neg_mul_neg, Int.natCast_mul]
theorem mnp (a b : Nat) : (-(a : Int)) * (b : Int) = -((a * b : Nat) : Int) := by rw [Int.neg_mul, Int.natCast_mul]
theorem mpn (a b : Nat) : (a : Int) * (-(b : Int)) = -((a * b : Nat) : Int) := by rw [Int.mul_neg, Int.natCast_mul]
/-- Quotient and remainder out of those of the magnitudes. -/
theorem div_signs (x y : Int) (Q R : Nat) (hy0 : y ≠ 0) (hRlt : R < y.natAbs) (hQR : x.natAbs = Q * y.natAbs + R) :
    x / y = (if (decide (x < 0) != decide (y < 0)) then -((if (decide (x < 0) && !decide (R = 0)) then Q + 1 else Q : Nat) : Int) else ((if (decide (x < 0) && !decide (R = 0)) then Q + 1 else Q : Nat) : Int)) ∧
    x % y = ((if (decide (x < 0) && !decide (R = 0)) then y.natAbs - R else R : Nat) : Int) := by
  obtain ⟨Y, hY⟩ := Int.eq_nat_or_neg y
  have hYn : y.natAbs = Y := by rcases hY with h | h <;> rw [h] <;> simp
  rw [hYn] at hQR hRlt ⊢
  have hs : (Q + 1) * Y = Q * Y + Y := by rw [Nat.add_mul, Nat.one_mul]
  refine div_unique hy0 ?_ ?_ ?_
  · by_cases hx : x < 0
    · by_cases hR : R = 0
      · rcases hY with hY | hY
        · have : ¬ y < 0 := by omega
          simp only [hx, this, hR, decide_true, decide_false, Bool.not_true, Bool.and_false, Bool.false_eq_true, if_false, if_true, bne_self_eq_false, Bool.true_bne, Bool.not_false]
          rw [hY, mnp]; omega
        · have : y < 0 := by omega
          simp only [hx, this, hR, decide_true, Bool.not_true, Bool.and_false, Bool.false_eq_true, if_false, bne_self_eq_false]
          rw [hY, mpn]; omega
      · rcases hY with hY | hY
        · have : ¬ y < 0 := by omega
          simp only [hx, this, hR, decide_true, decide_false, Bool.not_false, Bool.and_true, if_true, Bool.true_bne]
          rw [hY, mnp, hs]; omega
        · have : y < 0 := by omega
          simp only [hx, this, hR, decide_true, decide_false, Bool.not_false, Bool.and_true, if_true, bne_self_eq_false, Bool.false_eq_true, if_false]
          rw [hY, mpn, hs]; omega
    · rcases hY with hY | hY
      · have : ¬ y < 0 := by omega
        simp only [hx, this, decide_false, Bool.false_and, Bool.false_eq_true, if_false, bne_self_eq_false]
        rw [hY, mulN]; omega
      · have : y < 0 := by omega
        simp only [hx, this, decide_true, decide_false, Bool.false_and, Bool.false_eq_true, if_false, Bool.bne_true, Bool.not_false, if_true]
        rw [hY, mnn]; omega
  · exact Int.natCast_nonneg _
  · split
    · rename_i h
      simp at h
      omega
    · omega
/-! ### Gcd, Root -/
/-! ### Pow -/
theorem pow_big {x : Int} {i : Nat} (h : ¬ (-(HM : Int) ≤ x ^ i ∧ x ^ i < HM)) : ∀ j, ¬ (-(HM : Int) ≤ x ^ (i + j) ∧ x ^ (i + j) < HM) := by
  have hHP := HM_pos
  have h1 : HM ≤ (x ^ i).natAbs := by omega
  have hx : 2 ≤ x.natAbs := by
    rcases Nat.lt_or_ge x.natAbs 2 with h2 | h2
    · exfalso
      have : (x ^ i).natAbs ≤ 1 := by
        rw [Int.natAbs_pow]
        have := Nat.pow_le_pow_left (show x.natAbs ≤ 1 by omega) i
        rwa [Nat.one_pow] at this
      have hb := M_big
      omega
    · exact h2
  intro j
  cases j with
  | zero => exact h
  | succ j =>
    have h3 : 2 * HM ≤ (x ^ (i + (j + 1))).natAbs := by
      rw [Int.natAbs_pow, show i + (j + 1) = (i + j) + 1 from by omega, Nat.pow_succ]
      rw [Int.natAbs_pow] at h1
      have h4 : x.natAbs ^ i ≤ x.natAbs ^ (i + j) := Nat.pow_le_pow_right (by omega) (by omega)
      have := Nat.mul_le_mul (show HM ≤ x.natAbs ^ (i + j) by omega) hx
      omega
    omega
theorem pow_zero_of {x : Int} : ∀ {i : Nat}, x ^ i = 0 → x = 0 := by
  intro i
  induction i with
  | zero => intro h; rw [Int.pow_zero] at h; omega
  | succ i ih =>
    intro h
    rw [Int.pow_succ] at h
    rcases Int.mul_eq_zero.1 h with h | h
    · exact ih h
    · exact h
/-- What Pow gives. -/
def powV (x n : Int) : Value := if n < 0 ∨ 600 < n then .tuple #[wd 0, .int .i64 2] else told (x ^ n.toNat)
theorem toI_iw {z : Int} (h : -(HM : Int) ≤ z ∧ z < HM) : toI (rs z) = z := toI_rs h
set_option maxHeartbeats 1000000 in
theorem det_Pow (a : Nat) (n : Int) : Det Tryz.prog 13 [wd a, .int .i64 n] (powV (toI a) n) := by
  have hM := M_HM
  have hbig := M_big
  have hone := det_Of 1 (by omega) (by omega)
  have f1 : Fits 1 := by unfold Fits; omega
  refine det_of_tree mixed tr_Pow np_Pow rfl (pd_rq ⟨words_size a, words_one a⟩ (pd_rq ⟨_, rfl⟩ (pd_br (b := decide (n < 0)) rfl (fun h => ?_) (fun h => pd_br (b := decide (n > 600)) rfl (fun h' => ?_) (fun h' => ?_)))))
  · refine pd_ret ?_ rfl
    have h := of_decide_eq_true h
    unfold powV
    rw [if_pos (by omega)]
    simp only [rxs, retV, z_wide]
  · refine pd_ret ?_ rfl
    have h' := of_decide_eq_true h'
    unfold powV
    rw [if_pos (by omega)]
    simp only [rxs, retV, z_wide]
  have h := of_decide_eq_false h
  have h' := of_decide_eq_false h'
  obtain ⟨N, rfl⟩ : ∃ N : Nat, n = (N : Int) := ⟨n.toNat, by omega⟩
  have hP : powV (toI a) (N : Int) = told (toI a ^ N) := by unfold powV; rw [if_neg (by omega), Int.toNat_natCast]
  rw [hP]
  refine pd_call hone rfl (pd_rq ⟨words_size _, words_one _⟩ ?_)
  simp only [List.cons_append, List.nil_append]
  refine ⟨fun l => ∃ i : Nat, i ≤ N ∧ l = [.int .i64 0, .int .i64 (i : Nat), iw (toI a ^ i)] ∧ -(HM : Int) ≤ toI a ^ i ∧ toI a ^ i < HM, fun l => ((N : Int) - intOf (l.getD 1 undef)).toNat, ⟨0, by omega, by rw [Int.pow_zero]; rfl, by rw [Int.pow_zero]; omega⟩, ?_⟩
  rintro vals - ⟨i, hi, rfl, hf⟩
  simp only [List.cons_append, List.nil_append]
  refine pd_rq ⟨_, rfl⟩ (pd_br (b := decide ((i : Int) < (N : Int))) rfl (fun hl => ?_) (fun hl => ?_))
  · have hl : i < N := by have := of_decide_eq_true hl; omega
    have e3 : IntKind.i64.wrap ((i : Int) + 1) = ((i + 1 : Nat) : Int) := i64n (i + 1) (by omega)
    have hmul := det_Mul (rs (toI a ^ i)) a
    rw [toI_rs hf, ← Int.pow_succ] at hmul
    by_cases hf' : -(HM : Int) ≤ toI a ^ (i + 1) ∧ toI a ^ (i + 1) < HM
    · rw [told_fits hf'] at hmul
      refine pd_call hmul rfl (pd_rq ⟨_, rfl, Nat.zero_lt_succ _⟩ (pd_rq ⟨_, rfl, Nat.lt_succ_self _⟩ (pd_rq ⟨words_size _, words_one _⟩ (pd_rq ⟨_, rfl⟩ (pd_false rfl ?_)))))
      have hnext : ∃ i' : Nat, i' ≤ N ∧ [Value.int .i64 0, .int .i64 ((i + 1 : Nat) : Int), iw (toI a ^ (i + 1))] = [.int .i64 0, .int .i64 (i' : Nat), iw (toI a ^ i')] ∧ -(HM : Int) ≤ toI a ^ i' ∧ toI a ^ i' < HM := ⟨i + 1, by omega, rfl, hf'⟩
      refine pd_prim (eq_wide (a := rs (toI a ^ (i + 1))) (b := 0) op_Pow_10_2 rfl z_wide rfl rfl) rfl (pd_rq ⟨_, rfl⟩ (pd_br rfl (fun hz => ?_) (fun hz => ?_)))
      · have hz := of_decide_eq_true hz
        have hz : toI a ^ (i + 1) = 0 := by rw [← toI_rs hf', toI_zero, hz, Nat.zero_mod]
        have hx : toI a = 0 := pow_zero_of hz
        refine pd_ret ?_ rfl
        rw [hz, hx]
        obtain ⟨N', rfl⟩ : ∃ N', N = N' + 1 := ⟨N - 1, by omega⟩
        rw [Int.pow_succ, Int.mul_zero, told_fits (by omega)]
        rfl
      · refine pd_call hone rfl (pd_prim (eq_wide (a := rs (toI a ^ (i + 1))) (b := rs 1) op_Pow_10_6 rfl rfl rfl rfl) rfl (pd_rq ⟨_, rfl⟩ (pd_br rfl (fun hz1 => ?_) (fun hz1 => ?_))))
        · refine pd_call hone rfl (pd_prim (eq_wide (a := a) (b := rs 1) op_Pow_10_10 rfl rfl rfl rfl) rfl (pd_rq ⟨_, rfl⟩ (pd_br rfl (fun hz2 => ?_) (fun hz2 => ?_))))
          · have hz2 := of_decide_eq_true hz2
            have hx : toI a = 1 := by
              rw [rs_mod, ← rs_toI] at hz2
              exact (rs_inj (toI_fits a) f1).1 hz2
            refine pd_ret ?_ rfl
            rw [hx]
            simp only [Int.one_pow]
            rw [told_fits f1]
            rfl
          · simp only [pd, List.nil_append, List.getD_cons_zero, rxs, e3]
            exact ⟨hnext, by omega⟩
        · simp only [pd, List.nil_append, List.getD_cons_zero, rxs, e3]
          exact ⟨hnext, by omega⟩
    · rw [told_big hf'] at hmul
      refine pd_call hmul rfl (pd_rq ⟨_, rfl, Nat.zero_lt_succ _⟩ (pd_rq ⟨_, rfl, Nat.lt_succ_self _⟩ (pd_rq ⟨words_size _, words_one _⟩ (pd_rq ⟨_, rfl⟩ (pd_true rfl (pd_ret ?_ rfl))))))
      obtain ⟨d, rfl⟩ := Nat.exists_eq_add_of_lt hl
      have := pow_big hf' d
      rw [show i + 1 + d = i + d + 1 from by omega] at this
      rw [told_big this]
      simp only [rxs, retV, z_wide]
  · have hl : i = N := by have := of_decide_eq_false hl; omega
    subst hl
    refine pd_ret ?_ rfl
    rw [told_fits hf]
    rfl
end Go.Proofs.YtcleogdmobdnpacGreatRDoor

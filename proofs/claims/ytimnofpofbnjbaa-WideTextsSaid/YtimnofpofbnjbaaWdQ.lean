/- Contracts: Root, Div, Gcd, Pow. -/
import Derived.Test.YtimnofpofbnjbaaWdO
namespace Go.Proofs.Ytimnofpofbnjbaa
open Go.RowKit Go.RX Go.WD Go.IntWalk

/-! ### Roots -/
theorem isq_exists (A : Nat) : ∃ s, s * s ≤ A ∧ A < (s + 1) * (s + 1) := by
  induction A with
  | zero => exact ⟨0, by omega, by omega⟩
  | succ A ih =>
    obtain ⟨s, h1, h2⟩ := ih
    by_cases h : A + 1 < (s + 1) * (s + 1)
    · exact ⟨s, by omega, h⟩
    · refine ⟨s + 1, by omega, ?_⟩
      have : (s + 1 + 1) * (s + 1 + 1) = (s + 1) * (s + 1) + 2 * (s + 1) + 1 := by simp only [Nat.add_mul, Nat.mul_add]; omega
      omega
theorem isq_unique {A s t : Nat} (h1 : s * s ≤ A) (h2 : A < (s + 1) * (s + 1)) (h3 : t * t ≤ A) (h4 : A < (t + 1) * (t + 1)) : s = t := by
  rcases Nat.lt_trichotomy s t with h | h | h
  · have := Nat.mul_le_mul (show s + 1 ≤ t by omega) (show s + 1 ≤ t by omega); omega
  · exact h
  · have := Nat.mul_le_mul (show t + 1 ≤ s by omega) (show t + 1 ≤ s by omega); omega
theorem sq_lt {A s : Nat} (hA : A < M) (h : s * s ≤ A) : s < PW 4 := by
  rcases Nat.lt_or_ge s (PW 4) with h1 | h1
  · exact h1
  · have := Nat.mul_le_mul h1 h1
    rw [← PW_add, ← M_def] at this
    omega
theorem PW4_M : PW 4 + PW 4 < M := by
  have h : PW 4 * 18446744073709551616 ≤ PW 8 := by rw [← PW_succ]; exact PW_le (by omega)
  have := PW_pos 4
  rw [M_def]; omega
set_option maxHeartbeats 1000000 in
theorem det_sroot (A s : Nat) (hA : A < M) (h1 : s * s ≤ A) (h2 : A < (s + 1) * (s + 1)) : Det Try.prog 57 [wd A] (wd s) := by
  have hb := det_bits A
  rw [Nat.mod_eq_of_lt hA] at hb
  have lA := blen_M hA
  have hlA := blen_lt A
  refine det_of_tree mixed tr_sroot np_sroot rfl (pd_rq ⟨words_size A, words_one A⟩ (pd_call hb rfl (pd_rq ⟨_, rfl⟩ ?_)))
  simp only [List.cons_append, List.nil_append]
  refine ⟨fun l => ∃ (t : Int) (o : Nat), l = [.int .i64 t, wd o] ∧ -1 ≤ t ∧ t ≤ 255 ∧ o * o ≤ A ∧ ((t < 0 ∧ A < (o + 1) * (o + 1)) ∨ (0 ≤ t ∧ 2 ^ (t.toNat + 1) ∣ o ∧ A < (o + 2 ^ (t.toNat + 1)) * (o + 2 ^ (t.toNat + 1)))), fun l => (intOf (l.getD 0 undef) + 1).toNat, ?_, ?_⟩
  · have e : IntKind.i64.wrap ((IntKind.i64.wrap ((blen A : Int) - 1)).tdiv 2) = (((blen A - 1) / 2 : Nat) : Int) := by
      rw [sub1 _ (by omega)]
      by_cases h0 : blen A = 0
      · rw [h0]; decide
      · rw [show (blen A : Int) - 1 = ((blen A - 1 : Nat) : Int) from by omega, show (2 : Int) = ((2 : Nat) : Int) from rfl, ← Int.ofNat_tdiv, i64n _ (by omega)]
    refine ⟨(((blen A - 1) / 2 : Nat) : Int), 0, ?_, by omega, by omega, by omega, .inr ⟨by omega, Nat.dvd_zero _, ?_⟩⟩
    · simp only [rxs, e, z_size]
    · rw [Int.toNat_natCast, Nat.zero_add, ← Nat.pow_add]
      exact Nat.lt_of_lt_of_le hlA (Nat.pow_le_pow_right (by omega) (by omega))
  rintro vals - ⟨t, o, rfl, ht1, ht2, ho, hcase⟩
  simp only [List.cons_append, List.nil_append]
  refine pd_rq ⟨_, rfl⟩ (pd_br (b := decide (t ≥ 0)) rfl (fun ht => ?_) (fun ht => ?_))
  · have ht := of_decide_eq_true ht
    obtain ⟨k, rfl⟩ : ∃ k : Nat, t = (k : Int) := ⟨t.toNat, by omega⟩
    rw [Int.toNat_natCast] at hcase
    obtain ⟨_, hdv, hlt⟩ := hcase.resolve_left (by omega)
    have e1 := sub1 k (by omega)
    have hQ := quoI k (by omega)
    have hR := remI k
    have hpk : 2 ^ (k + 1) = 2 ^ k + 2 ^ k := by rw [Nat.pow_succ]; omega
    have hdk : 2 ^ k ∣ o := Nat.dvd_trans ⟨2, by rw [hpk]; omega⟩ hdv
    have hoP := sq_lt hA ho
    have hkP : 2 ^ k < PW 4 := by rw [PW_pow]; exact Nat.pow_lt_pow_right (by omega) (by omega)
    have hnM : o + 2 ^ k < M := by have := PW4_M; omega
    have hor := or_u64 (dig o (k / 64)) (2 ^ (k % 64)) (dig_lt _ _) (by rw [W_pow]; exact Nat.pow_lt_pow_right (by omega) (by omega))
    have hput : Value.agg (spl (words o) (k / 64) [.int .u64 ((dig o (k / 64) ||| 2 ^ (k % 64) : Nat) : Int)]) = wd (o + 2 ^ k) := by rw [words_bit hdv (by omega)]; rfl
    have hsq : orn ((o + 2 ^ k) * (o + 2 ^ k)) 8 = 0 ↔ (o + 2 ^ k) * (o + 2 ^ k) < M := orn_eight (by
      rw [show (16 : Nat) = 8 + 8 from rfl, PW_add, ← M_def]
      exact Nat.mul_lt_mul'' hnM hnM)
    -- what is left for the next round
    have hnext : ∀ o' : Nat, o' * o' ≤ A → A < (o' + 2 ^ k) * (o' + 2 ^ k) → 2 ^ k ∣ o' → (∃ (t : Int) (o : Nat), [Value.int .i64 ((k : Int) - 1), wd o'] = [.int .i64 t, wd o] ∧ -1 ≤ t ∧ t ≤ 255 ∧ o * o ≤ A ∧ ((t < 0 ∧ A < (o + 1) * (o + 1)) ∨ (0 ≤ t ∧ 2 ^ (t.toNat + 1) ∣ o ∧ A < (o + 2 ^ (t.toNat + 1)) * (o + 2 ^ (t.toNat + 1))))) ∧ ((k : Int) - 1 + 1).toNat < ((k : Int) + 1).toNat := fun o' g1 g2 g3 => by
      refine ⟨⟨(k : Int) - 1, o', rfl, by omega, by omega, g1, ?_⟩, by omega⟩
      by_cases hk0 : k = 0
      · left
        subst hk0
        rw [Nat.pow_zero] at g2
        exact ⟨by omega, g2⟩
      · right
        rw [show ((k : Int) - 1).toNat + 1 = k from by omega]
        exact ⟨by omega, g3, g2⟩
    refine pd_rq ⟨?_, ?_⟩ (pd_rq ?_ (pd_rq ⟨dig o (k / 64), ?_⟩ (pd_call (det_times' (o + 2 ^ k) (o + 2 ^ k) hnM hnM) ?_ ?_)))
    · simp only [rxs, hQ]; omega
    · simp only [rxs, hQ]; omega
    · simp only [Rq.holds, rxs, hR]; omega
    · simp only [rxs, hQ, words_get o (show k / 64 < 8 by omega)]
    · simp only [rxs, hQ, hR, words_get o (show k / 64 < 8 by omega), bit_u64 (k % 64) (by omega), hor, hput]
    · refine pd_rq ⟨_, rfl, Nat.zero_lt_succ _⟩ (pd_rq ⟨_, rfl, Nat.lt_succ_self _⟩ (pd_rq ⟨words_size _, words_one _⟩ (pd_rq ⟨_, rfl⟩ (pd_br (b := decide ((o + 2 ^ k) * (o + 2 ^ k) < M)) ?_ (fun hc => ?_) (fun hc => ?_)))))
      · simp only [rxs]
        congr 1
        rw [Bool.eq_iff_iff, decide_eq_true_iff, ← hsq]
        simp
      · have hc := of_decide_eq_true hc
        have hord := det_order ((o + 2 ^ k) * (o + 2 ^ k)) A
        rw [Nat.mod_eq_of_lt hc, Nat.mod_eq_of_lt hA] at hord
        refine pd_call hord rfl (pd_rq ⟨_, rfl⟩ (pd_br (b := decide (sg ((o + 2 ^ k) * (o + 2 ^ k)) A ≤ 0)) rfl (fun hd => ?_) (fun hd => ?_)))
        · have hd := of_decide_eq_true hd
          have hle : (o + 2 ^ k) * (o + 2 ^ k) ≤ A := by
            rcases Nat.lt_or_ge A ((o + 2 ^ k) * (o + 2 ^ k)) with h | h
            · have := sg_pos.2 h; omega
            · exact h
          have hh := hnext (o + 2 ^ k) hle (by rw [hpk, ← Nat.add_assoc] at hlt; exact hlt) ((Nat.dvd_add_right hdk).2 (Nat.dvd_refl _))
          simp only [pd, List.nil_append, List.getD_cons_zero, rxs, hQ, hR, e1, words_get o (show k / 64 < 8 by omega), bit_u64 (k % 64) (by omega), hor, hput]
          exact hh
        · have hd := of_decide_eq_false hd
          have hgt : A < (o + 2 ^ k) * (o + 2 ^ k) := sg_pos.1 (by omega)
          have hh := hnext o ho hgt hdk
          simp only [pd, List.nil_append, List.getD_cons_zero, rxs, e1]
          exact hh
      · have hc := of_decide_eq_false hc
        have hh := hnext o ho (by omega) hdk
        simp only [pd, List.nil_append, List.getD_cons_zero, rxs, e1]
        exact hh
  · have ht := of_decide_eq_false ht
    obtain ⟨_, hlt⟩ := hcase.resolve_right (by omega)
    rw [isq_unique h1 h2 ho hlt]
    exact pd_ret rfl rfl

/-! ### Div -/
theorem div_unique {x y q r : Int} (hy : y ≠ 0) (he : x = q * y + r) (h0 : 0 ≤ r) (h1 : r < y.natAbs) : x / y = q ∧ x % y = r := by
  rcases Int.lt_or_lt_of_ne hy with h | h
  · have := (Int.ediv_emod_unique (a := x) (b := -y) (q := -q) (r := r) (by omega)).2 ⟨by rw [he, Int.neg_mul_neg, Int.mul_comm]; omega, h0, by omega⟩
    rw [Int.ediv_neg, Int.emod_neg] at this
    exact ⟨by omega, this.2⟩
  · exact (Int.ediv_emod_unique (a := x) (b := y) (q := q) (r := r) h).2 ⟨by rw [he, Int.mul_comm]; omega, h0, by omega⟩
/-- What Div gives. -/
def divV (x y : Int) : Value :=
  if y = 0 then .tuple #[wd 0, wd 0, .int .i64 7]
  else if -(HM : Int) ≤ x / y ∧ x / y < HM then .tuple #[iw (x / y), iw (x % y), .int .i64 0]
  else .tuple #[wd 0, wd 0, .int .i64 6]
theorem told_fits {z : Int} (h : -(HM : Int) ≤ z ∧ z < HM) : told z = .tuple #[iw z, .int .i64 0] := by unfold told; rw [if_pos h]
theorem told_big {z : Int} (h : ¬ (-(HM : Int) ≤ z ∧ z < HM)) : told z = .tuple #[wd 0, .int .i64 6] := by unfold told; rw [if_neg h]
theorem nb_nm (b : Bool) (n : Nat) (h : n < M) : nb (b && !decide (n % M = 0)) n = nm (if b then -(n : Int) else n) := by
  unfold nm
  refine nb_congr ?_ ?_
  · rw [Nat.mod_eq_of_lt h]
    cases b with
    | false => simp
    | true => rw [Bool.eq_iff_iff]; simp; omega
  · cases b <;> simp
theorem det_ofn (b : Bool) (n : Nat) (h : n < M) : Det Try.prog 41 [.bool b, wd n] (nm (if b then -(n : Int) else n)) := by
  rw [← nb_nm b n h]; exact det_of b n
theorem mnn (a b : Nat) : (-(a : Int)) * (-(b : Int)) = ((a * b : Nat) : Int) := by rw [Int.neg_mul_neg, Int.natCast_mul]
theorem mnp (a b : Nat) : (-(a : Int)) * (b : Int) = -((a * b : Nat) : Int) := by rw [Int.neg_mul, Int.natCast_mul]
theorem mpn (a b : Nat) : (a : Int) * (-(b : Int)) = -((a * b : Nat) : Int) := by rw [Int.mul_neg, Int.natCast_mul]
/-- Quotient and remainder out of those of the magnitudes. -/
theorem div_signs (x y : Int) (Q R : Nat) (hy0 : y ≠ 0) (hRlt : R < y.natAbs) (hQR : x.natAbs = Q * y.natAbs + R) :
    x / y = (if (decide (x < 0) != decide (y < 0)) then -((if (decide (x < 0) && !decide (R = 0)) then Q + 1 else Q : Nat) : Int) else ((if (decide (x < 0) && !decide (R = 0)) then Q + 1 else Q : Nat) : Int)) ∧
    x % y = ((if (decide (x < 0) && !decide (R = 0)) then y.natAbs - R else R : Nat) : Int) := by
  obtain ⟨Y, hY⟩ := Int.eq_nat_or_neg y
  have hYn : y.natAbs = Y := by rcases hY with h | h <;> rw [h] <;> simp
  rw [hYn] at hQR hRlt ⊢
  have hs : (Q + 1) * Y = Q * Y + Y := by rw [Nat.add_mul, Nat.one_mul]
  refine div_unique hy0 ?_ ?_ ?_
  · by_cases hx : x < 0
    · by_cases hR : R = 0
      · rcases hY with hY | hY
        · have : ¬ y < 0 := by omega
          simp only [hx, this, hR, decide_true, decide_false, Bool.not_true, Bool.and_false, Bool.false_eq_true, if_false, if_true, bne_self_eq_false, Bool.true_bne, Bool.not_false]
          rw [hY, mnp]; omega
        · have : y < 0 := by omega
          simp only [hx, this, hR, decide_true, Bool.not_true, Bool.and_false, Bool.false_eq_true, if_false, bne_self_eq_false]
          rw [hY, mpn]; omega
      · rcases hY with hY | hY
        · have : ¬ y < 0 := by omega
          simp only [hx, this, hR, decide_true, decide_false, Bool.not_false, Bool.and_true, if_true, Bool.true_bne]
          rw [hY, mnp, hs]; omega
        · have : y < 0 := by omega
          simp only [hx, this, hR, decide_true, decide_false, Bool.not_false, Bool.and_true, if_true, bne_self_eq_false, Bool.false_eq_true, if_false]
          rw [hY, mpn, hs]; omega
    · rcases hY with hY | hY
      · have : ¬ y < 0 := by omega
        simp only [hx, this, decide_false, Bool.false_and, Bool.false_eq_true, if_false, bne_self_eq_false]
        rw [hY, mulN]; omega
      · have : y < 0 := by omega
        simp only [hx, this, decide_true, decide_false, Bool.false_and, Bool.false_eq_true, if_false, Bool.bne_true, Bool.not_false, if_true]
        rw [hY, mnn]; omega
  · exact Int.natCast_nonneg _
  · split
    · rename_i h
      simp at h
      omega
    · omega
set_option maxHeartbeats 1000000 in
theorem det_Div (a b : Nat) : Det Try.prog 22 [wd a, wd b] (divV (toI a) (toI b)) := by
  have hM := M_HM
  have hHP := HM_pos
  have fa := toI_fits a
  have fb := toI_fits b
  unfold Fits at fa fb
  have ha := toI_abs_lt a
  have hb := toI_abs_lt b
  have hz := toI_zero b
  have hbig := M_big
  have hra := det_read a
  have hrb := det_read b
  refine det_of_tree mixed tr_Div np_Div rfl (pd_rq ⟨words_size a, words_one a⟩ (pd_rq ⟨words_size b, words_one b⟩ (pd_prim (eq_wide (a := b) (b := 0) op_Div_1_2 rfl z_wide rfl rfl) rfl ?_)))
  rw [Nat.zero_mod]
  refine pd_rq ⟨_, rfl⟩ (pd_br rfl (fun h => ?_) (fun h => ?_))
  · have h := of_decide_eq_true h
    refine pd_ret ?_ rfl
    unfold divV
    rw [if_pos (hz.2 h)]
    simp only [rxs, retV, z_wide]
  have h := of_decide_eq_false h
  have hy0 : toI b ≠ 0 := fun e => h (hz.1 e)
  generalize toI a = x at *
  generalize toI b = y at *
  have hov := det_over x.natAbs y.natAbs ha hb (by omega)
  obtain ⟨Q, hQ⟩ : ∃ Q, Q = x.natAbs / y.natAbs := ⟨_, rfl⟩
  obtain ⟨R, hR⟩ : ∃ R, R = x.natAbs % y.natAbs := ⟨_, rfl⟩
  have hRlt : R < y.natAbs := by rw [hR]; exact Nat.mod_lt _ (by omega)
  have hQR : x.natAbs = Q * y.natAbs + R := by rw [hQ, hR]; exact (Nat.div_add_mod' _ _).symm
  have hQle : Q ≤ x.natAbs := by rw [hQ]; exact Nat.div_le_self _ _
  rw [← hQ, ← hR] at hov
  obtain ⟨dq, dr⟩ := div_signs x y Q R hy0 hRlt hQR
  obtain ⟨c, hc⟩ : ∃ c, c = (decide (x < 0) && !decide (R = 0)) := ⟨_, rfl⟩
  rw [← hc] at dq dr
  obtain ⟨Q', hQ'⟩ : ∃ Q' : Nat, Q' = (if c then Q + 1 else Q) := ⟨_, rfl⟩
  obtain ⟨R', hR'⟩ : ∃ R' : Nat, R' = (if c then y.natAbs - R else R) := ⟨_, rfl⟩
  rw [← hQ'] at dq
  rw [← hR'] at dr
  have hQM : Q' < M := by
    have : Q' ≤ Q + 1 := by rw [hQ']; split <;> omega
    have : Q + 1 < M ∨ Q = HM := by omega
    omega
  have hRM : R' < HM := by
    have hRy : R' < y.natAbs := by
      rw [hR']
      split
      · rename_i h; rw [hc] at h; simp at h; omega
      · exact hRlt
    omega
  refine pd_call hra rfl (pd_call hrb rfl (pd_rq ⟨nb_size _ _, nb_one _ _⟩ (pd_rq ⟨nb_size _ _, nb_one _ _⟩ (pd_call hov rfl (pd_rq ⟨_, rfl, Nat.zero_lt_succ _⟩ (pd_rq ⟨_, rfl, Nat.lt_succ_self _⟩ (pd_rq ⟨words_size _, words_one _⟩ (pd_rq ⟨words_size _, words_one _⟩ ?_))))))))
  simp only [List.cons_append, List.nil_append]
  refine ⟨fun l => l = [.bool c], ?_, ?_⟩
  · refine pd_rq ⟨_, rfl⟩ (pd_br (b := decide (x < 0)) rfl (fun h1 => ?_) (fun h1 => ?_))
    · refine pd_call (det_zero R) rfl (pd_rq ⟨_, rfl⟩ ?_)
      show [Value.bool (!decide (R % M = 0))] = [Value.bool c]
      rw [hc, h1, Nat.mod_eq_of_lt (by omega)]; rfl
    · show [Value.bool false] = [Value.bool c]
      rw [hc, h1]; rfl
  rintro vals - rfl
  simp only [List.cons_append, List.nil_append]
  refine ⟨fun l => l = [wd Q', wd R'], ?_, ?_⟩
  · refine pd_rq ⟨_, rfl⟩ (pd_br rfl (fun h1 => ?_) (fun h1 => ?_))
    · have hRn : R ≠ 0 := by rw [hc] at h1; simp at h1; exact h1.2
      refine pd_call (det_plus Q 1) ?_ (pd_rq ⟨_, rfl, Nat.zero_lt_succ _⟩ (pd_rq ⟨_, rfl, Nat.lt_succ_self _⟩ (pd_rq ⟨words_size _, words_one _⟩ ?_)))
      · simp only [rxs, z_size]
        rw [show (1 : Int) = ((1 : Nat) : Int) from rfl, put_word 1 (by omega)]
        rfl
      refine pd_call (det_minus y.natAbs R) rfl (pd_rq ⟨_, rfl, Nat.zero_lt_succ _⟩ (pd_rq ⟨_, rfl, Nat.lt_succ_self _⟩ (pd_rq ⟨words_size _, words_one _⟩ ?_)))
      show [wd (Q + 1), wd (sb y.natAbs R)] = [wd Q', wd R']
      rw [hQ', hR', h1, if_pos rfl, if_pos rfl, wd_congr (sb_sub hb (Nat.le_of_lt hRlt))]
    · show [wd Q, wd R] = [wd Q', wd R']
      rw [hQ', hR', h1]; rfl
  rintro vals - rfl
  simp only [List.cons_append, List.nil_append]
  have ho := det_ofn (decide (x < 0) != decide (y < 0)) Q' hQM
  rw [← dq] at ho
  have hqM : (x / y).natAbs < M := by rw [dq]; split <;> omega
  have ht := det_told (x / y) hqM
  refine pd_rq ⟨_, rfl⟩ (pd_rq ⟨_, rfl⟩ (pd_call ho ?_ ?_))
  · show [Value.bool (true != (decide (x < 0) == decide (y < 0))), wd Q'] = _
    congr 2
    cases decide (x < 0) <;> cases decide (y < 0) <;> rfl
  by_cases hf : -(HM : Int) ≤ x / y ∧ x / y < HM
  · rw [told_fits hf] at ht
    refine pd_call ht rfl (pd_rq ⟨_, rfl, Nat.zero_lt_succ _⟩ (pd_rq ⟨_, rfl, Nat.lt_succ_self _⟩ (pd_rq ⟨words_size _, words_one _⟩ (pd_rq ⟨_, rfl⟩ (pd_false rfl ?_)))))
    have ho2 := det_ofn false R' (by omega)
    rw [if_neg (by simp), ← dr] at ho2
    have ht2 := det_told (x % y) (by rw [dr]; omega)
    rw [told_fits (by rw [dr]; omega)] at ht2
    refine pd_call ho2 rfl (pd_call ht2 rfl (pd_rq ⟨_, rfl, Nat.zero_lt_succ _⟩ (pd_rq ⟨_, rfl, Nat.lt_succ_self _⟩ (pd_rq ⟨words_size _, words_one _⟩ (pd_ret ?_ rfl)))))
    unfold divV
    rw [if_neg hy0, if_pos hf]
    rfl
  · rw [told_big hf] at ht
    refine pd_call ht rfl (pd_rq ⟨_, rfl, Nat.zero_lt_succ _⟩ (pd_rq ⟨_, rfl, Nat.lt_succ_self _⟩ (pd_rq ⟨words_size _, words_one _⟩ (pd_rq ⟨_, rfl⟩ (pd_true rfl (pd_ret ?_ rfl))))))
    unfold divV
    rw [if_neg hy0, if_neg hf]
    simp only [rxs, retV, z_wide]
    rfl

/-! ### Gcd, Root -/
theorem det_Gcd (a b : Nat) : Det Try.prog 24 [wd a, wd b] (told (Nat.gcd (toI a).natAbs (toI b).natAbs : Nat)) := by
  have hM := M_HM
  have hHP := HM_pos
  have fa := toI_fits a
  have fb := toI_fits b
  unfold Fits at fa fb
  have hgl : Nat.gcd (toI a).natAbs (toI b).natAbs < M := by
    by_cases h : (toI a).natAbs = 0
    · rw [h, Nat.gcd_zero_left]; omega
    · have := Nat.gcd_le_left (toI b).natAbs (show 0 < (toI a).natAbs by omega); omega
  have ho := det_ofn false _ hgl
  rw [if_neg (by simp)] at ho
  obtain ⟨u, v, hf⟩ := told_form (Nat.gcd (toI a).natAbs (toI b).natAbs : Nat)
  have ht := det_told (Nat.gcd (toI a).natAbs (toI b).natAbs : Nat) (by rw [Int.natAbs_natCast]; exact hgl)
  rw [hf] at ht ⊢
  exact det_of_tree mixed tr_Gcd np_Gcd rfl (pd_rq ⟨words_size a, words_one a⟩ (pd_rq ⟨words_size b, words_one b⟩ (pd_call (det_read a) rfl (pd_rq ⟨_, rfl, nb_size _ _⟩ (pd_call (det_read b) rfl (pd_rq ⟨_, rfl, nb_size _ _⟩ (pd_call (det_common _ _ (toI_abs_lt a) (toI_abs_lt b)) rfl (pd_call ho rfl (pd_call ht rfl (pd_rq ⟨_, rfl, Nat.zero_lt_succ _⟩ (pd_rq ⟨_, rfl, Nat.lt_succ_self _⟩ (pd_rq ⟨words_size _, words_one _⟩ (pd_ret rfl rfl)))))))))))))
theorem det_Root_neg (a : Nat) (h : toI a < 0) : Det Try.prog 26 [wd a] (.tuple #[wd 0, .int .i64 2]) := by
  refine det_of_tree mixed tr_Root np_Root rfl (pd_rq ⟨words_size a, words_one a⟩ (pd_call (det_read a) rfl (pd_rq ⟨nb_size _ _, nb_one _ _⟩ (pd_rq ⟨_, rfl⟩ (pd_true ?_ (pd_ret ?_ rfl))))))
  · show Value.bool (decide (toI a < 0)) = _
    rw [decide_eq_true h]
  · simp only [rxs, retV, z_wide]
theorem det_Root (a s : Nat) (h : 0 ≤ toI a) (h1 : (s : Int) * s ≤ toI a) (h2 : toI a < ((s : Int) + 1) * ((s : Int) + 1)) : Det Try.prog 26 [wd a] (.tuple #[wd s, .int .i64 0]) := by
  have hs := det_sroot (toI a).natAbs s (toI_abs_lt a) (by rw [← Int.natCast_mul] at h1; omega) (by rw [← Int.natCast_one, ← Int.natCast_add, ← Int.natCast_mul] at h2; omega)
  refine det_of_tree mixed tr_Root np_Root rfl (pd_rq ⟨words_size a, words_one a⟩ (pd_call (det_read a) rfl (pd_rq ⟨nb_size _ _, nb_one _ _⟩ (pd_rq ⟨_, rfl⟩ (pd_false ?_ (pd_call hs rfl (pd_rq ⟨words_size _, words_one _⟩ (pd_ret rfl rfl))))))))
  show Value.bool (decide (toI a < 0)) = _
  rw [decide_eq_false (by omega)]

/-! ### Pow -/
theorem pow_big {x : Int} {i : Nat} (h : ¬ (-(HM : Int) ≤ x ^ i ∧ x ^ i < HM)) : ∀ j, ¬ (-(HM : Int) ≤ x ^ (i + j) ∧ x ^ (i + j) < HM) := by
  have hHP := HM_pos
  have h1 : HM ≤ (x ^ i).natAbs := by omega
  have hx : 2 ≤ x.natAbs := by
    rcases Nat.lt_or_ge x.natAbs 2 with h2 | h2
    · exfalso
      have : (x ^ i).natAbs ≤ 1 := by
        rw [Int.natAbs_pow]
        have := Nat.pow_le_pow_left (show x.natAbs ≤ 1 by omega) i
        rwa [Nat.one_pow] at this
      have hb := M_big
      omega
    · exact h2
  intro j
  cases j with
  | zero => exact h
  | succ j =>
    have h3 : 2 * HM ≤ (x ^ (i + (j + 1))).natAbs := by
      rw [Int.natAbs_pow, show i + (j + 1) = (i + j) + 1 from by omega, Nat.pow_succ]
      rw [Int.natAbs_pow] at h1
      have h4 : x.natAbs ^ i ≤ x.natAbs ^ (i + j) := Nat.pow_le_pow_right (by omega) (by omega)
      have := Nat.mul_le_mul (show HM ≤ x.natAbs ^ (i + j) by omega) hx
      omega
    omega
theorem pow_zero_of {x : Int} : ∀ {i : Nat}, x ^ i = 0 → x = 0 := by
  intro i
  induction i with
  | zero => intro h; rw [Int.pow_zero] at h; omega
  | succ i ih =>
    intro h
    rw [Int.pow_succ] at h
    rcases Int.mul_eq_zero.1 h with h | h
    · exact ih h
    · exact h
/-- What Pow gives. -/
def powV (x n : Int) : Value := if n < 0 ∨ 600 < n then .tuple #[wd 0, .int .i64 2] else told (x ^ n.toNat)
theorem toI_iw {z : Int} (h : -(HM : Int) ≤ z ∧ z < HM) : toI (rs z) = z := toI_rs h
set_option maxHeartbeats 1000000 in
theorem det_Pow (a : Nat) (n : Int) : Det Try.prog 25 [wd a, .int .i64 n] (powV (toI a) n) := by
  have hM := M_HM
  have hbig := M_big
  have hone := det_Of 1 (by omega) (by omega)
  have f1 : Fits 1 := by unfold Fits; omega
  refine det_of_tree mixed tr_Pow np_Pow rfl (pd_rq ⟨words_size a, words_one a⟩ (pd_rq ⟨_, rfl⟩ (pd_br (b := decide (n < 0)) rfl (fun h => ?_) (fun h => pd_br (b := decide (n > 600)) rfl (fun h' => ?_) (fun h' => ?_)))))
  · refine pd_ret ?_ rfl
    have h := of_decide_eq_true h
    unfold powV
    rw [if_pos (by omega)]
    simp only [rxs, retV, z_wide]
  · refine pd_ret ?_ rfl
    have h' := of_decide_eq_true h'
    unfold powV
    rw [if_pos (by omega)]
    simp only [rxs, retV, z_wide]
  have h := of_decide_eq_false h
  have h' := of_decide_eq_false h'
  obtain ⟨N, rfl⟩ : ∃ N : Nat, n = (N : Int) := ⟨n.toNat, by omega⟩
  have hP : powV (toI a) (N : Int) = told (toI a ^ N) := by unfold powV; rw [if_neg (by omega), Int.toNat_natCast]
  rw [hP]
  refine pd_call hone rfl (pd_rq ⟨words_size _, words_one _⟩ ?_)
  simp only [List.cons_append, List.nil_append]
  refine ⟨fun l => ∃ i : Nat, i ≤ N ∧ l = [.int .i64 0, .int .i64 (i : Nat), iw (toI a ^ i)] ∧ -(HM : Int) ≤ toI a ^ i ∧ toI a ^ i < HM, fun l => ((N : Int) - intOf (l.getD 1 undef)).toNat, ⟨0, by omega, by rw [Int.pow_zero]; rfl, by rw [Int.pow_zero]; omega⟩, ?_⟩
  rintro vals - ⟨i, hi, rfl, hf⟩
  simp only [List.cons_append, List.nil_append]
  refine pd_rq ⟨_, rfl⟩ (pd_br (b := decide ((i : Int) < (N : Int))) rfl (fun hl => ?_) (fun hl => ?_))
  · have hl : i < N := by have := of_decide_eq_true hl; omega
    have e3 : IntKind.i64.wrap ((i : Int) + 1) = ((i + 1 : Nat) : Int) := i64n (i + 1) (by omega)
    have hmul := det_Mul (rs (toI a ^ i)) a
    rw [toI_rs hf, ← Int.pow_succ] at hmul
    by_cases hf' : -(HM : Int) ≤ toI a ^ (i + 1) ∧ toI a ^ (i + 1) < HM
    · rw [told_fits hf'] at hmul
      refine pd_call hmul rfl (pd_rq ⟨_, rfl, Nat.zero_lt_succ _⟩ (pd_rq ⟨_, rfl, Nat.lt_succ_self _⟩ (pd_rq ⟨words_size _, words_one _⟩ (pd_rq ⟨_, rfl⟩ (pd_false rfl ?_)))))
      have hnext : ∃ i' : Nat, i' ≤ N ∧ [Value.int .i64 0, .int .i64 ((i + 1 : Nat) : Int), iw (toI a ^ (i + 1))] = [.int .i64 0, .int .i64 (i' : Nat), iw (toI a ^ i')] ∧ -(HM : Int) ≤ toI a ^ i' ∧ toI a ^ i' < HM := ⟨i + 1, by omega, rfl, hf'⟩
      refine pd_prim (eq_wide (a := rs (toI a ^ (i + 1))) (b := 0) op_Pow_10_2 rfl z_wide rfl rfl) rfl (pd_rq ⟨_, rfl⟩ (pd_br rfl (fun hz => ?_) (fun hz => ?_)))
      · have hz := of_decide_eq_true hz
        have hz : toI a ^ (i + 1) = 0 := by rw [← toI_rs hf', toI_zero, hz, Nat.zero_mod]
        have hx : toI a = 0 := pow_zero_of hz
        refine pd_ret ?_ rfl
        rw [hz, hx]
        obtain ⟨N', rfl⟩ : ∃ N', N = N' + 1 := ⟨N - 1, by omega⟩
        rw [Int.pow_succ, Int.mul_zero, told_fits (by omega)]
        rfl
      · refine pd_call hone rfl (pd_prim (eq_wide (a := rs (toI a ^ (i + 1))) (b := rs 1) op_Pow_10_6 rfl rfl rfl rfl) rfl (pd_rq ⟨_, rfl⟩ (pd_br rfl (fun hz1 => ?_) (fun hz1 => ?_))))
        · refine pd_call hone rfl (pd_prim (eq_wide (a := a) (b := rs 1) op_Pow_10_10 rfl rfl rfl rfl) rfl (pd_rq ⟨_, rfl⟩ (pd_br rfl (fun hz2 => ?_) (fun hz2 => ?_))))
          · have hz2 := of_decide_eq_true hz2
            have hx : toI a = 1 := by
              rw [rs_mod, ← rs_toI] at hz2
              exact (rs_inj (toI_fits a) f1).1 hz2
            refine pd_ret ?_ rfl
            rw [hx]
            simp only [Int.one_pow]
            rw [told_fits f1]
            rfl
          · simp only [pd, List.nil_append, List.getD_cons_zero, rxs, e3]
            exact ⟨hnext, by omega⟩
        · simp only [pd, List.nil_append, List.getD_cons_zero, rxs, e3]
          exact ⟨hnext, by omega⟩
    · rw [told_big hf'] at hmul
      refine pd_call hmul rfl (pd_rq ⟨_, rfl, Nat.zero_lt_succ _⟩ (pd_rq ⟨_, rfl, Nat.lt_succ_self _⟩ (pd_rq ⟨words_size _, words_one _⟩ (pd_rq ⟨_, rfl⟩ (pd_true rfl (pd_ret ?_ rfl))))))
      obtain ⟨d, rfl⟩ := Nat.exists_eq_add_of_lt hl
      have := pow_big hf' d
      rw [show i + 1 + d = i + d + 1 from by omega] at this
      rw [told_big this]
      simp only [rxs, retV, z_wide]
  · have hl : i = N := by have := of_decide_eq_false hl; omega
    subst hl
    refine pd_ret ?_ rfl
    rw [told_fits hf]
    rfl
end Go.Proofs.Ytimnofpofbnjbaa

/- The law WideEnds returns true. -/
import Derived.Test.YtmndieeelnicpaaRRLwC
import Derived.Test.YtmndieeelnicpaaRRLwE
namespace Go.Proofs.YtmndieeelnicpaaRR
open Go.RowKit Go.RX Go.WD Go.IntWalk

theorem s20 {a b : Value} : 0 < #[a, b].size := Nat.zero_lt_succ _
theorem s21 {a b : Value} : 1 < #[a, b].size := Nat.lt_succ_self _
theorem s30 {a b c : Value} : 0 < #[a, b, c].size := Nat.zero_lt_succ _
theorem s31 {a b c : Value} : 1 < #[a, b, c].size := Nat.succ_lt_succ (Nat.zero_lt_succ _)
theorem s32 {a b c : Value} : 2 < #[a, b, c].size := Nat.lt_succ_self _
theorem walk_of {P : Program} {f : FuncId} {args : List Value} {H : PH} {W : World} (h : Con P f args H fun v H' => v = .bool true ∧ PH.le H H') (hW : H.In W) : Calls P f args.toArray W fun e W' => e = .returned (.bool true) ∧ Below W.heap.size W W' :=
  (h W hW).mono fun _ _ ⟨_, _, he, hs, hv, hl⟩ => ⟨by rw [he, hv], hs.toExt hW hl⟩
theorem Div_2 (x : Nat) : Det Try.prog 14 [wd x, iw 2] (.tuple #[iw (toI x / 2), iw (toI x % 2), .int .i64 0]) := by
  have h := det_Div x (rs 2)
  have hf := toI_fits x
  rw [toI_rs (fitsS (by omega) (by omega)), divV_fits (by omega) (by unfold Fits at hf ⊢; omega)] at h
  exact h
theorem tok {z : Int} (h : Fits z) : told z = .tuple #[iw z, .int .i64 0] := told_fits h
set_option maxRecDepth 100000 in
set_option maxHeartbeats 4000000 in
theorem con_wideEnds (a b : Nat) (H : PH) : Con Try.prog 6 [wd a, wd b] H fun v H' => v = .bool true ∧ PH.le H H' := by
  have hM := M_HM
  have hHP := HM_pos
  have hbig := M_big
  obtain ⟨P5, h510, ht1, ht2⟩ : ∃ P5 : Nat, HM = 2 * P5 ∧ twoI (-510) = -(P5 : Int) ∧ twoI 510 = (P5 : Int) := by
    obtain ⟨n, hn⟩ : ∃ n : Nat, n = 511 := ⟨_, rfl⟩
    obtain ⟨m, hm⟩ : ∃ m : Nat, m = 510 := ⟨_, rfl⟩
    have := pow_sum (a := m) (b := 1) (k := n) (by omega)
    rw [← pow_HM hn] at this
    have e1 : (-510 : Int) = -(m : Int) := by omega
    have e2 : (510 : Int) = (m : Int) := by omega
    rw [e1, e2]
    exact ⟨2 ^ m, by omega, twoI_neg m (by omega), twoI_nat m⟩
  obtain ⟨x, hx⟩ : ∃ x, x = toI a := ⟨_, rfl⟩
  obtain ⟨y, hy⟩ : ∃ y, y = toI b := ⟨_, rfl⟩
  have fx : Fits x := hx ▸ toI_fits a
  have fy : Fits y := hy ▸ toI_fits b
  have d1 := Div_2 a
  have d2 := Div_2 b
  rw [← hx] at d1
  rw [← hy] at d2
  have dS := det_Add a b
  rw [← hx, ← hy] at dS
  unfold Fits at fx fy
  -- the halves
  obtain ⟨i, hi⟩ : ∃ i, i = x / 2 := ⟨_, rfl⟩
  obtain ⟨j, hj⟩ : ∃ j, j = x % 2 := ⟨_, rfl⟩
  obtain ⟨k, hk⟩ : ∃ k, k = y / 2 := ⟨_, rfl⟩
  obtain ⟨l, hl⟩ : ∃ l, l = y % 2 := ⟨_, rfl⟩
  rw [← hi, ← hj] at d1
  rw [← hk, ← hl] at d2
  have fi : Fits i := by unfold Fits; omega
  have fj : Fits j := by unfold Fits; omega
  have fk : Fits k := by unfold Fits; omega
  have fl : Fits l := by unfold Fits; omega
  have d3 := Add_iw fj fl
  have flow : Fits (j + l) := by unfold Fits; omega
  rw [tok flow] at d3
  have d4 := Div_2 (rs (j + l))
  rw [toI_rs flow] at d4
  obtain ⟨c, hc⟩ : ∃ c, c = (j + l) / 2 := ⟨_, rfl⟩
  obtain ⟨r, hr⟩ : ∃ r, r = (j + l) % 2 := ⟨_, rfl⟩
  rw [← hc, ← hr] at d4
  have fc : Fits c := by unfold Fits; omega
  have fr : Fits r := by unfold Fits; omega
  have d5 := Add_iw fi fk
  have fh : Fits (i + k) := by unfold Fits; omega
  rw [tok fh] at d5
  have d6 := Add_iw fh fc
  obtain ⟨t, ht⟩ : ∃ t, t = i + k + c := ⟨_, rfl⟩
  rw [← ht] at d6
  have ft : Fits t := by unfold Fits; omega
  rw [tok ft] at d6
  have hS : x + y = 2 * t + r := by omega
  have e2 := det_Of 2 (by omega) (by omega)
  refine con_of_tree mixed tr_wideEnds np_wideEnds rfl (den_rq ⟨words_size a, words_one a⟩ (den_rq ⟨words_size b, words_one b⟩ (den_call (con_works H) rfl ?_)))
  rintro _ H1 ⟨rfl, hL⟩
  refine ⟨(fun h => nomatch h), den_rq ⟨_, rfl⟩ (den_rq rfl (den_det e2 rfl (den_det d1 rfl ?_)))⟩
  refine den_rq ⟨_, rfl, s30⟩ (den_rq ⟨_, rfl, s31⟩ (den_rq ⟨_, rfl, s32⟩ (den_rq ⟨words_size _, words_one _⟩ (den_rq ⟨words_size _, words_one _⟩ (den_det e2 rfl (den_det d2 rfl ?_))))))
  refine den_rq ⟨_, rfl, s30⟩ (den_rq ⟨_, rfl, s31⟩ (den_rq ⟨_, rfl, s32⟩ (den_rq ⟨words_size _, words_one _⟩ (den_rq ⟨words_size _, words_one _⟩ (den_det d3 rfl ?_)))))
  refine den_rq ⟨_, rfl, s20⟩ (den_rq ⟨_, rfl, s21⟩ (den_rq ⟨words_size _, words_one _⟩ (den_det e2 rfl (den_det d4 rfl ?_))))
  simp only [List.cons_append, List.nil_append]
  refine den_rq ⟨_, rfl, s30⟩ (den_rq ⟨_, rfl, s31⟩ (den_rq ⟨_, rfl, s32⟩ (den_rq ⟨words_size _, words_one _⟩ (den_rq ⟨words_size _, words_one _⟩ (den_det d5 rfl ?_)))))
  refine den_rq ⟨_, rfl, s20⟩ (den_rq ⟨_, rfl, s21⟩ (den_rq ⟨words_size _, words_one _⟩ (den_det d6 rfl ?_)))
  refine den_rq ⟨_, rfl, s20⟩ (den_rq ⟨_, rfl, s21⟩ (den_rq ⟨words_size _, words_one _⟩ ?_))
  simp only [List.cons_append, List.nil_append]
  refine den_rq ⟨_, rfl⟩ (den_rq rfl (den_rq ⟨_, rfl⟩ (den_rq rfl (den_rq ⟨_, rfl⟩ (den_rq rfl (den_rq ⟨_, rfl⟩ (den_rq rfl (den_rq ⟨_, rfl⟩ (den_rq rfl (den_rq ⟨_, rfl⟩ (den_rq rfl ?_)))))))))))
  -- does the sum fit?
  have hfit : ∀ z : Int, (decide (sgI z (twoI (-510)) ≥ 0) && decide (sgI z (twoI 510) < 0)) = decide (-(P5 : Int) ≤ z ∧ z < P5) := fun z => by
    rw [ht1, ht2, Bool.eq_iff_iff, Bool.and_eq_true, decide_eq_true_iff, decide_eq_true_iff, decide_eq_true_iff]
    unfold sgI
    constructor
    · intro ⟨h1, h2⟩
      split at h1
      · omega
      · split at h2
        · omega
        · split at h2 <;> omega
    · intro ⟨h1, h2⟩
      rw [if_neg (by omega), if_pos h2]
      exact ⟨by split <;> omega, by omega⟩
  have c1 := Cmp_iw ft (fits_two (k := -510) (by omega) (by omega))
  have c2 := Cmp_iw ft (fits_two (k := 510) (by omega) (by omega))
  have t1 := det_two (-510) (by omega) (by omega)
  have t2 := det_two 510 (by omega) (by omega)
  generalize twoI (-510) = z1 at ht1 t1 c1 hfit
  generalize twoI 510 = z2 at ht2 t2 c2 hfit
  refine ⟨fun v H' => v = [.bool (decide (-(P5 : Int) ≤ t ∧ t < P5))] ∧ H' = H1, ?_, ?_⟩
  · refine den_det t1 rfl (den_det c1 rfl (den_rq ⟨_, rfl⟩ (den_br (b := decide (sgI t (z1) ≥ 0)) rfl (fun h => ?_) (fun h => ?_))))
    · refine den_det t2 rfl (den_det c2 rfl (den_rq ⟨_, rfl⟩ ⟨?_, rfl⟩))
      show [Value.bool (decide (sgI t (z2) < 0))] = _
      rw [← hfit t, h, Bool.true_and]
    · refine ⟨?_, rfl⟩
      show [Value.bool false] = _
      rw [← hfit t, h, Bool.false_and]
  rintro vals H2 - ⟨rfl, rfl⟩
  simp only [List.cons_append, List.nil_append]
  obtain ⟨p, q, hf⟩ := told_form (x + y)
  by_cases hfits : -(P5 : Int) ≤ t ∧ t < P5
  · rw [tok (by unfold Fits; omega)] at dS
    rw [decide_eq_true hfits]
    refine den_det dS rfl (den_rq ⟨_, rfl, s20⟩ (den_rq ⟨_, rfl, s21⟩ (den_rq ⟨words_size _, words_one _⟩ (den_rq ⟨_, rfl⟩ (den_false rfl (den_det e2 rfl ?_))))))
    have m1 := Mul_iw ft (fitsS (n := 2) (by omega) (by omega))
    have fm : Fits (t * 2) := by unfold Fits; omega
    rw [tok fm] at m1
    have m2 := Add_iw fm fr
    rw [show t * 2 + r = x + y from by omega, tok (by unfold Fits; omega)] at m2
    refine den_det m1 rfl (den_rq ⟨_, rfl, s20⟩ (den_rq ⟨_, rfl, s21⟩ (den_rq ⟨words_size _, words_one _⟩ (den_det m2 rfl (den_rq ⟨_, rfl, s20⟩ (den_rq ⟨_, rfl, s21⟩ (den_rq ⟨words_size _, words_one _⟩ (den_rq ⟨_, rfl⟩ (den_rq rfl (den_rq ⟨_, rfl⟩ (den_rq rfl (den_call (mk_is _ (rs (x + y))) rfl ?_))))))))))))
    rintro _ H3 ⟨c, rfl, hle, hb⟩
    refine ⟨fun _ => hle, den_eff (opn_callv (f := 76) (caps := #[ptr c]) (vs := [iw (x + y), .int .i64 0]) op_wideEnds_17_11 rfl rfl ent_is1 (con_is1 _ _ _ hb)) rfl ?_⟩
    rintro v H4 ⟨hv, rfl⟩
    refine ⟨fun _ => PH.le.refl _, den_ret rfl ⟨?_, hL.trans hle⟩⟩
    show v = _
    rw [hv]; simp
  · rw [bigE (by omega)] at dS
    rw [decide_eq_false hfits]
    refine den_det dS rfl (den_rq ⟨_, rfl, s20⟩ (den_rq ⟨_, rfl, s21⟩ (den_rq ⟨words_size _, words_one _⟩ (den_rq ⟨_, rfl⟩ (den_true rfl (den_call (mk_fails _ 6) rfl ?_))))))
    rintro _ H3 ⟨c, rfl, hle, hb⟩
    refine ⟨fun _ => hle, den_eff (opn_callv (f := 75) (caps := #[ptr c]) (vs := [wd 0, .int .i64 6]) op_wideEnds_14_3 rfl rfl ent_fails1 (con_fails1 _ _ _ hb)) rfl ?_⟩
    rintro v H4 ⟨hv, rfl⟩
    refine ⟨fun _ => PH.le.refl _, den_ret rfl ⟨?_, hL.trans hle⟩⟩
    show v = _
    rw [hv]; simp
end Go.Proofs.YtmndieeelnicpaaRR

/- The reference of chapter 02: Neg, Abs, Add, Sub, Mul, Div, Min, Max. Printed by mkSrD.py. -/
import Derived.Test.YtcleogdmobdnpabGreatSrA
import Derived.Test.YtcleogdmobdnpabGreatSwB
import Derived.Test.YtcleogdmobdnpabGreatSdA
namespace Go.Proofs.YtcleogdmobdnpabGreat
open Go.RowKit Go.RX Go.WD

/-- The absolute value. -/
def absQ (r : Rat) : Rat := if r.num < 0 then -r else r
theorem absQ_num (r : Rat) : (absQ r).num = (r.num.natAbs : Int) := by
  unfold absQ; split
  · rw [Rat.neg_num]; omega
  · omega
theorem absQ_den (r : Rat) : (absQ r).den = r.den := by
  unfold absQ; split
  · rw [Rat.neg_den]
  · rfl
theorem sgR_le (r s : Rat) : sgR r s ≤ 0 ↔ r ≤ s := by
  unfold sgR
  split
  · rename_i h; exact ⟨fun _ => Rat.le_of_lt h, fun _ => by omega⟩
  · rename_i h
    split
    · rename_i h2; subst h2; exact ⟨fun _ => Rat.le_refl, fun _ => by omega⟩
    · rename_i h2
      refine ⟨fun h3 => by omega, fun h3 => ?_⟩
      exact absurd (Rat.le_antisymm h3 (Rat.not_lt.1 h)) h2
theorem abs_eq (r : Rat) : -(if sgR (-r) (- -r) ≤ 0 then -r else - -r) = absQ r := by
  unfold absQ
  rw [Rat.neg_neg]
  have key : sgR (-r) r ≤ 0 ↔ 0 ≤ r := by
    rw [sgR_le]
    refine ⟨fun h => ?_, fun h => Rat.le_trans (Rat.neg_le_neg h) (by simpa using h)⟩
    rcases Rat.le_total (a := 0) (b := r) with h0 | h0
    · exact h0
    · have h1 : 0 ≤ -r := by have := Rat.neg_le_neg h0; simpa using this
      exact Rat.le_trans h1 h
  have key2 : r.num < 0 ↔ ¬ 0 ≤ r := by rw [← Rat.num_nonneg]; omega
  by_cases h : 0 ≤ r
  · rw [if_pos (key.2 h), if_neg (fun h2 => key2.1 h2 h), Rat.neg_neg]
  · rw [if_neg (fun h2 => h (key.1 h2)), if_pos (key2.2 h)]
theorem max_eq (r s : Rat) : -(if sgR (-r) (-s) ≤ 0 then -r else -s) = if sgR r s < 0 then s else r := by
  have k1 : sgR r s < 0 ↔ ¬ s ≤ r := by
    unfold sgR
    constructor
    · intro h; split at h
      · rename_i h2; exact Rat.not_le.2 h2
      · split at h <;> omega
    · intro h; rw [if_pos (Rat.not_le.1 h)]; omega
  have k2 : sgR (-r) (-s) ≤ 0 ↔ s ≤ r := by
    rw [sgR_le]
    exact ⟨fun h => by have := Rat.neg_le_neg h; simpa using this, fun h => Rat.neg_le_neg h⟩
  by_cases h : s ≤ r
  · rw [if_pos (k2.2 h), if_neg (fun h2 => k1.1 h2 h), Rat.neg_neg]
  · rw [if_neg (fun h2 => h (k2.1 h2)), if_pos (k1.2 h), Rat.neg_neg]
section
variable {H : PH} {x y : Value} {r s : Rat}
theorem words_rs (n : Nat) : words (rs (toI n)) = words n := by rw [rs_toI]; exact words_mod n
theorem told_ok {n d : Nat} (h : okB n d = true) : toldR (ratOf n d) = .tuple #[shv n d, .int .i64 0] := by
  obtain ⟨e1, e2⟩ := ok_rat h
  have f1 := toI_fits n
  have f2 := toI_fits d
  unfold Fits at f1 f2
  unfold toldR
  rw [e1, e2, if_pos ⟨f1, f2.2⟩]
  unfold shv
  rw [words_rs, words_rs]
set_option maxRecDepth 100000 in
theorem con_qZero (hx : Rr H x r) : Con Tryz.prog 70 [x] H fun u H' => PH.le H H' ∧ u = .bool (decide (r = 0)) := by
  have r1 := hx.rq
  obtain ⟨w1, w2, rfl, n1, n2⟩ := hx
  obtain ⟨l, dl, tl, hv⟩ := n1
  refine con_of_tree mixed tr_qZero np_qZero rfl (den_rq r1 (den_len op_qZero_1_3 rfl dl rfl (den_rq ⟨_, rfl⟩ (den_ret rfl ⟨PH.le.refl _, ?_⟩))))
  show Value.bool ((l.length : Int) == 0) = _
  congr 1
  rw [show decide (r = 0) = decide (r.num.natAbs = 0) from by rw [decide_eq_decide, Int.natAbs_eq_zero, Rat.num_eq_zero], ← hv, Bool.eq_iff_iff, beq_iff_eq, decide_eq_true_iff]
  refine ⟨fun h => ?_, fun h => ?_⟩
  · rw [show l = [] from List.eq_nil_of_length_eq_zero (by omega)]; rfl
  · rcases Nat.eq_zero_or_pos l.length with h0 | h0
    · omega
    · have := tl.pos.1 h0; omega
set_option maxRecDepth 100000 in
theorem con_qNeg (n d : Nat) : Con Tryz.prog 11 [shv n d] H fun u H' => PH.le H H' ∧ u = resR (okB n d) (-ratOf n d) := by
  refine con_of_tree mixed tr_qNeg np_qNeg rfl (den_rq (shv_one n d) (den_call (con_qRight n d) rfl ?_))
  rintro u1 H1 ⟨l1, rfl⟩
  simp only [List.cons_append, List.nil_append]
  refine ⟨fun h => (nomatch h), den_rq ⟨_, rfl⟩ (den_br (b := !okB n d) rfl (fun h => ?_) (fun h => ?_))⟩
  · exact den_ret (congrArg (fun z => Value.tuple #[z, .int .i64 20]) z_share) ⟨l1, by rw [not_t h]; rfl⟩
  · have h := not_f h
    refine den_call (con_qInR h) rfl ?_
    rintro u2 H2 ⟨l2, h2⟩
    simp only [List.cons_append, List.nil_append]
    refine ⟨fun h => (nomatch h), den_call (con_qTurn h2) rfl ?_⟩
    rintro u3 H3 ⟨l3, h3⟩
    simp only [List.cons_append, List.nil_append]
    refine ⟨fun h => (nomatch h), den_call (con_qOut h3) rfl ?_⟩
    rintro u4 H4 ⟨l4, rfl⟩
    obtain ⟨a, b, c, ht⟩ := toldR_form (-ratOf n d)
    unfold resR
    rw [h, if_pos rfl, ht]
    exact ⟨fun h => (nomatch h), den_rq ⟨_, rfl, Nat.zero_lt_succ _⟩ (den_rq ⟨_, rfl, Nat.lt_succ_self _⟩ (den_rq (shv_one a b) (den_ret rfl ⟨l1.trans (l2.trans (l3.trans l4)), rfl⟩)))⟩
set_option maxRecDepth 100000 in
theorem con_qAbs (n d : Nat) : Con Tryz.prog 12 [shv n d] H fun u H' => PH.le H H' ∧ u = resR (okB n d) (absQ (ratOf n d)) := by
  refine con_of_tree mixed tr_qAbs np_qAbs rfl (den_rq (shv_one n d) (den_call (con_qRight n d) rfl ?_))
  rintro u1 H1 ⟨l1, rfl⟩
  simp only [List.cons_append, List.nil_append]
  refine ⟨fun h => (nomatch h), den_rq ⟨_, rfl⟩ (den_br (b := !okB n d) rfl (fun h => ?_) (fun h => ?_))⟩
  · exact den_ret (congrArg (fun z => Value.tuple #[z, .int .i64 20]) z_share) ⟨l1, by rw [not_t h]; rfl⟩
  · have h := not_f h
    refine den_call (con_qInR h) rfl ?_
    rintro u2 H2 ⟨l2, h2⟩
    have r2 := h2.rq
    obtain ⟨w1, w2, rfl, n1, n2⟩ := h2
    have g1 := n1.one
    have hR : Rr H2 (.agg #[.bool (decide ((absQ (ratOf n d)).num < 0)), w1, .bool false, w2]) (absQ (ratOf n d)) := by
      refine ⟨w1, w2, rfl, ?_, ?_⟩
      · rw [absQ_num, Int.natAbs_natCast]; exact n1
      · rw [absQ_den]; exact n2
    rw [absQ_num, decide_eq_false (show ¬ (((ratOf n d).num.natAbs : Nat) : Int) < 0 by omega)] at hR
    simp only [List.cons_append, List.nil_append]
    refine ⟨fun h => (nomatch h), den_rq r2 (den_rq (r := .cells 1 _) ⟨g1.2.1, g1.2.2⟩ (den_call (con_qOut hR) ?_ ?_))⟩
    · show [Value.agg (((zeroV Tryz.prog 4).cells ++ w1.cells) ++ #[.bool false, w2])] = _
      rw [g1.1]; rfl
    rintro u4 H4 ⟨l4, rfl⟩
    obtain ⟨a, b, c, ht⟩ := toldR_form (absQ (ratOf n d))
    unfold resR
    rw [h, if_pos rfl, ht]
    exact ⟨fun h => (nomatch h), den_rq ⟨_, rfl, Nat.zero_lt_succ _⟩ (den_rq ⟨_, rfl, Nat.lt_succ_self _⟩ (den_rq (shv_one a b) (den_ret rfl ⟨l1.trans (l2.trans l4), rfl⟩)))⟩
set_option maxRecDepth 100000 in
theorem con_qAdd (n d m e : Nat) : Con Tryz.prog 19 [shv n d, shv m e] H fun u H' => PH.le H H' ∧ u = resR (okB n d && okB m e) (ratOf n d + ratOf m e) := by
  obtain ⟨K, hK⟩ : ∃ K, K = 512 := ⟨_, rfl⟩
  refine con_of_tree mixed tr_qAdd np_qAdd rfl (den_rq (shv_one n d) (den_rq (shv_one m e) ⟨fun vals H' => vals = [.bool (!(okB n d && okB m e))] ∧ PH.le H H', den_call (con_qRight n d) rfl ?_, ?_⟩))
  · rintro u1 H1 ⟨l1, rfl⟩
    simp only [List.cons_append, List.nil_append]
    refine ⟨fun h => (nomatch h), den_rq ⟨_, rfl⟩ (den_br (b := !okB n d) rfl (fun h => ?_) (fun h => ?_))⟩
    · exact ⟨by rw [not_t h]; rfl, l1⟩
    · refine den_call (con_qRight m e) rfl ?_
      rintro u2 H2 ⟨l2, rfl⟩
      exact ⟨fun h => (nomatch h), den_rq ⟨_, rfl⟩ ⟨by rw [not_f h]; rfl, l1.trans l2⟩⟩
  rintro vals H3 - ⟨rfl, l3⟩
  simp only [List.cons_append, List.nil_append]
  refine den_rq ⟨_, rfl⟩ (den_br rfl (fun h => ?_) (fun h => ?_))
  · exact den_ret (congrArg (fun z => Value.tuple #[z, .int .i64 20]) z_share) ⟨l3, by rw [not_t h]; rfl⟩
  · have h := not_f h
    have h' := h
    rw [Bool.and_eq_true] at h'
    refine den_call (con_qInR h'.1) rfl ?_
    rintro u4 H4 ⟨l4, h4⟩
    simp only [List.cons_append, List.nil_append]
    refine ⟨fun _ => l4, den_call (con_qInR h'.2) rfl ?_⟩
    rintro u5 H5 ⟨l5, h5⟩
    simp only [List.cons_append, List.nil_append]
    refine ⟨fun _ => l5, den_call (con_qPlus (h4.mono l5) h5 (ok_rb h'.1 hK) (ok_rb h'.2 hK) (by omega)) rfl ?_⟩
    rintro u6 H6 ⟨l6, h6⟩
    simp only [List.cons_append, List.nil_append]
    refine ⟨fun _ => l6, den_call (con_qOut h6) rfl ?_⟩
    rintro u7 H7 ⟨l7, rfl⟩
    obtain ⟨a, b, c, ht⟩ := toldR_form (ratOf n d + ratOf m e)
    unfold resR
    rw [h, if_pos rfl, ht]
    exact ⟨fun _ => l7, den_rq ⟨_, rfl, Nat.zero_lt_succ _⟩ (den_rq ⟨_, rfl, Nat.lt_succ_self _⟩ (den_rq (shv_one a b) (den_ret rfl ⟨l3.trans (l4.trans (l5.trans (l6.trans l7))), rfl⟩)))⟩
set_option maxRecDepth 100000 in
theorem con_qSub (n d m e : Nat) : Con Tryz.prog 20 [shv n d, shv m e] H fun u H' => PH.le H H' ∧ u = resR (okB n d && okB m e) (ratOf n d - ratOf m e) := by
  obtain ⟨K, hK⟩ : ∃ K, K = 512 := ⟨_, rfl⟩
  refine con_of_tree mixed tr_qSub np_qSub rfl (den_rq (shv_one n d) (den_rq (shv_one m e) ⟨fun vals H' => vals = [.bool (!(okB n d && okB m e))] ∧ PH.le H H', den_call (con_qRight n d) rfl ?_, ?_⟩))
  · rintro u1 H1 ⟨l1, rfl⟩
    simp only [List.cons_append, List.nil_append]
    refine ⟨fun h => (nomatch h), den_rq ⟨_, rfl⟩ (den_br (b := !okB n d) rfl (fun h => ?_) (fun h => ?_))⟩
    · exact ⟨by rw [not_t h]; rfl, l1⟩
    · refine den_call (con_qRight m e) rfl ?_
      rintro u2 H2 ⟨l2, rfl⟩
      exact ⟨fun h => (nomatch h), den_rq ⟨_, rfl⟩ ⟨by rw [not_f h]; rfl, l1.trans l2⟩⟩
  rintro vals H3 - ⟨rfl, l3⟩
  simp only [List.cons_append, List.nil_append]
  refine den_rq ⟨_, rfl⟩ (den_br rfl (fun h => ?_) (fun h => ?_))
  · exact den_ret (congrArg (fun z => Value.tuple #[z, .int .i64 20]) z_share) ⟨l3, by rw [not_t h]; rfl⟩
  · have h := not_f h
    have h' := h
    rw [Bool.and_eq_true] at h'
    refine den_call (con_qInR h'.1) rfl ?_
    rintro u4 H4 ⟨l4, h4⟩
    simp only [List.cons_append, List.nil_append]
    refine ⟨fun _ => l4, den_call (con_qInR h'.2) rfl ?_⟩
    rintro u5 H5 ⟨l5, h5⟩
    simp only [List.cons_append, List.nil_append]
    refine ⟨fun _ => l5, den_call (con_qMinus (h4.mono l5) h5 (ok_rb h'.1 hK) (ok_rb h'.2 hK) (by omega)) rfl ?_⟩
    rintro u6 H6 ⟨l6, h6⟩
    simp only [List.cons_append, List.nil_append]
    refine ⟨fun _ => l6, den_call (con_qOut h6) rfl ?_⟩
    rintro u7 H7 ⟨l7, rfl⟩
    obtain ⟨a, b, c, ht⟩ := toldR_form (ratOf n d - ratOf m e)
    unfold resR
    rw [h, if_pos rfl, ht]
    exact ⟨fun _ => l7, den_rq ⟨_, rfl, Nat.zero_lt_succ _⟩ (den_rq ⟨_, rfl, Nat.lt_succ_self _⟩ (den_rq (shv_one a b) (den_ret rfl ⟨l3.trans (l4.trans (l5.trans (l6.trans l7))), rfl⟩)))⟩
set_option maxRecDepth 100000 in
theorem con_qMul (n d m e : Nat) : Con Tryz.prog 21 [shv n d, shv m e] H fun u H' => PH.le H H' ∧ u = resR (okB n d && okB m e) (ratOf n d * ratOf m e) := by
  obtain ⟨K, hK⟩ : ∃ K, K = 512 := ⟨_, rfl⟩
  refine con_of_tree mixed tr_qMul np_qMul rfl (den_rq (shv_one n d) (den_rq (shv_one m e) ⟨fun vals H' => vals = [.bool (!(okB n d && okB m e))] ∧ PH.le H H', den_call (con_qRight n d) rfl ?_, ?_⟩))
  · rintro u1 H1 ⟨l1, rfl⟩
    simp only [List.cons_append, List.nil_append]
    refine ⟨fun h => (nomatch h), den_rq ⟨_, rfl⟩ (den_br (b := !okB n d) rfl (fun h => ?_) (fun h => ?_))⟩
    · exact ⟨by rw [not_t h]; rfl, l1⟩
    · refine den_call (con_qRight m e) rfl ?_
      rintro u2 H2 ⟨l2, rfl⟩
      exact ⟨fun h => (nomatch h), den_rq ⟨_, rfl⟩ ⟨by rw [not_f h]; rfl, l1.trans l2⟩⟩
  rintro vals H3 - ⟨rfl, l3⟩
  simp only [List.cons_append, List.nil_append]
  refine den_rq ⟨_, rfl⟩ (den_br rfl (fun h => ?_) (fun h => ?_))
  · exact den_ret (congrArg (fun z => Value.tuple #[z, .int .i64 20]) z_share) ⟨l3, by rw [not_t h]; rfl⟩
  · have h := not_f h
    have h' := h
    rw [Bool.and_eq_true] at h'
    refine den_call (con_qInR h'.1) rfl ?_
    rintro u4 H4 ⟨l4, h4⟩
    simp only [List.cons_append, List.nil_append]
    refine ⟨fun _ => l4, den_call (con_qInR h'.2) rfl ?_⟩
    rintro u5 H5 ⟨l5, h5⟩
    simp only [List.cons_append, List.nil_append]
    refine ⟨fun _ => l5, den_call (con_qTimes (h4.mono l5) h5 (ok_rb h'.1 hK) (ok_rb h'.2 hK) (by omega)) rfl ?_⟩
    rintro u6 H6 ⟨l6, h6⟩
    simp only [List.cons_append, List.nil_append]
    refine ⟨fun _ => l6, den_call (con_qOut h6) rfl ?_⟩
    rintro u7 H7 ⟨l7, rfl⟩
    obtain ⟨a, b, c, ht⟩ := toldR_form (ratOf n d * ratOf m e)
    unfold resR
    rw [h, if_pos rfl, ht]
    exact ⟨fun _ => l7, den_rq ⟨_, rfl, Nat.zero_lt_succ _⟩ (den_rq ⟨_, rfl, Nat.lt_succ_self _⟩ (den_rq (shv_one a b) (den_ret rfl ⟨l3.trans (l4.trans (l5.trans (l6.trans l7))), rfl⟩)))⟩
set_option maxRecDepth 100000 in
theorem con_qDiv (n d m e : Nat) : Con Tryz.prog 22 [shv n d, shv m e] H fun u H' => PH.le H H' ∧ u = divR (okB n d && okB m e) (ratOf n d) (ratOf m e) := by
  obtain ⟨K, hK⟩ : ∃ K, K = 512 := ⟨_, rfl⟩
  refine con_of_tree mixed tr_qDiv np_qDiv rfl (den_rq (shv_one n d) (den_rq (shv_one m e) ⟨fun vals H' => vals = [.bool (!(okB n d && okB m e))] ∧ PH.le H H', den_call (con_qRight n d) rfl ?_, ?_⟩))
  · rintro u1 H1 ⟨l1, rfl⟩
    simp only [List.cons_append, List.nil_append]
    refine ⟨fun h => (nomatch h), den_rq ⟨_, rfl⟩ (den_br (b := !okB n d) rfl (fun h => ?_) (fun h => ?_))⟩
    · exact ⟨by rw [not_t h]; rfl, l1⟩
    · refine den_call (con_qRight m e) rfl ?_
      rintro u2 H2 ⟨l2, rfl⟩
      exact ⟨fun h => (nomatch h), den_rq ⟨_, rfl⟩ ⟨by rw [not_f h]; rfl, l1.trans l2⟩⟩
  rintro vals H3 - ⟨rfl, l3⟩
  simp only [List.cons_append, List.nil_append]
  refine den_rq ⟨_, rfl⟩ (den_br rfl (fun h => ?_) (fun h => ?_))
  · exact den_ret (congrArg (fun z => Value.tuple #[z, .int .i64 20]) z_share) ⟨l3, by rw [not_t h]; rfl⟩
  · have h := not_f h
    have h' := h
    rw [Bool.and_eq_true] at h'
    refine den_call (con_qInR h'.2) rfl ?_
    rintro u4 H4 ⟨l4, h4⟩
    have r4 := h4.rq
    obtain ⟨w1, w2, e4, n1⟩ := id h4
    subst e4
    simp only [List.cons_append, List.nil_append]
    refine ⟨fun h => (nomatch h), den_rq r4 (den_call (con_qZero h4) rfl ?_)⟩
    rintro u5 H5 ⟨l5, rfl⟩
    simp only [List.cons_append, List.nil_append]
    unfold divR
    rw [h, if_pos rfl]
    refine ⟨fun h => (nomatch h), den_rq ⟨_, rfl⟩ (den_br rfl (fun h0 => ?_) (fun h0 => ?_))⟩
    · have h0 := of_decide_eq_true h0
      rw [if_pos h0]
      exact den_ret (congrArg (fun z => Value.tuple #[z, .int .i64 7]) z_share) ⟨l3.trans (l4.trans l5), rfl⟩
    · have h0 := of_decide_eq_false h0
      rw [if_neg h0]
      refine den_call (con_qInR h'.1) rfl ?_
      rintro u6 H6 ⟨l6, h6⟩
      simp only [List.cons_append, List.nil_append]
      refine ⟨fun _ => l6, den_call (con_qOver h6 (h4.mono (l5.trans l6)) (ok_rb h'.1 hK) (ok_rb h'.2 hK) (by omega) h0) rfl ?_⟩
      rintro u7 H7 ⟨l7, h7⟩
      simp only [List.cons_append, List.nil_append]
      refine ⟨fun _ => l7, den_call (con_qOut h7) rfl ?_⟩
      rintro u8 H8 ⟨l8, rfl⟩
      obtain ⟨a, b, c, ht⟩ := toldR_form (ratOf n d / ratOf m e)
      rw [ht]
      exact ⟨fun _ => l8, den_rq ⟨_, rfl, Nat.zero_lt_succ _⟩ (den_rq ⟨_, rfl, Nat.lt_succ_self _⟩ (den_rq (shv_one a b) (den_ret rfl ⟨l3.trans (l4.trans (l5.trans (l6.trans (l7.trans l8)))), rfl⟩)))⟩
set_option maxRecDepth 100000 in
theorem con_qMin (n d m e : Nat) : Con Tryz.prog 23 [shv n d, shv m e] H fun u H' => PH.le H H' ∧ u = resR (okB n d && okB m e) (if sgR (ratOf n d) (ratOf m e) ≤ 0 then ratOf n d else ratOf m e) := by
  refine con_of_tree mixed tr_qMin np_qMin rfl (den_rq (shv_one n d) (den_rq (shv_one m e) (den_call (con_qCmp n d m e) rfl ?_)))
  rintro u1 H1 ⟨l1, rfl⟩
  unfold resI resR
  by_cases h : (okB n d && okB m e) = true
  · rw [h, if_pos rfl, if_pos rfl]
    rw [Bool.and_eq_true] at h
    simp only [List.cons_append, List.nil_append]
    refine ⟨fun h => (nomatch h), den_rq ⟨_, rfl, Nat.zero_lt_succ _⟩ (den_rq ⟨_, rfl, Nat.lt_succ_self _⟩ (den_rq ⟨_, rfl⟩ (den_false rfl (den_rq ⟨_, rfl⟩ (den_br (b := decide (sgR (ratOf n d) (ratOf m e) > 0)) rfl (fun hc => ?_) (fun hc => ?_))))))⟩
    · have hc := of_decide_eq_true hc
      refine den_ret rfl ⟨l1, ?_⟩
      rw [if_neg (by omega), told_ok h.2]; rfl
    · have hc := of_decide_eq_false hc
      refine den_ret rfl ⟨l1, ?_⟩
      rw [if_pos (by omega), told_ok h.1]; rfl
  · have h : (okB n d && okB m e) = false := by simpa using h
    rw [h, if_neg (by simp), if_neg (by simp)]
    simp only [List.cons_append, List.nil_append]
    exact ⟨fun h => (nomatch h), den_rq ⟨_, rfl, Nat.zero_lt_succ _⟩ (den_rq ⟨_, rfl, Nat.lt_succ_self _⟩ (den_rq ⟨_, rfl⟩ (den_true rfl (den_ret (congrArg (fun z => Value.tuple #[z, .int .i64 20]) z_share) ⟨l1, rfl⟩))))⟩
set_option maxRecDepth 100000 in
theorem con_qMax (n d m e : Nat) : Con Tryz.prog 24 [shv n d, shv m e] H fun u H' => PH.le H H' ∧ u = resR (okB n d && okB m e) (if sgR (ratOf n d) (ratOf m e) < 0 then ratOf m e else ratOf n d) := by
  refine con_of_tree mixed tr_qMax np_qMax rfl (den_rq (shv_one n d) (den_rq (shv_one m e) (den_call (con_qCmp n d m e) rfl ?_)))
  rintro u1 H1 ⟨l1, rfl⟩
  unfold resI resR
  by_cases h : (okB n d && okB m e) = true
  · rw [h, if_pos rfl, if_pos rfl]
    rw [Bool.and_eq_true] at h
    simp only [List.cons_append, List.nil_append]
    refine ⟨fun h => (nomatch h), den_rq ⟨_, rfl, Nat.zero_lt_succ _⟩ (den_rq ⟨_, rfl, Nat.lt_succ_self _⟩ (den_rq ⟨_, rfl⟩ (den_false rfl (den_rq ⟨_, rfl⟩ (den_br (b := decide (sgR (ratOf n d) (ratOf m e) < 0)) rfl (fun hc => ?_) (fun hc => ?_))))))⟩
    · have hc := of_decide_eq_true hc
      refine den_ret rfl ⟨l1, ?_⟩
      rw [if_pos hc, told_ok h.2]; rfl
    · have hc := of_decide_eq_false hc
      refine den_ret rfl ⟨l1, ?_⟩
      rw [if_neg hc, told_ok h.1]; rfl
  · have h : (okB n d && okB m e) = false := by simpa using h
    rw [h, if_neg (by simp), if_neg (by simp)]
    simp only [List.cons_append, List.nil_append]
    exact ⟨fun h => (nomatch h), den_rq ⟨_, rfl, Nat.zero_lt_succ _⟩ (den_rq ⟨_, rfl, Nat.lt_succ_self _⟩ (den_rq ⟨_, rfl⟩ (den_true rfl (den_ret (congrArg (fun z => Value.tuple #[z, .int .i64 20]) z_share) ⟨l1, rfl⟩))))⟩
end
end Go.Proofs.YtcleogdmobdnpabGreat
namespace Go.Proofs.YtcleogdmobdnpabGreat
open Go.RowKit Go.RX Go.WD

section
variable {H : PH} {r s t : Rat}
/-- Fractions of good size. -/
def Rg (r : Rat) : Prop := ∃ k, k ≤ 511 ∧ Rb k r
theorem rg_of {k : Nat} (h : Rb k r) (hk : k ≤ 511) : Rg r := ⟨k, hk, h⟩
theorem rg_ok (h : Rg r) : okB (rs r.num) (rs (r.den : Int)) = true := h.elim fun _ h => (rb_ok h.2 h.1).1
theorem rg_rat (h : Rg r) : ratOf (rs r.num) (rs (r.den : Int)) = r := h.elim fun _ h => (rb_ok h.2 h.1).2
theorem rg_told (h : Rg r) : toldR r = .tuple #[shR r, .int .i64 0] := h.elim fun _ h => told_rb h.2 h.1
theorem go_add (hr : Rg r) (hs : Rg s) (ht : r + s = t) (hT : Rg t) : Con Tryz.prog 13 [shR r, shR s] H fun u H' => PH.le H H' ∧ u = .tuple #[shR t, .int .i64 0] :=
  (con_sAdd _ _ _ _).mono fun u H' ⟨l, h⟩ => ⟨l, by rw [h, rg_ok hr, rg_ok hs, rg_rat hr, rg_rat hs, ht]; exact rg_told hT⟩
theorem go_sub (hr : Rg r) (hs : Rg s) (ht : r - s = t) (hT : Rg t) : Con Tryz.prog 14 [shR r, shR s] H fun u H' => PH.le H H' ∧ u = .tuple #[shR t, .int .i64 0] :=
  (con_sSub _ _ _ _).mono fun u H' ⟨l, h⟩ => ⟨l, by rw [h, rg_ok hr, rg_ok hs, rg_rat hr, rg_rat hs, ht]; exact rg_told hT⟩
theorem go_mul (hr : Rg r) (hs : Rg s) (ht : r * s = t) (hT : Rg t) : Con Tryz.prog 15 [shR r, shR s] H fun u H' => PH.le H H' ∧ u = .tuple #[shR t, .int .i64 0] :=
  (con_sMul _ _ _ _).mono fun u H' ⟨l, h⟩ => ⟨l, by rw [h, rg_ok hr, rg_ok hs, rg_rat hr, rg_rat hs, ht]; exact rg_told hT⟩
theorem go_div (hr : Rg r) (hs : Rg s) : Con Tryz.prog 16 [shR r, shR s] H fun u H' => PH.le H H' ∧ u = divR true r s :=
  (con_sDiv _ _ _ _).mono fun u H' ⟨l, h⟩ => ⟨l, by rw [h, rg_ok hr, rg_ok hs, rg_rat hr, rg_rat hs]; rfl⟩
theorem go_check (hr : Rg r) : Con Tryz.prog 43 [shR r] H fun u H' => PH.le H H' ∧ u = .int .i64 0 :=
  (con_sCheck _ _).mono fun u H' ⟨l, h⟩ => ⟨l, by rw [h, rg_ok hr]; rfl⟩
theorem rs_inj {x y : Int} (hx : Fits x) (hy : Fits y) (h : rs x % M = rs y % M) : x = y := by
  rw [rs_mod, rs_mod] at h
  rw [← toI_rs hx, ← toI_rs hy, h]
theorem rg_fits (h : Rg r) : Fits r.num ∧ Fits (r.den : Int) := by
  obtain ⟨k, hk, h⟩ := h
  have h1 := rb_fits h hk
  exact ⟨h1.1, by have := HM_pos; omega, h1.2⟩
theorem eq_shR {o : Oper} {x y : Operand} (hr : Rg r) (hs : Rg s) (ho : o.op = .binOp .eql 26 x y 26) (hx : ∀ u v, argEv [x, y] [u, v] x = u) (hy : ∀ u v, argEv [x, y] [u, v] y = v) : Yld Tryz.prog o [shR r, shR s] (.bool (decide (r = s))) := by
  have h := eq_share (a := rs r.num) (b := rs (r.den : Int)) (c := rs s.num) (d := rs (s.den : Int)) ho hx hy
  have e : (decide (rs r.num % M = rs s.num % M) && decide (rs (r.den : Int) % M = rs (s.den : Int) % M)) = decide (r = s) := by
    rw [Bool.eq_iff_iff, Bool.and_eq_true, decide_eq_true_iff, decide_eq_true_iff, decide_eq_true_iff]
    constructor
    · rintro ⟨h1, h2⟩
      have e1 := rs_inj (rg_fits hr).1 (rg_fits hs).1 h1
      have e2 := rs_inj (rg_fits hr).2 (rg_fits hs).2 h2
      exact Rat.ext e1 (by omega)
    · rintro rfl; exact ⟨rfl, rfl⟩
  rw [e] at h
  exact h
theorem ne_shR {o : Oper} {x y : Operand} (hr : Rg r) (hs : Rg s) (ho : o.op = .binOp .neq 26 x y 26) (hx : ∀ u v, argEv [x, y] [u, v] x = u) (hy : ∀ u v, argEv [x, y] [u, v] y = v) : Yld Tryz.prog o [shR r, shR s] (.bool (!decide (r = s))) := by
  have h := ne_share (a := rs r.num) (b := rs (r.den : Int)) (c := rs s.num) (d := rs (s.den : Int)) ho hx hy
  have e : (decide (rs r.num % M = rs s.num % M) && decide (rs (r.den : Int) % M = rs (s.den : Int) % M)) = decide (r = s) := by
    rw [Bool.eq_iff_iff, Bool.and_eq_true, decide_eq_true_iff, decide_eq_true_iff, decide_eq_true_iff]
    constructor
    · rintro ⟨h1, h2⟩
      have e1 := rs_inj (rg_fits hr).1 (rg_fits hs).1 h1
      have e2 := rs_inj (rg_fits hr).2 (rg_fits hs).2 h2
      exact Rat.ext e1 (by omega)
    · rintro rfl; exact ⟨rfl, rfl⟩
  rw [e] at h
  exact h
theorem rg_zero : Rg 0 := ⟨1, by omega, by decide, by decide⟩
theorem rg_one : Rg 1 := ⟨1, by omega, by decide, by decide⟩
theorem fits_abs {z : Int} {k : Nat} (h : z.natAbs < 2 ^ k) (hk : k ≤ 511) : Fits z := by
  have := pow_le_HM hk
  unfold Fits; omega
theorem floor_fits (hr : Rg r) : Fits r.floor := by
  obtain ⟨k, hk, h⟩ := hr
  exact fits_abs (floor_abs h) hk
theorem rg_neg (hr : Rg r) : Rg (-r) := by
  obtain ⟨k, hk, h⟩ := hr
  exact ⟨k, hk, h.neg⟩
theorem ceil_fits (hr : Rg r) : Fits (-(-r).floor) := by
  obtain ⟨k, hk, h⟩ := hr
  exact fits_abs (k := k) (by rw [Int.natAbs_neg]; exact floor_abs h.neg) hk
theorem go_floor (hr : Rg r) : Con Tryz.prog 27 [shR r] H fun u H' => PH.le H H' ∧ u = .tuple #[iw r.floor, .int .i64 0] :=
  (con_sFloor _ _).mono fun u H' ⟨l, h⟩ => ⟨l, by rw [h, rg_ok hr, rg_rat hr]; exact told_fits (floor_fits hr)⟩
theorem go_ceil (hr : Rg r) : Con Tryz.prog 28 [shR r] H fun u H' => PH.le H H' ∧ u = .tuple #[iw (-(-r).floor), .int .i64 0] :=
  (con_sCeil _ _).mono fun u H' ⟨l, h⟩ => ⟨l, by rw [h, rg_ok hr, rg_rat hr]; exact told_fits (ceil_fits hr)⟩
theorem go_near (hr : Rg r) (hf : Fits (r + 1 / 2).floor) : Con Tryz.prog 29 [shR r] H fun u H' => PH.le H H' ∧ u = .tuple #[iw (r + 1 / 2).floor, .int .i64 0] :=
  (con_sNear _ _).mono fun u H' ⟨l, h⟩ => ⟨l, by rw [h, rg_ok hr, rg_rat hr]; exact told_fits hf⟩
theorem go_cmp (hr : Rg r) (hs : Rg s) : Con Tryz.prog 33 [shR r, shR s] H fun u H' => PH.le H H' ∧ u = .tuple #[.int .i64 (sgR r s), .int .i64 0] :=
  (con_sCmp _ _ _ _).mono fun u H' ⟨l, h⟩ => ⟨l, by rw [h, rg_ok hr, rg_ok hs, rg_rat hr, rg_rat hs]; rfl⟩
theorem go_sign (hr : Rg r) : Con Tryz.prog 35 [shR r] H fun u H' => PH.le H H' ∧ u = .tuple #[.int .i64 (sgI r.num 0), .int .i64 0] :=
  (con_sSign _ _).mono fun u H' ⟨l, h⟩ => ⟨l, by rw [h, rg_ok hr, rg_rat hr]; rfl⟩
theorem go_min (hr : Rg r) (hs : Rg s) : Con Tryz.prog 17 [shR r, shR s] H fun u H' => PH.le H H' ∧ u = .tuple #[shR (if sgR r s ≤ 0 then r else s), .int .i64 0] :=
  (con_sMin _ _ _ _).mono fun u H' ⟨l, h⟩ => ⟨l, by
    rw [h, rg_ok hr, rg_ok hs, rg_rat hr, rg_rat hs]
    refine rg_told ?_
    split
    · exact hr
    · exact hs⟩
theorem go_max (hr : Rg r) (hs : Rg s) : Con Tryz.prog 18 [shR r, shR s] H fun u H' => PH.le H H' ∧ u = .tuple #[shR (if sgR r s < 0 then s else r), .int .i64 0] :=
  (con_sMax _ _ _ _).mono fun u H' ⟨l, h⟩ => ⟨l, by
    rw [h, rg_ok hr, rg_ok hs, rg_rat hr, rg_rat hs, max_eq]
    refine rg_told ?_
    split
    · exact hs
    · exact hr⟩
theorem rg_abs (hr : Rg r) : Rg (absQ r) := by
  unfold absQ; split
  · exact rg_neg hr
  · exact hr
theorem go_abs (hr : Rg r) : Con Tryz.prog 10 [shR r] H fun u H' => PH.le H H' ∧ u = .tuple #[shR (absQ r), .int .i64 0] :=
  (con_sAbs _ _).mono fun u H' ⟨l, h⟩ => ⟨l, by rw [h, rg_ok hr, rg_rat hr, abs_eq]; exact rg_told (rg_abs hr)⟩
theorem go_make {p q : Int} (hp : Fits p) (hq : Fits q) (h0 : q ≠ 0) (ht : Rat.divInt p q = t) (hT : Rg t) : Con Tryz.prog 30 [iw p, iw q] H fun u H' => PH.le H H' ∧ u = .tuple #[shR t, .int .i64 0] :=
  (con_sMake _ _).mono fun u H' ⟨l, h⟩ => ⟨l, by rw [h, toI_rs hp, toI_rs hq]; unfold makeV; rw [if_neg h0, ht]; exact rg_told hT⟩
theorem divInt_one (z : Int) : Rat.divInt z 1 = (z : Rat) := by
  apply Rat.ext
  · rw [low_num z (by omega), Rat.num_intCast]; simp
  · have := low_den z (show (1 : Int) ≠ 0 by omega)
    rw [Rat.den_intCast]
    simp at this
    omega
theorem rg_int {z : Int} {k : Nat} (h : z.natAbs < 2 ^ k) (h1 : 1 ≤ k) (hk : k ≤ 511) : Rg (z : Rat) := by
  refine ⟨k, hk, ?_, ?_⟩
  · rw [Rat.num_intCast]; exact h
  · rw [Rat.den_intCast]
    exact Nat.lt_of_lt_of_le (show 1 < 2 ^ 1 by omega) (Nat.pow_le_pow_right (by omega) h1)
end
end Go.Proofs.YtcleogdmobdnpabGreat

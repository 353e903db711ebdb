/- The reference of chapter 02: Sign, Cmp, Floor, Ceil, Near. -/
import Derived.Test.YtcleogdmobdnpaaGreatSrA
namespace Go.Proofs.YtcleogdmobdnpaaGreat
open Go.RowKit Go.RX Go.WD

section
variable {H : PH}
theorem con_qInR {n d : Nat} (h : okB n d = true) : Con Tryz.prog 58 [shv n d] H fun u H' => PH.le H H' ∧ Rr H' u (ratOf n d) :=
  (con_qIn n d).mono fun _ _ ⟨l, hu⟩ => ⟨l, hu.rp (ok_rat h).1 (ok_rat h).2⟩
theorem con_qSign (n d : Nat) : Con Tryz.prog 22 [shv n d] H fun u H' => PH.le H H' ∧ u = resI (okB n d && okB n d) (sgI (ratOf n d).num 0) := by
  refine con_of_tree mixed tr_qSign np_qSign rfl (den_rq (shv_one n d) (den_call (con_qRight n d) rfl ?_))
  rintro u1 H1 ⟨l1, rfl⟩
  simp only [List.cons_append, List.nil_append]
  refine ⟨fun h => (nomatch h), den_rq ⟨_, rfl⟩ (den_br (b := !okB n d) rfl (fun h => ?_) (fun h => ?_))⟩
  · exact den_ret rfl ⟨l1, by rw [not_t h]; rfl⟩
  · refine den_call (con_rSign n) (congrArg (fun z => [z]) (sh_n n d)) ?_
    rintro u2 H2 ⟨l2, rfl⟩
    exact ⟨fun h => (nomatch h), den_ret rfl ⟨l1.trans l2, by rw [(ok_rat (not_f h)).1, not_f h]; rfl⟩⟩
theorem con_qCmp (n d m e : Nat) : Con Tryz.prog 24 [shv n d, shv m e] H fun u H' => PH.le H H' ∧ u = resI (okB n d && okB m e) (sgR (ratOf n d) (ratOf m e)) := by
  obtain ⟨K, hK⟩ : ∃ K, K = 512 := ⟨_, rfl⟩
  refine con_of_tree mixed tr_qCmp np_qCmp rfl (den_rq (shv_one n d) (den_rq (shv_one m e) ⟨fun vals H' => vals = [.bool (!(okB n d && okB m e))] ∧ PH.le H H', den_call (con_qRight n d) rfl ?_, ?_⟩))
  · rintro u1 H1 ⟨l1, rfl⟩
    simp only [List.cons_append, List.nil_append]
    refine ⟨fun h => (nomatch h), den_rq ⟨_, rfl⟩ (den_br (b := !okB n d) rfl (fun h => ?_) (fun h => ?_))⟩
    · exact ⟨by rw [not_t h]; rfl, l1⟩
    · refine den_call (con_qRight m e) rfl ?_
      rintro u2 H2 ⟨l2, rfl⟩
      exact ⟨fun h => (nomatch h), den_rq ⟨_, rfl⟩ ⟨by rw [not_f h]; rfl, l1.trans l2⟩⟩
  rintro vals H3 - ⟨rfl, l3⟩
  simp only [List.cons_append, List.nil_append]
  refine den_rq ⟨_, rfl⟩ (den_br rfl (fun h => ?_) (fun h => ?_))
  · exact den_ret rfl ⟨l3, by rw [not_t h]; rfl⟩
  · have h := not_f h
    have h' := h
    rw [Bool.and_eq_true] at h'
    refine den_call (con_qInR h'.1) rfl ?_
    rintro u4 H4 ⟨l4, h4⟩
    simp only [List.cons_append, List.nil_append]
    refine ⟨fun _ => l4, den_call (con_qInR h'.2) rfl ?_⟩
    rintro u5 H5 ⟨l5, h5⟩
    simp only [List.cons_append, List.nil_append]
    refine ⟨fun _ => l5, den_call (con_qOrder (h4.mono l5) h5 (ok_rb h'.1 hK) (ok_rb h'.2 hK) (by omega)) rfl ?_⟩
    rintro u6 H6 ⟨l6, rfl⟩
    exact ⟨fun _ => l6, den_ret rfl ⟨l3.trans (l4.trans (l5.trans l6)), by rw [h]; rfl⟩⟩
theorem told_intW (z : Int) : ∃ (n : Nat) (e : Int), told z = .tuple #[wd n, .int .i64 e] := by
  unfold told
  split
  · exact ⟨_, _, rfl⟩
  · exact ⟨_, _, rfl⟩
theorem resW_form (ok : Bool) (z : Int) : ∃ (n : Nat) (e : Int), resW ok z = .tuple #[wd n, .int .i64 e] := by
  unfold resW
  split
  · exact told_intW z
  · exact ⟨_, _, rfl⟩
theorem con_qFloor (n d : Nat) : Con Tryz.prog 28 [shv n d] H fun u H' => PH.le H H' ∧ u = resW (okB n d) ((ratOf n d).floor) := by
  obtain ⟨K, hK⟩ : ∃ K, K = 512 := ⟨_, rfl⟩
  refine con_of_tree mixed tr_qFloor np_qFloor rfl (den_rq (shv_one n d) (den_call (con_qRight n d) rfl ?_))
  rintro u1 H1 ⟨l1, rfl⟩
  simp only [List.cons_append, List.nil_append]
  refine ⟨fun h => (nomatch h), den_rq ⟨_, rfl⟩ (den_br (b := !okB n d) rfl (fun h => ?_) (fun h => ?_))⟩
  · exact den_ret (congrArg (fun z => Value.tuple #[z, .int .i64 20]) z_wide) ⟨l1, by rw [not_t h]; rfl⟩
  · have h := not_f h
    refine den_call (con_qInR h) rfl ?_
    rintro u2 H2 ⟨l2, h2⟩
    simp only [List.cons_append, List.nil_append]
    refine ⟨fun h => (nomatch h), den_call (con_qDown h2 (ok_rb h hK) (by omega)) rfl ?_⟩
    rintro u3 H3 ⟨l3, h3⟩
    simp only [List.cons_append, List.nil_append]
    refine ⟨fun h => (nomatch h), den_call (con_rOut h3) rfl ?_⟩
    rintro u4 H4 ⟨l4, rfl⟩
    simp only [List.cons_append, List.nil_append]
    obtain ⟨a, e, t⟩ := told_intW (ratOf n d).floor
    unfold resW
    rw [h, if_pos rfl, t]
    exact ⟨fun h => (nomatch h), den_rq ⟨_, rfl, Nat.zero_lt_succ _⟩ (den_rq ⟨_, rfl, Nat.lt_succ_self _⟩ (den_rq ⟨words_size a, words_one a⟩ (den_ret rfl ⟨l1.trans (l2.trans (l3.trans l4)), rfl⟩)))⟩
theorem con_qNear (n d : Nat) : Con Tryz.prog 30 [shv n d] H fun u H' => PH.le H H' ∧ u = resW (okB n d) ((ratOf n d + 1 / 2).floor) := by
  obtain ⟨K, hK⟩ : ∃ K, K = 512 := ⟨_, rfl⟩
  refine con_of_tree mixed tr_qNear np_qNear rfl (den_rq (shv_one n d) (den_call (con_qRight n d) rfl ?_))
  rintro u1 H1 ⟨l1, rfl⟩
  simp only [List.cons_append, List.nil_append]
  refine ⟨fun h => (nomatch h), den_rq ⟨_, rfl⟩ (den_br (b := !okB n d) rfl (fun h => ?_) (fun h => ?_))⟩
  · exact den_ret (congrArg (fun z => Value.tuple #[z, .int .i64 20]) z_wide) ⟨l1, by rw [not_t h]; rfl⟩
  · have h := not_f h
    refine den_call (con_qInR h) rfl ?_
    rintro u2 H2 ⟨l2, h2⟩
    simp only [List.cons_append, List.nil_append]
    refine ⟨fun h => (nomatch h), den_call (con_qNearest h2 (ok_rb h hK) (by omega)) rfl ?_⟩
    rintro u3 H3 ⟨l3, h3⟩
    simp only [List.cons_append, List.nil_append]
    refine ⟨fun h => (nomatch h), den_call (con_rOut h3) rfl ?_⟩
    rintro u4 H4 ⟨l4, rfl⟩
    simp only [List.cons_append, List.nil_append]
    obtain ⟨a, e, t⟩ := told_intW (ratOf n d + 1 / 2).floor
    unfold resW
    rw [h, if_pos rfl, t]
    exact ⟨fun h => (nomatch h), den_rq ⟨_, rfl, Nat.zero_lt_succ _⟩ (den_rq ⟨_, rfl, Nat.lt_succ_self _⟩ (den_rq ⟨words_size a, words_one a⟩ (den_ret rfl ⟨l1.trans (l2.trans (l3.trans l4)), rfl⟩)))⟩
theorem con_qCeil (n d : Nat) : Con Tryz.prog 29 [shv n d] H fun u H' => PH.le H H' ∧ u = resW (okB n d) (-(-ratOf n d).floor) := by
  obtain ⟨K, hK⟩ : ∃ K, K = 512 := ⟨_, rfl⟩
  refine con_of_tree mixed tr_qCeil np_qCeil rfl (den_rq (shv_one n d) (den_call (con_qRight n d) rfl ?_))
  rintro u1 H1 ⟨l1, rfl⟩
  simp only [List.cons_append, List.nil_append]
  refine ⟨fun h => (nomatch h), den_rq ⟨_, rfl⟩ (den_br (b := !okB n d) rfl (fun h => ?_) (fun h => ?_))⟩
  · exact den_ret (congrArg (fun z => Value.tuple #[z, .int .i64 20]) z_wide) ⟨l1, by rw [not_t h]; rfl⟩
  · have h := not_f h
    refine den_call (con_qInR h) rfl ?_
    rintro u2 H2 ⟨l2, h2⟩
    simp only [List.cons_append, List.nil_append]
    refine ⟨fun h => (nomatch h), den_call (con_qTurn h2) rfl ?_⟩
    rintro u3 H3 ⟨l3, h3⟩
    simp only [List.cons_append, List.nil_append]
    refine ⟨fun h => (nomatch h), den_call (con_qDown h3 (ok_rb h hK).neg (by omega)) rfl ?_⟩
    rintro u4 H4 ⟨l4, h4⟩
    simp only [List.cons_append, List.nil_append]
    refine ⟨fun h => (nomatch h), den_call (con_rTurn h4) rfl ?_⟩
    rintro u5 H5 ⟨rfl, h5⟩
    simp only [List.cons_append, List.nil_append]
    refine ⟨fun h => (nomatch h), den_call (con_rOut h5) rfl ?_⟩
    rintro u6 H6 ⟨l6, rfl⟩
    simp only [List.cons_append, List.nil_append]
    obtain ⟨a, e, t⟩ := told_intW (-(-ratOf n d).floor)
    unfold resW
    rw [h, if_pos rfl, t]
    exact ⟨fun h => (nomatch h), den_rq ⟨_, rfl, Nat.zero_lt_succ _⟩ (den_rq ⟨_, rfl, Nat.lt_succ_self _⟩ (den_rq ⟨words_size a, words_one a⟩ (den_ret rfl ⟨l1.trans (l2.trans (l3.trans (l4.trans l6))), rfl⟩)))⟩
end
end Go.Proofs.YtcleogdmobdnpaaGreat

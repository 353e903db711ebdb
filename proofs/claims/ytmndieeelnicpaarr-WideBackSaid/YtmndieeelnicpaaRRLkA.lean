/- The law WideBack of chapter 01: the walk. Made by mkBk.sh. -/
import Derived.Test.YtmndieeelnicpaaRRLoA
import Derived.Test.YtmndieeelnicpaaRRLkT
import Derived.Test.YtmndieeelnicpaaRRBdA
namespace Go.Proofs.YtmndieeelnicpaaRR
open Go.RowKit Go.RX Go.WD

theorem yld_min {o : Oper} {x y : Operand} {t u : TypeId} {a b : Int} {vs : List Value} (ho : o.op = .call ⟨.builtin .min, #[x, y], #[t, u]⟩) (hx : argEv [x, y] vs x = .int .i64 a) (hy : argEv [x, y] vs y = .int .i64 b) : Yld Try.prog o vs (.int .i64 (if b < a then b else a)) := fun w => by
  have hos : o.op.operands.toList = [x, y] := by simp [ho, Op.operands, Call.operands]
  rw [hos]
  simp only [execOp, ho, resolve, invoke, Sem.run_bind, Sem.run_pure, Result.andThen_ok, List.map_toArray, List.map_cons, List.map_nil, hx, hy]
  simp only [builtin, Sem.run_bind, run_min_int2, Result.andThen_ok]
  rfl
theorem st_ne_no {o : Oper} {x y : Operand} {vs : List Value} {t t' : TypeId} {l m : List UInt8} (ho : o.op = .binOp .neq t x y t') (hx : argEv [x, y] vs x = st l) (hy : argEv [x, y] vs y = st m) (_hu : Try.prog.underlying t = some .string) (h : l = m) : Yld Try.prog o vs (.bool false) := fun w => by
  have hos : o.op.operands.toList = [x, y] := by simp [ho, Op.operands]
  rw [hos]
  simp only [execOp, ho, hx, hy, st]
  simp only [Sem.run_bind, binOp_string_neq]
  simp [eqGuard, h]
theorem parse_form (l : List UInt8) : ∃ (n : Nat) (e : Int), parseV l = .tuple #[wd n, .int .i64 e] ∧ (e = 0 → txt (toI n) = l) ∧ (e = 0 ∨ e = 5 ∨ e = 6) := by
  unfold parseV
  cases h : rightB l with
  | false => exact ⟨0, 5, rfl, fun h => by omega, by omega⟩
  | true =>
    rw [if_pos rfl]
    unfold told
    split
    · rename_i hf
      refine ⟨rs (numL l), 0, rfl, fun _ => ?_, by omega⟩
      rw [toI_rs hf]
      exact right_txt l h
    · exact ⟨0, 6, rfl, fun h => by omega, by omega⟩
theorem parse_txt (z : Int) (h : Fits z) : parseV (txt z) = .tuple #[iw z, .int .i64 0] := by
  obtain ⟨h1, h2⟩ := txt_right z
  unfold parseV
  rw [if_pos h1, h2, tok h]
theorem abs_sub {x y : Int} {i : Nat} (hx : x.natAbs < 2 ^ i) (hy : y.natAbs < 2 ^ i) : (x - y).natAbs < 2 ^ (i + 1) := by rw [Nat.pow_succ]; omega
theorem sgI_sub (b c : Int) : (sgI b c == sgI (b - c) 0) = true := by
  rw [beq_iff_eq]; unfold sgI
  by_cases h1 : b < c
  · have h1' : b - c < 0 := by omega
    rw [if_pos h1, if_pos h1']
  · have h1' : ¬ b - c < 0 := by omega
    rw [if_neg h1, if_neg h1']
    by_cases h2 : b = c
    · have h2' : b - c = 0 := by omega
      rw [if_pos h2, if_pos h2']
    · have h2' : ¬ b - c = 0 := by omega
      rw [if_neg h2, if_neg h2']
theorem sgI_l {b c : Int} (h : b < c) : sgI b c = -1 := by unfold sgI; rw [if_pos h]
theorem sgI_g {b c : Int} (h : b > c) : sgI b c = 1 := by unfold sgI; rw [if_neg (by omega), if_neg (by omega)]
theorem sgI_e {b c : Int} (h : ¬ b < c) (h2 : ¬ b > c) : sgI b c = 0 := by unfold sgI; rw [if_neg h, if_pos (by omega)]
theorem sgI_same {b c : Int} (fb : Fits b) (fc : Fits c) : (false != (decide (rs b % M = rs c % M) == (sgI (b - c) 0 == 0))) = true := by
  have h1 : decide (rs b % M = rs c % M) = decide (b = c) := by
    rw [decide_eq_decide, rs_mod, rs_mod, rs_inj fb fc]
  have h2 : (sgI (b - c) 0 == 0) = decide (b = c) := by
    rw [Bool.eq_iff_iff, beq_iff_eq, decide_eq_true_iff]
    unfold sgI
    by_cases h1 : b - c < 0
    · rw [if_pos h1]; omega
    · rw [if_neg h1]
      by_cases h2 : b - c = 0
      · rw [if_pos h2]; omega
      · rw [if_neg h2]; omega
  rw [h1, h2, beq_self_eq_true]; rfl
set_option maxRecDepth 100000 in
set_option maxHeartbeats 1000000 in
theorem con_wideBack {H : PH} (a : Nat) {v1 v2 : Value} (h1 : Dr H v1) (h2 : Dr H v2) (s : List UInt8) (_hs : s.length ≤ maxLen) (m : Int) (m0 : -9223372036854775808 ≤ m) (m1 : m < 9223372036854775808) (n : Int) (n0 : -9223372036854775808 ≤ n) (n1 : n < 9223372036854775808) :
    Con Try.prog 11 [wd a, v1, v2, st s, .int .i64 m, .int .i64 n] H fun u H' => u = .bool true ∧ PH.le H H' := by
  have r1 := h1.rq
  have r2 := h2.rq
  obtain ⟨b1, w1, q1, k1, rfl, -, -⟩ := id h1
  obtain ⟨b2, w2, q2, k2, rfl, -, -⟩ := id h2
  have fA := toI_fits a
  have dp := det_Parse (txt (toI a)) (by have := txt_len fA; omega)
  rw [parse_txt _ fA] at dp
  have h155 : ¬ ((txt (toI a)).length : Int) > 155 := by have := txt_len fA; omega
  obtain ⟨k, hk⟩ : ∃ k, k = min s.length 160 := ⟨_, rfl⟩
  have ek : (if (160 : Int) < (s.length : Int) then (160 : Int) else (s.length : Int)) = (k : Int) := by split <;> omega
  obtain ⟨N, e, hform, hN, he⟩ := parse_form (s.take k)
  have dq := det_Parse (s.take k) (by rw [List.length_take]; omega)
  rw [hform] at dq
  have fm : Fits m := fitsS m0 m1
  have fn : Fits n := fitsS n0 n1
  refine con_of_tree mixed tr_WideBack np_WideBack rfl (den_rq ⟨words_size _, words_one _⟩ (den_rq r1 (den_rq r2 (den_call (con_works H) rfl ?_))))
  rintro _ H1 ⟨rfl, l1⟩
  simp only [List.cons_append, List.nil_append]
  refine ⟨fun _ => l1, den_rq ⟨_, rfl⟩ (den_rq rfl (den_call (mk_is _ a) rfl ?_))⟩
  rintro _ H2 ⟨cb, rfl, l2, hcb⟩
  simp only [List.cons_append, List.nil_append]
  refine ⟨fun _ => l2, den_call (con_wText a) rfl ?_⟩
  rintro _ H3 ⟨l3, rfl⟩
  simp only [List.cons_append, List.nil_append]
  refine ⟨fun _ => l3, den_det (dp) rfl (den_rq ⟨_, rfl, s20⟩ (den_rq ⟨_, rfl, s21⟩ (den_eff (opn_callv (f := 76) (caps := #[ptr cb]) (vs := [iw (toI a), .int .i64 0]) op_WideBack_3_7 rfl rfl ent_is1 (con_is1 _ _ _ (l3 _ _ hcb))) rfl ?_)))⟩
  rintro v H4 ⟨hv, rfl⟩
  simp only [List.cons_append, List.nil_append]
  obtain rfl : v = .bool true := by rw [hv, rs_toI, Nat.mod_mod]; simp
  refine ⟨fun _ => PH.le.refl _, den_rq ⟨_, rfl⟩ (den_rq rfl (den_call (con_wText a) rfl ?_))⟩
  rintro _ H5 ⟨l5, rfl⟩
  simp only [List.cons_append, List.nil_append]
  refine ⟨fun _ => l5, den_prim ((st_len (l := txt (toI a)) (vs := [st (txt (toI a))]) op_WideBack_3_12 rfl uStr).rds _) rfl (den_rq ⟨_, rfl⟩ (den_rq (congrArg Value.bool (decide_eq_false h155)) (den_prim ((st_len (l := s) (vs := [st s]) op_WideBack_5_2 rfl uStr).rds _) rfl (den_prim ((yld_min (a := (s.length : Nat)) (b := 160) (vs := [.int .i64 (s.length : Nat), .int .i64 160]) op_WideBack_5_3 rfl rfl).rds _) rfl (den_prim ((st_take (l := s) (k := .i64) (i := k) (vs := [st s, .int .i64 (k : Nat)]) op_WideBack_5_4 rfl rfl uStr (by omega)).rds _) (by simp only [List.cons_append, List.nil_append, rxs, ek]) (den_det (dq) rfl (den_rq ⟨_, rfl, s20⟩ (den_rq ⟨_, rfl, s21⟩ (den_rq ⟨words_size _, words_one _⟩ (⟨fun vals H' => vals = [.bool false] ∧ PH.le H5 H', ?_, ?_⟩))))))))))⟩
  · refine den_rq ⟨_, rfl⟩ (den_br (b := e == 0) rfl (fun hb => ?_) (fun hb => ?_))
    · obtain rfl : e = 0 := by simpa using hb
      refine den_call (con_wText N) rfl ?_
      rintro _ H7 ⟨l7, rfl⟩
      simp only [List.cons_append, List.nil_append]
      exact ⟨fun _ => l7, den_prim ((st_ne_no (l := txt (toI N)) (m := s.take k) (vs := [st (txt (toI N)), st (s.take k)]) op_WideBack_7_6 rfl rfl uStr (hN rfl)).rds _) rfl (den_rq ⟨_, rfl⟩ (den_false rfl (den_false rfl (⟨rfl, l7⟩))))⟩
    · have he0 : e ≠ 0 := by simpa using hb
      refine den_br (b := e != 0) rfl (fun hb => ?_) (fun hb => ?_)
      · refine den_br (b := e != 5) rfl (fun hb => ?_) (fun hb => ?_)
        · obtain rfl : e = 6 := by have h5 : ¬ e = 5 := (by simpa using hb); omega
          exact ⟨rfl, PH.le.refl _⟩
        · exact ⟨rfl, PH.le.refl _⟩
      · exact ⟨rfl, PH.le.refl _⟩
  rintro vals H6 - ⟨rfl, l6⟩
  simp only [List.cons_append, List.nil_append]
  refine den_rq rfl (den_call (con_rWithin 500 (by omega) (by omega) (h1.mono (l1.trans (l2.trans (l3.trans (l5.trans l6)))))) rfl ?_)
  rintro _ H8 ⟨l8, b, rfl, wb⟩
  simp only [List.cons_append, List.nil_append]
  refine ⟨fun _ => l8, den_call (con_rWithin 500 (by omega) (by omega) (h2.mono (l1.trans (l2.trans (l3.trans (l5.trans (l6.trans l8))))))) rfl ?_⟩
  rintro _ H9 ⟨l9, c, rfl, wc⟩
  simp only [List.cons_append, List.nil_append]
  have lb := win_lt wb (by omega)
  have lc := win_lt wc (by omega)
  have fb := fits_abs lb (by omega)
  have fc := fits_abs lc (by omega)
  have fd := fits_abs (abs_sub lb lc) (by omega)
  have d1 := Sub_iw fb fc
  rw [tok fd] at d1
  have d2 := Cmp_iw fb fc
  have d3 := Sign_iw fd
  have d4 := Cmp_iw fm fn
  have d5 := Int_iw fm
  rw [show told64 m = .tuple #[.int .i64 m, .int .i64 0] from by unfold told64; rw [if_pos ⟨m0, m1⟩]] at d5
  refine ⟨fun _ => l9, den_rq ⟨words_size _, words_one _⟩ (den_rq ⟨words_size _, words_one _⟩ (den_det (d1) rfl (den_rq ⟨_, rfl, s20⟩ (den_rq ⟨_, rfl, s21⟩ (den_rq ⟨words_size _, words_one _⟩ (den_rq ⟨_, rfl⟩ (den_rq ⟨_, rfl⟩ (⟨fun vals H' => vals = [.int .i64 (sgI m n)] ∧ H' = H9, ?_, ?_⟩))))))))⟩
  · refine den_br (b := decide (m < n)) rfl (fun hb => ?_) (fun hb => ?_)
    · have hb := of_decide_eq_true hb
      exact ⟨by rw [sgI_l hb]; rfl, rfl⟩
    · have hb1 := of_decide_eq_false hb
      refine den_br (b := decide (m > n)) rfl (fun hb => ?_) (fun hb => ?_)
      · have hb := of_decide_eq_true hb
        exact ⟨by rw [sgI_g hb]; rfl, rfl⟩
      · have hb := of_decide_eq_false hb
        exact ⟨by rw [sgI_e hb1 hb]; rfl, rfl⟩
  rintro vals H10 - ⟨rfl, rfl⟩
  simp only [List.cons_append, List.nil_append]
  refine den_rq ⟨_, rfl⟩ (den_rq rfl (den_det (d2) rfl (den_det (d3) rfl (den_rq ⟨_, rfl⟩ (den_rq ⟨_, rfl⟩ (den_rq (congrArg Value.bool (sgI_sub b c)) (den_prim ((eq_wide (a := rs b) (b := rs c) op_WideBack_16_13 rfl rfl rfl rfl).rds _) rfl (den_det (d3) rfl (den_rq ⟨_, rfl⟩ (den_rq ⟨_, rfl⟩ (den_rq (congrArg Value.bool (sgI_same fb fc)) (den_det (det_Of m m0 m1) rfl (den_det (det_Of n n0 n1) rfl (den_det (d4) rfl (?_)))))))))))))))
  simp only [List.cons_append, List.nil_append]
  refine den_rq ⟨_, rfl⟩ (den_rq ⟨_, rfl⟩ (den_rq (congrArg Value.bool (beq_self_eq_true (sgI m n))) (den_call (mk_says _ m) rfl ?_)))
  rintro _ H11 ⟨cs, rfl, l11, hcs⟩
  simp only [List.cons_append, List.nil_append]
  refine ⟨fun _ => l11, den_det (det_Of m m0 m1) rfl (den_det (d5) rfl (den_rq ⟨_, rfl, s20⟩ (den_rq ⟨_, rfl, s21⟩ (den_eff (opn_callv (f := 86) (caps := #[ptr cs]) (vs := [.int .i64 m, .int .i64 0]) op_WideBack_16_36 rfl rfl ent_says1 (con_says1 _ _ _ hcs)) rfl ?_))))⟩
  rintro v H12 ⟨hv, rfl⟩
  simp only [List.cons_append, List.nil_append]
  exact ⟨fun _ => PH.le.refl _, den_ret rfl ⟨by show v = _; rw [hv]; simp, l1.trans (l2.trans (l3.trans (l5.trans (l6.trans (l8.trans (l9.trans l11))))))⟩⟩
end Go.Proofs.YtmndieeelnicpaaRR

/- MADE BY rxgen.py: the tree of ShareField. -/
import Derived.Test.YtcleogdmobdnpaaGreatWdT
import Derived.Test.YtcleogdmobdnpaaGreatSdA
namespace Go.Proofs.YtcleogdmobdnpaaGreat
open Go.RowKit Go.RX
theorem tr_ShareField : tree Tryz.prog [] [(27, false), (78, false), (82, false), (86, false), (90, false), (94, false), (98, false), (102, false), (107, false), (112, false), (117, false), (121, false), (143, true), (148, true), (152, true)] [] [⟨3, [0, 1, 0, 7, 0, 31, 0, 0, 0, 511, 1023, 2047], [5, 2, 5, 2, 5, 2, 3, 3, 3, 4, 4, 4], [0, 0, 1, 0, 2, 0, 0, 0, 0, 0, 0, 0], [0, 2, 4, 1, 3, 5, 6, 7, 8], [9, 10, 11]⟩, ⟨14, [0, 0, 3], [5, 2, 1], [5, 0, 0], [0, 1, 2], []⟩, ⟨15, [0, 0, 0, 7, 15], [2, 5, 0, 2, 0], [0, 13, 0, 0, 0], [1, 2, 0, 3, 4], []⟩, ⟨17, [0, 1, 3, 7, 7, 31, 63, 127, 255, 511, 1023, 2047, 4095, 4095, 16383, 32767, 65535], [0, 0, 0, 5, 5, 1, 0, 0, 0, 0, 0, 0, 5, 2, 1, 0, 0], [0, 0, 0, 13, 3, 0, 0, 0, 0, 0, 0, 0, 14, 0, 0, 0, 0], [0, 1, 2, 3, 4, 5, 6, 7, 8, 9, 10, 11, 12, 13, 14, 15, 16], []⟩] 6 = some (.rq (.cells 6 (.v 0))
(.rq (.cells 6 (.v 1))
(.rq (.cells 6 (.v 2))
(.call false 7 []
(.rq (.bool (.v 3))
(.rq (.isb false (.nt (.v 3)))
(.call true 31 [(.ag (.v 0))]
(.call true 32 [(.ag (.v 1))]
(.call true 31 [(.ag (.v 2))]
(.rq (.cells 16 (.v 4))
(.rq (.cells 16 (.v 5))
(.rq (.cells 16 (.v 6))
(.call false 33 [(.ag (.v 4)), (.ag (.v 5))]
(.rq (.tup 0 (.v 7))
(.rq (.tup 1 (.v 7))
(.rq (.cells 16 (.proj (.v 7) 0))
(.call false 33 [(.ag (.v 5)), (.ag (.v 4))]
(.rq (.tup 0 (.v 8))
(.rq (.tup 1 (.v 8))
(.rq (.cells 16 (.proj (.v 8) 0))
(.call false 34 [(.ag (.proj (.v 7) 0)), (.ag (.v 5))]
(.rq (.tup 0 (.v 9))
(.rq (.tup 1 (.v 9))
(.rq (.cells 16 (.proj (.v 9) 0))
(.call false 35 [(.ag (.v 4)), (.ag (.v 6))]
(.rq (.tup 0 (.v 10))
(.rq (.tup 1 (.v 10))
(.rq (.cells 16 (.proj (.v 10) 0))
(.call false 35 [(.ag (.v 5)), (.ag (.v 6))]
(.rq (.tup 0 (.v 11))
(.rq (.tup 1 (.v 11))
(.rq (.cells 16 (.proj (.v 11) 0))
(.call false 33 [(.ag (.proj (.v 10) 0)), (.ag (.proj (.v 11) 0))]
(.rq (.tup 0 (.v 12))
(.rq (.tup 1 (.v 12))
(.rq (.cells 16 (.proj (.v 12) 0))
(.call false 35 [(.ag (.proj (.v 7) 0)), (.ag (.v 6))]
(.rq (.tup 0 (.v 13))
(.rq (.tup 1 (.v 13))
(.rq (.cells 16 (.proj (.v 13) 0))
(.rq (.int .i64 (.proj (.v 7) 1))
(.rq (.isb false (.op2 .neq .i64 (.proj (.v 7) 1) (.k (.int .i64 (0)))))
(.rq (.int .i64 (.proj (.v 8) 1))
(.rq (.isb false (.op2 .neq .i64 (.proj (.v 8) 1) (.k (.int .i64 (0)))))
(.rq (.int .i64 (.proj (.v 9) 1))
(.rq (.isb false (.op2 .neq .i64 (.proj (.v 9) 1) (.k (.int .i64 (0)))))
(.rq (.int .i64 (.proj (.v 10) 1))
(.rq (.isb false (.op2 .neq .i64 (.proj (.v 10) 1) (.k (.int .i64 (0)))))
(.rq (.int .i64 (.proj (.v 11) 1))
(.rq (.isb false (.op2 .neq .i64 (.proj (.v 11) 1) (.k (.int .i64 (0)))))
(.rq (.int .i64 (.proj (.v 12) 1))
(.rq (.isb false (.op2 .neq .i64 (.proj (.v 12) 1) (.k (.int .i64 (0)))))
(.rq (.int .i64 (.proj (.v 13) 1))
(.rq (.isb false (.op2 .neq .i64 (.proj (.v 13) 1) (.k (.int .i64 (0)))))
(.prim 11 29 (opr Tryz.f6 11 29) [(.ag (.proj (.v 7) 0)), (.ag (.proj (.v 8) 0))]
(.rq (.isb false (.v 14))
(.prim 11 34 (opr Tryz.f6 11 34) [(.ag (.proj (.v 9) 0)), (.ag (.v 4))]
(.rq (.isb false (.v 15))
(.prim 11 39 (opr Tryz.f6 11 39) [(.ag (.proj (.v 12) 0)), (.ag (.proj (.v 13) 0))]
(.rq (.isb false (.v 16))
(.call false 11 [(.ag (.proj (.v 12) 0))]
(.rq (.int .i64 (.v 17))
(.rq (.isb false (.op2 .neq .i64 (.v 17) (.k (.int .i64 (0)))))
(.call false 36 [(.ag (.proj (.v 10) 0)), (.ag (.v 6))]
(.rq (.tup 0 (.v 18))
(.rq (.tup 1 (.v 18))
(.rq (.cells 16 (.proj (.v 18) 0))
(.call true 37 [(.k (.int .i64 (0))), (.k (.int .i64 (1)))]
(.prim 14 2 (opr Tryz.f6 14 2) [(.ag (.v 6)), (.v 19)]
(.rq (.bool (.v 20))
(.br (.v 20)
 (.call true 38 [(.k (.int .i64 (7)))]
 (.eff true 15 3 (opr Tryz.f6 15 3) [(.v 21), (.ag (.proj (.v 18) 0)), (.proj (.v 18) 1)]
 (.ret [(.v 22)])))
 (.call false 36 [(.ag (.v 6)), (.ag (.v 6))]
 (.rq (.tup 0 (.v 21))
 (.rq (.tup 1 (.v 21))
 (.rq (.cells 16 (.proj (.v 21) 0))
 (.rq (.int .i64 (.proj (.v 18) 1))
 (.rq (.isb true (.op2 .eql .i64 (.proj (.v 18) 1) (.k (.int .i64 (0)))))
 (.prim 17 5 (opr Tryz.f6 17 5) [(.ag (.proj (.v 18) 0)), (.ag (.v 4))]
 (.rq (.isb true (.v 22))
 (.rq (.int .i64 (.proj (.v 21) 1))
 (.rq (.isb true (.op2 .eql .i64 (.proj (.v 21) 1) (.k (.int .i64 (0)))))
 (.call true 37 [(.k (.int .i64 (1))), (.k (.int .i64 (1)))]
 (.prim 17 14 (opr Tryz.f6 17 14) [(.ag (.proj (.v 21) 0)), (.v 23)]
 (.ret [(.v 24)])))))))))))))))))))))))))))))))))))))))))))))))))))))))))))))))))))))))))))))))))))) := by kernel_rfl
theorem np_ShareField : (Tryz.prog.funcs[6]?).map (fun fn => fn.params.size + fn.nfree) = some 3 := by kernel_rfl
theorem op_ShareField_11_29 : (opr Tryz.f6 11 29).op = .binOp .neq 26 (.tmp 103) (.tmp 104) 26 := by kernel_rfl
theorem op_ShareField_11_34 : (opr Tryz.f6 11 34).op = .binOp .neq 26 (.tmp 108) (.tmp 109) 26 := by kernel_rfl
theorem op_ShareField_11_39 : (opr Tryz.f6 11 39).op = .binOp .neq 26 (.tmp 113) (.tmp 114) 26 := by kernel_rfl
theorem op_ShareField_14_2 : (opr Tryz.f6 14 2).op = .binOp .eql 26 (.tmp 128) (.tmp 129) 26 := by kernel_rfl
theorem op_ShareField_15_3 : (opr Tryz.f6 15 3).op = .call ⟨.value (.tmp 131), #[(.tmp 132), (.tmp 133)], #[26, 39]⟩ := by kernel_rfl
theorem op_ShareField_17_5 : (opr Tryz.f6 17 5).op = .binOp .eql 26 (.tmp 144) (.tmp 145) 26 := by kernel_rfl
theorem op_ShareField_17_14 : (opr Tryz.f6 17 14).op = .binOp .eql 26 (.tmp 153) (.tmp 154) 26 := by kernel_rfl
end Go.Proofs.YtcleogdmobdnpaaGreat
namespace Go.Proofs.YtcleogdmobdnpaaGreat
open Go.RowKit Go.RX Go.WD

section
variable {H : PH} {r s t : Rat}
/-- Fractions of good size. -/
def Rg (r : Rat) : Prop := ∃ k, k ≤ 511 ∧ Rb k r
theorem rg_of {k : Nat} (h : Rb k r) (hk : k ≤ 511) : Rg r := ⟨k, hk, h⟩
theorem rg_ok (h : Rg r) : okB (rs r.num) (rs (r.den : Int)) = true := h.elim fun _ h => (rb_ok h.2 h.1).1
theorem rg_rat (h : Rg r) : ratOf (rs r.num) (rs (r.den : Int)) = r := h.elim fun _ h => (rb_ok h.2 h.1).2
theorem rg_told (h : Rg r) : toldR r = .tuple #[shR r, .int .i64 0] := h.elim fun _ h => told_rb h.2 h.1
theorem go_add (hr : Rg r) (hs : Rg s) (ht : r + s = t) (hT : Rg t) : Con Tryz.prog 33 [shR r, shR s] H fun u H' => PH.le H H' ∧ u = .tuple #[shR t, .int .i64 0] :=
  (con_sAdd _ _ _ _).mono fun u H' ⟨l, h⟩ => ⟨l, by rw [h, rg_ok hr, rg_ok hs, rg_rat hr, rg_rat hs, ht]; exact rg_told hT⟩
theorem go_sub (hr : Rg r) (hs : Rg s) (ht : r - s = t) (hT : Rg t) : Con Tryz.prog 34 [shR r, shR s] H fun u H' => PH.le H H' ∧ u = .tuple #[shR t, .int .i64 0] :=
  (con_sSub _ _ _ _).mono fun u H' ⟨l, h⟩ => ⟨l, by rw [h, rg_ok hr, rg_ok hs, rg_rat hr, rg_rat hs, ht]; exact rg_told hT⟩
theorem go_mul (hr : Rg r) (hs : Rg s) (ht : r * s = t) (hT : Rg t) : Con Tryz.prog 35 [shR r, shR s] H fun u H' => PH.le H H' ∧ u = .tuple #[shR t, .int .i64 0] :=
  (con_sMul _ _ _ _).mono fun u H' ⟨l, h⟩ => ⟨l, by rw [h, rg_ok hr, rg_ok hs, rg_rat hr, rg_rat hs, ht]; exact rg_told hT⟩
theorem go_div (hr : Rg r) (hs : Rg s) : Con Tryz.prog 36 [shR r, shR s] H fun u H' => PH.le H H' ∧ u = divR true r s :=
  (con_sDiv _ _ _ _).mono fun u H' ⟨l, h⟩ => ⟨l, by rw [h, rg_ok hr, rg_ok hs, rg_rat hr, rg_rat hs]; rfl⟩
theorem go_check (hr : Rg r) : Con Tryz.prog 11 [shR r] H fun u H' => PH.le H H' ∧ u = .int .i64 0 :=
  (con_sCheck _ _).mono fun u H' ⟨l, h⟩ => ⟨l, by rw [h, rg_ok hr]; rfl⟩
theorem rs_inj {x y : Int} (hx : Fits x) (hy : Fits y) (h : rs x % M = rs y % M) : x = y := by
  rw [rs_mod, rs_mod] at h
  rw [← toI_rs hx, ← toI_rs hy, h]
theorem rg_fits (h : Rg r) : Fits r.num ∧ Fits (r.den : Int) := by
  obtain ⟨k, hk, h⟩ := h
  have h1 := rb_fits h hk
  exact ⟨h1.1, by have := HM_pos; omega, h1.2⟩
theorem eq_shR {o : Oper} {x y : Operand} (hr : Rg r) (hs : Rg s) (ho : o.op = .binOp .eql 26 x y 26) (hx : ∀ u v, argEv [x, y] [u, v] x = u) (hy : ∀ u v, argEv [x, y] [u, v] y = v) : Yld Tryz.prog o [shR r, shR s] (.bool (decide (r = s))) := by
  have h := eq_share (a := rs r.num) (b := rs (r.den : Int)) (c := rs s.num) (d := rs (s.den : Int)) ho hx hy
  have e : (decide (rs r.num % M = rs s.num % M) && decide (rs (r.den : Int) % M = rs (s.den : Int) % M)) = decide (r = s) := by
    rw [Bool.eq_iff_iff, Bool.and_eq_true, decide_eq_true_iff, decide_eq_true_iff, decide_eq_true_iff]
    constructor
    · rintro ⟨h1, h2⟩
      have e1 := rs_inj (rg_fits hr).1 (rg_fits hs).1 h1
      have e2 := rs_inj (rg_fits hr).2 (rg_fits hs).2 h2
      exact Rat.ext e1 (by omega)
    · rintro rfl; exact ⟨rfl, rfl⟩
  rw [e] at h
  exact h
theorem rg_zero : Rg 0 := ⟨1, by omega, by decide, by decide⟩
theorem rg_one : Rg 1 := ⟨1, by omega, by decide, by decide⟩
set_option maxRecDepth 100000 in
set_option maxHeartbeats 4000000 in
theorem con_shareField {v0 v1 v2 : Value} (h0 : Dr2 H v0) (h1 : Dr2 H v1) (h2 : Dr2 H v2) : Con Tryz.prog 6 [v0, v1, v2] H fun u H' => u = .bool true ∧ PH.le H H' := by
  have r0 := h0.rq
  have r1 := h1.rq
  have r2 := h2.rq
  have g0 := h0
  have g1 := h1
  have g2 := h2
  obtain ⟨a0, a1, a2, a3, a4, a5, rfl, -, -⟩ := g0
  obtain ⟨b0, b1, b2, b3, b4, b5, rfl, -, -⟩ := g1
  obtain ⟨c0, c1, c2, c3, c4, c5, rfl, -, -⟩ := g2
  refine con_of_tree mixed tr_ShareField np_ShareField rfl (den_rq r0 (den_rq r1 (den_rq r2 (den_call (con_hworks H) rfl ?_))))
  rintro _ H0 ⟨rfl, l0⟩
  simp only [List.cons_append, List.nil_append]
  refine ⟨fun h => (nomatch h), den_rq ⟨_, rfl⟩ (den_rq rfl (den_call (con_qShort (h0.mono l0)) rfl ?_))⟩
  rintro _ H1 ⟨l1, x, rfl, hx⟩
  simp only [List.cons_append, List.nil_append]
  refine ⟨fun _ => l1, den_call (con_qShare (h1.mono (l0.trans l1))) rfl ?_⟩
  rintro _ H2 ⟨l2, y, rfl, hy⟩
  simp only [List.cons_append, List.nil_append]
  refine ⟨fun _ => l2, den_call (con_qShort (h2.mono (l0.trans (l1.trans l2)))) rfl ?_⟩
  rintro _ H3 ⟨l3, z, rfl, hz⟩
  simp only [List.cons_append, List.nil_append]
  have gx : Rg x := rg_of hx (by omega)
  have gy : Rg y := rg_of hy (by omega)
  have gz : Rg z := rg_of hz (by omega)
  have hxy : Rb 212 (x + y) := hx.add hy (by omega)
  have gxy : Rg (x + y) := rg_of hxy (by omega)
  have gxz : Rg (x * z) := rg_of (hx.mul hz (m := 20) (by omega)) (by omega)
  have gyz : Rg (y * z) := rg_of (hy.mul hz (m := 211) (by omega)) (by omega)
  have gp : Rg ((x + y) * z) := rg_of (hxy.mul hz (m := 222) (by omega)) (by omega)
  refine ⟨fun _ => l3, den_rq (shv_one _ _) (den_rq (shv_one _ _) (den_rq (shv_one _ _) (den_call (go_add gx gy rfl gxy) rfl ?_)))⟩
  rintro _ H4 ⟨l4, rfl⟩
  simp only [List.cons_append, List.nil_append]
  refine ⟨fun h => (nomatch h), den_rq ⟨_, rfl, by simp⟩ (den_rq ⟨_, rfl, by simp⟩ (den_rq (shv_one _ _) (den_call (go_add gy gx (Rat.add_comm y x) gxy) rfl ?_)))⟩
  rintro _ H5 ⟨l5, rfl⟩
  simp only [List.cons_append, List.nil_append]
  refine ⟨fun h => (nomatch h), den_rq ⟨_, rfl, by simp⟩ (den_rq ⟨_, rfl, by simp⟩ (den_rq (shv_one _ _) (den_call (go_sub (t := x) gxy gy (Rat.add_sub_cancel) gx) rfl ?_)))⟩
  rintro _ H6 ⟨l6, rfl⟩
  simp only [List.cons_append, List.nil_append]
  refine ⟨fun h => (nomatch h), den_rq ⟨_, rfl, by simp⟩ (den_rq ⟨_, rfl, by simp⟩ (den_rq (shv_one _ _) (den_call (go_mul gx gz rfl gxz) rfl ?_)))⟩
  rintro _ H7 ⟨l7, rfl⟩
  simp only [List.cons_append, List.nil_append]
  refine ⟨fun h => (nomatch h), den_rq ⟨_, rfl, by simp⟩ (den_rq ⟨_, rfl, by simp⟩ (den_rq (shv_one _ _) (den_call (go_mul gy gz rfl gyz) rfl ?_)))⟩
  rintro _ H8 ⟨l8, rfl⟩
  simp only [List.cons_append, List.nil_append]
  refine ⟨fun h => (nomatch h), den_rq ⟨_, rfl, by simp⟩ (den_rq ⟨_, rfl, by simp⟩ (den_rq (shv_one _ _) (den_call (go_add gxz gyz (Rat.add_mul x y z).symm gp) rfl ?_)))⟩
  rintro _ H9 ⟨l9, rfl⟩
  simp only [List.cons_append, List.nil_append]
  refine ⟨fun h => (nomatch h), den_rq ⟨_, rfl, by simp⟩ (den_rq ⟨_, rfl, by simp⟩ (den_rq (shv_one _ _) (den_call (go_mul gxy gz rfl gp) rfl ?_)))⟩
  rintro _ H10 ⟨l10, rfl⟩
  simp only [List.cons_append, List.nil_append]
  refine ⟨fun h => (nomatch h), den_rq ⟨_, rfl, by simp⟩ (den_rq ⟨_, rfl, by simp⟩ (den_rq (shv_one _ _) (den_rq ⟨_, rfl⟩ (den_rq rfl (den_rq ⟨_, rfl⟩ (den_rq rfl (den_rq ⟨_, rfl⟩ (den_rq rfl (den_rq ⟨_, rfl⟩ (den_rq rfl (den_rq ⟨_, rfl⟩ (den_rq rfl (den_rq ⟨_, rfl⟩ (den_rq rfl (den_rq ⟨_, rfl⟩ (den_rq rfl ?_))))))))))))))))⟩
  refine den_prim ((ne_share_self op_ShareField_11_29 (fun _ _ => rfl) (fun _ _ => rfl)).rds _) rfl (den_rq rfl (den_prim ((ne_share_self op_ShareField_11_34 (fun _ _ => rfl) (fun _ _ => rfl)).rds _) rfl (den_rq rfl (den_prim ((ne_share_self op_ShareField_11_39 (fun _ _ => rfl) (fun _ _ => rfl)).rds _) rfl (den_rq rfl (den_call (go_check gp) rfl ?_))))))
  rintro _ H11 ⟨l11, rfl⟩
  simp only [List.cons_append, List.nil_append]
  refine ⟨fun h => (nomatch h), den_rq ⟨_, rfl⟩ (den_rq rfl (den_call (go_div gxz gz) rfl ?_))⟩
  rintro _ H12 ⟨l12, rfl⟩
  simp only [List.cons_append, List.nil_append]
  have l12' : PH.le H H12 := l0.trans (l1.trans (l2.trans (l3.trans (l4.trans (l5.trans (l6.trans (l7.trans (l8.trans (l9.trans (l10.trans (l11.trans l12)))))))))))
  by_cases hz0 : z = 0
  · subst hz0
    have e : divR true (x * 0) 0 = .tuple #[shv 0 0, .int .i64 7] := rfl
    rw [e]
    refine ⟨fun h => (nomatch h), den_rq ⟨_, rfl, by simp⟩ (den_rq ⟨_, rfl, by simp⟩ (den_rq (shv_one _ _) (den_call (con_hq 0 (by omega) (by omega) (by omega) (by omega) (by omega) (by decide +kernel) (by unfold Sm; decide +kernel)) rfl ?_)))⟩
    rintro _ H13 ⟨l13, rfl⟩
    simp only [List.cons_append, List.nil_append]
    refine ⟨fun _ => l13, den_prim ((eq_share_self op_ShareField_14_2 (fun _ _ => rfl) (fun _ _ => rfl)).rds _) rfl (den_rq ⟨_, rfl⟩ (den_true rfl (den_call (con_hfails 7) rfl ?_)))⟩
    rintro _ H14 ⟨b14, rfl, l14, hb14⟩
    simp only [List.cons_append, List.nil_append]
    refine ⟨fun _ => l14, den_eff (opn_callv (f := 100) (caps := #[ptr b14]) (vs := [shv 0 0, .int .i64 7]) op_ShareField_15_3 rfl rfl ent_hfails1 (con_hfails1 hb14)) rfl ?_⟩
    rintro _ H15 ⟨l15, rfl⟩
    exact ⟨fun _ => l15, den_ret rfl ⟨rfl, l12'.trans (l13.trans (l14.trans l15))⟩⟩
  · have e : divR true (x * z) z = .tuple #[shR x, .int .i64 0] := by
      unfold divR
      rw [if_pos rfl, if_neg hz0, Rat.mul_div_cancel hz0]
      exact rg_told gx
    rw [e]
    refine ⟨fun h => (nomatch h), den_rq ⟨_, rfl, by simp⟩ (den_rq ⟨_, rfl, by simp⟩ (den_rq (shv_one _ _) (den_call (con_hq 0 (by omega) (by omega) (by omega) (by omega) (by omega) (by decide +kernel) (by unfold Sm; decide +kernel)) rfl ?_)))⟩
    rintro _ H13 ⟨l13, rfl⟩
    simp only [List.cons_append, List.nil_append]
    refine ⟨fun _ => l13, den_prim ((eq_shR gz rg_zero op_ShareField_14_2 (fun _ _ => rfl) (fun _ _ => rfl)).rds _) rfl (den_rq ⟨_, rfl⟩ (den_false (by rw [decide_eq_false hz0]; rfl) (den_call (go_div gz gz) rfl ?_)))⟩
    rintro _ H14 ⟨l14, rfl⟩
    have e2 : divR true z z = .tuple #[shR 1, .int .i64 0] := by
      unfold divR
      rw [if_pos rfl, if_neg hz0, Rat.div_def, Rat.mul_inv_cancel _ hz0]
      exact rg_told rg_one
    rw [e2]
    simp only [List.cons_append, List.nil_append]
    refine ⟨fun h => (nomatch h), den_rq ⟨_, rfl, by simp⟩ (den_rq ⟨_, rfl, by simp⟩ (den_rq (shv_one _ _) (den_rq ⟨_, rfl⟩ (den_rq rfl (den_prim ((eq_share_self op_ShareField_17_5 (fun _ _ => rfl) (fun _ _ => rfl)).rds _) rfl (den_rq rfl (den_rq ⟨_, rfl⟩ (den_rq rfl (den_call (con_hq 1 (by omega) (by omega) (by omega) (by omega) (by omega) (by decide +kernel) (by unfold Sm; decide +kernel)) rfl ?_)))))))))⟩
    rintro _ H15 ⟨l15, rfl⟩
    simp only [List.cons_append, List.nil_append]
    exact ⟨fun _ => l15, den_prim ((eq_share_self op_ShareField_17_14 (fun _ _ => rfl) (fun _ _ => rfl)).rds _) rfl (den_ret rfl ⟨rfl, l12'.trans (l13.trans (l14.trans l15))⟩)⟩
end
end Go.Proofs.YtcleogdmobdnpaaGreat

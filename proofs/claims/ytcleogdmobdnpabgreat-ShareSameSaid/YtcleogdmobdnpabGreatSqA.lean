/- The law ShareSame; its tree is printed by rxgen.py. -/
import Derived.Test.YtcleogdmobdnpabGreatWdT
import Derived.Test.YtcleogdmobdnpabGreatSrD
import Derived.Test.YtcleogdmobdnpabGreatSpA
namespace Go.Proofs.YtcleogdmobdnpabGreat
open Go.RowKit Go.RX Go.WD
theorem tr_ShareSame : tree Tryz.prog [] [(24, false), (60, false), (64, false), (68, false), (72, false), (76, false), (81, false), (89, false), (96, false), (103, false), (110, false), (116, false), (143, true), (147, true), (151, true)] [⟨3, 9, [116], []⟩] [⟨3, [0, 1, 0, 7, 0, 0, 63, 127], [5, 2, 5, 2, 3, 3, 4, 4], [0, 0, 1, 0, 0, 0, 0, 0], [0, 2, 1, 3, 4, 5], [6, 7]⟩] 5 = some (.rq (.cells 6 (.v 0))
(.rq (.cells 6 (.v 1))
(.call false 7 []
(.rq (.bool (.v 3))
(.rq (.isb false (.nt (.v 3)))
(.call true 26 [(.ag (.v 0))]
(.call true 26 [(.ag (.v 1))]
(.rq (.cells 16 (.v 4))
(.rq (.cells 16 (.v 5))
(.call false 33 [(.ag (.v 4)), (.ag (.v 5))]
(.rq (.tup 0 (.v 6))
(.rq (.tup 1 (.v 6))
(.call false 14 [(.ag (.v 4)), (.ag (.v 5))]
(.rq (.tup 0 (.v 7))
(.rq (.tup 1 (.v 7))
(.rq (.cells 16 (.proj (.v 7) 0))
(.call false 35 [(.ag (.proj (.v 7) 0))]
(.rq (.tup 0 (.v 8))
(.rq (.tup 1 (.v 8))
(.call false 17 [(.ag (.v 4)), (.ag (.v 5))]
(.rq (.tup 0 (.v 9))
(.rq (.tup 1 (.v 9))
(.rq (.cells 16 (.proj (.v 9) 0))
(.call false 18 [(.ag (.v 4)), (.ag (.v 5))]
(.rq (.tup 0 (.v 10))
(.rq (.tup 1 (.v 10))
(.rq (.cells 16 (.proj (.v 10) 0))
(.join 1
 (.rq (.int .i64 (.proj (.v 6) 1))
 (.rq (.isb false (.op2 .neq .i64 (.proj (.v 6) 1) (.k (.int .i64 (0)))))
 (.rq (.int .i64 (.proj (.v 7) 1))
 (.rq (.isb false (.op2 .neq .i64 (.proj (.v 7) 1) (.k (.int .i64 (0)))))
 (.rq (.int .i64 (.proj (.v 8) 1))
 (.rq (.isb false (.op2 .neq .i64 (.proj (.v 8) 1) (.k (.int .i64 (0)))))
 (.rq (.int .i64 (.proj (.v 9) 1))
 (.rq (.isb false (.op2 .neq .i64 (.proj (.v 9) 1) (.k (.int .i64 (0)))))
 (.rq (.int .i64 (.proj (.v 10) 1))
 (.rq (.isb false (.op2 .neq .i64 (.proj (.v 10) 1) (.k (.int .i64 (0)))))
 (.rq (.int .i64 (.proj (.v 6) 0))
 (.rq (.int .i64 (.proj (.v 8) 0))
 (.rq (.isb false (.op2 .neq .i64 (.proj (.v 6) 0) (.proj (.v 8) 0)))
 (.prim 9 28 (opr Tryz.f5 9 28) [(.ag (.v 4)), (.ag (.v 5))]
 (.rq (.bool (.v 11))
 (.rq (.isb false (.eqb true (.op2 .eql .i64 (.proj (.v 6) 0) (.k (.int .i64 (0)))) (.v 11)))
 (.br (.op2 .leq .i64 (.proj (.v 6) 0) (.k (.int .i64 (0))))
  (.prim 9 37 (opr Tryz.f5 9 37) [(.ag (.proj (.v 9) 0)), (.ag (.v 4))]
  (.rq (.isb false (.v 12))
  (.prim 9 41 (opr Tryz.f5 9 41) [(.ag (.proj (.v 10) 0)), (.ag (.v 5))]
  (.rq (.isb false (.v 13))
  (.br (.op2 .gtr .i64 (.proj (.v 6) 0) (.k (.int .i64 (0))))
   (.prim 9 51 (opr Tryz.f5 9 51) [(.ag (.proj (.v 9) 0)), (.ag (.v 5))]
   (.rq (.isb false (.v 14))
   (.prim 9 55 (opr Tryz.f5 9 55) [(.ag (.proj (.v 10) 0)), (.ag (.v 4))]
   (.next 0 [(.v 15)]))))
   (.next 0 [(.k (.bool false))]))))))
  (.br (.op2 .gtr .i64 (.proj (.v 6) 0) (.k (.int .i64 (0))))
   (.prim 9 51 (opr Tryz.f5 9 51) [(.ag (.proj (.v 9) 0)), (.ag (.v 5))]
   (.rq (.isb false (.v 12))
   (.prim 9 55 (opr Tryz.f5 9 55) [(.ag (.proj (.v 10) 0)), (.ag (.v 4))]
   (.next 0 [(.v 13)]))))
   (.next 0 [(.k (.bool false))])))))))))))))))))))
 (.rq (.isb false (.v 11))
 (.rq (.int .u16 (.v 2))
 (.call false 31 [(.op2 .add .i64 (.cv .i64 (.v 2)) (.k (.int .i64 (1))))]
 (.rq (.cells 8 (.v 12))
 (.call false 36 [(.sub (.v 4) 0 8 0 noI), (.ag (.v 12))]
 (.rq (.tup 0 (.v 13))
 (.rq (.tup 1 (.v 13))
 (.rq (.cells 8 (.proj (.v 13) 0))
 (.call false 36 [(.sub (.v 4) 8 8 0 noI), (.ag (.v 12))]
 (.rq (.tup 0 (.v 14))
 (.rq (.tup 1 (.v 14))
 (.rq (.cells 8 (.proj (.v 14) 0))
 (.call false 30 [(.ag (.proj (.v 13) 0)), (.ag (.proj (.v 14) 0))]
 (.rq (.tup 0 (.v 15))
 (.rq (.tup 1 (.v 15))
 (.rq (.cells 16 (.proj (.v 15) 0))
 (.rq (.int .i64 (.proj (.v 13) 1))
 (.rq (.isb true (.op2 .eql .i64 (.proj (.v 13) 1) (.k (.int .i64 (0)))))
 (.rq (.int .i64 (.proj (.v 14) 1))
 (.rq (.isb true (.op2 .eql .i64 (.proj (.v 14) 1) (.k (.int .i64 (0)))))
 (.rq (.int .i64 (.proj (.v 15) 1))
 (.rq (.isb true (.op2 .eql .i64 (.proj (.v 15) 1) (.k (.int .i64 (0)))))
 (.prim 15 13 (opr Tryz.f5 15 13) [(.ag (.proj (.v 15) 0)), (.ag (.v 4))]
 (.ret [(.v 16)])))))))))))))))))))))))))))))))))))))))))))))))))))) := by kernel_rfl
theorem np_ShareSame : (Tryz.prog.funcs[5]?).map (fun fn => fn.params.size + fn.nfree) = some 3 := by kernel_rfl
theorem op_ShareSame_9_28 : (opr Tryz.f5 9 28).op = .binOp .eql 26 (.tmp 84) (.tmp 85) 26 := by kernel_rfl
theorem op_ShareSame_9_37 : (opr Tryz.f5 9 37).op = .binOp .neq 26 (.tmp 93) (.tmp 94) 26 := by kernel_rfl
theorem op_ShareSame_9_41 : (opr Tryz.f5 9 41).op = .binOp .neq 26 (.tmp 97) (.tmp 98) 26 := by kernel_rfl
theorem op_ShareSame_9_51 : (opr Tryz.f5 9 51).op = .binOp .neq 26 (.tmp 107) (.tmp 108) 26 := by kernel_rfl
theorem op_ShareSame_9_55 : (opr Tryz.f5 9 55).op = .binOp .neq 26 (.tmp 111) (.tmp 112) 26 := by kernel_rfl
theorem op_ShareSame_15_13 : (opr Tryz.f5 15 13).op = .binOp .eql 26 (.tmp 152) (.tmp 153) 26 := by kernel_rfl
theorem sg_sub (r s : Rat) : sgI (r - s).num 0 = sgR r s := by
  have h1 : (r - s).num < 0 ↔ r < s := by
    have : (r - s).num < 0 ↔ ¬ 0 ≤ r - s := by rw [← Rat.num_nonneg]; omega
    rw [this]; grind
  have h2 : (r - s).num = 0 ↔ r = s := by rw [Rat.num_eq_zero]; grind
  unfold sgI sgR
  simp only [h1, h2]
theorem sg_zero (r s : Rat) : (sgR r s == 0) = decide (r = s) := by
  rw [Bool.eq_iff_iff, beq_iff_eq, decide_eq_true_iff]
  unfold sgR
  split
  · rename_i h; exact ⟨fun h2 => by omega, fun h2 => by subst h2; exact absurd h Rat.lt_irrefl⟩
  · split
    · rename_i h; exact ⟨fun _ => h, fun _ => rfl⟩
    · rename_i h; exact ⟨fun h2 => by omega, fun h2 => absurd h2 h⟩
theorem mul_cancel {p q k : Int} (hk : k ≠ 0) : Rat.divInt (p * k) (q * k) = Rat.divInt p q := by
  rw [Int.mul_comm p, Int.mul_comm q]; exact Rat.divInt_mul_left hk
set_option maxRecDepth 100000 in
set_option maxHeartbeats 4000000 in
theorem con_shareSame {H : PH} {v0 v1 : Value} (h0 : Dr2 H v0) (h1 : Dr2 H v1) (k : Nat) (hk : k < 65536) : Con Tryz.prog 5 [v0, v1, .int .u16 (k : Nat)] H fun u H' => u = .bool true ∧ PH.le H H' := by
  have r0 := h0.rq
  have r1 := h1.rq
  have h0' := h0
  have h1' := h1
  obtain ⟨a0, a1, a2, a3, a4, a5, rfl, -, -⟩ := h0
  obtain ⟨b0, b1, b2, b3, b4, b5, rfl, -, -⟩ := h1
  refine con_of_tree mixed tr_ShareSame np_ShareSame rfl (den_rq r0 (den_rq r1 (den_call (con_hworks H) rfl ?_)))
  rintro _ H1 ⟨rfl, l1⟩
  simp only [List.cons_append, List.nil_append]
  refine ⟨fun h => (nomatch h), den_rq ⟨_, rfl⟩ (den_rq rfl (den_call (con_qShort (h0'.mono l1)) rfl ?_))⟩
  rintro _ H2 ⟨l2, x, rfl, hx⟩
  simp only [List.cons_append, List.nil_append]
  refine ⟨fun _ => l2, den_call (con_qShort (h1'.mono (l1.trans l2))) rfl ?_⟩
  rintro _ H3 ⟨l3, y, rfl, hy⟩
  simp only [List.cons_append, List.nil_append]
  have gx : Rg x := rg_of hx (by omega)
  have gy : Rg y := rg_of hy (by omega)
  have gd : Rg (x - y) := by rw [Rat.sub_eq_add_neg]; exact rg_of (hx.add hy.neg (m := 21) (by omega)) (by omega)
  refine ⟨fun _ => l3, den_rq (shv_one _ _) (den_rq (shv_one _ _) (den_call (go_cmp gx gy) rfl ?_))⟩
  rintro _ H4 ⟨l4, rfl⟩
  simp only [List.cons_append, List.nil_append]
  refine ⟨fun h => (nomatch h), den_t2 rfl (den_call (go_sub gx gy rfl gd) rfl ?_)⟩
  rintro _ H5 ⟨l5, rfl⟩
  simp only [List.cons_append, List.nil_append]
  refine ⟨fun h => (nomatch h), den_t2s rfl (den_call (go_sign gd) rfl ?_)⟩
  rintro _ H6 ⟨l6, rfl⟩
  simp only [List.cons_append, List.nil_append]
  rw [sg_sub]
  refine ⟨fun h => (nomatch h), den_t2 rfl (den_call (go_min gx gy) rfl ?_)⟩
  rintro _ H7 ⟨l7, rfl⟩
  simp only [List.cons_append, List.nil_append]
  refine ⟨fun h => (nomatch h), den_t2s rfl (den_call (go_max gx gy) rfl ?_)⟩
  rintro _ H8 ⟨l8, rfl⟩
  simp only [List.cons_append, List.nil_append]
  have l18 := l1.trans (l2.trans (l3.trans (l4.trans (l5.trans (l6.trans (l7.trans l8))))))
  have eqs : (sgR x y == 0) = decide (x = y) := sg_zero x y
  refine ⟨fun h => (nomatch h), den_t2s rfl ⟨fun vals H' => vals = [.bool false] ∧ H' = H8, ?_, ?_⟩⟩
  · refine den_e0 rfl (den_e0 rfl (den_e0 rfl (den_e0 rfl (den_e0 rfl (den_rq ⟨_, rfl⟩ (den_rq ⟨_, rfl⟩ (den_rq (bft _) (den_prim ((eq_shR gx gy op_ShareSame_9_28 (fun _ _ => rfl) (fun _ _ => rfl)).rds _) rfl (den_rq ⟨_, rfl⟩ (den_rq ?_ ?_))))))))))
    · show Value.bool (true != ((sgR x y == 0) == decide (x = y))) = _
      rw [eqs, beq_self_eq_true]; rfl
    simp only [List.cons_append, List.nil_append]
    refine den_br (b := decide (sgR x y ≤ 0)) rfl (fun hc => ?_) (fun hc => ?_)
    · have hc := of_decide_eq_true hc
      rw [if_pos hc]
      have hmx : (if sgR x y < 0 then y else x) = y := by
        split
        · rfl
        · have : sgR x y = 0 := by omega
          rw [← beq_iff_eq, eqs, decide_eq_true_iff] at this
          exact this
      rw [hmx]
      exact den_prim ((ne_share_self op_ShareSame_9_37 (fun _ _ => rfl) (fun _ _ => rfl)).rds _) rfl (den_rq rfl (den_prim ((ne_share_self op_ShareSame_9_41 (fun _ _ => rfl) (fun _ _ => rfl)).rds _) rfl (den_rq rfl (den_br (b := decide (sgR x y > 0)) rfl (fun hd => by have := of_decide_eq_true hd; omega) (fun _ => ⟨rfl, rfl⟩)))))
    · have hc := of_decide_eq_false hc
      rw [if_neg hc, if_neg (by omega)]
      exact den_br (b := decide (sgR x y > 0)) rfl (fun _ => den_prim ((ne_share_self op_ShareSame_9_51 (fun _ _ => rfl) (fun _ _ => rfl)).rds _) rfl (den_rq rfl (den_prim ((ne_share_self op_ShareSame_9_55 (fun _ _ => rfl) (fun _ _ => rfl)).rds _) rfl ⟨rfl, rfl⟩))) (fun hd => by have := of_decide_eq_false hd; omega)
  rintro vals _ - ⟨rfl, rfl⟩
  simp only [List.cons_append, List.nil_append]
  have ek : IntKind.i64.wrap (IntKind.i64.wrap (k : Int) + 1) = (k : Int) + 1 := by
    have e0 : IntKind.i64.wrap (k : Int) = (k : Int) := wfit (by omega) (by omega)
    rw [e0, wfit (by omega) (by omega)]
  obtain ⟨m, hm⟩ : ∃ m : Int, m = (k : Int) + 1 := ⟨_, rfl⟩
  rw [← hm] at ek
  have fm : Fits m := fits_small (by omega) (by omega)
  have am : m.natAbs < 2 ^ 17 := by omega
  have an : (x.num * m).natAbs < 2 ^ 27 := mul_abs hx.1 am
  have ad : ((x.den : Int) * m).natAbs < 2 ^ 27 := mul_abs (dabs hx.2) am
  have Fn : Fits (x.num * m) := fits_abs an (by omega)
  have Fd : Fits ((x.den : Int) * m) := fits_abs ad (by omega)
  have kn := det_Mul (rs x.num) (rs m)
  have kd := det_Mul (rs (x.den : Int)) (rs m)
  rw [toI_rs (rg_fits gx).1, toI_rs fm, told_fits Fn] at kn
  rw [toI_rs (rg_fits gx).2, toI_rs fm, told_fits Fd] at kd
  have hd0 : (x.den : Int) * m ≠ 0 := Int.mul_ne_zero (by have := x.den_nz; omega) (by omega)
  refine den_rq rfl (den_rq ⟨_, rfl⟩ (den_det (det_Of m (by omega) (by omega)) ?_ ?_))
  · rw [List.map_cons, List.map_nil]
    exact congrArg (fun z => [Value.int .i64 z]) ek
  simp only [List.cons_append, List.nil_append]
  refine den_rq ⟨words_size _, words_one _⟩ (den_det kn ?_ (den_t2w rfl ?_))
  · rw [List.map_cons, List.map_cons, List.map_nil]
    exact congrArg (fun z => [z, iw m]) (sh_n (rs x.num) (rs (x.den : Int)))
  simp only [List.cons_append, List.nil_append]
  refine den_det kd ?_ (den_t2w rfl ?_)
  · rw [List.map_cons, List.map_cons, List.map_nil]
    exact congrArg (fun z => [z, iw m]) (sh_d (rs x.num) (rs (x.den : Int)))
  simp only [List.cons_append, List.nil_append]
  refine den_call (go_make (t := x) Fn Fd hd0 (by rw [mul_cancel (by omega), Rat.num_divInt_den]) gx) rfl ?_
  rintro _ H9 ⟨l9, rfl⟩
  simp only [List.cons_append, List.nil_append]
  refine ⟨fun h => (nomatch h), den_t2s rfl (den_e1 rfl (den_e1 rfl (den_e1 rfl (den_prim ((eq_share_self op_ShareSame_15_13 (fun _ _ => rfl) (fun _ _ => rfl)).rds _) rfl (den_ret rfl ⟨rfl, l18.trans l9⟩)))))⟩
end Go.Proofs.YtcleogdmobdnpabGreat

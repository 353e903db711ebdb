/- The law ShareMakes; its tree is printed by rxgen.py. -/
import Derived.Test.YtcleogdmobdnpaaGreatWdT
import Derived.Test.YtcleogdmobdnpaaGreatSpA
namespace Go.Proofs.YtcleogdmobdnpaaGreat
open Go.RowKit Go.RX Go.WD
theorem tr_ShareMakes : tree Tryz.prog [] [(20, false), (55, false), (60, false), (64, false), (88, false), (92, false)] [⟨3, 8, [64], []⟩, ⟨3, 16, [92], []⟩, ⟨0, 4, [], []⟩, ⟨0, 12, [], []⟩] [⟨8, [0, 1, 3, 0, 8, 31, 63, 127, 255, 255, 1023, 2047, 4095, 8191, 8191, 32767, 65535], [1, 1, 2, 1, 1, 2, 0, 0, 5, 5, 1, 0, 0, 0, 0, 0, 0], [0, 0, 0, 0, 0, 0, 0, 0, 2, 3, 0, 0, 0, 0, 0, 0, 0], [0, 1, 3, 4, 2, 5, 6, 7, 8, 9, 10, 11, 12, 13, 14, 15, 16], []⟩] 3 = some (.rq (.cells 44 (.v 0))
(.call false 7 []
(.rq (.bool (.v 3))
(.rq (.isb false (.nt (.v 3)))
(.call false 8 [(.ag (.v 0))]
(.prim 3 2 (opr Tryz.f3 3 2) [(.v 4)]
(.loop [(.k (.bool false)), (.k (.int .i64 (0)))]
 (.rq (.int .i64 (.v 7))
 (.rq (.int .i64 (.v 5))
 (.br (.op2 .lss .i64 (.v 7) (.v 5))
  (.prim 5 0 (opr Tryz.f3 5 0) [(.v 4), (.v 7)]
  (.prim 5 1 (opr Tryz.f3 5 1) [(.v 8)]
  (.rq (.cells 32 (.v 9))
  (.call false 9 [(.sub (.v 9) 0 8 0 noI), (.sub (.v 9) 24 8 0 noI)]
  (.rq (.tup 0 (.v 10))
  (.rq (.tup 1 (.v 10))
  (.rq (.cells 16 (.proj (.v 10) 0))
  (.call false 10 [(.sub (.v 9) 0 8 0 noI), (.sub (.v 9) 24 8 0 noI)]
  (.rq (.tup 0 (.v 11))
  (.rq (.tup 1 (.v 11))
  (.rq (.cells 16 (.proj (.v 11) 0))
  (.join 1
   (.call true 11 [(.sub (.v 9) 0 16 0 noI)]
   (.call true 12 [(.sub (.v 9) 0 16 0 noI)]
   (.rq (.int .i64 (.v 12))
   (.rq (.int .i64 (.v 13))
   (.rq (.isb false (.op2 .neq .i64 (.v 12) (.v 13)))
   (.prim 8 10 (opr Tryz.f3 8 10) [(.ag (.proj (.v 10) 0)), (.ag (.proj (.v 11) 0))]
   (.rq (.isb false (.v 14))
   (.rq (.int .i64 (.proj (.v 10) 1))
   (.rq (.int .i64 (.proj (.v 11) 1))
   (.next 1 [(.op2 .neq .i64 (.proj (.v 10) 1) (.proj (.v 11) 1))]))))))))))
   (.rq (.isb false (.v 12))
   (.next 0 [(.v 6), (.op2 .add .i64 (.v 7) (.k (.int .i64 (1))))]))))))))))))))
  (.rq (.int .i64 (.v 2))
  (.rq (.cells 1 (.v 2))
  (.loop [(.v 6), (.k (.int .i64 (0)))]
   (.rq (.int .i64 (.v 9))
   (.br (.op2 .lss .i64 (.v 9) (.k (.int .i64 (2))))
    (.rq (.num (.v 9))
    (.rq (.lt 2 (.v 9))
    (.call false 13 [(.v 1), (.cell (.put (.put (.z 43) 0 1 (.v 2) 0 noI) 1 1 (.op2 .rem .i64 (.v 2) (.k (.int .i64 (50)))) 0 noI) 0 1 (.v 9))]
    (.rq (.tup 0 (.v 10))
    (.rq (.tup 1 (.v 10))
    (.rq (.cells 16 (.proj (.v 10) 0))
    (.call false 14 [(.v 1), (.cell (.put (.put (.z 43) 0 1 (.v 2) 0 noI) 1 1 (.op2 .rem .i64 (.v 2) (.k (.int .i64 (50)))) 0 noI) 0 1 (.v 9))]
    (.rq (.tup 0 (.v 11))
    (.rq (.tup 1 (.v 11))
    (.rq (.cells 16 (.proj (.v 11) 0))
    (.join 1
     (.prim 16 2 (opr Tryz.f3 16 2) [(.ag (.proj (.v 10) 0)), (.ag (.proj (.v 11) 0))]
     (.rq (.isb false (.v 12))
     (.rq (.int .i64 (.proj (.v 10) 1))
     (.rq (.int .i64 (.proj (.v 11) 1))
     (.next 2 [(.op2 .neq .i64 (.proj (.v 10) 1) (.proj (.v 11) 1))])))))
     (.rq (.isb false (.v 12))
     (.next 1 [(.v 8), (.op2 .add .i64 (.v 9) (.k (.int .i64 (1))))])))))))))))))
    (.ret [(.k (.bool true))])))))))))))))))) := by kernel_rfl
theorem np_ShareMakes : (Tryz.prog.funcs[3]?).map (fun fn => fn.params.size + fn.nfree) = some 3 := by kernel_rfl
theorem op_ShareMakes_3_2 : (opr Tryz.f3 3 2).op = .call ⟨.builtin .len, #[(.tmp 22)], #[36]⟩ := by kernel_rfl
theorem op_ShareMakes_5_0 : (opr Tryz.f3 5 0).op = .indexAddr 36 (.tmp 22) (.tmp 24) := by kernel_rfl
theorem op_ShareMakes_5_1 : (opr Tryz.f3 5 1).op = .load 38 (.tmp 26) := by kernel_rfl
theorem op_ShareMakes_8_10 : (opr Tryz.f3 8 10).op = .binOp .neq 26 (.tmp 56) (.tmp 57) 26 := by kernel_rfl
theorem op_ShareMakes_16_2 : (opr Tryz.f3 16 2).op = .binOp .neq 26 (.tmp 85) (.tmp 86) 26 := by kernel_rfl
theorem tmod_lt (q : Int) (n : Nat) (hn : 0 < n) : (q.tmod (n : Int)).natAbs < n := by
  rw [Int.natAbs_tmod, Int.natAbs_natCast]; exact Nat.mod_lt _ hn
theorem bf (k : Int) : Value.bool (k != k) = .bool false := by rw [bne_self_eq_false]
set_option maxRecDepth 100000 in
set_option maxHeartbeats 4000000 in
theorem con_shareMakes {H : PH} {v : Value} (h : Tw2 H v) (p : Int) (p0 : -9223372036854775808 ≤ p) (p1 : p < 9223372036854775808) (q : Int) (q0 : -9223372036854775808 ≤ q) (q1 : q < 9223372036854775808) : Con Tryz.prog 3 [v, .int .i64 p, .int .i64 q] H fun u H' => u = .bool true ∧ PH.le H H' := by
  have hrq := h.rq
  have h' := h
  obtain ⟨_, _, _, _, _, _, hv, _, _⟩ := h
  obtain ⟨cs, rfl⟩ : ∃ cs, v = .agg cs := ⟨_, hv⟩
  refine con_of_tree mixed tr_ShareMakes np_ShareMakes rfl (den_rq hrq (den_call (con_hworks H) rfl ?_))
  rintro _ H1 ⟨rfl, l1⟩
  simp only [List.cons_append, List.nil_append]
  refine ⟨fun h => (nomatch h), den_rq ⟨_, rfl⟩ (den_rq rfl (den_call (con_hpairs (h'.mono l1)) rfl ?_))⟩
  rintro u2 H2 ⟨l2, ps, hn, hp⟩
  refine ⟨fun h => (nomatch h), den_splen op_ShareMakes_3_2 rfl hp rfl ⟨fun vals H' => ∃ i : Nat, vals = [.bool false, iv i] ∧ i ≤ 4 ∧ PH.le H2 H', fun vals _ => (4 - intOf (vals.getD 1 undef)).toNat, ⟨0, rfl, by omega, PH.le.refl _⟩, ?_⟩⟩
  rintro vals H3 - ⟨i, rfl, hi, l3⟩
  simp only [List.cons_append, List.nil_append]
  rw [hn]
  have lall := l1.trans (l2.trans l3)
  refine den_rq ⟨_, rfl⟩ (den_rq ⟨_, rfl⟩ (den_br (b := decide ((i : Int) < 4)) rfl (fun hb => ?_) (fun hb => ?_)))
  · have hb : i < 4 := by have := of_decide_eq_true hb; omega
    have e1 : IntKind.i64.wrap ((i : Int) + 1) = ((i + 1 : Nat) : Int) := wadd1 (by omega)
    refine den_spat (k := .i64) (j := i) op_ShareMakes_5_0 op_ShareMakes_5_1 rfl rfl (fun _ => rfl) (hp.mono l3) (by omega) rfl (fun _ => rfl) fun pp => ?_
    obtain ⟨⟨⟨a, b⟩, ⟨c, d⟩⟩, hq4⟩ : ∃ x : Q4, x = ps.getD i ((0, 0), (0, 0)) := ⟨_, rfl⟩
    rw [← hq4]
    simp only [List.cons_append, List.nil_append]
    obtain ⟨x0, x16, x08, x24⟩ := q4_ext (words_size a) (words_size b) (words_size c) (words_size d)
    have arg1 : [Value.agg (((words a ++ words b) ++ (words c ++ words d)).extract 0 8), Value.agg (((words a ++ words b) ++ (words c ++ words d)).extract 24 32)] = [wd a, wd d] := by rw [x08, x24]; rfl
    have arg2 : [Value.agg (((words a ++ words b) ++ (words c ++ words d)).extract 0 16)] = [shv a b] := by rw [x0]; rfl
    obtain ⟨n1, d1, k1, t1⟩ := makeV_form (toI a) (toI d)
    refine den_rq (q4_rq ((a, b), (c, d))) (den_call (con_sMake a d) arg1 ?_)
    rintro _ H4 ⟨l4, rfl⟩
    rw [t1]
    simp only [List.cons_append, List.nil_append]
    refine ⟨fun h => (nomatch h), den_rq ⟨_, rfl, Nat.zero_lt_succ _⟩ (den_rq ⟨_, rfl, Nat.lt_succ_self _⟩ (den_rq (shv_one n1 d1) (den_call (con_qMake a d) arg1 ?_)))⟩
    rintro _ H5 ⟨l5, rfl⟩
    rw [t1]
    simp only [List.cons_append, List.nil_append]
    refine ⟨fun h => (nomatch h), den_rq ⟨_, rfl, Nat.zero_lt_succ _⟩ (den_rq ⟨_, rfl, Nat.lt_succ_self _⟩ (den_rq (shv_one n1 d1) ⟨fun vals H' => vals = [.bool false] ∧ PH.le H5 H', den_call (con_sCheck a b) arg2 ?_, ?_⟩))⟩
    · rintro _ H6 ⟨l6, rfl⟩
      simp only [List.cons_append, List.nil_append]
      refine ⟨fun _ => l6, den_call (con_qCheck a b) arg2 ?_⟩
      rintro _ H7 ⟨l7, rfl⟩
      simp only [List.cons_append, List.nil_append]
      exact ⟨fun _ => l7, den_rq ⟨_, rfl⟩ (den_rq ⟨_, rfl⟩ (den_rq (bf _) (den_prim ((ne_share_self op_ShareMakes_8_10 (fun _ _ => rfl) (fun _ _ => rfl)).rds _) rfl (den_rq rfl (den_rq ⟨k1, rfl⟩ (den_rq ⟨k1, rfl⟩ ⟨congrArg (fun z => [z]) (bf k1), l6.trans l7⟩))))))⟩
    rintro vals H6 - ⟨rfl, l6⟩
    simp only [List.cons_append, List.nil_append]
    refine den_rq rfl ⟨⟨i + 1, ?_, by omega, l3.trans (l4.trans (l5.trans l6))⟩, ?_⟩
    · simp only [rxs, iv, e1]
    · simp only [rxs, iv, e1]
      omega
  · refine den_rq ⟨_, rfl⟩ (den_rq (one_i q) ⟨fun vals H' => ∃ i : Nat, vals = [.bool false, iv i] ∧ i ≤ 2 ∧ PH.le H H', fun vals _ => (2 - intOf (vals.getD 1 undef)).toNat, ⟨0, rfl, by omega, lall⟩, ?_⟩)
    rintro vals H4 - ⟨j, rfl, hj, l4⟩
    simp only [List.cons_append, List.nil_append]
    refine den_rq ⟨_, rfl⟩ (den_br (b := decide ((j : Int) < 2)) rfl (fun hc => ?_) (fun hc => ?_))
    · have hc : j < 2 := by have := of_decide_eq_true hc; omega
      have e1 : IntKind.i64.wrap ((j : Int) + 1) = ((j + 1 : Nat) : Int) := wadd1 (by omega)
      have hz2 : zeroV Tryz.prog 43 = .agg #[.int .i64 0, .int .i64 0] := by kernel_rfl
      have hm : (q.tmod 50).natAbs < 50 := tmod_lt q 50 (by omega)
      obtain ⟨m, hmj, m0, m1⟩ : ∃ m : Int, (spl (spl (zeroV Tryz.prog 43).cells 0 [.int .i64 q]) 1 [.int .i64 (q.tmod 50)]).getD (0 + 1 * j) undef = .int .i64 m ∧ -9223372036854775808 ≤ m ∧ m < 9223372036854775808 := by
        rw [hz2]
        rcases (show j = 0 ∨ j = 1 from by omega) with rfl | rfl
        · exact ⟨q, rfl, q0, q1⟩
        · exact ⟨q.tmod 50, rfl, by omega, by omega⟩
      have arg3 : [Value.int .i64 p, (spl (spl (zeroV Tryz.prog 43).cells 0 [.int .i64 q]) 1 [.int .i64 (q.tmod 50)]).getD (0 + 1 * j) undef] = [.int .i64 p, .int .i64 m] := by rw [hmj]
      obtain ⟨n1, d1, k1, t1⟩ := makeV_form p m
      refine den_rq ⟨_, _, rfl⟩ (den_rq ⟨by show (0 : Int) ≤ (j : Int); omega, by show (j : Int) < 2; omega⟩ (den_call (con_sOf p m p0 p1 m0 m1) arg3 ?_))
      rintro _ H5 ⟨l5, rfl⟩
      rw [t1]
      simp only [List.cons_append, List.nil_append]
      refine ⟨fun h => (nomatch h), den_rq ⟨_, rfl, Nat.zero_lt_succ _⟩ (den_rq ⟨_, rfl, Nat.lt_succ_self _⟩ (den_rq (shv_one n1 d1) (den_call (con_qOf p m p0 p1 m0 m1) arg3 ?_)))⟩
      rintro _ H6 ⟨l6, rfl⟩
      rw [t1]
      simp only [List.cons_append, List.nil_append]
      refine ⟨fun h => (nomatch h), den_rq ⟨_, rfl, Nat.zero_lt_succ _⟩ (den_rq ⟨_, rfl, Nat.lt_succ_self _⟩ (den_rq (shv_one n1 d1) ⟨fun vals H' => vals = [.bool false] ∧ PH.le H6 H', den_prim ((ne_share_self op_ShareMakes_16_2 (fun _ _ => rfl) (fun _ _ => rfl)).rds _) rfl (den_rq rfl (den_rq ⟨k1, rfl⟩ (den_rq ⟨k1, rfl⟩ ⟨congrArg (fun z => [z]) (bf k1), PH.le.refl _⟩))), ?_⟩))⟩
      rintro vals H7 - ⟨rfl, l7⟩
      simp only [List.cons_append, List.nil_append]
      refine den_rq rfl ⟨⟨j + 1, ?_, by omega, l4.trans (l5.trans (l6.trans l7))⟩, ?_⟩
      · simp only [rxs, iv, e1]
      · simp only [rxs, iv, e1]
        omega
    · exact den_ret rfl ⟨rfl, l4⟩
end Go.Proofs.YtcleogdmobdnpaaGreat

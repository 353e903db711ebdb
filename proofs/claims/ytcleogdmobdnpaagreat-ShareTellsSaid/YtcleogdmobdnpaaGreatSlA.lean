/- The law ShareTells; its tree is printed by rxgen.py. -/
import Derived.Test.YtcleogdmobdnpaaGreatWdT
import Derived.Test.YtcleogdmobdnpaaGreatSpA
import Derived.Test.YtcleogdmobdnpaaGreatSrB
namespace Go.Proofs.YtcleogdmobdnpaaGreat
open Go.RowKit Go.RX Go.WD
theorem tr_ShareTells : tree Tryz.prog [] [(20, false), (59, false), (64, false), (69, false), (73, false), (98, false), (102, false)] [⟨0, 4, [], [0]⟩, ⟨0, 13, [], []⟩] [⟨16, [0, 0, 3, 0, 8, 31, 63, 127, 127, 0, 767, 2047], [0, 0, 0, 1, 1, 2, 0, 0, 0, 3, 4, 0], [0, 0, 0, 0, 0, 0, 0, 0, 0, 0, 0, 0], [0, 1, 2, 3, 4, 5, 6, 7, 8, 9], [10, 11]⟩] 5 = some (.rq (.cells 44 (.v 0))
(.call false 7 []
(.rq (.bool (.v 1))
(.rq (.isb false (.nt (.v 1)))
(.call false 8 [(.ag (.v 0))]
(.prim 3 2 (opr Tryz.f5 3 2) [(.v 2)]
(.loop [(.k (.bool false)), (.k (.int .i64 (0))), (.v 0)]
 (.rq (.int .i64 (.v 5))
 (.rq (.int .i64 (.v 3))
 (.br (.op2 .lss .i64 (.v 5) (.v 3))
  (.prim 5 0 (opr Tryz.f5 5 0) [(.v 2), (.v 5)]
  (.prim 5 1 (opr Tryz.f5 5 1) [(.v 7)]
  (.rq (.cells 32 (.v 8))
  (.call false 21 [(.sub (.v 8) 0 16 0 noI)]
  (.rq (.tup 0 (.v 9))
  (.rq (.tup 1 (.v 9))
  (.call false 22 [(.sub (.v 8) 0 16 0 noI)]
  (.rq (.tup 0 (.v 10))
  (.rq (.tup 1 (.v 10))
  (.call false 23 [(.sub (.v 8) 0 16 0 noI), (.sub (.v 8) 16 16 0 noI)]
  (.rq (.tup 0 (.v 11))
  (.rq (.tup 1 (.v 11))
  (.call false 24 [(.sub (.v 8) 0 16 0 noI), (.sub (.v 8) 16 16 0 noI)]
  (.rq (.tup 0 (.v 12))
  (.rq (.tup 1 (.v 12))
  (.rq (.int .i64 (.proj (.v 9) 0))
  (.rq (.int .i64 (.proj (.v 10) 0))
  (.rq (.isb false (.op2 .neq .i64 (.proj (.v 9) 0) (.proj (.v 10) 0)))
  (.rq (.int .i64 (.proj (.v 9) 1))
  (.rq (.int .i64 (.proj (.v 10) 1))
  (.rq (.isb false (.op2 .neq .i64 (.proj (.v 9) 1) (.proj (.v 10) 1)))
  (.rq (.int .i64 (.proj (.v 11) 0))
  (.rq (.int .i64 (.proj (.v 12) 0))
  (.rq (.isb false (.op2 .neq .i64 (.proj (.v 11) 0) (.proj (.v 12) 0)))
  (.rq (.int .i64 (.proj (.v 11) 1))
  (.rq (.int .i64 (.proj (.v 12) 1))
  (.rq (.isb false (.op2 .neq .i64 (.proj (.v 11) 1) (.proj (.v 12) 1)))
  (.loop [(.v 4), (.k (.int .i64 (0)))]
   (.rq (.int .i64 (.v 14))
   (.br (.op2 .lss .i64 (.v 14) (.k (.int .i64 (3))))
    (.rq (.num (.v 14))
    (.rq (.lt 3 (.v 14))
    (.eff false 15 3 (opr Tryz.f5 15 3) [(.cell (.put (.put (.put (.z 59) 0 1 (.k (.func (.func 25) #[] #[])) 0 noI) 1 1 (.k (.func (.func 26) #[] #[])) 0 noI) 2 1 (.k (.func (.func 27) #[] #[])) 0 noI) 0 1 (.v 14)), (.sub (.v 8) 0 16 0 noI)]
    (.rq (.tup 0 (.v 15))
    (.rq (.tup 1 (.v 15))
    (.rq (.cells 8 (.proj (.v 15) 0))
    (.eff true 16 5 (opr Tryz.f5 16 5) [(.cell (.put (.put (.put (.z 59) 0 1 (.k (.func (.func 28) #[] #[])) 0 noI) 1 1 (.k (.func (.func 29) #[] #[])) 0 noI) 2 1 (.k (.func (.func 30) #[] #[])) 0 noI) 0 1 (.v 14)), (.sub (.v 8) 0 16 0 noI)]
    (.rq (.tup 0 (.v 16))
    (.rq (.tup 1 (.v 16))
    (.rq (.cells 8 (.proj (.v 16) 0))
    (.prim 17 2 (opr Tryz.f5 17 2) [(.ag (.proj (.v 15) 0)), (.ag (.proj (.v 16) 0))]
    (.rq (.isb false (.v 17))
    (.rq (.int .i64 (.proj (.v 15) 1))
    (.rq (.int .i64 (.proj (.v 16) 1))
    (.rq (.isb false (.op2 .neq .i64 (.proj (.v 15) 1) (.proj (.v 16) 1)))
    (.next 1 [(.v 13), (.op2 .add .i64 (.v 14) (.k (.int .i64 (1))))]))))))))))))))))
    (.next 0 [(.v 13), (.op2 .add .i64 (.v 5) (.k (.int .i64 (1)))), (.v 6)])))))))))))))))))))))))))))))))
  (.ret [(.k (.bool true))]))))))))))) := by kernel_rfl
theorem np_ShareTells : (Tryz.prog.funcs[5]?).map (fun fn => fn.params.size + fn.nfree) = some 1 := by kernel_rfl
theorem op_ShareTells_3_2 : (opr Tryz.f5 3 2).op = .call ⟨.builtin .len, #[(.tmp 22)], #[36]⟩ := by kernel_rfl
theorem op_ShareTells_5_0 : (opr Tryz.f5 5 0).op = .indexAddr 36 (.tmp 22) (.tmp 24) := by kernel_rfl
theorem op_ShareTells_5_1 : (opr Tryz.f5 5 1).op = .load 38 (.tmp 26) := by kernel_rfl
theorem op_ShareTells_15_3 : (opr Tryz.f5 15 3).op = .call ⟨.value (.tmp 80), #[(.tmp 82)], #[26]⟩ := by kernel_rfl
theorem op_ShareTells_16_5 : (opr Tryz.f5 16 5).op = .call ⟨.value (.tmp 89), #[(.tmp 91)], #[26]⟩ := by kernel_rfl
theorem op_ShareTells_17_2 : (opr Tryz.f5 17 2).op = .binOp .neq 24 (.tmp 95) (.tmp 96) 24 := by kernel_rfl
theorem resI_form (ok : Bool) (z : Int) : ∃ a e : Int, resI ok z = .tuple #[.int .i64 a, .int .i64 e] := by
  unfold resI
  split
  · exact ⟨_, _, rfl⟩
  · exact ⟨_, _, rfl⟩
theorem ent_tF : entB Tryz.prog 25 = true := by kernel_rfl
theorem ent_tC : entB Tryz.prog 26 = true := by kernel_rfl
theorem ent_tN : entB Tryz.prog 27 = true := by kernel_rfl
theorem ent_rF : entB Tryz.prog 28 = true := by kernel_rfl
theorem ent_rC : entB Tryz.prog 29 = true := by kernel_rfl
theorem ent_rN : entB Tryz.prog 30 = true := by kernel_rfl
theorem bft (k : Int) : Value.bool (k != k) = .bool false := by rw [bne_self_eq_false]
theorem ne_wself {o : Oper} {x y : Operand} {n : Nat} (ho : o.op = .binOp .neq 24 x y 24) (hx : argEv [x, y] [wd n, wd n] x = wd n) (hy : argEv [x, y] [wd n, wd n] y = wd n) : Yld Tryz.prog o [wd n, wd n] (.bool false) := by
  have := ne_wide (a := n) (b := n) ho rfl rfl hx hy
  rwa [decide_eq_true rfl] at this
/-- The three functions that round, and those of the reference. -/
theorem three (a b : Nat) (j : Nat) (hj : j < 3) : ∃ (f g : FuncId) (z : Int), entB Tryz.prog f = true ∧ entB Tryz.prog g = true ∧
    (spl (spl (spl (zeroV Tryz.prog 59).cells 0 [.func (.func 25) #[] #[]]) 1 [.func (.func 26) #[] #[]]) 2 [.func (.func 27) #[] #[]]).getD (0 + 1 * j) undef = .func (.func f) #[] #[] ∧
    (spl (spl (spl (zeroV Tryz.prog 59).cells 0 [.func (.func 28) #[] #[]]) 1 [.func (.func 29) #[] #[]]) 2 [.func (.func 30) #[] #[]]).getD (0 + 1 * j) undef = .func (.func g) #[] #[] ∧
    (∀ H, Con Tryz.prog f [shv a b] H fun u H' => PH.le H H' ∧ u = resW (okB a b) z) ∧ (∀ H, Con Tryz.prog g [shv a b] H fun u H' => PH.le H H' ∧ u = resW (okB a b) z) := by
  have hz : zeroV Tryz.prog 59 = .agg #[.nilFunc, .nilFunc, .nilFunc] := by kernel_rfl
  rw [hz]
  rcases (show j = 0 ∨ j = 1 ∨ j = 2 from by omega) with rfl | rfl | rfl
  · exact ⟨_, _, _, ent_tF, ent_rF, rfl, rfl, fun _ => con_sFloor a b, fun _ => con_qFloor a b⟩
  · exact ⟨_, _, _, ent_tC, ent_rC, rfl, rfl, fun _ => con_sCeil a b, fun _ => con_qCeil a b⟩
  · exact ⟨_, _, _, ent_tN, ent_rN, rfl, rfl, fun _ => con_sNear a b, fun _ => con_qNear a b⟩
set_option maxRecDepth 100000 in
set_option maxHeartbeats 4000000 in
theorem con_shareTells {H : PH} {v : Value} (h : Tw2 H v) : Con Tryz.prog 5 [v] H fun u H' => u = .bool true ∧ PH.le H H' := by
  have hrq := h.rq
  have h' := h
  obtain ⟨_, _, _, _, _, _, hv, _, _⟩ := h
  obtain ⟨cs, rfl⟩ : ∃ cs, v = .agg cs := ⟨_, hv⟩
  refine con_of_tree mixed tr_ShareTells np_ShareTells rfl (den_rq hrq (den_call (con_hworks H) rfl ?_))
  rintro _ H1 ⟨rfl, l1⟩
  simp only [List.cons_append, List.nil_append]
  refine ⟨fun h => (nomatch h), den_rq ⟨_, rfl⟩ (den_rq rfl (den_call (con_hpairs (h'.mono l1)) rfl ?_))⟩
  rintro u2 H2 ⟨l2, ps, hn, hp⟩
  refine ⟨fun h => (nomatch h), den_splen op_ShareTells_3_2 rfl hp rfl ⟨fun vals H' => ∃ i : Nat, vals = [.bool false, iv i, .agg cs] ∧ i ≤ 4 ∧ PH.le H2 H', fun vals _ => (4 - intOf (vals.getD 1 undef)).toNat, ⟨0, rfl, by omega, PH.le.refl _⟩, ?_⟩⟩
  rintro vals H3 - ⟨i, rfl, hi, l3⟩
  simp only [List.cons_append, List.nil_append]
  rw [hn]
  have lall := l1.trans (l2.trans l3)
  refine den_rq ⟨_, rfl⟩ (den_rq ⟨_, rfl⟩ (den_br (b := decide ((i : Int) < 4)) rfl (fun hb => ?_) (fun hb => ?_)))
  · have hb : i < 4 := by have := of_decide_eq_true hb; omega
    have e1 : IntKind.i64.wrap ((i : Int) + 1) = ((i + 1 : Nat) : Int) := wadd1 (by omega)
    refine den_spat (k := .i64) (j := i) op_ShareTells_5_0 op_ShareTells_5_1 rfl rfl (fun _ => rfl) (hp.mono l3) (by omega) rfl (fun _ => rfl) fun pp => ?_
    obtain ⟨⟨⟨a, b⟩, ⟨c, d⟩⟩, hq4⟩ : ∃ x : Q4, x = ps.getD i ((0, 0), (0, 0)) := ⟨_, rfl⟩
    rw [← hq4]
    simp only [List.cons_append, List.nil_append]
    obtain ⟨x0, x16, x08, x24⟩ := q4_ext (words_size a) (words_size b) (words_size c) (words_size d)
    have arg2 : [Value.agg (((words a ++ words b) ++ (words c ++ words d)).extract 0 16)] = [shv a b] := by rw [x0]; rfl
    have arg4 : [Value.agg (((words a ++ words b) ++ (words c ++ words d)).extract 0 16), Value.agg (((words a ++ words b) ++ (words c ++ words d)).extract 16 32)] = [shv a b, shv c d] := by rw [x0, x16]; rfl
    obtain ⟨n1, k1, t1⟩ := resI_form (okB a b && okB a b) (sgI (ratOf a b).num 0)
    obtain ⟨n2, k2, t2⟩ := resI_form (okB a b && okB c d) (sgR (ratOf a b) (ratOf c d))
    refine den_rq (q4_rq ((a, b), (c, d))) (den_call (con_sSign a b) arg2 ?_)
    rintro _ H4 ⟨l4, rfl⟩
    rw [t1]
    simp only [List.cons_append, List.nil_append]
    refine ⟨fun h => (nomatch h), den_rq ⟨_, rfl, Nat.zero_lt_succ _⟩ (den_rq ⟨_, rfl, Nat.lt_succ_self _⟩ (den_call (con_qSign a b) arg2 ?_))⟩
    rintro _ H5 ⟨l5, rfl⟩
    rw [t1]
    simp only [List.cons_append, List.nil_append]
    refine ⟨fun h => (nomatch h), den_rq ⟨_, rfl, Nat.zero_lt_succ _⟩ (den_rq ⟨_, rfl, Nat.lt_succ_self _⟩ (den_call (con_sCmp a b c d) arg4 ?_))⟩
    rintro _ H6 ⟨l6, rfl⟩
    rw [t2]
    simp only [List.cons_append, List.nil_append]
    refine ⟨fun h => (nomatch h), den_rq ⟨_, rfl, Nat.zero_lt_succ _⟩ (den_rq ⟨_, rfl, Nat.lt_succ_self _⟩ (den_call (con_qCmp a b c d) arg4 ?_))⟩
    rintro _ H7 ⟨l7, rfl⟩
    rw [t2]
    simp only [List.cons_append, List.nil_append]
    have l7' := l3.trans (l4.trans (l5.trans (l6.trans l7)))
    refine ⟨fun h => (nomatch h), den_rq ⟨_, rfl, Nat.zero_lt_succ _⟩ (den_rq ⟨_, rfl, Nat.lt_succ_self _⟩ (den_rq ⟨n1, rfl⟩ (den_rq ⟨n1, rfl⟩ (den_rq (bft n1) (den_rq ⟨k1, rfl⟩ (den_rq ⟨k1, rfl⟩ (den_rq (bft k1) (den_rq ⟨n2, rfl⟩ (den_rq ⟨n2, rfl⟩ (den_rq (bft n2) (den_rq ⟨k2, rfl⟩ (den_rq ⟨k2, rfl⟩ (den_rq (bft k2) ?_)))))))))))))⟩
    refine ⟨fun vals H' => ∃ j : Nat, vals = [.bool false, iv j] ∧ j ≤ 3 ∧ PH.le H2 H', fun vals _ => (3 - intOf (vals.getD 1 undef)).toNat, ⟨0, rfl, by omega, l7'⟩, ?_⟩
    rintro vals H8 - ⟨j, rfl, hj, l8⟩
    simp only [List.cons_append, List.nil_append]
    refine den_rq ⟨_, rfl⟩ (den_br (b := decide ((j : Int) < 3)) rfl (fun hc => ?_) (fun hc => ?_))
    · have hc : j < 3 := by have := of_decide_eq_true hc; omega
      have e2 : IntKind.i64.wrap ((j : Int) + 1) = ((j + 1 : Nat) : Int) := wadd1 (by omega)
      obtain ⟨f, g, z, ef, eg, cf, cg, hf, hg⟩ := three a b j hc
      obtain ⟨n3, k3, t3⟩ := resW_form (okB a b) z
      refine den_rq ⟨_, _, rfl⟩ (den_rq ⟨by show (0 : Int) ≤ (j : Int); omega, by show (j : Int) < 3; omega⟩ (den_eff (opn_callv (f := f) (caps := #[]) (vs := [shv a b]) op_ShareTells_15_3 rfl rfl ef (hf _)) (by
        show [_, Value.agg (((words a ++ words b) ++ (words c ++ words d)).extract 0 16)] = _
        rw [x0]; exact congrArg (fun z => [z, shv a b]) cf) ?_))
      rintro _ H9 ⟨l9, rfl⟩
      rw [t3]
      simp only [List.cons_append, List.nil_append]
      refine ⟨fun h => (nomatch h), den_rq ⟨_, rfl, Nat.zero_lt_succ _⟩ (den_rq ⟨_, rfl, Nat.lt_succ_self _⟩ (den_rq ⟨words_size n3, words_one n3⟩ (den_eff (opn_callv (f := g) (caps := #[]) (vs := [shv a b]) op_ShareTells_16_5 rfl rfl eg (hg _)) (by
        show [_, Value.agg (((words a ++ words b) ++ (words c ++ words d)).extract 0 16)] = _
        rw [x0]; exact congrArg (fun z => [z, shv a b]) cg) ?_)))⟩
      rintro _ H10 ⟨l10, rfl⟩
      rw [t3]
      simp only [List.cons_append, List.nil_append]
      refine ⟨fun _ => l10, den_rq ⟨_, rfl, Nat.zero_lt_succ _⟩ (den_rq ⟨_, rfl, Nat.lt_succ_self _⟩ (den_rq ⟨words_size n3, words_one n3⟩ (den_prim ((ne_wself (n := n3) op_ShareTells_17_2 rfl rfl).rds _) rfl (den_rq rfl (den_rq ⟨k3, rfl⟩ (den_rq ⟨k3, rfl⟩ (den_rq (bft k3) ⟨⟨j + 1, ?_, by omega, l8.trans (l9.trans l10)⟩, ?_⟩)))))))⟩
      · simp only [rxs, iv, e2]
      · simp only [rxs, iv, e2]
        omega
    · refine ⟨⟨i + 1, ?_, by omega, l8⟩, ?_⟩
      · simp only [rxs, iv, e1]
      · simp only [rxs, iv, e1]
        omega
  · exact den_ret rfl ⟨rfl, lall⟩
end Go.Proofs.YtcleogdmobdnpaaGreat

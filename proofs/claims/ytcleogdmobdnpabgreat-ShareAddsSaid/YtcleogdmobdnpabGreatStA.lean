/- The law ShareAdds; its tree is printed by rxgen.py. -/
import Derived.Test.YtcleogdmobdnpabGreatWdT
import Derived.Test.YtcleogdmobdnpabGreatSsA
import Derived.Test.YtcleogdmobdnpabGreatSpA
namespace Go.Proofs.YtcleogdmobdnpabGreat
open Go.RowKit Go.RX Go.WD
theorem tr_ShareAdds : tree Tryz.prog [] [(28, false), (91, false), (95, false), (130, false), (134, false)] [⟨3, 11, [58], []⟩, ⟨0, 5, [], []⟩, ⟨0, 11, [], []⟩, ⟨0, 14, [], []⟩, ⟨0, 22, [], [0]⟩, ⟨0, 25, [], []⟩] [⟨13, [0, 0, 0, 4, 12, 0, 32, 124, 252, 511, 0], [0, 0, 1, 1, 2, 1, 1, 2, 2, 0, 0], [0, 0, 0, 0, 0, 0, 0, 0, 0, 0, 0], [0, 1, 2, 3, 5, 6, 10, 4, 7, 8, 9], []⟩] 6 = some (.rq (.cells 44 (.v 0))
(.call false 7 []
(.rq (.bool (.v 4))
(.rq (.isb false (.nt (.v 4)))
(.prim 4 2 (opr Tryz.f6 4 2) [(.v 1)]
(.prim 4 3 (opr Tryz.f6 4 3) [(.v 5), (.k (.int .i64 (12)))]
(.prim 4 4 (opr Tryz.f6 4 4) [(.v 1), (.v 6)]
(.prim 4 5 (opr Tryz.f6 4 5) [(.v 7)]
(.loop [(.k (.slice none 0 0)), (.k (.int .i64 (0)))]
 (.rq (.int .i64 (.v 10))
 (.rq (.int .i64 (.v 8))
 (.br (.op2 .lss .i64 (.v 10) (.v 8))
  (.prim 6 0 (opr Tryz.f6 6 0) [(.v 7), (.v 10)]
  (.prim 6 1 (opr Tryz.f6 6 1) [(.v 11)]
  (.rq (.cells 6 (.v 12))
  (.call false 26 [(.ag (.v 12))]
  (.eff false 7 3 (opr Tryz.f6 7 3) [(.v 13)]
  (.eff false 7 4 (opr Tryz.f6 7 4) [(.v 9), (.v 14)]
  (.next 0 [(.v 15), (.op2 .add .i64 (.v 10) (.k (.int .i64 (1))))])))))))
  (.eff false 9 0 (opr Tryz.f6 9 0) []
  (.eff false 9 2 (opr Tryz.f6 9 2) [(.v 11), (.v 9)]
  (.eff false 10 3 (opr Tryz.f6 10 3) [(.sub (.v 0) 0 16 0 noI)]
  (.eff false 10 4 (opr Tryz.f6 10 4) [(.v 12), (.v 13)]
  (.loop [(.v 14)]
   (.join 1
    (.rq (.bool (.v 3))
    (.br (.v 3)
     (.prim 11 3 (opr Tryz.f6 11 3) [(.v 15)]
     (.rq (.int .i64 (.v 16))
     (.next 2 [(.op2 .lss .i64 (.v 16) (.k (.int .i64 (401))))])))
     (.next 2 [(.k (.bool false))])))
    (.rq (.bool (.v 16))
    (.br (.v 16)
     (.call false 37 [(.sub (.v 0) 32 6 0 noI)]
     (.eff false 12 4 (opr Tryz.f6 12 4) [(.v 17)]
     (.eff false 12 5 (opr Tryz.f6 12 5) [(.v 15), (.v 18)]
     (.next 1 [(.v 19)]))))
     (.call true 25 [(.sub (.v 0) 32 6 0 noI)]
     (.call true 25 [(.sub (.v 0) 38 6 0 noI)]
     (.eff true 13 8 (opr Tryz.f6 13 8) [(.v 17), (.v 18)]
     (.rq (.cells 1 (.v 9))
     (.rq (.cells 1 (.v 15))
     (.rq (.cells 1 (.v 19))
     (.loop [(.k (.bool false)), (.k (.int .i64 (0)))]
      (.rq (.int .i64 (.v 21))
      (.br (.op2 .lss .i64 (.v 21) (.k (.int .i64 (3))))
       (.rq (.num (.v 21))
       (.rq (.lt 3 (.v 21))
       (.call false 38 [(.cell (.put (.put (.put (.z 61) 0 1 (.v 9) 0 noI) 1 1 (.v 15) 0 noI) 2 1 (.v 19) 0 noI) 0 1 (.v 21))]
       (.rq (.tup 0 (.v 22))
       (.rq (.tup 1 (.v 22))
       (.rq (.cells 16 (.proj (.v 22) 0))
       (.call false 39 [(.cell (.put (.put (.put (.z 61) 0 1 (.v 9) 0 noI) 1 1 (.v 15) 0 noI) 2 1 (.v 19) 0 noI) 0 1 (.v 21))]
       (.rq (.tup 0 (.v 23))
       (.rq (.tup 1 (.v 23))
       (.rq (.cells 16 (.proj (.v 23) 0))
       (.prim 18 2 (opr Tryz.f6 18 2) [(.ag (.proj (.v 22) 0)), (.ag (.proj (.v 23) 0))]
       (.rq (.isb false (.v 24))
       (.rq (.int .i64 (.proj (.v 22) 1))
       (.rq (.int .i64 (.proj (.v 23) 1))
       (.rq (.isb false (.op2 .neq .i64 (.proj (.v 22) 1) (.proj (.v 23) 1)))
       (.next 2 [(.v 20), (.op2 .add .i64 (.v 21) (.k (.int .i64 (1))))]))))))))))))))))
       (.call false 8 [(.ag (.v 0))]
       (.prim 21 2 (opr Tryz.f6 21 2) [(.v 22)]
       (.loop [(.v 20), (.k (.int .i64 (0))), (.v 0)]
        (.rq (.int .i64 (.v 25))
        (.rq (.int .i64 (.v 23))
        (.br (.op2 .lss .i64 (.v 25) (.v 23))
         (.prim 23 0 (opr Tryz.f6 23 0) [(.v 22), (.v 25)]
         (.prim 23 1 (opr Tryz.f6 23 1) [(.v 27)]
         (.rq (.cells 32 (.v 28))
         (.rq (.int .i64 (.v 2))
         (.rq (.cells 1 (.v 2))
         (.loop [(.v 24), (.k (.int .i64 (0)))]
          (.rq (.int .i64 (.v 30))
          (.br (.op2 .lss .i64 (.v 30) (.k (.int .i64 (2))))
           (.rq (.num (.v 30))
           (.rq (.lt 2 (.v 30))
           (.call false 40 [(.sub (.v 28) 0 16 0 noI), (.cell (.put (.put (.z 64) 0 1 (.v 2) 0 noI) 1 1 (.cv .i64 (.op2 .rem .u64 (.cv .u64 (.v 2)) (.k (.int .u64 (9))))) 0 noI) 0 1 (.v 30))]
           (.rq (.tup 0 (.v 31))
           (.rq (.tup 1 (.v 31))
           (.rq (.cells 16 (.proj (.v 31) 0))
           (.call false 41 [(.sub (.v 28) 0 16 0 noI), (.cell (.put (.put (.z 64) 0 1 (.v 2) 0 noI) 1 1 (.cv .i64 (.op2 .rem .u64 (.cv .u64 (.v 2)) (.k (.int .u64 (9))))) 0 noI) 0 1 (.v 30))]
           (.rq (.tup 0 (.v 32))
           (.rq (.tup 1 (.v 32))
           (.rq (.cells 16 (.proj (.v 32) 0))
           (.prim 29 2 (opr Tryz.f6 29 2) [(.ag (.proj (.v 31) 0)), (.ag (.proj (.v 32) 0))]
           (.rq (.isb false (.v 33))
           (.rq (.int .i64 (.proj (.v 31) 1))
           (.rq (.int .i64 (.proj (.v 32) 1))
           (.rq (.isb false (.op2 .neq .i64 (.proj (.v 31) 1) (.proj (.v 32) 1)))
           (.next 4 [(.v 29), (.op2 .add .i64 (.v 30) (.k (.int .i64 (1))))]))))))))))))))))
           (.next 3 [(.v 29), (.op2 .add .i64 (.v 25) (.k (.int .i64 (1)))), (.v 26)])))))))))
         (.ret [(.k (.bool true))])))))))))))))))))))))))))))))))))))) := by kernel_rfl
theorem np_ShareAdds : (Tryz.prog.funcs[6]?).map (fun fn => fn.params.size + fn.nfree) = some 4 := by kernel_rfl
theorem op_ShareAdds_4_2 : (opr Tryz.f6 4 2).op = .call ⟨.builtin .len, #[(.tmp 30)], #[59]⟩ := by kernel_rfl
theorem op_ShareAdds_4_3 : (opr Tryz.f6 4 3).op = .call ⟨.builtin .min, #[(.tmp 31), (.const (.int .i64 (12)))], #[3, 3]⟩ := by kernel_rfl
theorem op_ShareAdds_4_4 : (opr Tryz.f6 4 4).op = .slice 59 (.tmp 29) none (some (.tmp 32)) none := by kernel_rfl
theorem op_ShareAdds_4_5 : (opr Tryz.f6 4 5).op = .call ⟨.builtin .len, #[(.tmp 33)], #[59]⟩ := by kernel_rfl
theorem op_ShareAdds_6_0 : (opr Tryz.f6 6 0).op = .indexAddr 59 (.tmp 33) (.tmp 35) := by kernel_rfl
theorem op_ShareAdds_6_1 : (opr Tryz.f6 6 1).op = .load 32 (.tmp 37) := by kernel_rfl
theorem op_ShareAdds_7_3 : (opr Tryz.f6 7 3).op = .buildSlice 60 1 #[(0, (.tmp 41))] := by kernel_rfl
theorem op_ShareAdds_7_4 : (opr Tryz.f6 7 4).op = .call ⟨.builtin .append, #[(.tmp 39), (.tmp 42)], #[60, 60]⟩ := by kernel_rfl
theorem op_ShareAdds_9_0 : (opr Tryz.f6 9 0).op = .buildSlice 60 0 #[] := by kernel_rfl
theorem op_ShareAdds_9_2 : (opr Tryz.f6 9 2).op = .call ⟨.builtin .append, #[(.tmp 45), (.tmp 46)], #[60, 60]⟩ := by kernel_rfl
theorem op_ShareAdds_10_3 : (opr Tryz.f6 10 3).op = .buildSlice 60 1 #[(0, (.tmp 50))] := by kernel_rfl
theorem op_ShareAdds_10_4 : (opr Tryz.f6 10 4).op = .call ⟨.builtin .append, #[(.tmp 48), (.tmp 51)], #[60, 60]⟩ := by kernel_rfl
theorem op_ShareAdds_11_3 : (opr Tryz.f6 11 3).op = .call ⟨.builtin .len, #[(.tmp 55)], #[60]⟩ := by kernel_rfl
theorem op_ShareAdds_12_4 : (opr Tryz.f6 12 4).op = .buildSlice 60 1 #[(0, (.tmp 62))] := by kernel_rfl
theorem op_ShareAdds_12_5 : (opr Tryz.f6 12 5).op = .call ⟨.builtin .append, #[(.tmp 59), (.tmp 63)], #[60, 60]⟩ := by kernel_rfl
theorem op_ShareAdds_13_8 : (opr Tryz.f6 13 8).op = .buildSlice 60 2 #[(0, (.tmp 69)), (1, (.tmp 72))] := by kernel_rfl
theorem op_ShareAdds_18_2 : (opr Tryz.f6 18 2).op = .binOp .neq 26 (.tmp 88) (.tmp 89) 26 := by kernel_rfl
theorem op_ShareAdds_21_2 : (opr Tryz.f6 21 2).op = .call ⟨.builtin .len, #[(.tmp 98)], #[36]⟩ := by kernel_rfl
theorem op_ShareAdds_23_0 : (opr Tryz.f6 23 0).op = .indexAddr 36 (.tmp 98) (.tmp 100) := by kernel_rfl
theorem op_ShareAdds_23_1 : (opr Tryz.f6 23 1).op = .load 38 (.tmp 102) := by kernel_rfl
theorem op_ShareAdds_29_2 : (opr Tryz.f6 29 2).op = .binOp .neq 26 (.tmp 127) (.tmp 128) 26 := by kernel_rfl
theorem con_sSumF {H : PH} {v : Value} {ps : List (Nat × Nat)} {a b : Nat} {e : Int} (h : Shs H v ps) (hs : sumV ps = .tuple #[shv a b, .int .i64 e]) : Con Tryz.prog 38 [v] H fun u H' => PH.le H H' ∧ u = .tuple #[shv a b, .int .i64 e] :=
  (con_sSum h).mono fun _ _ ⟨l, hu⟩ => ⟨l, hu.trans hs⟩
theorem con_qSumF {H : PH} {v : Value} {ps : List (Nat × Nat)} {a b : Nat} {e : Int} (h : Shs H v ps) (hs : sumV ps = .tuple #[shv a b, .int .i64 e]) : Con Tryz.prog 39 [v] H fun u H' => PH.le H H' ∧ u = .tuple #[shv a b, .int .i64 e] :=
  (con_qSum h).mono fun _ _ ⟨l, hu⟩ => ⟨l, hu.trans hs⟩
theorem con_sPowF {H : PH} {n d : Nat} {k : Int} {a b : Nat} {e : Int} (hs : powR (okB n d) (ratOf n d) k = .tuple #[shv a b, .int .i64 e]) : Con Tryz.prog 40 [shv n d, .int .i64 k] H fun u H' => PH.le H H' ∧ u = .tuple #[shv a b, .int .i64 e] :=
  (con_sPow n d k).mono fun _ _ ⟨l, hu⟩ => ⟨l, hu.trans hs⟩
theorem con_qPowF {H : PH} {n d : Nat} {k : Int} {a b : Nat} {e : Int} (hs : powR (okB n d) (ratOf n d) k = .tuple #[shv a b, .int .i64 e]) : Con Tryz.prog 41 [shv n d, .int .i64 k] H fun u H' => PH.le H H' ∧ u = .tuple #[shv a b, .int .i64 e] :=
  (con_qPow n d k).mono fun _ _ ⟨l, hu⟩ => ⟨l, hu.trans hs⟩
set_option maxRecDepth 100000 in
set_option maxHeartbeats 4000000 in
theorem con_shareAdds {H : PH} {v l : Value} {n : Nat} (h : Tw2 H v) (hl : Drs H l n) (k : Int) (_ : -9223372036854775808 ≤ k) (_ : k < 9223372036854775808) (long : Bool) : Con Tryz.prog 6 [v, l, .int .i64 k, .bool long] H fun u H' => u = .bool true ∧ PH.le H H' := by
  have hrq := h.rq
  have h' := h
  obtain ⟨a, b, c, d, dx, dy, rfl, hdx, hdy⟩ := h
  have rx1 : dx.size = 6 := hdx.rq.1
  have ry1 : dy.size = 6 := hdy.rq.1
  obtain ⟨t0, t16, t32, t38⟩ := tw_all2 (shv_one a b).1 (shv_one c d).1 rx1 ry1
  obtain ⟨w, hw⟩ : ∃ w, w = Value.agg ((words a ++ words b) ++ (words c ++ words d) ++ dx ++ dy) := ⟨_, rfl⟩
  have hX : ∀ ρ, D Tryz.prog (w :: ρ) (.sub (.v 0) 32 6 0 noI) = .agg dx := fun ρ => by
    rw [hw]
    show Value.agg (((words a ++ words b) ++ (words c ++ words d) ++ dx ++ dy).extract 32 38) = _
    rw [t32]
  have hY : ∀ ρ, D Tryz.prog (w :: ρ) (.sub (.v 0) 38 6 0 noI) = .agg dy := fun ρ => by
    rw [hw]
    show Value.agg (((words a ++ words b) ++ (words c ++ words d) ++ dx ++ dy).extract 38 44) = _
    rw [t38]
  have hA : ∀ ρ, D Tryz.prog (w :: ρ) (.sub (.v 0) 0 16 0 noI) = shv a b := fun ρ => by
    rw [hw]
    show Value.agg (((words a ++ words b) ++ (words c ++ words d) ++ dx ++ dy).extract 0 16) = _
    rw [t0]; rfl
  have hag : Value.agg w.cells = w := by rw [hw]; rfl
  rw [← hw] at hrq h' ⊢
  have hnl : n ≤ 9223372036854775807 := by
    obtain ⟨xs, hs, _⟩ := hl
    have := hs.len_le
    simp only [maxLen] at this
    omega
  obtain ⟨m, hm⟩ : ∃ m : Nat, m = if 12 < n then 12 else n := ⟨_, rfl⟩
  have hmn : m ≤ n := by rw [hm]; split <;> omega
  have hm12 : m ≤ 12 := by rw [hm]; split <;> omega
  have em : (if (12 : Int) < (n : Int) then (12 : Int) else (n : Int)) = (m : Int) := by
    rw [hm]; split <;> split <;> omega
  refine con_of_tree mixed tr_ShareAdds np_ShareAdds rfl (den_rq hrq (den_call (con_hworks H) rfl ?_))
  rintro _ H1 ⟨rfl, l1⟩
  simp only [List.cons_append, List.nil_append]
  refine ⟨fun h => (nomatch h), den_rq ⟨_, rfl⟩ (den_rq rfl (den_drlen op_ShareAdds_4_2 rfl (hl.mono l1) rfl (den_prim ((yld_imin (a := (n : Int)) (b := 12) (vs := [iv n, .int .i64 12]) op_ShareAdds_4_3 rfl rfl).rds _) rfl ?_)))⟩
  rw [em]
  simp only [List.cons_append, List.nil_append]
  refine den_drtake (k := .i64) (j := m) op_ShareAdds_4_4 rfl rfl (hl.mono l1) hmn rfl fun l2 hl2 => ?_
  simp only [List.cons_append, List.nil_append]
  refine den_drlen op_ShareAdds_4_5 rfl hl2 rfl ⟨fun vals H' => ∃ (i : Nat) (s : Value) (ps : List (Nat × Nat)), vals = [s, iv i] ∧ i ≤ m ∧ PH.le H1 H' ∧ Sho H1 H' s ps ∧ ps.length = i, fun vals _ => (m - intOf (vals.getD 1 undef)).toNat, ⟨0, _, [], rfl, by omega, PH.le.refl _, Sho.nil _ _, rfl⟩, ?_⟩
  rintro vals H2 - ⟨i, s, ps, rfl, hi, g2, hs, hlen⟩
  simp only [List.cons_append, List.nil_append]
  refine den_rq ⟨_, rfl⟩ (den_rq ⟨_, rfl⟩ (den_br (b := decide ((i : Int) < m)) rfl (fun hb => ?_) (fun hb => ?_)))
  · have hb : i < m := by have := of_decide_eq_true hb; omega
    have e1 : IntKind.i64.wrap ((i : Int) + 1) = ((i + 1 : Nat) : Int) := wadd1 (by omega)
    refine den_drat (k := .i64) (j := i) op_ShareAdds_6_0 op_ShareAdds_6_1 rfl rfl (fun _ => rfl) (hl2.mono g2) hb rfl (fun _ => rfl) fun pp dr hdr => ?_
    have rdr := hdr.rq
    obtain ⟨a0, a1, a2, b0, b1, b2, rfl, -, -⟩ := id hdr
    simp only [List.cons_append, List.nil_append]
    refine den_rq rdr (den_call (con_qShort hdr) rfl ?_)
    rintro _ H3 ⟨g3, r, rfl, -⟩
    simp only [List.cons_append, List.nil_append]
    refine ⟨fun h => (nomatch h), den_shbuild (vs := [shR r]) [(rs r.num, rs (r.den : Int))] op_ShareAdds_7_3 (by simp) (by simp) rfl rfl fun v1 H4 g4 hv1 => ?_⟩
    simp only [List.cons_append, List.nil_append]
    refine den_shappend op_ShareAdds_7_4 rfl rfl (g2.trans (g3.trans g4)) (hs.mono (g3.trans g4)) hv1 (by simp; omega) rfl fun v2 H5 g5 hv2 => ?_
    refine ⟨⟨i + 1, _, _, ?_, by omega, g5, hv2, by simp; omega⟩, ?_⟩
    · simp only [rxs, iv, e1]
    · simp only [rxs, iv, e1]
      omega
  have hb : i = m := by have := of_decide_eq_false hb; omega
  subst hb
  refine den_shbuild0 (H0 := H2) (PH.le.refl _) op_ShareAdds_9_0 rfl fun v3 H3 g3 _ hv3 => ?_
  simp only [List.cons_append, List.nil_append]
  refine den_shappend op_ShareAdds_9_2 rfl rfl g3 hv3 (hs.sl.mono g3) (by simp; omega) rfl fun v4 H4 g4 hv4 => ?_
  simp only [List.cons_append, List.nil_append]
  refine den_shbuildO (H0 := H2) (vs := [shv a b]) g4 [(a, b)] op_ShareAdds_10_3 (by simp) (by simp) rfl (by rw [List.map_cons, List.map_nil, hA]) fun v5 H5 g5 g5' hv5 => ?_
  simp only [List.cons_append, List.nil_append]
  refine den_shappend op_ShareAdds_10_4 rfl rfl g5' (hv4.mono g5) hv5.sl (by simp; omega) rfl fun v6 H6 g6 hv6 => ?_
  refine ⟨fun vals H' => ∃ (s : Value) (qs : List (Nat × Nat)), vals = [s] ∧ PH.le H2 H' ∧ Sho H2 H' s qs ∧ qs.length ≤ 401, fun vals _ => 401 - slNo (vals.getD 0 undef), ⟨v6, _, rfl, g6, hv6, by simp; omega⟩, ?_⟩
  rintro vals H7 - ⟨s2, qs, rfl, g7, hs2, hq⟩
  have no2 := hs2.sl.no
  have g17 := l1.trans (g2.trans g7)
  simp only [List.cons_append, List.nil_append]
  refine ⟨fun vals H' => vals = [.bool (long && decide (qs.length < 401))] ∧ H' = H7, den_rq ⟨_, rfl⟩ (den_br rfl (fun hb => ?_) (fun hb => ?_)), ?_⟩
  · rw [hb, Bool.true_and]
    refine den_shlen op_ShareAdds_11_3 rfl hs2.sl rfl (den_rq ⟨_, rfl⟩ ⟨?_, rfl⟩)
    show [Value.bool (decide ((qs.length : Int) < 401))] = _
    congr 2
    rw [decide_eq_decide]; omega
  · rw [hb, Bool.false_and]
    exact ⟨rfl, rfl⟩
  rintro vals _ - ⟨rfl, rfl⟩
  simp only [List.cons_append, List.nil_append]
  refine den_rq ⟨_, rfl⟩ (den_br rfl (fun hb => ?_) (fun hb => ?_))
  · rw [Bool.and_eq_true, decide_eq_true_iff] at hb
    refine den_call (con_qUnit (hdx.mono g17)) (by rw [List.map_cons, List.map_nil, hX]) ?_
    rintro _ H8 ⟨g8, r, rfl, -⟩
    simp only [List.cons_append, List.nil_append]
    refine ⟨fun h => (nomatch h), den_shbuild (vs := [shR r]) [(rs r.num, rs (r.den : Int))] op_ShareAdds_12_4 (by simp) (by simp) rfl rfl fun v7 H9 g9 hv7 => ?_⟩
    simp only [List.cons_append, List.nil_append]
    refine den_shappend op_ShareAdds_12_5 rfl rfl (g7.trans (g8.trans g9)) (hs2.mono (g8.trans g9)) hv7 (by simp; omega) rfl fun v8 H10 g10 hv8 => ?_
    have no8 := hv8.sl.no
    rw [List.length_append, List.length_singleton] at no8
    refine ⟨⟨_, _, rfl, g10, hv8, by simp; omega⟩, ?_⟩
    show 401 - slNo v8 < 401 - slNo s2
    omega
  refine den_call (con_qShare (hdx.mono g17)) (by rw [List.map_cons, List.map_nil, hX]) ?_
  rintro _ H8 ⟨g8, x, rfl, -⟩
  simp only [List.cons_append, List.nil_append]
  refine ⟨fun _ => g8, den_call (con_qShare (hdy.mono (g17.trans g8))) (by rw [List.map_cons, List.map_nil, hY]) ?_⟩
  rintro _ H9 ⟨g9, y, rfl, -⟩
  simp only [List.cons_append, List.nil_append]
  refine ⟨fun _ => g9, den_shbuild (vs := [shR x, shR y]) [(rs x.num, rs (x.den : Int)), (rs y.num, rs (y.den : Int))] op_ShareAdds_13_8 (by simp) (by simp) rfl rfl fun v9 H10 g10 hv9 => ?_⟩
  have g710 := g8.trans (g9.trans g10)
  have S1 : Shs H10 s ps := hs.sl.mono (g7.trans g710)
  have S2 : Shs H10 s2 qs := hs2.sl.mono g710
  have hz3 : zeroV Tryz.prog 61 = .agg #[.slice none 0 0, .slice none 0 0, .slice none 0 0] := by kernel_rfl
  have pick : ∀ ρ : List Value, ρ.getD 9 undef = s → ρ.getD 15 undef = s2 → ρ.getD 19 undef = v9 → ∀ j, ρ.getD 21 undef = iv j → D Tryz.prog ρ (.cell (.put (.put (.put (.z 61) 0 1 (.v 9) 0 noI) 1 1 (.v 15) 0 noI) 2 1 (.v 19) 0 noI) 0 1 (.v 21)) = (#[s, s2, v9] : Array Value).getD j undef := fun ρ e9 e15 e19 j ej => by
    have k0 : D Tryz.prog ρ (.z 61) = .agg #[.slice none 0 0, .slice none 0 0, .slice none 0 0] := hz3
    have w9 : D Tryz.prog ρ (.v 9) = s := e9
    have w15 : D Tryz.prog ρ (.v 15) = s2 := e15
    have w19 : D Tryz.prog ρ (.v 19) = v9 := e19
    have k1 := D_put1 (o := 0) k0 (y := .v 9) (by rw [w9]; exact S1.one.1)
    have k2 := D_put1 (o := 1) k1 (y := .v 15) (by rw [w15]; exact S2.one.1)
    have k3 := D_put1 (o := 2) k2 (y := .v 19) (by rw [w19]; exact hv9.one.1)
    rw [w9, w15, w19] at k3
    exact (D_cell1 k3 ej).trans rfl
  have each : ∀ j, j < 3 → ∃ (u : Value) (us : List (Nat × Nat)), (#[s, s2, v9] : Array Value).getD j undef = u ∧ Shs H10 u us := fun j hj => by
    rcases (show j = 0 ∨ j = 1 ∨ j = 2 from by omega) with rfl | rfl | rfl
    · exact ⟨s, _, rfl, S1⟩
    · exact ⟨s2, _, rfl, S2⟩
    · exact ⟨v9, _, rfl, hv9⟩
  simp only [List.cons_append, List.nil_append]
  refine den_rq S1.one.2 (den_rq S2.one.2 (den_rq hv9.one.2 ⟨fun vals H' => ∃ j : Nat, vals = [.bool false, iv j] ∧ j ≤ 3 ∧ PH.le H10 H', fun vals _ => (3 - intOf (vals.getD 1 undef)).toNat, ⟨0, rfl, by omega, PH.le.refl _⟩, ?_⟩))
  rintro vals H11 - ⟨j, rfl, hj, g11⟩
  simp only [List.cons_append, List.nil_append]
  refine den_rq ⟨_, rfl⟩ (den_br (b := decide ((j : Int) < 3)) rfl (fun hc => ?_) (fun hc => ?_))
  · have hc : j < 3 := by have := of_decide_eq_true hc; omega
    have e2 : IntKind.i64.wrap ((j : Int) + 1) = ((j + 1 : Nat) : Int) := wadd1 (by omega)
    obtain ⟨u, us, hu, hus⟩ := each j hc
    obtain ⟨p1, p2, p3, hsum⟩ := sumV_form us
    refine den_rq ⟨_, _, rfl⟩ (den_rq ⟨by show (0 : Int) ≤ (j : Int); omega, by show (j : Int) < 3; omega⟩ (den_call (con_sSumF (hus.mono g11) hsum) (by rw [List.map_cons, List.map_nil, pick _ rfl rfl rfl j rfl, hu]) ?_))
    rintro _ H12 ⟨g12, rfl⟩
    simp only [List.cons_append, List.nil_append]
    refine ⟨fun h => (nomatch h), den_t2s rfl (den_call (con_qSumF (hus.mono (g11.trans g12)) hsum) (by rw [List.map_cons, List.map_nil, pick _ rfl rfl rfl j rfl, hu]) ?_)⟩
    rintro _ H13 ⟨g13, rfl⟩
    simp only [List.cons_append, List.nil_append]
    refine ⟨fun h => (nomatch h), den_t2s rfl (den_prim ((ne_share_self (a := p1) (b := p2) op_ShareAdds_18_2 (fun _ _ => rfl) (fun _ _ => rfl)).rds _) rfl (den_rq rfl (den_ee rfl rfl ⟨⟨j + 1, ?_, by omega, g11.trans (g12.trans g13)⟩, ?_⟩)))⟩
    · simp only [rxs, iv, e2]
    · simp only [rxs, iv, e2]
      omega
  have gall := g17.trans (g710.trans g11)
  refine den_call (con_hpairs (h'.mono gall)) (by show [Value.agg w.cells] = _; rw [hag]) ?_
  rintro u2 H12 ⟨g12, pps, hpn, hpp⟩
  simp only [List.cons_append, List.nil_append]
  refine ⟨fun h => (nomatch h), den_splen op_ShareAdds_21_2 rfl hpp rfl ⟨fun vals H' => ∃ i : Nat, vals = [.bool false, iv i, w] ∧ i ≤ 4 ∧ PH.le H12 H', fun vals _ => (4 - intOf (vals.getD 1 undef)).toNat, ⟨0, rfl, by omega, PH.le.refl _⟩, ?_⟩⟩
  rintro vals H13 - ⟨q, rfl, hq4, g13⟩
  simp only [List.cons_append, List.nil_append]
  rw [hpn]
  refine den_rq ⟨_, rfl⟩ (den_rq ⟨_, rfl⟩ (den_br (b := decide ((q : Int) < 4)) rfl (fun hb => ?_) (fun hb => ?_)))
  · have hb : q < 4 := by have := of_decide_eq_true hb; omega
    have e1 : IntKind.i64.wrap ((q : Int) + 1) = ((q + 1 : Nat) : Int) := wadd1 (by omega)
    refine den_spat (k := .i64) (j := q) op_ShareAdds_23_0 op_ShareAdds_23_1 rfl rfl (fun _ => rfl) (hpp.mono g13) (by omega) rfl (fun _ => rfl) fun pp => ?_
    obtain ⟨⟨⟨x1, x2⟩, ⟨x3, x4⟩⟩, hq5⟩ : ∃ x : Q4, x = pps.getD q ((0, 0), (0, 0)) := ⟨_, rfl⟩
    rw [← hq5]
    simp only [List.cons_append, List.nil_append]
    obtain ⟨y0, y16, _, _⟩ := q4_ext (words_size x1) (words_size x2) (words_size x3) (words_size x4)
    have s0 : ∀ ρ : List Value, ρ.getD 28 undef = q4v ((x1, x2), (x3, x4)) → D Tryz.prog ρ (.sub (.v 28) 0 16 0 noI) = shv x1 x2 := fun ρ h => by
      show Value.agg ((ρ.getD 28 undef).cells.extract 0 16) = _
      rw [h]
      exact congrArg Value.agg y0
    have hz2 : zeroV Tryz.prog 64 = .agg #[.int .i64 0, .int .i64 0] := by kernel_rfl
    obtain ⟨k2, hk2⟩ : ∃ k2 : Int, ∀ ρ : List Value, ρ.getD 2 undef = .int .i64 k → D Tryz.prog ρ (.cv .i64 (.op2 .rem .u64 (.cv .u64 (.v 2)) (.k (.int .u64 (9))))) = .int .i64 k2 := ⟨_, fun ρ h => by
      show Value.int .i64 (IntKind.i64.wrap (intOf (binV .rem .u64 (intOf (Value.int .u64 (IntKind.u64.wrap (intOf (ρ.getD 2 undef))))) 9))) = _
      rw [h]⟩
    have pickI : ∀ ρ : List Value, ρ.getD 2 undef = .int .i64 k → ∀ j, ρ.getD 30 undef = iv j → D Tryz.prog ρ (.cell (.put (.put (.z 64) 0 1 (.v 2) 0 noI) 1 1 (.cv .i64 (.op2 .rem .u64 (.cv .u64 (.v 2)) (.k (.int .u64 (9))))) 0 noI) 0 1 (.v 30)) = (#[.int .i64 k, .int .i64 k2] : Array Value).getD j undef := fun ρ e2 j ej => by
      have k0 : D Tryz.prog ρ (.z 64) = .agg #[.int .i64 0, .int .i64 0] := hz2
      have w2 : D Tryz.prog ρ (.v 2) = .int .i64 k := e2
      have w3 := hk2 ρ e2
      have k1 := D_put1 (o := 0) k0 (y := .v 2) (by rw [w2]; rfl)
      have k3 := D_put1 (o := 1) k1 (y := .cv .i64 (.op2 .rem .u64 (.cv .u64 (.v 2)) (.k (.int .u64 (9))))) (by rw [w3]; rfl)
      rw [w2, w3] at k3
      exact (D_cell1 k3 ej).trans rfl
    have eachI : ∀ j, j < 2 → ∃ k3 : Int, (#[.int .i64 k, .int .i64 k2] : Array Value).getD j undef = .int .i64 k3 := fun j hj => by
      rcases (show j = 0 ∨ j = 1 from by omega) with rfl | rfl
      · exact ⟨k, rfl⟩
      · exact ⟨k2, rfl⟩
    refine den_rq (q4_rq ((x1, x2), (x3, x4))) (den_rq ⟨_, rfl⟩ (den_rq ⟨rfl, one_int _ _⟩ ⟨fun vals H' => ∃ j : Nat, vals = [.bool false, iv j] ∧ j ≤ 2 ∧ PH.le H12 H', fun vals _ => (2 - intOf (vals.getD 1 undef)).toNat, ⟨0, rfl, by omega, g13⟩, ?_⟩))
    rintro vals H14 - ⟨j, rfl, hj, g14⟩
    simp only [List.cons_append, List.nil_append]
    refine den_rq ⟨_, rfl⟩ (den_br (b := decide ((j : Int) < 2)) rfl (fun hc => ?_) (fun hc => ?_))
    · have hc : j < 2 := by have := of_decide_eq_true hc; omega
      have e2 : IntKind.i64.wrap ((j : Int) + 1) = ((j + 1 : Nat) : Int) := wadd1 (by omega)
      obtain ⟨k3, hk3⟩ := eachI j hc
      obtain ⟨p1, p2, p3, hpow⟩ := powR_form (okB x1 x2) (ratOf x1 x2) k3
      have c1 := con_sPowF (H := H14) hpow
      refine den_rq ⟨_, _, rfl⟩ (den_rq ⟨by show (0 : Int) ≤ (j : Int); omega, by show (j : Int) < 2; omega⟩ (den_call c1 (by rw [List.map_cons, List.map_cons, List.map_nil, s0 _ rfl, pickI _ rfl j rfl, hk3]) ?_))
      rintro _ H15 ⟨g15, rfl⟩
      simp only [List.cons_append, List.nil_append]
      have c2 := con_qPowF (H := H15) hpow
      refine ⟨fun h => (nomatch h), den_t2s rfl (den_call c2 (by rw [List.map_cons, List.map_cons, List.map_nil, s0 _ rfl, pickI _ rfl j rfl, hk3]) ?_)⟩
      rintro _ H16 ⟨g16, rfl⟩
      simp only [List.cons_append, List.nil_append]
      refine ⟨fun h => (nomatch h), den_t2s rfl (den_prim ((ne_share_self (a := p1) (b := p2) op_ShareAdds_29_2 (fun _ _ => rfl) (fun _ _ => rfl)).rds _) rfl (den_rq rfl (den_ee rfl rfl ⟨⟨j + 1, ?_, by omega, g14.trans (g15.trans g16)⟩, ?_⟩)))⟩
      · simp only [rxs, iv, e2]
      · simp only [rxs, iv, e2]
        omega
    refine ⟨⟨q + 1, ?_, by omega, g14⟩, ?_⟩
    · simp only [rxs, iv, e1]
    · simp only [rxs, iv, e1]
      omega
  · exact den_ret rfl ⟨rfl, gall.trans (g12.trans g13)⟩
end Go.Proofs.YtcleogdmobdnpabGreat

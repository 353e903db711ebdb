/- MADE BY rxgen.py: the trees of wide/long.go. -/
import Derived.Test.YtcleogdmobdnpacGreatRDoorWdT
namespace Go.Proofs.YtcleogdmobdnpacGreatRDoor
open Go.RowKit Go.RX
theorem tr_gtrim : tree Tryz.prog [] [] [⟨3, 2, [17], []⟩, ⟨0, 2, [], []⟩] [] 98 = some (.prim 1 1 (opr Tryz.f98 1 1) [(.v 1)]
(.loop [(.v 2)]
 (.join 1
  (.rq (.int .i64 (.v 3))
  (.br (.op2 .gtr .i64 (.v 3) (.k (.int .i64 (0))))
   (.prim 2 6 (opr Tryz.f98 2 6) [(.v 1), (.op2 .sub .i64 (.v 3) (.k (.int .i64 (1))))]
   (.prim 2 7 (opr Tryz.f98 2 7) [(.v 4)]
   (.rq (.int .u64 (.v 5))
   (.next 1 [(.op2 .eql .u64 (.v 5) (.k (.int .u64 (0))))]))))
   (.next 1 [(.k (.bool false))])))
  (.rq (.bool (.v 4))
  (.br (.v 4)
   (.rq (.int .i64 (.v 3))
   (.next 0 [(.op2 .sub .i64 (.v 3) (.k (.int .i64 (1))))]))
   (.rq (.bool (.v 0))
   (.br (.v 0)
    (.rq (.int .i64 (.v 3))
    (.prim 4 7 (opr Tryz.f98 4 7) [(.v 1), (.v 3)]
    (.rq (.cells 1 (.v 5))
    (.ret [(.cat (.op2 .gtr .i64 (.v 3) (.k (.int .i64 (0)))) 1 (.v 5))]))))
    (.prim 4 7 (opr Tryz.f98 4 7) [(.v 1), (.v 3)]
    (.rq (.cells 1 (.v 5))
    (.ret [(.cat (.k (.bool false)) 1 (.v 5))])))))))))) := by kernel_rfl
theorem np_gtrim : (Tryz.prog.funcs[98]?).map (fun fn => fn.params.size + fn.nfree) = some 2 := by kernel_rfl
theorem op_gtrim_1_1 : (opr Tryz.f98 1 1).op = .call ⟨.builtin .len, #[(.tmp 6)], #[73]⟩ := by kernel_rfl
theorem op_gtrim_2_6 : (opr Tryz.f98 2 6).op = .indexAddr 73 (.tmp 11) (.tmp 13) := by kernel_rfl
theorem op_gtrim_2_7 : (opr Tryz.f98 2 7).op = .load 29 (.tmp 14) := by kernel_rfl
theorem op_gtrim_4_7 : (opr Tryz.f98 4 7).op = .slice 73 (.tmp 25) none (some (.tmp 26)) none := by kernel_rfl
theorem tr_gLonger : tree Tryz.prog [3] [] [] [⟨2, [0, 1, 0, 0, 8, 28, 63, 127], [1, 1, 2, 1, 1, 2, 2, 6], [0, 0, 0, 0, 0, 0, 0, 1], [0, 1, 3, 4, 2, 5, 6], [7]⟩] 59 = some (.rq (.cells 8 (.v 0))
(.call false 90 [(.ag (.v 0))]
(.pub 89 (.z 89)
(.eff false 1 3 (opr Tryz.f59 1 3) [(.v 2), (.v 1)]
(.prim 2 0 (opr Tryz.f59 2 0) [(.v 2)]
(.prim 2 1 (opr Tryz.f59 2 1) [(.v 4)]
(.prim 2 3 (opr Tryz.f59 2 3) [(.v 2)]
(.prim 2 4 (opr Tryz.f59 2 4) [(.v 6)]
(.eff true 2 2 (opr Tryz.f59 2 2) []
(.eff true 2 5 (opr Tryz.f59 2 5) [(.v 8), (.v 7)]
(.call true 98 [(.v 5), (.v 9)]
(.rq (.cells 2 (.v 10))
(.ret [(.ag (.v 10))]))))))))))))) := by kernel_rfl
theorem np_gLonger : (Tryz.prog.funcs[59]?).map (fun fn => fn.params.size + fn.nfree) = some 1 := by kernel_rfl
theorem op_gLonger_1_3 : (opr Tryz.f59 1 3).op = .store 89 (.tmp 3) (.tmp 5) := by kernel_rfl
theorem op_gLonger_2_0 : (opr Tryz.f59 2 0).op = .fieldAddr 89 (.tmp 3) 0 := by kernel_rfl
theorem op_gLonger_2_1 : (opr Tryz.f59 2 1).op = .load 4 (.tmp 6) := by kernel_rfl
theorem op_gLonger_2_3 : (opr Tryz.f59 2 3).op = .fieldAddr 89 (.tmp 3) 1 := by kernel_rfl
theorem op_gLonger_2_4 : (opr Tryz.f59 2 4).op = .slice 87 (.tmp 9) none none none := by kernel_rfl
theorem op_gLonger_2_2 : (opr Tryz.f59 2 2).op = .buildSlice 73 0 #[] := by kernel_rfl
theorem op_gLonger_2_5 : (opr Tryz.f59 2 5).op = .call ⟨.builtin .append, #[(.tmp 8), (.tmp 10)], #[73, 73]⟩ := by kernel_rfl
theorem tr_gFrom : tree Tryz.prog [] [] [] [] 43 = some (.call false 14 [(.v 0)]
(.call false 59 [(.v 1)]
(.rq (.cells 2 (.v 2))
(.ret [(.ag (.v 2))])))) := by kernel_rfl
theorem np_gFrom : (Tryz.prog.funcs[43]?).map (fun fn => fn.params.size + fn.nfree) = some 1 := by kernel_rfl
theorem tr_gTold : tree Tryz.prog [4] [] [] [⟨4, [0, 1, 0, 4, 15], [1, 1, 1, 1, 4], [0, 0, 0, 0, 0], [0, 1, 2, 3], [4]⟩] 49 = some (.rq (.cells 2 (.v 0))
(.prim 1 2 (opr Tryz.f49 1 2) [(.cell (.v 0) 1 0 noI)]
(.rq (.int .i64 (.v 1))
(.br (.op2 .gtr .i64 (.v 1) (.k (.int .i64 (8))))
 (.ret [(.z 31), (.k (.int .i64 (6)))])
 (.rq (.cells 1 (.cell (.v 0) 0 0 noI))
 (.pub 89 (.z 89)
 (.eff false 3 4 (opr Tryz.f49 3 4) [(.v 2), (.cat (.cell (.v 0) 0 0 noI) 1 (.z 87))]
 (.prim 4 0 (opr Tryz.f49 4 0) [(.v 2)]
 (.prim 4 1 (opr Tryz.f49 4 1) [(.v 4)]
 (.eff false 4 4 (opr Tryz.f49 4 4) [(.v 5), (.cell (.v 0) 1 0 noI)]
 (.prim 5 0 (opr Tryz.f49 5 0) [(.v 2)]
 (.call false 54 [(.v 7)]
 (.rq (.tup 0 (.v 8))
 (.rq (.tup 1 (.v 8))
 (.rq (.cells 8 (.proj (.v 8) 0))
 (.ret [(.ag (.proj (.v 8) 0)), (.proj (.v 8) 1)])))))))))))))))) := by kernel_rfl
theorem np_gTold : (Tryz.prog.funcs[49]?).map (fun fn => fn.params.size + fn.nfree) = some 1 := by kernel_rfl
theorem op_gTold_1_2 : (opr Tryz.f49 1 2).op = .call ⟨.builtin .len, #[(.tmp 6)], #[73]⟩ := by kernel_rfl
theorem op_gTold_3_4 : (opr Tryz.f49 3 4).op = .store 89 (.tmp 4) (.tmp 12) := by kernel_rfl
theorem op_gTold_4_0 : (opr Tryz.f49 4 0).op = .fieldAddr 89 (.tmp 4) 1 := by kernel_rfl
theorem op_gTold_4_1 : (opr Tryz.f49 4 1).op = .slice 87 (.tmp 13) none none none := by kernel_rfl
theorem op_gTold_4_4 : (opr Tryz.f49 4 4).op = .call ⟨.builtin .copy, #[(.tmp 14), (.tmp 16)], #[73, 73]⟩ := by kernel_rfl
theorem op_gTold_5_0 : (opr Tryz.f49 5 0).op = .load 89 (.tmp 4) := by kernel_rfl
theorem tr_gcmp : tree Tryz.prog [] [] [⟨0, 4, [], []⟩] [⟨6, [0, 0, 3, 7, 0, 0, 48, 112, 255, 511], [0, 0, 1, 1, 0, 0, 1, 1, 0, 0], [0, 0, 0, 0, 0, 0, 0, 0, 0, 0], [0, 1, 2, 3, 4, 5, 6, 7, 8, 9], []⟩, ⟨8, [0, 0, 3, 7, 0, 0, 48, 112, 255, 511], [0, 0, 1, 1, 0, 0, 1, 1, 0, 0], [0, 0, 0, 0, 0, 0, 0, 0, 0, 0], [0, 1, 2, 3, 4, 5, 6, 7, 8, 9], []⟩] 128 = some (.prim 1 1 (opr Tryz.f128 1 1) [(.v 0)]
(.prim 1 3 (opr Tryz.f128 1 3) [(.v 1)]
(.rq (.int .i64 (.v 2))
(.rq (.int .i64 (.v 3))
(.br (.op2 .neq .i64 (.v 2) (.v 3))
 (.prim 2 1 (opr Tryz.f128 2 1) [(.v 0)]
 (.prim 2 3 (opr Tryz.f128 2 3) [(.v 1)]
 (.rq (.int .i64 (.v 4))
 (.rq (.int .i64 (.v 5))
 (.ret [(.op2 .sub .i64 (.v 4) (.v 5))])))))
 (.prim 3 1 (opr Tryz.f128 3 1) [(.v 0)]
 (.rq (.int .i64 (.v 4))
 (.loop [(.k (.int .i64 (0))), (.op2 .sub .i64 (.v 4) (.k (.int .i64 (1))))]
  (.rq (.int .i64 (.v 6))
  (.br (.op2 .geq .i64 (.v 6) (.k (.int .i64 (0))))
   (.prim 6 2 (opr Tryz.f128 6 2) [(.v 0), (.v 6)]
   (.prim 6 3 (opr Tryz.f128 6 3) [(.v 7)]
   (.prim 6 6 (opr Tryz.f128 6 6) [(.v 1), (.v 6)]
   (.prim 6 7 (opr Tryz.f128 6 7) [(.v 9)]
   (.rq (.int .u64 (.v 8))
   (.rq (.int .u64 (.v 10))
   (.br (.op2 .lss .u64 (.v 8) (.v 10))
    (.ret [(.k (.int .i64 (-1)))])
    (.prim 8 2 (opr Tryz.f128 8 2) [(.v 0), (.v 6)]
    (.prim 8 3 (opr Tryz.f128 8 3) [(.v 11)]
    (.prim 8 6 (opr Tryz.f128 8 6) [(.v 1), (.v 6)]
    (.prim 8 7 (opr Tryz.f128 8 7) [(.v 13)]
    (.rq (.int .u64 (.v 12))
    (.rq (.int .u64 (.v 14))
    (.br (.op2 .gtr .u64 (.v 12) (.v 14))
     (.ret [(.k (.int .i64 (1)))])
     (.next 0 [(.v 5), (.op2 .sub .i64 (.v 6) (.k (.int .i64 (1))))])))))))))))))))
   (.ret [(.k (.int .i64 (0)))]))))))))))) := by kernel_rfl
theorem np_gcmp : (Tryz.prog.funcs[128]?).map (fun fn => fn.params.size + fn.nfree) = some 2 := by kernel_rfl
theorem op_gcmp_1_1 : (opr Tryz.f128 1 1).op = .call ⟨.builtin .len, #[(.tmp 6)], #[73]⟩ := by kernel_rfl
theorem op_gcmp_1_3 : (opr Tryz.f128 1 3).op = .call ⟨.builtin .len, #[(.tmp 8)], #[73]⟩ := by kernel_rfl
theorem op_gcmp_2_1 : (opr Tryz.f128 2 1).op = .call ⟨.builtin .len, #[(.tmp 11)], #[73]⟩ := by kernel_rfl
theorem op_gcmp_2_3 : (opr Tryz.f128 2 3).op = .call ⟨.builtin .len, #[(.tmp 13)], #[73]⟩ := by kernel_rfl
theorem op_gcmp_3_1 : (opr Tryz.f128 3 1).op = .call ⟨.builtin .len, #[(.tmp 16)], #[73]⟩ := by kernel_rfl
theorem op_gcmp_6_2 : (opr Tryz.f128 6 2).op = .indexAddr 73 (.tmp 24) (.tmp 25) := by kernel_rfl
theorem op_gcmp_6_3 : (opr Tryz.f128 6 3).op = .load 29 (.tmp 26) := by kernel_rfl
theorem op_gcmp_6_6 : (opr Tryz.f128 6 6).op = .indexAddr 73 (.tmp 28) (.tmp 29) := by kernel_rfl
theorem op_gcmp_6_7 : (opr Tryz.f128 6 7).op = .load 29 (.tmp 30) := by kernel_rfl
theorem op_gcmp_8_2 : (opr Tryz.f128 8 2).op = .indexAddr 73 (.tmp 34) (.tmp 35) := by kernel_rfl
theorem op_gcmp_8_3 : (opr Tryz.f128 8 3).op = .load 29 (.tmp 36) := by kernel_rfl
theorem op_gcmp_8_6 : (opr Tryz.f128 8 6).op = .indexAddr 73 (.tmp 38) (.tmp 39) := by kernel_rfl
theorem op_gcmp_8_7 : (opr Tryz.f128 8 7).op = .load 29 (.tmp 40) := by kernel_rfl
theorem tr_gadd : tree Tryz.prog [] [] [⟨2, 14, [0, 1], []⟩, ⟨2, 31, [9], []⟩, ⟨0, 6, [], []⟩] [] 127 = some (.prim 1 1 (opr Tryz.f127 1 1) [(.v 0)]
(.prim 1 3 (opr Tryz.f127 1 3) [(.v 1)]
(.rq (.int .i64 (.v 2))
(.rq (.int .i64 (.v 3))
(.join 2
 (.br (.op2 .lss .i64 (.v 2) (.v 3))
  (.next 0 [(.v 1), (.v 0)])
  (.next 0 [(.v 0), (.v 1)]))
 (.prim 3 1 (opr Tryz.f127 3 1) [(.v 4)]
 (.rq (.int .i64 (.v 6))
 (.eff false 3 3 (opr Tryz.f127 3 3) [(.op2 .add .i64 (.v 6) (.k (.int .i64 (1)))), (.op2 .add .i64 (.v 6) (.k (.int .i64 (1))))]
 (.prim 5 1 (opr Tryz.f127 5 1) [(.v 4)]
 (.loop [(.k (.int .u64 (0))), (.k (.int .i64 (0)))]
  (.rq (.int .i64 (.v 10))
  (.rq (.int .i64 (.v 8))
  (.br (.op2 .lss .i64 (.v 10) (.v 8))
   (.prim 7 1 (opr Tryz.f127 7 1) [(.v 4), (.v 10)]
   (.prim 7 2 (opr Tryz.f127 7 2) [(.v 11)]
   (.prim 9 2 (opr Tryz.f127 9 2) [(.v 5)]
   (.rq (.int .i64 (.v 13))
   (.join 1
    (.br (.op2 .lss .i64 (.v 10) (.v 13))
     (.prim 10 2 (opr Tryz.f127 10 2) [(.v 5), (.v 10)]
     (.prim 10 3 (opr Tryz.f127 10 3) [(.v 14)]
     (.next 1 [(.v 15)])))
     (.next 1 [(.k (.int .u64 (0)))]))
    (.ext 103 [(.v 12), (.v 14), (.v 9)]
    (.rq (.tup 0 (.v 15))
    (.rq (.tup 1 (.v 15))
    (.prim 11 9 (opr Tryz.f127 11 9) [(.v 7), (.v 10)]
    (.eff false 11 10 (opr Tryz.f127 11 10) [(.v 16), (.proj (.v 15) 0)]
    (.next 0 [(.proj (.v 15) 1), (.op2 .add .i64 (.v 10) (.k (.int .i64 (1))))])))))))))))
   (.prim 13 2 (opr Tryz.f127 13 2) [(.v 4)]
   (.prim 13 4 (opr Tryz.f127 13 4) [(.v 7), (.v 11)]
   (.eff false 13 5 (opr Tryz.f127 13 5) [(.v 12), (.v 9)]
   (.ret [(.v 7)]))))))))))))))))) := by kernel_rfl
theorem np_gadd : (Tryz.prog.funcs[127]?).map (fun fn => fn.params.size + fn.nfree) = some 2 := by kernel_rfl
theorem op_gadd_1_1 : (opr Tryz.f127 1 1).op = .call ⟨.builtin .len, #[(.tmp 10)], #[73]⟩ := by kernel_rfl
theorem op_gadd_1_3 : (opr Tryz.f127 1 3).op = .call ⟨.builtin .len, #[(.tmp 12)], #[73]⟩ := by kernel_rfl
theorem op_gadd_3_1 : (opr Tryz.f127 3 1).op = .call ⟨.builtin .len, #[(.tmp 17)], #[73]⟩ := by kernel_rfl
theorem op_gadd_3_3 : (opr Tryz.f127 3 3).op = .makeSlice 73 (.tmp 19) (.tmp 19) := by kernel_rfl
theorem op_gadd_5_1 : (opr Tryz.f127 5 1).op = .call ⟨.builtin .len, #[(.tmp 21)], #[73]⟩ := by kernel_rfl
theorem op_gadd_7_1 : (opr Tryz.f127 7 1).op = .indexAddr 73 (.tmp 21) (.tmp 23) := by kernel_rfl
theorem op_gadd_7_2 : (opr Tryz.f127 7 2).op = .load 29 (.tmp 26) := by kernel_rfl
theorem op_gadd_9_2 : (opr Tryz.f127 9 2).op = .call ⟨.builtin .len, #[(.tmp 29)], #[73]⟩ := by kernel_rfl
theorem op_gadd_10_2 : (opr Tryz.f127 10 2).op = .indexAddr 73 (.tmp 32) (.tmp 33) := by kernel_rfl
theorem op_gadd_10_3 : (opr Tryz.f127 10 3).op = .load 29 (.tmp 34) := by kernel_rfl
theorem op_gadd_11_9 : (opr Tryz.f127 11 9).op = .indexAddr 73 (.tmp 37) (.tmp 38) := by kernel_rfl
theorem op_gadd_11_10 : (opr Tryz.f127 11 10).op = .store 29 (.tmp 45) (.tmp 43) := by kernel_rfl
theorem op_gadd_13_2 : (opr Tryz.f127 13 2).op = .call ⟨.builtin .len, #[(.tmp 48)], #[73]⟩ := by kernel_rfl
theorem op_gadd_13_4 : (opr Tryz.f127 13 4).op = .indexAddr 73 (.tmp 47) (.tmp 49) := by kernel_rfl
theorem op_gadd_13_5 : (opr Tryz.f127 13 5).op = .store 29 (.tmp 51) (.tmp 50) := by kernel_rfl
theorem tr_gtake : tree Tryz.prog [] [] [⟨2, 23, [9], []⟩, ⟨0, 4, [], []⟩] [] 129 = some (.prim 1 1 (opr Tryz.f129 1 1) [(.v 0)]
(.eff false 1 2 (opr Tryz.f129 1 2) [(.v 2), (.v 2)]
(.prim 3 1 (opr Tryz.f129 3 1) [(.v 0)]
(.loop [(.k (.int .u64 (0))), (.k (.int .i64 (0)))]
 (.rq (.int .i64 (.v 6))
 (.rq (.int .i64 (.v 4))
 (.br (.op2 .lss .i64 (.v 6) (.v 4))
  (.prim 5 1 (opr Tryz.f129 5 1) [(.v 0), (.v 6)]
  (.prim 5 2 (opr Tryz.f129 5 2) [(.v 7)]
  (.prim 7 2 (opr Tryz.f129 7 2) [(.v 1)]
  (.rq (.int .i64 (.v 9))
  (.join 1
   (.br (.op2 .lss .i64 (.v 6) (.v 9))
    (.prim 8 2 (opr Tryz.f129 8 2) [(.v 1), (.v 6)]
    (.prim 8 3 (opr Tryz.f129 8 3) [(.v 10)]
    (.next 1 [(.v 11)])))
    (.next 1 [(.k (.int .u64 (0)))]))
   (.ext 132 [(.v 8), (.v 10), (.v 5)]
   (.rq (.tup 0 (.v 11))
   (.rq (.tup 1 (.v 11))
   (.prim 9 9 (opr Tryz.f129 9 9) [(.v 3), (.v 6)]
   (.eff false 9 10 (opr Tryz.f129 9 10) [(.v 12), (.proj (.v 11) 0)]
   (.next 0 [(.proj (.v 11) 1), (.op2 .add .i64 (.v 6) (.k (.int .i64 (1))))])))))))))))
  (.ret [(.v 3)])))))))) := by kernel_rfl
theorem np_gtake : (Tryz.prog.funcs[129]?).map (fun fn => fn.params.size + fn.nfree) = some 2 := by kernel_rfl
theorem op_gtake_1_1 : (opr Tryz.f129 1 1).op = .call ⟨.builtin .len, #[(.tmp 10)], #[73]⟩ := by kernel_rfl
theorem op_gtake_1_2 : (opr Tryz.f129 1 2).op = .makeSlice 73 (.tmp 11) (.tmp 11) := by kernel_rfl
theorem op_gtake_3_1 : (opr Tryz.f129 3 1).op = .call ⟨.builtin .len, #[(.tmp 13)], #[73]⟩ := by kernel_rfl
theorem op_gtake_5_1 : (opr Tryz.f129 5 1).op = .indexAddr 73 (.tmp 13) (.tmp 15) := by kernel_rfl
theorem op_gtake_5_2 : (opr Tryz.f129 5 2).op = .load 29 (.tmp 18) := by kernel_rfl
theorem op_gtake_7_2 : (opr Tryz.f129 7 2).op = .call ⟨.builtin .len, #[(.tmp 21)], #[73]⟩ := by kernel_rfl
theorem op_gtake_8_2 : (opr Tryz.f129 8 2).op = .indexAddr 73 (.tmp 24) (.tmp 25) := by kernel_rfl
theorem op_gtake_8_3 : (opr Tryz.f129 8 3).op = .load 29 (.tmp 26) := by kernel_rfl
theorem op_gtake_9_9 : (opr Tryz.f129 9 9).op = .indexAddr 73 (.tmp 29) (.tmp 30) := by kernel_rfl
theorem op_gtake_9_10 : (opr Tryz.f129 9 10).op = .store 29 (.tmp 37) (.tmp 35) := by kernel_rfl
theorem tr_gmul : tree Tryz.prog [] [] [⟨0, 3, [], []⟩, ⟨0, 7, [], []⟩] [] 126 = some (.prim 1 1 (opr Tryz.f126 1 1) [(.v 0)]
(.prim 1 3 (opr Tryz.f126 1 3) [(.v 1)]
(.rq (.int .i64 (.v 2))
(.rq (.int .i64 (.v 3))
(.eff false 1 5 (opr Tryz.f126 1 5) [(.op2 .add .i64 (.v 2) (.v 3)), (.op2 .add .i64 (.v 2) (.v 3))]
(.prim 2 1 (opr Tryz.f126 2 1) [(.v 0)]
(.loop [(.k (.int .i64 (0)))]
 (.rq (.int .i64 (.v 6))
 (.rq (.int .i64 (.v 5))
 (.br (.op2 .lss .i64 (.v 6) (.v 5))
  (.prim 4 1 (opr Tryz.f126 4 1) [(.v 0), (.v 6)]
  (.prim 4 2 (opr Tryz.f126 4 2) [(.v 7)]
  (.prim 6 1 (opr Tryz.f126 6 1) [(.v 1)]
  (.loop [(.k (.int .u64 (0))), (.k (.int .i64 (0)))]
   (.rq (.int .i64 (.v 11))
   (.rq (.int .i64 (.v 9))
   (.br (.op2 .lss .i64 (.v 11) (.v 9))
    (.prim 8 1 (opr Tryz.f126 8 1) [(.v 1), (.v 11)]
    (.prim 8 2 (opr Tryz.f126 8 2) [(.v 12)]
    (.call false 102 [(.v 8), (.v 13)]
    (.rq (.tup 0 (.v 14))
    (.rq (.tup 1 (.v 14))
    (.prim 10 4 (opr Tryz.f126 10 4) [(.v 4), (.op2 .add .i64 (.v 6) (.v 11))]
    (.prim 10 5 (opr Tryz.f126 10 5) [(.v 15)]
    (.ext 103 [(.v 16), (.proj (.v 14) 1), (.k (.int .u64 (0)))]
    (.rq (.tup 0 (.v 17))
    (.rq (.tup 1 (.v 17))
    (.ext 103 [(.proj (.v 17) 0), (.v 10), (.k (.int .u64 (0)))]
    (.rq (.tup 0 (.v 18))
    (.rq (.tup 1 (.v 18))
    (.rq (.int .u64 (.proj (.v 14) 0))
    (.rq (.int .u64 (.proj (.v 17) 1))
    (.rq (.int .u64 (.proj (.v 18) 1))
    (.prim 12 10 (opr Tryz.f126 12 10) [(.v 4), (.op2 .add .i64 (.v 6) (.v 11))]
    (.eff false 12 11 (opr Tryz.f126 12 11) [(.v 19), (.proj (.v 18) 0)]
    (.next 1 [(.op2 .add .u64 (.op2 .add .u64 (.proj (.v 14) 0) (.proj (.v 17) 1)) (.proj (.v 18) 1)), (.op2 .add .i64 (.v 11) (.k (.int .i64 (1))))])))))))))))))))))))
    (.prim 14 3 (opr Tryz.f126 14 3) [(.v 1)]
    (.rq (.int .i64 (.v 12))
    (.prim 14 6 (opr Tryz.f126 14 6) [(.v 4), (.op2 .add .i64 (.v 6) (.v 12))]
    (.eff false 14 7 (opr Tryz.f126 14 7) [(.v 13), (.v 10)]
    (.next 0 [(.op2 .add .i64 (.v 6) (.k (.int .i64 (1))))]))))))))))))
  (.ret [(.v 4)]))))))))))) := by kernel_rfl
theorem np_gmul : (Tryz.prog.funcs[126]?).map (fun fn => fn.params.size + fn.nfree) = some 2 := by kernel_rfl
theorem op_gmul_1_1 : (opr Tryz.f126 1 1).op = .call ⟨.builtin .len, #[(.tmp 16)], #[73]⟩ := by kernel_rfl
theorem op_gmul_1_3 : (opr Tryz.f126 1 3).op = .call ⟨.builtin .len, #[(.tmp 18)], #[73]⟩ := by kernel_rfl
theorem op_gmul_1_5 : (opr Tryz.f126 1 5).op = .makeSlice 73 (.tmp 20) (.tmp 20) := by kernel_rfl
theorem op_gmul_2_1 : (opr Tryz.f126 2 1).op = .call ⟨.builtin .len, #[(.tmp 22)], #[73]⟩ := by kernel_rfl
theorem op_gmul_4_1 : (opr Tryz.f126 4 1).op = .indexAddr 73 (.tmp 22) (.tmp 24) := by kernel_rfl
theorem op_gmul_4_2 : (opr Tryz.f126 4 2).op = .load 29 (.tmp 27) := by kernel_rfl
theorem op_gmul_6_1 : (opr Tryz.f126 6 1).op = .call ⟨.builtin .len, #[(.tmp 29)], #[73]⟩ := by kernel_rfl
theorem op_gmul_8_1 : (opr Tryz.f126 8 1).op = .indexAddr 73 (.tmp 29) (.tmp 31) := by kernel_rfl
theorem op_gmul_8_2 : (opr Tryz.f126 8 2).op = .load 29 (.tmp 34) := by kernel_rfl
theorem op_gmul_10_4 : (opr Tryz.f126 10 4).op = .indexAddr 73 (.tmp 43) (.tmp 46) := by kernel_rfl
theorem op_gmul_10_5 : (opr Tryz.f126 10 5).op = .load 29 (.tmp 47) := by kernel_rfl
theorem op_gmul_12_10 : (opr Tryz.f126 12 10).op = .indexAddr 73 (.tmp 59) (.tmp 62) := by kernel_rfl
theorem op_gmul_12_11 : (opr Tryz.f126 12 11).op = .store 29 (.tmp 69) (.tmp 63) := by kernel_rfl
theorem op_gmul_14_3 : (opr Tryz.f126 14 3).op = .call ⟨.builtin .len, #[(.tmp 73)], #[73]⟩ := by kernel_rfl
theorem op_gmul_14_6 : (opr Tryz.f126 14 6).op = .indexAddr 73 (.tmp 71) (.tmp 75) := by kernel_rfl
theorem op_gmul_14_7 : (opr Tryz.f126 14 7).op = .store 29 (.tmp 77) (.tmp 76) := by kernel_rfl
theorem tr_glen : tree Tryz.prog [] [] [] [] 130 = some (.prim 1 1 (opr Tryz.f130 1 1) [(.v 0)]
(.rq (.int .i64 (.v 1))
(.br (.op2 .eql .i64 (.v 1) (.k (.int .i64 (0))))
 (.ret [(.k (.int .i64 (0)))])
 (.prim 3 1 (opr Tryz.f130 3 1) [(.v 0)]
 (.rq (.int .i64 (.v 2))
 (.prim 3 5 (opr Tryz.f130 3 5) [(.v 0)]
 (.rq (.int .i64 (.v 3))
 (.prim 3 7 (opr Tryz.f130 3 7) [(.v 0), (.op2 .sub .i64 (.v 3) (.k (.int .i64 (1))))]
 (.prim 3 8 (opr Tryz.f130 3 8) [(.v 4)]
 (.call false 148 [(.v 5)]
 (.rq (.int .i64 (.v 6))
 (.ret [(.op2 .sub .i64 (.op2 .mul .i64 (.k (.int .i64 (64))) (.v 2)) (.v 6))])))))))))))) := by kernel_rfl
theorem np_glen : (Tryz.prog.funcs[130]?).map (fun fn => fn.params.size + fn.nfree) = some 1 := by kernel_rfl
theorem op_glen_1_1 : (opr Tryz.f130 1 1).op = .call ⟨.builtin .len, #[(.tmp 3)], #[73]⟩ := by kernel_rfl
theorem op_glen_3_1 : (opr Tryz.f130 3 1).op = .call ⟨.builtin .len, #[(.tmp 6)], #[73]⟩ := by kernel_rfl
theorem op_glen_3_5 : (opr Tryz.f130 3 5).op = .call ⟨.builtin .len, #[(.tmp 10)], #[73]⟩ := by kernel_rfl
theorem op_glen_3_7 : (opr Tryz.f130 3 7).op = .indexAddr 73 (.tmp 9) (.tmp 12) := by kernel_rfl
theorem op_glen_3_8 : (opr Tryz.f130 3 8).op = .load 29 (.tmp 13) := by kernel_rfl
theorem tr_gmove : tree Tryz.prog [] [] [⟨0, 3, [], []⟩] [⟨5, [0, 0, 0, 4, 14, 31, 63, 0, 0, 256, 896, 2047, 4095, 8191], [0, 0, 0, 0, 0, 1, 1, 0, 0, 0, 0, 0, 1, 4], [0, 0, 0, 0, 0, 0, 0, 0, 0, 0, 0, 0, 0, 0], [0, 1, 2, 3, 4, 5, 6, 7, 8, 9, 10, 11, 12], [13]⟩] 131 = some (.prim 1 1 (opr Tryz.f131 1 1) [(.v 0)]
(.rq (.int .i64 (.v 1))
(.rq (.int .i64 (.v 2))
(.eff false 1 6 (opr Tryz.f131 1 6) [(.op2 .add .i64 (.op2 .add .i64 (.v 2) (.op2 .quo .i64 (.v 1) (.k (.int .i64 (64))))) (.k (.int .i64 (1)))), (.op2 .add .i64 (.op2 .add .i64 (.v 2) (.op2 .quo .i64 (.v 1) (.k (.int .i64 (64))))) (.k (.int .i64 (1))))]
(.prim 2 1 (opr Tryz.f131 2 1) [(.v 0)]
(.loop [(.k (.int .i64 (0)))]
 (.rq (.int .i64 (.v 5))
 (.rq (.int .i64 (.v 4))
 (.br (.op2 .lss .i64 (.v 5) (.v 4))
  (.prim 4 1 (opr Tryz.f131 4 1) [(.v 0), (.v 5)]
  (.prim 4 2 (opr Tryz.f131 4 2) [(.v 6)]
  (.prim 5 5 (opr Tryz.f131 5 5) [(.v 3), (.op2 .add .i64 (.v 5) (.op2 .quo .i64 (.v 1) (.k (.int .i64 (64)))))]
  (.prim 5 6 (opr Tryz.f131 5 6) [(.v 8)]
  (.rq (.int .u64 (.v 7))
  (.rq (.nn (.op2 .rem .i64 (.v 1) (.k (.int .i64 (64)))))
  (.rq (.int .u64 (.v 9))
  (.prim 5 12 (opr Tryz.f131 5 12) [(.v 3), (.op2 .add .i64 (.v 5) (.op2 .quo .i64 (.v 1) (.k (.int .i64 (64)))))]
  (.eff false 5 13 (opr Tryz.f131 5 13) [(.v 10), (.op2 .or .u64 (.v 9) (.op2 .shl .u64 (.v 7) (.op2 .rem .i64 (.v 1) (.k (.int .i64 (64))))))]
  (.br (.op2 .gtr .i64 (.op2 .rem .i64 (.v 1) (.k (.int .i64 (64)))) (.k (.int .i64 (0))))
   (.rq (.nn (.op2 .sub .i64 (.k (.int .i64 (64))) (.op2 .rem .i64 (.v 1) (.k (.int .i64 (64))))))
   (.prim 7 11 (opr Tryz.f131 7 11) [(.v 3), (.op2 .add .i64 (.op2 .add .i64 (.v 5) (.op2 .quo .i64 (.v 1) (.k (.int .i64 (64))))) (.k (.int .i64 (1))))]
   (.eff false 7 12 (opr Tryz.f131 7 12) [(.v 12), (.op2 .shr .u64 (.v 7) (.op2 .sub .i64 (.k (.int .i64 (64))) (.op2 .rem .i64 (.v 1) (.k (.int .i64 (64))))))]
   (.next 0 [(.op2 .add .i64 (.v 5) (.k (.int .i64 (1))))]))))
   (.next 0 [(.op2 .add .i64 (.v 5) (.k (.int .i64 (1))))])))))))))))
  (.call false 98 [(.k (.bool false)), (.v 3)]
  (.rq (.agg 2 (.v 6))
  (.ret [(.cell (.v 6) 1 0 noI)])))))))))))) := by kernel_rfl
theorem np_gmove : (Tryz.prog.funcs[131]?).map (fun fn => fn.params.size + fn.nfree) = some 2 := by kernel_rfl
theorem op_gmove_1_1 : (opr Tryz.f131 1 1).op = .call ⟨.builtin .len, #[(.tmp 8)], #[73]⟩ := by kernel_rfl
theorem op_gmove_1_6 : (opr Tryz.f131 1 6).op = .makeSlice 73 (.tmp 13) (.tmp 13) := by kernel_rfl
theorem op_gmove_2_1 : (opr Tryz.f131 2 1).op = .call ⟨.builtin .len, #[(.tmp 15)], #[73]⟩ := by kernel_rfl
theorem op_gmove_4_1 : (opr Tryz.f131 4 1).op = .indexAddr 73 (.tmp 15) (.tmp 17) := by kernel_rfl
theorem op_gmove_4_2 : (opr Tryz.f131 4 2).op = .load 29 (.tmp 20) := by kernel_rfl
theorem op_gmove_5_5 : (opr Tryz.f131 5 5).op = .indexAddr 73 (.tmp 22) (.tmp 26) := by kernel_rfl
theorem op_gmove_5_6 : (opr Tryz.f131 5 6).op = .load 29 (.tmp 27) := by kernel_rfl
theorem op_gmove_5_12 : (opr Tryz.f131 5 12).op = .indexAddr 73 (.tmp 22) (.tmp 26) := by kernel_rfl
theorem op_gmove_5_13 : (opr Tryz.f131 5 13).op = .store 29 (.tmp 34) (.tmp 33) := by kernel_rfl
theorem op_gmove_7_11 : (opr Tryz.f131 7 11).op = .indexAddr 73 (.tmp 38) (.tmp 43) := by kernel_rfl
theorem op_gmove_7_12 : (opr Tryz.f131 7 12).op = .store 29 (.tmp 49) (.tmp 48) := by kernel_rfl
theorem tr_gdiv : tree Tryz.prog [] [] [⟨0, 5, [], []⟩, ⟨0, 11, [], []⟩] [⟨7, [0, 0, 0, 0, 0, 24, 56, 0, 128, 384, 1020, 2044, 4092, 4092, 8191, 24575, 65535], [0, 0, 0, 0, 0, 1, 1, 0, 1, 1, 2, 0, 0, 0, 1, 4, 0], [0, 0, 0, 0, 0, 0, 0, 0, 0, 0, 0, 0, 0, 0, 0, 0, 0], [0, 1, 2, 3, 4, 5, 6, 7, 8, 9, 10, 11, 12, 13, 14], [15, 16]⟩, ⟨16, [0, 0, 2, 7, 15, 0, 32, 96, 255, 511, 1023], [0, 0, 0, 1, 1, 0, 0, 0, 0, 1, 4], [0, 0, 0, 0, 0, 0, 0, 0, 0, 0, 0], [0, 1, 2, 3, 4, 5, 6, 7, 8, 9], [10]⟩] 99 = some (.prim 1 1 (opr Tryz.f99 1 1) [(.v 0)]
(.eff false 1 2 (opr Tryz.f99 1 2) [(.v 2), (.v 2)]
(.prim 2 1 (opr Tryz.f99 2 1) [(.v 1)]
(.rq (.int .i64 (.v 4))
(.br (.op2 .eql .i64 (.v 4) (.k (.int .i64 (1))))
 (.prim 4 1 (opr Tryz.f99 4 1) [(.v 0)]
 (.rq (.int .i64 (.v 5))
 (.loop [(.k (.int .u64 (0))), (.op2 .sub .i64 (.v 5) (.k (.int .i64 (1))))]
  (.rq (.int .i64 (.v 7))
  (.br (.op2 .geq .i64 (.v 7) (.k (.int .i64 (0))))
   (.prim 7 5 (opr Tryz.f99 7 5) [(.v 0), (.v 7)]
   (.prim 7 6 (opr Tryz.f99 7 6) [(.v 8)]
   (.prim 7 8 (opr Tryz.f99 7 8) [(.v 1), (.k (.int .i64 (0)))]
   (.prim 7 9 (opr Tryz.f99 7 9) [(.v 10)]
   (.call true 123 [(.v 6), (.v 9), (.v 11)]
   (.rq (.tup 0 (.v 12))
   (.rq (.tup 1 (.v 12))
   (.prim 7 14 (opr Tryz.f99 7 14) [(.v 3), (.v 7)]
   (.eff false 7 15 (opr Tryz.f99 7 15) [(.v 13), (.proj (.v 12) 0)]
   (.next 0 [(.proj (.v 12) 1), (.op2 .sub .i64 (.v 7) (.k (.int .i64 (1))))]))))))))))
   (.eff false 8 2 (opr Tryz.f99 8 2) [(.v 6)]
   (.call false 98 [(.k (.bool false)), (.v 8)]
   (.rq (.agg 2 (.v 9))
   (.ret [(.v 3), (.cell (.v 9) 1 0 noI)])))))))))
 (.call false 130 [(.v 0)]
 (.call false 130 [(.v 1)]
 (.rq (.int .i64 (.v 5))
 (.rq (.int .i64 (.v 6))
 (.loop [(.v 0), (.op2 .sub .i64 (.v 5) (.v 6))]
  (.rq (.int .i64 (.v 8))
  (.br (.op2 .geq .i64 (.v 8) (.k (.int .i64 (0))))
   (.call false 131 [(.v 1), (.v 8)]
   (.call false 128 [(.v 7), (.v 9)]
   (.rq (.int .i64 (.v 10))
   (.br (.op2 .geq .i64 (.v 10) (.k (.int .i64 (0))))
    (.call false 129 [(.v 7), (.v 9)]
    (.call false 98 [(.k (.bool false)), (.v 11)]
    (.rq (.agg 2 (.v 12))
    (.prim 16 3 (opr Tryz.f99 16 3) [(.v 3), (.op2 .quo .i64 (.v 8) (.k (.int .i64 (64))))]
    (.prim 16 4 (opr Tryz.f99 16 4) [(.v 13)]
    (.rq (.nn (.op2 .rem .i64 (.v 8) (.k (.int .i64 (64)))))
    (.rq (.int .u64 (.v 14))
    (.prim 16 9 (opr Tryz.f99 16 9) [(.v 3), (.op2 .quo .i64 (.v 8) (.k (.int .i64 (64))))]
    (.eff false 16 10 (opr Tryz.f99 16 10) [(.v 15), (.op2 .or .u64 (.v 14) (.op2 .shl .u64 (.k (.int .u64 (1))) (.op2 .rem .i64 (.v 8) (.k (.int .i64 (64))))))]
    (.next 0 [(.cell (.v 12) 1 0 noI), (.op2 .sub .i64 (.v 8) (.k (.int .i64 (1))))]))))))))))
    (.next 0 [(.v 7), (.op2 .sub .i64 (.v 8) (.k (.int .i64 (1))))])))))
   (.ret [(.v 3), (.v 7)]))))))))))))) := by kernel_rfl
theorem np_gdiv : (Tryz.prog.funcs[99]?).map (fun fn => fn.params.size + fn.nfree) = some 2 := by kernel_rfl
theorem op_gdiv_1_1 : (opr Tryz.f99 1 1).op = .call ⟨.builtin .len, #[(.tmp 10)], #[73]⟩ := by kernel_rfl
theorem op_gdiv_1_2 : (opr Tryz.f99 1 2).op = .makeSlice 73 (.tmp 11) (.tmp 11) := by kernel_rfl
theorem op_gdiv_2_1 : (opr Tryz.f99 2 1).op = .call ⟨.builtin .len, #[(.tmp 13)], #[73]⟩ := by kernel_rfl
theorem op_gdiv_4_1 : (opr Tryz.f99 4 1).op = .call ⟨.builtin .len, #[(.tmp 16)], #[73]⟩ := by kernel_rfl
theorem op_gdiv_7_5 : (opr Tryz.f99 7 5).op = .indexAddr 73 (.tmp 27) (.tmp 28) := by kernel_rfl
theorem op_gdiv_7_6 : (opr Tryz.f99 7 6).op = .load 29 (.tmp 29) := by kernel_rfl
theorem op_gdiv_7_8 : (opr Tryz.f99 7 8).op = .indexAddr 73 (.tmp 31) (.const (.int .i64 (0))) := by kernel_rfl
theorem op_gdiv_7_9 : (opr Tryz.f99 7 9).op = .load 29 (.tmp 32) := by kernel_rfl
theorem op_gdiv_7_14 : (opr Tryz.f99 7 14).op = .indexAddr 73 (.tmp 24) (.tmp 25) := by kernel_rfl
theorem op_gdiv_7_15 : (opr Tryz.f99 7 15).op = .store 29 (.tmp 37) (.tmp 35) := by kernel_rfl
theorem op_gdiv_8_2 : (opr Tryz.f99 8 2).op = .buildSlice 73 1 #[(0, (.tmp 39))] := by kernel_rfl
theorem op_gdiv_16_3 : (opr Tryz.f99 16 3).op = .indexAddr 73 (.tmp 65) (.tmp 67) := by kernel_rfl
theorem op_gdiv_16_4 : (opr Tryz.f99 16 4).op = .load 29 (.tmp 68) := by kernel_rfl
theorem op_gdiv_16_9 : (opr Tryz.f99 16 9).op = .indexAddr 73 (.tmp 65) (.tmp 67) := by kernel_rfl
theorem op_gdiv_16_10 : (opr Tryz.f99 16 10).op = .store 29 (.tmp 74) (.tmp 73) := by kernel_rfl
theorem tr_gTurned : tree Tryz.prog [] [] [] [] 47 = some (.rq (.cells 2 (.v 0))
(.rq (.bool (.cell (.v 0) 0 0 noI))
(.call false 98 [(.nt (.cell (.v 0) 0 0 noI)), (.cell (.v 0) 1 0 noI)]
(.rq (.cells 2 (.v 1))
(.ret [(.ag (.v 1))]))))) := by kernel_rfl
theorem np_gTurned : (Tryz.prog.funcs[47]?).map (fun fn => fn.params.size + fn.nfree) = some 1 := by kernel_rfl
theorem tr_gPlus : tree Tryz.prog [] [] [] [⟨2, [0, 1, 0, 4, 0, 16, 60, 127, 255], [1, 1, 1, 1, 1, 1, 2, 2, 6], [0, 0, 0, 0, 0, 0, 0, 0, 2], [0, 1, 2, 3, 4, 5, 6, 7], [8]⟩, ⟨5, [0, 1, 0, 4, 0, 16, 60, 127, 255], [1, 1, 1, 1, 1, 1, 2, 2, 6], [0, 0, 0, 0, 0, 0, 0, 0, 2], [0, 1, 2, 3, 4, 5, 6, 7], [8]⟩] 97 = some (.rq (.cells 2 (.v 0))
(.rq (.cells 2 (.v 1))
(.rq (.bool (.cell (.v 0) 0 0 noI))
(.rq (.bool (.cell (.v 1) 0 0 noI))
(.br (.eqb false (.cell (.v 0) 0 0 noI) (.cell (.v 1) 0 0 noI))
 (.call true 127 [(.cell (.v 0) 1 0 noI), (.cell (.v 1) 1 0 noI)]
 (.call true 98 [(.cell (.v 0) 0 0 noI), (.v 2)]
 (.rq (.cells 2 (.v 3))
 (.ret [(.ag (.v 3))]))))
 (.call false 128 [(.cell (.v 0) 1 0 noI), (.cell (.v 1) 1 0 noI)]
 (.rq (.int .i64 (.v 2))
 (.br (.op2 .lss .i64 (.v 2) (.k (.int .i64 (0))))
  (.call true 129 [(.cell (.v 1) 1 0 noI), (.cell (.v 0) 1 0 noI)]
  (.call true 98 [(.cell (.v 1) 0 0 noI), (.v 3)]
  (.rq (.cells 2 (.v 4))
  (.ret [(.ag (.v 4))]))))
  (.call true 129 [(.cell (.v 0) 1 0 noI), (.cell (.v 1) 1 0 noI)]
  (.call true 98 [(.cell (.v 0) 0 0 noI), (.v 3)]
  (.rq (.cells 2 (.v 4))
  (.ret [(.ag (.v 4))])))))))))))) := by kernel_rfl
theorem np_gPlus : (Tryz.prog.funcs[97]?).map (fun fn => fn.params.size + fn.nfree) = some 2 := by kernel_rfl
theorem tr_gMinus : tree Tryz.prog [] [] [] [⟨1, [0, 0, 2, 7, 15], [5, 5, 2, 2, 6], [0, 1, 0, 0, 2], [0, 1, 2, 3], [4]⟩] 114 = some (.rq (.cells 2 (.v 0))
(.rq (.cells 2 (.v 1))
(.call true 47 [(.ag (.v 1))]
(.call true 97 [(.ag (.v 0)), (.v 2)]
(.rq (.cells 2 (.v 3))
(.ret [(.ag (.v 3))])))))) := by kernel_rfl
theorem np_gMinus : (Tryz.prog.funcs[114]?).map (fun fn => fn.params.size + fn.nfree) = some 2 := by kernel_rfl
theorem tr_gTimes : tree Tryz.prog [] [] [] [⟨1, [0, 1, 0, 4, 15, 0, 32, 0, 128, 480, 1023, 2047], [1, 1, 1, 1, 0, 1, 1, 1, 1, 2, 2, 6], [0, 0, 0, 0, 0, 0, 0, 0, 0, 0, 0, 2], [0, 1, 2, 3, 4, 5, 6, 7, 8, 9, 10], [11]⟩] 96 = some (.rq (.cells 2 (.v 0))
(.rq (.cells 2 (.v 1))
(.rq (.bool (.cell (.v 0) 0 0 noI))
(.rq (.bool (.cell (.v 1) 0 0 noI))
(.call true 126 [(.cell (.v 0) 1 0 noI), (.cell (.v 1) 1 0 noI)]
(.call true 98 [(.eqb true (.cell (.v 0) 0 0 noI) (.cell (.v 1) 0 0 noI)), (.v 2)]
(.rq (.cells 2 (.v 3))
(.ret [(.ag (.v 3))])))))))) := by kernel_rfl
theorem np_gTimes : (Tryz.prog.funcs[96]?).map (fun fn => fn.params.size + fn.nfree) = some 2 := by kernel_rfl
theorem tr_gParts : tree Tryz.prog [] [] [] [⟨2, [0, 1, 0, 4, 15, 0, 63, 0, 128, 0, 1023, 2047, 4095], [1, 1, 1, 1, 0, 0, 2, 1, 1, 0, 2, 6, 6], [0, 0, 0, 0, 0, 0, 0, 0, 0, 0, 0, 2, 3], [0, 1, 2, 3, 4, 5, 7, 8, 9, 6, 10], [11, 12]⟩, ⟨8, [0, 0, 1, 7], [5, 5, 6, 6], [2, 3, 2, 3], [0, 1], [2, 3]⟩] 48 = some (.rq (.cells 2 (.v 0))
(.rq (.cells 2 (.v 1))
(.call false 99 [(.cell (.v 0) 1 0 noI), (.cell (.v 1) 1 0 noI)]
(.rq (.tup 0 (.v 2))
(.rq (.tup 1 (.v 2))
(.rq (.bool (.cell (.v 0) 0 0 noI))
(.rq (.bool (.cell (.v 1) 0 0 noI))
(.call true 98 [(.eqb true (.cell (.v 0) 0 0 noI) (.cell (.v 1) 0 0 noI)), (.proj (.v 2) 0)]
(.call true 98 [(.cell (.v 0) 0 0 noI), (.proj (.v 2) 1)]
(.rq (.cells 2 (.v 3))
(.rq (.cells 2 (.v 4))
(.rq (.bool (.cell (.v 4) 0 0 noI))
(.br (.cell (.v 4) 0 0 noI)
 (.rq (.cells 1 (.cell (.v 1) 1 0 noI))
 (.call false 97 [(.ag (.v 4)), (.cat (.z 4) 1 (.cell (.v 1) 1 0 noI))]
 (.rq (.cells 2 (.v 5))
 (.eff false 6 3 (opr Tryz.f48 6 3) [(.k (.int .u64 (1)))]
 (.rq (.cells 1 (.v 6))
 (.call false 97 [(.ag (.v 3)), (.cat (.nt (.cell (.v 1) 0 0 noI)) 1 (.v 6))]
 (.rq (.cells 2 (.v 7))
 (.ret [(.ag (.v 7)), (.ag (.v 5))]))))))))
 (.ret [(.ag (.v 3)), (.ag (.v 4))])))))))))))))) := by kernel_rfl
theorem np_gParts : (Tryz.prog.funcs[48]?).map (fun fn => fn.params.size + fn.nfree) = some 2 := by kernel_rfl
theorem op_gParts_6_3 : (opr Tryz.f48 6 3).op = .buildSlice 73 1 #[(0, (.const (.int .u64 (1))))] := by kernel_rfl
theorem tr_gCommon : tree Tryz.prog [] [] [⟨0, 2, [], []⟩] [⟨1, [0, 1, 0, 4, 3, 31], [1, 1, 1, 1, 0, 0], [0, 0, 0, 0, 0, 0], [0, 1, 2, 3, 4, 5], []⟩] 71 = some (.rq (.cells 2 (.v 0))
(.rq (.cells 2 (.v 1))
(.loop [(.cell (.v 0) 1 0 noI), (.cell (.v 1) 1 0 noI)]
 (.prim 2 1 (opr Tryz.f71 2 1) [(.v 3)]
 (.rq (.int .i64 (.v 4))
 (.br (.op2 .gtr .i64 (.v 4) (.k (.int .i64 (0))))
  (.call false 99 [(.v 2), (.v 3)]
  (.rq (.tup 0 (.v 5))
  (.rq (.tup 1 (.v 5))
  (.next 0 [(.v 3), (.proj (.v 5) 1)]))))
  (.rq (.cells 1 (.v 2))
  (.ret [(.cat (.z 4) 1 (.v 2))])))))))) := by kernel_rfl
theorem np_gCommon : (Tryz.prog.funcs[71]?).map (fun fn => fn.params.size + fn.nfree) = some 2 := by kernel_rfl
theorem op_gCommon_2_1 : (opr Tryz.f71 2 1).op = .call ⟨.builtin .len, #[(.tmp 13)], #[73]⟩ := by kernel_rfl
theorem tr_gSide : tree Tryz.prog [] [] [] [] 46 = some (.rq (.cells 2 (.v 0))
(.rq (.bool (.cell (.v 0) 0 0 noI))
(.br (.cell (.v 0) 0 0 noI)
 (.ret [(.k (.int .i64 (-1)))])
 (.prim 3 2 (opr Tryz.f46 3 2) [(.cell (.v 0) 1 0 noI)]
 (.rq (.int .i64 (.v 1))
 (.br (.op2 .eql .i64 (.v 1) (.k (.int .i64 (0))))
  (.ret [(.k (.int .i64 (0)))])
  (.ret [(.k (.int .i64 (1)))]))))))) := by kernel_rfl
theorem np_gSide : (Tryz.prog.funcs[46]?).map (fun fn => fn.params.size + fn.nfree) = some 1 := by kernel_rfl
theorem op_gSide_3_2 : (opr Tryz.f46 3 2).op = .call ⟨.builtin .len, #[(.tmp 8)], #[73]⟩ := by kernel_rfl
theorem tr_gCmp : tree Tryz.prog [] [] [] [] 72 = some (.rq (.cells 2 (.v 0))
(.rq (.cells 2 (.v 1))
(.call false 114 [(.ag (.v 0)), (.ag (.v 1))]
(.call false 46 [(.v 2)]
(.ret [(.v 3)]))))) := by kernel_rfl
theorem np_gCmp : (Tryz.prog.funcs[72]?).map (fun fn => fn.params.size + fn.nfree) = some 2 := by kernel_rfl
theorem tr_gRaised : tree Tryz.prog [] [] [⟨0, 3, [], [2]⟩] [] 44 = some (.rq (.cells 2 (.v 0))
(.call false 43 [(.k (.int .i64 (1)))]
(.rq (.cells 2 (.v 2))
(.loop [(.k (.int .i64 (0))), (.v 2)]
 (.rq (.int .i64 (.v 3))
 (.rq (.int .i64 (.v 1))
 (.br (.op2 .lss .i64 (.v 3) (.v 1))
  (.call false 96 [(.ag (.v 4)), (.ag (.v 0))]
  (.rq (.cells 2 (.v 5))
  (.next 0 [(.op2 .add .i64 (.v 3) (.k (.int .i64 (1)))), (.v 5)])))
  (.ret [(.ag (.v 4))])))))))) := by kernel_rfl
theorem np_gRaised : (Tryz.prog.funcs[44]?).map (fun fn => fn.params.size + fn.nfree) = some 2 := by kernel_rfl
end Go.Proofs.YtcleogdmobdnpacGreatRDoor

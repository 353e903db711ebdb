/- MADE BY rxgen.py: the trees of package share. -/
import Derived.Test.YtcleogdmobdnpacGreatRDoorWdT
namespace Go.Proofs.YtcleogdmobdnpacGreatRDoor
open Go.RowKit Go.RX
theorem tr_sLowest : tree Tryz.prog [] [] [] [⟨5, [0, 1, 0, 7, 15, 31], [5, 2, 5, 2, 6, 6], [4, 0, 6, 0, 4, 6], [0, 2, 1, 3], [4, 5]⟩] 58 = some (.rq (.cells 2 (.v 0))
(.rq (.cells 2 (.v 1))
(.call false 71 [(.ag (.v 0)), (.ag (.v 1))]
(.rq (.cells 2 (.v 2))
(.call false 48 [(.ag (.v 0)), (.ag (.v 2))]
(.rq (.tup 0 (.v 3))
(.rq (.tup 1 (.v 3))
(.rq (.cells 2 (.proj (.v 3) 0))
(.rq (.cells 2 (.proj (.v 3) 1))
(.call false 48 [(.ag (.v 1)), (.ag (.v 2))]
(.rq (.tup 0 (.v 4))
(.rq (.tup 1 (.v 4))
(.rq (.cells 2 (.proj (.v 4) 0))
(.rq (.cells 2 (.proj (.v 4) 1))
(.rq (.bool (.cell (.proj (.v 4) 0) 0 0 noI))
(.br (.cell (.proj (.v 4) 0) 0 0 noI)
 (.call true 47 [(.ag (.proj (.v 3) 0))]
 (.call true 47 [(.ag (.proj (.v 4) 0))]
 (.rq (.cells 2 (.v 5))
 (.rq (.cells 2 (.v 6))
 (.ret [(.cat (.ag (.v 5)) 2 (.ag (.v 6)))])))))
 (.ret [(.cat (.ag (.proj (.v 3) 0)) 2 (.ag (.proj (.v 4) 0)))]))))))))))))))))) := by kernel_rfl
theorem np_sLowest : (Tryz.prog.funcs[58]?).map (fun fn => fn.params.size + fn.nfree) = some 2 := by kernel_rfl
theorem tr_sRead : tree Tryz.prog [] [] [] [⟨1, [0, 1, 3, 0, 8, 31, 63, 127], [1, 1, 2, 1, 1, 2, 0, 6], [0, 0, 0, 0, 0, 0, 0, 1], [0, 1, 3, 4, 2, 5, 6], [7]⟩] 40 = some (.rq (.cells 16 (.v 0))
(.call true 59 [(.sub (.v 0) 0 8 0 noI)]
(.call true 59 [(.sub (.v 0) 8 8 0 noI)]
(.rq (.cells 2 (.v 1))
(.rq (.cells 2 (.v 2))
(.ret [(.put (.cat (.v 1) 2 (.z 75)) 2 2 (.v 2) 0 noI)])))))) := by kernel_rfl
theorem np_sRead : (Tryz.prog.funcs[40]?).map (fun fn => fn.params.size + fn.nfree) = some 1 := by kernel_rfl
theorem tr_sWhole : tree Tryz.prog [] [] [] [⟨1, [0, 0, 3, 7], [5, 2, 0, 6], [0, 0, 0, 1], [0, 1, 2], [3]⟩] 42 = some (.rq (.cells 2 (.v 0))
(.call true 43 [(.k (.int .i64 (1)))]
(.rq (.cells 2 (.v 1))
(.ret [(.cat (.ag (.v 0)) 2 (.v 1))])))) := by kernel_rfl
theorem np_sWhole : (Tryz.prog.funcs[42]?).map (fun fn => fn.params.size + fn.nfree) = some 1 := by kernel_rfl
theorem tr_sRTold : tree Tryz.prog [] [] [⟨3, 3, [25], []⟩] [] 60 = some (.rq (.cells 4 (.v 0))
(.call false 49 [(.sub (.v 0) 0 2 0 noI)]
(.rq (.tup 0 (.v 1))
(.rq (.tup 1 (.v 1))
(.rq (.cells 8 (.proj (.v 1) 0))
(.call false 49 [(.sub (.v 0) 2 2 0 noI)]
(.rq (.tup 0 (.v 2))
(.rq (.tup 1 (.v 2))
(.rq (.cells 8 (.proj (.v 2) 0))
(.join 1
 (.rq (.int .i64 (.proj (.v 1) 1))
 (.br (.op2 .neq .i64 (.proj (.v 1) 1) (.k (.int .i64 (0))))
  (.next 0 [(.k (.bool true))])
  (.rq (.int .i64 (.proj (.v 2) 1))
  (.next 0 [(.op2 .neq .i64 (.proj (.v 2) 1) (.k (.int .i64 (0))))]))))
 (.rq (.bool (.v 3))
 (.br (.v 3)
  (.ret [(.cat (.z 31) 8 (.z 31)), (.k (.int .i64 (6)))])
  (.ret [(.cat (.ag (.proj (.v 1) 0)) 8 (.ag (.proj (.v 2) 0))), (.k (.int .i64 (0)))]))))))))))))) := by kernel_rfl
theorem np_sRTold : (Tryz.prog.funcs[60]?).map (fun fn => fn.params.size + fn.nfree) = some 1 := by kernel_rfl
theorem tr_sRPlus : tree Tryz.prog [] [] [] [⟨1, [0, 1, 0, 4, 15, 0, 32, 0, 128, 511, 1023, 0, 2048, 0, 8192, 32767, 65535, 131071], [1, 1, 1, 1, 2, 1, 1, 1, 1, 2, 2, 1, 1, 1, 1, 2, 2, 6], [0, 0, 0, 0, 0, 0, 0, 0, 0, 0, 0, 0, 0, 0, 0, 0, 0, 2], [0, 1, 2, 3, 5, 6, 7, 8, 11, 12, 13, 14, 4, 9, 10, 15, 16], [17]⟩] 74 = some (.rq (.cells 4 (.v 0))
(.rq (.cells 4 (.v 1))
(.call true 96 [(.sub (.v 0) 0 2 0 noI), (.sub (.v 1) 2 2 0 noI)]
(.call true 96 [(.sub (.v 1) 0 2 0 noI), (.sub (.v 0) 2 2 0 noI)]
(.call true 97 [(.v 2), (.v 3)]
(.call true 96 [(.sub (.v 0) 2 2 0 noI), (.sub (.v 1) 2 2 0 noI)]
(.call true 58 [(.v 4), (.v 5)]
(.rq (.cells 4 (.v 6))
(.ret [(.ag (.v 6))]))))))))) := by kernel_rfl
theorem np_sRPlus : (Tryz.prog.funcs[74]?).map (fun fn => fn.params.size + fn.nfree) = some 2 := by kernel_rfl
theorem tr_sRTurned : tree Tryz.prog [] [] [] [⟨1, [0, 1, 3, 0, 8, 31, 63], [1, 1, 2, 1, 1, 0, 6], [0, 0, 0, 0, 0, 0, 1], [0, 1, 3, 4, 2, 5], [6]⟩] 66 = some (.rq (.cells 4 (.v 0))
(.call true 47 [(.sub (.v 0) 0 2 0 noI)]
(.rq (.cells 2 (.v 1))
(.ret [(.put (.cat (.v 1) 2 (.z 75)) 2 2 (.sub (.v 0) 2 2 0 noI) 0 noI)])))) := by kernel_rfl
theorem np_sRTurned : (Tryz.prog.funcs[66]?).map (fun fn => fn.params.size + fn.nfree) = some 1 := by kernel_rfl
theorem tr_sRMinus : tree Tryz.prog [] [] [] [⟨1, [0, 0, 2, 7, 15], [5, 5, 2, 2, 6], [0, 1, 0, 0, 2], [0, 1, 2, 3], [4]⟩] 63 = some (.rq (.cells 4 (.v 0))
(.rq (.cells 4 (.v 1))
(.call true 66 [(.ag (.v 1))]
(.call true 74 [(.ag (.v 0)), (.v 2)]
(.rq (.cells 4 (.v 3))
(.ret [(.ag (.v 3))])))))) := by kernel_rfl
theorem np_sRMinus : (Tryz.prog.funcs[63]?).map (fun fn => fn.params.size + fn.nfree) = some 2 := by kernel_rfl
theorem tr_sRTimes : tree Tryz.prog [] [] [] [⟨1, [0, 1, 0, 4, 15, 0, 32, 0, 128, 511, 1023, 2047], [1, 1, 1, 1, 2, 1, 1, 1, 1, 2, 2, 6], [0, 0, 0, 0, 0, 0, 0, 0, 0, 0, 0, 2], [0, 1, 2, 3, 5, 6, 7, 8, 4, 9, 10], [11]⟩] 41 = some (.rq (.cells 4 (.v 0))
(.rq (.cells 4 (.v 1))
(.call true 96 [(.sub (.v 0) 0 2 0 noI), (.sub (.v 1) 0 2 0 noI)]
(.call true 96 [(.sub (.v 0) 2 2 0 noI), (.sub (.v 1) 2 2 0 noI)]
(.call true 58 [(.v 2), (.v 3)]
(.rq (.cells 4 (.v 4))
(.ret [(.ag (.v 4))]))))))) := by kernel_rfl
theorem np_sRTimes : (Tryz.prog.funcs[41]?).map (fun fn => fn.params.size + fn.nfree) = some 2 := by kernel_rfl
theorem tr_sROver : tree Tryz.prog [] [] [] [⟨1, [0, 1, 0, 4, 15, 0, 32, 0, 128, 511, 1023, 2047], [1, 1, 1, 1, 2, 1, 1, 1, 1, 2, 2, 6], [0, 0, 0, 0, 0, 0, 0, 0, 0, 0, 0, 2], [0, 1, 2, 3, 5, 6, 7, 8, 4, 9, 10], [11]⟩] 75 = some (.rq (.cells 4 (.v 0))
(.rq (.cells 4 (.v 1))
(.call true 96 [(.sub (.v 0) 0 2 0 noI), (.sub (.v 1) 2 2 0 noI)]
(.call true 96 [(.sub (.v 0) 2 2 0 noI), (.sub (.v 1) 0 2 0 noI)]
(.call true 58 [(.v 2), (.v 3)]
(.rq (.cells 4 (.v 4))
(.ret [(.ag (.v 4))]))))))) := by kernel_rfl
theorem np_sROver : (Tryz.prog.funcs[75]?).map (fun fn => fn.params.size + fn.nfree) = some 2 := by kernel_rfl
theorem tr_sRCmp : tree Tryz.prog [] [] [] [⟨1, [0, 1, 0, 4, 15, 0, 32, 0, 128, 511, 1023, 2047], [1, 1, 1, 1, 2, 1, 1, 1, 1, 2, 2, 0], [0, 0, 0, 0, 0, 0, 0, 0, 0, 0, 0, 0], [0, 1, 2, 3, 5, 6, 7, 8, 4, 9, 10, 11], []⟩] 69 = some (.rq (.cells 4 (.v 0))
(.rq (.cells 4 (.v 1))
(.call true 96 [(.sub (.v 0) 0 2 0 noI), (.sub (.v 1) 2 2 0 noI)]
(.call true 96 [(.sub (.v 1) 0 2 0 noI), (.sub (.v 0) 2 2 0 noI)]
(.call true 72 [(.v 2), (.v 3)]
(.ret [(.v 4)])))))) := by kernel_rfl
theorem np_sRCmp : (Tryz.prog.funcs[69]?).map (fun fn => fn.params.size + fn.nfree) = some 2 := by kernel_rfl
theorem tr_sRDown : tree Tryz.prog [] [] [] [] 79 = some (.rq (.cells 4 (.v 0))
(.call false 48 [(.sub (.v 0) 0 2 0 noI), (.sub (.v 0) 2 2 0 noI)]
(.rq (.tup 0 (.v 1))
(.rq (.tup 1 (.v 1))
(.rq (.cells 2 (.proj (.v 1) 0))
(.rq (.cells 2 (.proj (.v 1) 1))
(.ret [(.ag (.proj (.v 1) 0))]))))))) := by kernel_rfl
theorem np_sRDown : (Tryz.prog.funcs[79]?).map (fun fn => fn.params.size + fn.nfree) = some 1 := by kernel_rfl
theorem tr_sRNearest : tree Tryz.prog [] [] [] [⟨1, [0, 1, 0, 4, 15, 0, 32, 127, 0, 256, 0, 1024, 4095, 8191, 16383, 32767], [1, 1, 1, 1, 2, 1, 1, 2, 1, 1, 1, 1, 2, 2, 2, 6], [0, 0, 0, 0, 0, 0, 0, 0, 0, 0, 0, 0, 0, 0, 0, 1], [0, 1, 2, 3, 5, 6, 8, 9, 10, 11, 4, 7, 12, 13, 14], [15]⟩] 45 = some (.rq (.cells 4 (.v 0))
(.call true 97 [(.sub (.v 0) 0 2 0 noI), (.sub (.v 0) 0 2 0 noI)]
(.call true 97 [(.v 1), (.sub (.v 0) 2 2 0 noI)]
(.call true 97 [(.sub (.v 0) 2 2 0 noI), (.sub (.v 0) 2 2 0 noI)]
(.call true 58 [(.v 2), (.v 3)]
(.call true 79 [(.v 4)]
(.rq (.cells 2 (.v 5))
(.ret [(.ag (.v 5))])))))))) := by kernel_rfl
theorem np_sRNearest : (Tryz.prog.funcs[45]?).map (fun fn => fn.params.size + fn.nfree) = some 1 := by kernel_rfl
theorem tr_slesser : tree Tryz.prog [] [] [] [] 112 = some (.rq (.cells 4 (.v 0))
(.rq (.cells 4 (.v 1))
(.call false 69 [(.ag (.v 0)), (.ag (.v 1))]
(.rq (.int .i64 (.v 2))
(.br (.op2 .leq .i64 (.v 2) (.k (.int .i64 (0))))
 (.ret [(.ag (.v 0))])
 (.ret [(.ag (.v 1))])))))) := by kernel_rfl
theorem np_slesser : (Tryz.prog.funcs[112]?).map (fun fn => fn.params.size + fn.nfree) = some 2 := by kernel_rfl
theorem tr_sgreater : tree Tryz.prog [] [] [] [⟨1, [0, 1, 0, 7, 15, 31, 63], [5, 2, 5, 2, 2, 2, 6], [0, 0, 1, 0, 0, 0, 2], [0, 2, 1, 3, 4, 5], [6]⟩] 65 = some (.rq (.cells 4 (.v 0))
(.rq (.cells 4 (.v 1))
(.call true 66 [(.ag (.v 0))]
(.call true 66 [(.ag (.v 1))]
(.call true 112 [(.v 2), (.v 3)]
(.call true 66 [(.v 4)]
(.rq (.cells 4 (.v 5))
(.ret [(.ag (.v 5))])))))))) := by kernel_rfl
theorem np_sgreater : (Tryz.prog.funcs[65]?).map (fun fn => fn.params.size + fn.nfree) = some 2 := by kernel_rfl
theorem tr_sCheck : tree Tryz.prog [] [] [⟨3, 3, [21], []⟩] [⟨3, [0, 1, 3, 7, 15, 31, 63, 31, 159, 511, 31, 2047, 4095, 8191], [1, 1, 2, 0, 0, 1, 1, 1, 1, 2, 5, 2, 0, 0], [0, 0, 0, 0, 0, 0, 0, 0, 0, 0, 1, 0, 0, 0], [0, 1, 2, 3, 4, 5, 6, 7, 8, 10, 9, 11, 12, 13], []⟩] 23 = some (.rq (.cells 16 (.v 0))
(.call false 43 [(.k (.int .i64 (1)))]
(.rq (.cells 2 (.v 1))
(.call false 40 [(.ag (.v 0))]
(.rq (.cells 4 (.v 2))
(.join 1
 (.call true 46 [(.sub (.v 2) 2 2 0 noI)]
 (.rq (.int .i64 (.v 3))
 (.br (.op2 .leq .i64 (.v 3) (.k (.int .i64 (0))))
  (.next 0 [(.k (.bool true))])
  (.call true 71 [(.sub (.v 2) 0 2 0 noI), (.sub (.v 2) 2 2 0 noI)]
  (.call true 72 [(.v 4), (.ag (.v 1))]
  (.rq (.int .i64 (.v 5))
  (.next 0 [(.op2 .neq .i64 (.v 5) (.k (.int .i64 (0))))])))))))
 (.rq (.bool (.v 3))
 (.br (.v 3)
  (.ret [(.k (.int .i64 (20)))])
  (.ret [(.k (.int .i64 (0)))]))))))))) := by kernel_rfl
theorem np_sCheck : (Tryz.prog.funcs[23]?).map (fun fn => fn.params.size + fn.nfree) = some 1 := by kernel_rfl
theorem tr_sall : tree Tryz.prog [] [] [⟨0, 2, [], []⟩] [] 89 = some (.prim 1 1 (opr Tryz.f89 1 1) [(.v 1)]
(.loop [(.k (.bool false)), (.k (.int .i64 (0)))]
 (.rq (.int .i64 (.v 4))
 (.rq (.int .i64 (.v 2))
 (.br (.op2 .lss .i64 (.v 4) (.v 2))
  (.prim 3 0 (opr Tryz.f89 3 0) [(.v 1), (.v 4)]
  (.prim 3 1 (opr Tryz.f89 3 1) [(.v 5)]
  (.rq (.cells 16 (.v 6))
  (.eff false 4 2 (opr Tryz.f89 4 2) [(.v 0), (.ag (.v 6))]
  (.rq (.bool (.v 7))
  (.br (.nt (.v 7))
   (.ret [(.k (.bool false))])
   (.next 0 [(.v 3), (.op2 .add .i64 (.v 4) (.k (.int .i64 (1))))])))))))
  (.ret [(.k (.bool true))])))))) := by kernel_rfl
theorem np_sall : (Tryz.prog.funcs[89]?).map (fun fn => fn.params.size + fn.nfree) = some 2 := by kernel_rfl
theorem op_sall_1_1 : (opr Tryz.f89 1 1).op = .call ⟨.builtin .len, #[(.tmp 7)], #[120]⟩ := by kernel_rfl
theorem op_sall_3_0 : (opr Tryz.f89 3 0).op = .indexAddr 120 (.tmp 7) (.tmp 9) := by kernel_rfl
theorem op_sall_3_1 : (opr Tryz.f89 3 1).op = .load 33 (.tmp 11) := by kernel_rfl
theorem op_sall_4_2 : (opr Tryz.f89 4 2).op = .call ⟨.value (.tmp 13), #[(.tmp 14)], #[33]⟩ := by kernel_rfl
theorem tr_svalid : tree Tryz.prog [] [] [] [] 37 = some (.call false 89 [(.k (.func (.func 88) #[] #[])), (.v 0)]
(.ret [(.v 1)])) := by kernel_rfl
theorem np_svalid : (Tryz.prog.funcs[37]?).map (fun fn => fn.params.size + fn.nfree) = some 1 := by kernel_rfl
theorem tr_svalid1 : tree Tryz.prog [] [] [] [] 88 = some (.rq (.cells 16 (.v 0))
(.call false 23 [(.ag (.v 0))]
(.rq (.int .i64 (.v 1))
(.ret [(.op2 .eql .i64 (.v 1) (.k (.int .i64 (0))))])))) := by kernel_rfl
theorem np_svalid1 : (Tryz.prog.funcs[88]?).map (fun fn => fn.params.size + fn.nfree) = some 1 := by kernel_rfl
theorem tr_stwoI : tree Tryz.prog [] [] [] [⟨4, [0, 0, 2, 0, 14, 31, 63, 127], [0, 5, 2, 5, 2, 2, 0, 0], [0, 0, 0, 1, 0, 0, 0, 0], [0, 1, 3, 2, 4, 5, 6, 7], []⟩] 68 = some (.rq (.cells 16 (.v 0))
(.rq (.cells 16 (.v 1))
(.eff false 1 2 (opr Tryz.f68 1 2) [(.ag (.v 0)), (.ag (.v 1))]
(.call false 37 [(.v 3)]
(.rq (.bool (.v 4))
(.br (.nt (.v 4))
 (.ret [(.k (.int .i64 (0))), (.k (.int .i64 (20)))])
 (.call true 40 [(.ag (.v 0))]
 (.call true 40 [(.ag (.v 1))]
 (.eff true 4 5 (opr Tryz.f68 4 5) [(.v 2), (.v 5), (.v 6)]
 (.ret [(.v 7), (.k (.int .i64 (0)))])))))))))) := by kernel_rfl
theorem np_stwoI : (Tryz.prog.funcs[68]?).map (fun fn => fn.params.size + fn.nfree) = some 3 := by kernel_rfl
theorem op_stwoI_1_2 : (opr Tryz.f68 1 2).op = .buildSlice 120 2 #[(0, (.tmp 9)), (1, (.tmp 10))] := by kernel_rfl
theorem op_stwoI_4_5 : (opr Tryz.f68 4 5).op = .call ⟨.value (.tmp 15), #[(.tmp 17), (.tmp 19)], #[77, 77]⟩ := by kernel_rfl
theorem tr_stwoR : tree Tryz.prog [] [] [] [⟨4, [0, 0, 2, 0, 14, 31, 63, 127], [0, 5, 2, 5, 2, 2, 6, 0], [0, 0, 0, 1, 0, 0, 2, 0], [0, 1, 3, 2, 4, 5], [6, 7]⟩] 62 = some (.rq (.cells 16 (.v 0))
(.rq (.cells 16 (.v 1))
(.eff false 1 2 (opr Tryz.f62 1 2) [(.ag (.v 0)), (.ag (.v 1))]
(.call false 37 [(.v 3)]
(.rq (.bool (.v 4))
(.br (.nt (.v 4))
 (.ret [(.z 77), (.k (.int .i64 (20)))])
 (.call true 40 [(.ag (.v 0))]
 (.call true 40 [(.ag (.v 1))]
 (.eff true 4 5 (opr Tryz.f62 4 5) [(.v 2), (.v 5), (.v 6)]
 (.rq (.cells 4 (.v 7))
 (.ret [(.ag (.v 7)), (.k (.int .i64 (0)))]))))))))))) := by kernel_rfl
theorem np_stwoR : (Tryz.prog.funcs[62]?).map (fun fn => fn.params.size + fn.nfree) = some 3 := by kernel_rfl
theorem op_stwoR_1_2 : (opr Tryz.f62 1 2).op = .buildSlice 120 2 #[(0, (.tmp 9)), (1, (.tmp 10))] := by kernel_rfl
theorem op_stwoR_4_5 : (opr Tryz.f62 4 5).op = .call ⟨.value (.tmp 15), #[(.tmp 17), (.tmp 19)], #[77, 77]⟩ := by kernel_rfl
theorem tr_stold : tree Tryz.prog [] [] [] [] 61 = some (.rq (.cells 4 (.v 0))
(.rq (.int .i64 (.v 1))
(.br (.op2 .neq .i64 (.v 1) (.k (.int .i64 (0))))
 (.ret [(.cat (.z 31) 8 (.z 31)), (.v 1)])
 (.call false 60 [(.ag (.v 0))]
 (.rq (.tup 0 (.v 2))
 (.rq (.tup 1 (.v 2))
 (.rq (.cells 16 (.proj (.v 2) 0))
 (.ret [(.ag (.proj (.v 2) 0)), (.proj (.v 2) 1)])))))))) := by kernel_rfl
theorem np_stold : (Tryz.prog.funcs[61]?).map (fun fn => fn.params.size + fn.nfree) = some 2 := by kernel_rfl
theorem tr_sMake : tree Tryz.prog [] [] [] [⟨3, [0, 1, 0, 7, 15, 31, 63, 63, 255, 511], [5, 2, 5, 2, 2, 2, 0, 0, 6, 0], [0, 0, 1, 0, 0, 0, 0, 0, 2, 0], [0, 2, 1, 3, 4, 5, 6, 7], [8, 9]⟩] 15 = some (.rq (.cells 8 (.v 0))
(.rq (.cells 8 (.v 1))
(.prim 1 2 (opr Tryz.f15 1 2) [(.ag (.v 1)), (.z 31)]
(.rq (.bool (.v 2))
(.br (.v 2)
 (.ret [(.cat (.z 31) 8 (.z 31)), (.k (.int .i64 (7)))])
 (.call true 59 [(.ag (.v 0))]
 (.call true 59 [(.ag (.v 1))]
 (.call true 58 [(.v 3), (.v 4)]
 (.call true 60 [(.v 5)]
 (.rq (.tup 0 (.v 6))
 (.rq (.tup 1 (.v 6))
 (.rq (.cells 16 (.proj (.v 6) 0))
 (.ret [(.ag (.proj (.v 6) 0)), (.proj (.v 6) 1)]))))))))))))) := by kernel_rfl
theorem np_sMake : (Tryz.prog.funcs[15]?).map (fun fn => fn.params.size + fn.nfree) = some 2 := by kernel_rfl
theorem op_sMake_1_2 : (opr Tryz.f15 1 2).op = .binOp .eql 31 (.tmp 6) (.tmp 7) 31 := by kernel_rfl
theorem tr_sOf : tree Tryz.prog [] [] [] [] 21 = some (.call false 14 [(.v 0)]
(.call false 14 [(.v 1)]
(.call false 15 [(.v 2), (.v 3)]
(.rq (.tup 0 (.v 4))
(.rq (.tup 1 (.v 4))
(.rq (.cells 16 (.proj (.v 4) 0))
(.ret [(.ag (.proj (.v 4) 0)), (.proj (.v 4) 1)]))))))) := by kernel_rfl
theorem np_sOf : (Tryz.prog.funcs[21]?).map (fun fn => fn.params.size + fn.nfree) = some 2 := by kernel_rfl
theorem tr_sAdd : tree Tryz.prog [] [] [] [] 25 = some (.rq (.cells 16 (.v 0))
(.rq (.cells 16 (.v 1))
(.call false 62 [(.ag (.v 0)), (.ag (.v 1)), (.k (.func (.func 74) #[] #[]))]
(.rq (.tup 0 (.v 2))
(.rq (.tup 1 (.v 2))
(.call false 61 [(.proj (.v 2) 0), (.proj (.v 2) 1)]
(.rq (.tup 0 (.v 3))
(.rq (.tup 1 (.v 3))
(.rq (.cells 16 (.proj (.v 3) 0))
(.ret [(.ag (.proj (.v 3) 0)), (.proj (.v 3) 1)])))))))))) := by kernel_rfl
theorem np_sAdd : (Tryz.prog.funcs[25]?).map (fun fn => fn.params.size + fn.nfree) = some 2 := by kernel_rfl
theorem tr_sSub : tree Tryz.prog [] [] [] [] 16 = some (.rq (.cells 16 (.v 0))
(.rq (.cells 16 (.v 1))
(.call false 62 [(.ag (.v 0)), (.ag (.v 1)), (.k (.func (.func 63) #[] #[]))]
(.rq (.tup 0 (.v 2))
(.rq (.tup 1 (.v 2))
(.call false 61 [(.proj (.v 2) 0), (.proj (.v 2) 1)]
(.rq (.tup 0 (.v 3))
(.rq (.tup 1 (.v 3))
(.rq (.cells 16 (.proj (.v 3) 0))
(.ret [(.ag (.proj (.v 3) 0)), (.proj (.v 3) 1)])))))))))) := by kernel_rfl
theorem np_sSub : (Tryz.prog.funcs[16]?).map (fun fn => fn.params.size + fn.nfree) = some 2 := by kernel_rfl
theorem tr_sDiv : tree Tryz.prog [] [] [⟨3, 1, [15], []⟩] [] 26 = some (.rq (.cells 16 (.v 0))
(.rq (.cells 16 (.v 1))
(.join 1
 (.eff false 1 2 (opr Tryz.f26 1 2) [(.ag (.v 0)), (.ag (.v 1))]
 (.call false 37 [(.v 2)]
 (.rq (.bool (.v 3))
 (.br (.v 3)
  (.prim 1 8 (opr Tryz.f26 1 8) [(.sub (.v 1) 0 8 0 noI), (.z 31)]
  (.next 0 [(.v 4)]))
  (.next 0 [(.k (.bool false))])))))
 (.rq (.bool (.v 2))
 (.br (.v 2)
  (.ret [(.cat (.z 31) 8 (.z 31)), (.k (.int .i64 (7)))])
  (.call false 62 [(.ag (.v 0)), (.ag (.v 1)), (.k (.func (.func 75) #[] #[]))]
  (.rq (.tup 0 (.v 3))
  (.rq (.tup 1 (.v 3))
  (.call false 61 [(.proj (.v 3) 0), (.proj (.v 3) 1)]
  (.rq (.tup 0 (.v 4))
  (.rq (.tup 1 (.v 4))
  (.rq (.cells 16 (.proj (.v 4) 0))
  (.ret [(.ag (.proj (.v 4) 0)), (.proj (.v 4) 1)]))))))))))))) := by kernel_rfl
theorem np_sDiv : (Tryz.prog.funcs[26]?).map (fun fn => fn.params.size + fn.nfree) = some 2 := by kernel_rfl
theorem op_sDiv_1_2 : (opr Tryz.f26 1 2).op = .buildSlice 120 2 #[(0, (.tmp 6)), (1, (.tmp 7))] := by kernel_rfl
theorem op_sDiv_1_8 : (opr Tryz.f26 1 8).op = .binOp .eql 31 (.tmp 12) (.tmp 13) 31 := by kernel_rfl
theorem tr_sMax : tree Tryz.prog [] [] [] [] 28 = some (.rq (.cells 16 (.v 0))
(.rq (.cells 16 (.v 1))
(.call false 62 [(.ag (.v 0)), (.ag (.v 1)), (.k (.func (.func 65) #[] #[]))]
(.rq (.tup 0 (.v 2))
(.rq (.tup 1 (.v 2))
(.call false 61 [(.proj (.v 2) 0), (.proj (.v 2) 1)]
(.rq (.tup 0 (.v 3))
(.rq (.tup 1 (.v 3))
(.rq (.cells 16 (.proj (.v 3) 0))
(.ret [(.ag (.proj (.v 3) 0)), (.proj (.v 3) 1)])))))))))) := by kernel_rfl
theorem np_sMax : (Tryz.prog.funcs[28]?).map (fun fn => fn.params.size + fn.nfree) = some 2 := by kernel_rfl
theorem tr_sCmp : tree Tryz.prog [] [] [] [] 19 = some (.rq (.cells 16 (.v 0))
(.rq (.cells 16 (.v 1))
(.call false 68 [(.ag (.v 0)), (.ag (.v 1)), (.k (.func (.func 69) #[] #[]))]
(.rq (.tup 0 (.v 2))
(.rq (.tup 1 (.v 2))
(.ret [(.proj (.v 2) 0), (.proj (.v 2) 1)])))))) := by kernel_rfl
theorem np_sCmp : (Tryz.prog.funcs[19]?).map (fun fn => fn.params.size + fn.nfree) = some 2 := by kernel_rfl
theorem tr_sinteger : tree Tryz.prog [] [] [] [] 78 = some (.rq (.cells 16 (.v 0))
(.eff false 1 1 (opr Tryz.f78 1 1) [(.ag (.v 0))]
(.call false 37 [(.v 2)]
(.rq (.bool (.v 3))
(.br (.nt (.v 3))
 (.ret [(.z 31), (.k (.int .i64 (20)))])
 (.call false 40 [(.ag (.v 0))]
 (.eff false 3 3 (opr Tryz.f78 3 3) [(.v 1), (.v 4)]
 (.call false 49 [(.v 5)]
 (.rq (.tup 0 (.v 6))
 (.rq (.tup 1 (.v 6))
 (.rq (.cells 8 (.proj (.v 6) 0))
 (.ret [(.ag (.proj (.v 6) 0)), (.proj (.v 6) 1)])))))))))))) := by kernel_rfl
theorem np_sinteger : (Tryz.prog.funcs[78]?).map (fun fn => fn.params.size + fn.nfree) = some 2 := by kernel_rfl
theorem op_sinteger_1_1 : (opr Tryz.f78 1 1).op = .buildSlice 120 1 #[(0, (.tmp 6))] := by kernel_rfl
theorem op_sinteger_3_3 : (opr Tryz.f78 3 3).op = .call ⟨.value (.tmp 11), #[(.tmp 13)], #[77]⟩ := by kernel_rfl
theorem tr_sFloor : tree Tryz.prog [] [] [] [] 30 = some (.rq (.cells 16 (.v 0))
(.call false 78 [(.ag (.v 0)), (.k (.func (.func 79) #[] #[]))]
(.rq (.tup 0 (.v 1))
(.rq (.tup 1 (.v 1))
(.rq (.cells 8 (.proj (.v 1) 0))
(.ret [(.ag (.proj (.v 1) 0)), (.proj (.v 1) 1)])))))) := by kernel_rfl
theorem np_sFloor : (Tryz.prog.funcs[30]?).map (fun fn => fn.params.size + fn.nfree) = some 1 := by kernel_rfl
theorem tr_sCeil : tree Tryz.prog [] [] [] [] 31 = some (.rq (.cells 16 (.v 0))
(.call false 78 [(.ag (.v 0)), (.k (.func (.func 80) #[] #[]))]
(.rq (.tup 0 (.v 1))
(.rq (.tup 1 (.v 1))
(.rq (.cells 8 (.proj (.v 1) 0))
(.ret [(.ag (.proj (.v 1) 0)), (.proj (.v 1) 1)])))))) := by kernel_rfl
theorem np_sCeil : (Tryz.prog.funcs[31]?).map (fun fn => fn.params.size + fn.nfree) = some 1 := by kernel_rfl
theorem tr_sCeil1 : tree Tryz.prog [] [] [] [] 80 = some (.rq (.cells 4 (.v 0))
(.call false 66 [(.ag (.v 0))]
(.call false 79 [(.v 1)]
(.call false 47 [(.v 2)]
(.rq (.cells 2 (.v 3))
(.ret [(.ag (.v 3))])))))) := by kernel_rfl
theorem np_sCeil1 : (Tryz.prog.funcs[80]?).map (fun fn => fn.params.size + fn.nfree) = some 1 := by kernel_rfl
theorem tr_sNear : tree Tryz.prog [] [] [] [] 32 = some (.rq (.cells 16 (.v 0))
(.call false 78 [(.ag (.v 0)), (.k (.func (.func 45) #[] #[]))]
(.rq (.tup 0 (.v 1))
(.rq (.tup 1 (.v 1))
(.rq (.cells 8 (.proj (.v 1) 0))
(.ret [(.ag (.proj (.v 1) 0)), (.proj (.v 1) 1)])))))) := by kernel_rfl
theorem np_sNear : (Tryz.prog.funcs[32]?).map (fun fn => fn.params.size + fn.nfree) = some 1 := by kernel_rfl
theorem tr_sText : tree Tryz.prog [] [] [] [⟨3, [0, 1, 0, 7], [1, 1, 2, 1], [0, 0, 0, 0], [0, 1, 2, 3], []⟩, ⟨5, [0, 1, 3, 7, 0, 16, 55, 127, 255, 511], [1, 1, 2, 1, 1, 1, 2, 1, 0, 0], [0, 0, 0, 0, 0, 0, 0, 0, 0, 0], [0, 1, 4, 5, 2, 3, 6, 7, 8, 9], []⟩] 8 = some (.rq (.cells 16 (.v 0))
(.eff false 1 1 (opr Tryz.f8 1 1) [(.ag (.v 0))]
(.call false 37 [(.v 1)]
(.rq (.bool (.v 2))
(.br (.nt (.v 2))
 (.ret [(.k (.string ⟨#[]⟩)), (.k (.int .i64 (20)))])
 (.call true 14 [(.k (.int .i64 (1)))]
 (.prim 3 3 (opr Tryz.f8 3 3) [(.sub (.v 0) 8 8 0 noI), (.v 3)]
 (.rq (.bool (.v 4))
 (.br (.v 4)
  (.call false 38 [(.sub (.v 0) 0 8 0 noI)]
  (.ret [(.v 5), (.k (.int .i64 (0)))]))
  (.call true 38 [(.sub (.v 0) 0 8 0 noI)]
  (.prim 5 3 (opr Tryz.f8 5 3) [(.v 5), (.k (.string ⟨#[47]⟩))]
  (.call true 38 [(.sub (.v 0) 8 8 0 noI)]
  (.prim 5 7 (opr Tryz.f8 5 7) [(.v 6), (.v 7)]
  (.ret [(.v 8), (.k (.int .i64 (0)))])))))))))))))) := by kernel_rfl
theorem np_sText : (Tryz.prog.funcs[8]?).map (fun fn => fn.params.size + fn.nfree) = some 1 := by kernel_rfl
theorem op_sText_1_1 : (opr Tryz.f8 1 1).op = .buildSlice 120 1 #[(0, (.tmp 4))] := by kernel_rfl
theorem op_sText_3_3 : (opr Tryz.f8 3 3).op = .binOp .eql 31 (.tmp 9) (.tmp 10) 31 := by kernel_rfl
theorem op_sText_5_3 : (opr Tryz.f8 5 3).op = .binOp .add 9 (.tmp 17) (.const (.string ⟨#[47]⟩)) 9 := by kernel_rfl
theorem op_sText_5_7 : (opr Tryz.f8 5 7).op = .binOp .add 9 (.tmp 18) (.tmp 21) 9 := by kernel_rfl
theorem tr_sParse : tree Tryz.prog [] [] [⟨2, 23, [5], []⟩, ⟨3, 17, [53], []⟩, ⟨3, 23, [73], []⟩, ⟨0, 7, [], [1]⟩] [] 9 = some (.call false 39 [(.v 0), (.k (.string ⟨#[47]⟩))]
(.rq (.tup 0 (.v 1))
(.rq (.tup 1 (.v 1))
(.rq (.tup 2 (.v 1))
(.rq (.bool (.proj (.v 1) 2))
(.join 1
 (.br (.nt (.proj (.v 1) 2))
  (.next 0 [(.k (.string ⟨#[49]⟩))])
  (.next 0 [(.proj (.v 1) 1)]))
 (.rq (.cells 1 (.proj (.v 1) 0))
 (.rq (.cells 1 (.v 2))
 (.loop [(.k (.bool false)), (.k (.int .i64 (0))), (.k (.int .i64 (0))), (.z 71)]
  (.rq (.int .i64 (.v 5))
  (.br (.op2 .lss .i64 (.v 5) (.k (.int .i64 (2))))
   (.rq (.num (.v 5))
   (.rq (.lt 2 (.v 5))
   (.call false 11 [(.cell (.put (.put (.z 72) 0 1 (.proj (.v 1) 0) 0 noI) 1 1 (.v 2) 0 noI) 0 1 (.v 5))]
   (.rq (.tup 0 (.v 7))
   (.rq (.tup 1 (.v 7))
   (.rq (.cells 8 (.proj (.v 7) 0))
   (.rq (.int .i64 (.proj (.v 7) 1))
   (.br (.op2 .eql .i64 (.proj (.v 7) 1) (.k (.int .i64 (6))))
    (.next 0 [(.k (.bool true)), (.v 4), (.op2 .add .i64 (.v 5) (.k (.int .i64 (1)))), (.v 6)])
    (.br (.op2 .eql .i64 (.proj (.v 7) 1) (.k (.int .i64 (0))))
     (.next 0 [(.v 3), (.v 4), (.op2 .add .i64 (.v 5) (.k (.int .i64 (1)))), (.put (.v 6) 0 8 (.ag (.proj (.v 7) 0)) 8 (.v 5))])
     (.ret [(.cat (.z 31) 8 (.z 31)), (.proj (.v 7) 1)]))))))))))
   (.join 1
    (.prim 17 1 (opr Tryz.f9 17 1) [(.v 2), (.k (.int .i64 (0)))]
    (.rq (.int .u8 (.v 7))
    (.br (.op2 .eql .u8 (.v 7) (.k (.int .u8 (45))))
     (.next 1 [(.k (.bool true))])
     (.prim 17 5 (opr Tryz.f9 17 5) [(.v 2), (.k (.string ⟨#[48]⟩))]
     (.next 1 [(.v 8)])))))
    (.rq (.bool (.v 7))
    (.br (.v 7)
     (.ret [(.cat (.z 31) 8 (.z 31)), (.k (.int .i64 (5)))])
     (.rq (.bool (.v 3))
     (.br (.v 3)
      (.ret [(.cat (.z 31) 8 (.z 31)), (.k (.int .i64 (6)))])
      (.call false 8 [(.cat (.sub (.v 6) 0 8 0 noI) 8 (.sub (.v 6) 8 8 0 noI))]
      (.rq (.tup 0 (.v 8))
      (.rq (.tup 1 (.v 8))
      (.join 1
       (.rq (.int .i64 (.proj (.v 8) 1))
       (.br (.op2 .neq .i64 (.proj (.v 8) 1) (.k (.int .i64 (0))))
        (.next 1 [(.k (.bool true))])
        (.prim 23 5 (opr Tryz.f9 23 5) [(.proj (.v 8) 0), (.v 0)]
        (.next 1 [(.v 9)]))))
       (.rq (.bool (.v 9))
       (.br (.v 9)
        (.ret [(.cat (.z 31) 8 (.z 31)), (.k (.int .i64 (5)))])
        (.ret [(.cat (.sub (.v 6) 0 8 0 noI) 8 (.sub (.v 6) 8 8 0 noI)), (.k (.int .i64 (0)))]))))))))))))))))))))))) := by kernel_rfl
theorem np_sParse : (Tryz.prog.funcs[9]?).map (fun fn => fn.params.size + fn.nfree) = some 1 := by kernel_rfl
theorem op_sParse_17_1 : (opr Tryz.f9 17 1).op = .index 9 (.tmp 47) (.const (.int .i64 (0))) := by kernel_rfl
theorem op_sParse_17_5 : (opr Tryz.f9 17 5).op = .binOp .eql 9 (.tmp 51) (.const (.string ⟨#[48]⟩)) 9 := by kernel_rfl
theorem op_sParse_23_5 : (opr Tryz.f9 23 5).op = .binOp .neq 9 (.tmp 70) (.tmp 71) 9 := by kernel_rfl
theorem tr_sDecimal : tree Tryz.prog [] [] [⟨3, 3, [23], []⟩, ⟨2, 34, [7], [1]⟩, ⟨3, 9, [45], []⟩, ⟨0, 9, [], [1]⟩] [⟨10, [0, 0, 3, 7, 15, 15, 0, 0, 223, 511], [5, 2, 2, 0, 0, 0, 3, 3, 4, 4], [1, 0, 0, 0, 0, 0, 0, 0, 0, 0], [0, 1, 2, 3, 4, 5, 6, 7], [8, 9]⟩, ⟨17, [0, 0, 0, 6, 15, 31, 0, 0, 192, 511, 1023, 2047], [0, 0, 0, 1, 1, 1, 0, 0, 1, 1, 0, 0], [0, 0, 0, 0, 0, 0, 0, 0, 0, 0, 0, 0], [0, 1, 2, 3, 4, 5, 6, 7, 8, 9, 10, 11], []⟩] 10 = some (.rq (.cells 16 (.v 0))
(.eff false 1 1 (opr Tryz.f10 1 1) [(.ag (.v 0))]
(.call false 37 [(.v 2)]
(.rq (.bool (.v 3))
(.br (.nt (.v 3))
 (.ret [(.k (.string ⟨#[]⟩)), (.k (.int .i64 (20)))])
 (.join 1
  (.rq (.int .i64 (.v 1))
  (.br (.op2 .lss .i64 (.v 1) (.k (.int .i64 (0))))
   (.next 0 [(.k (.bool true))])
   (.next 0 [(.op2 .gtr .i64 (.v 1) (.k (.int .i64 (20))))])))
  (.rq (.bool (.v 4))
  (.br (.v 4)
   (.ret [(.k (.string ⟨#[]⟩)), (.k (.int .i64 (2)))])
   (.call false 40 [(.ag (.v 0))]
   (.call false 43 [(.k (.int .i64 (10)))]
   (.call false 44 [(.v 6), (.v 1)]
   (.call false 42 [(.v 7)]
   (.call false 41 [(.v 5), (.v 8)]
   (.call false 45 [(.v 9)]
   (.rq (.cells 2 (.v 10))
   (.call false 46 [(.ag (.v 10))]
   (.rq (.int .i64 (.v 11))
   (.join 2
    (.br (.op2 .lss .i64 (.v 11) (.k (.int .i64 (0))))
     (.call false 47 [(.ag (.v 10))]
     (.rq (.cells 2 (.v 12))
     (.next 0 [(.k (.string ⟨#[45]⟩)), (.v 12)])))
     (.next 0 [(.k (.string ⟨#[]⟩)), (.v 10)]))
    (.loop [(.k (.string ⟨#[]⟩)), (.v 13)]
     (.join 1
      (.call false 46 [(.ag (.v 15))]
      (.rq (.int .i64 (.v 16))
      (.br (.op2 .gtr .i64 (.v 16) (.k (.int .i64 (0))))
       (.next 1 [(.k (.bool true))])
       (.prim 9 5 (opr Tryz.f10 9 5) [(.v 14)]
       (.rq (.int .i64 (.v 17))
       (.rq (.int .i64 (.v 1))
       (.next 1 [(.op2 .leq .i64 (.v 17) (.v 1))])))))))
      (.rq (.bool (.v 16))
      (.br (.v 16)
       (.call true 43 [(.k (.int .i64 (10)))]
       (.call true 48 [(.ag (.v 15)), (.v 17)]
       (.rq (.tup 0 (.v 18))
       (.rq (.tup 1 (.v 18))
       (.rq (.cells 2 (.proj (.v 18) 0))
       (.rq (.cells 2 (.proj (.v 18) 1))
       (.call false 49 [(.ag (.proj (.v 18) 1))]
       (.rq (.tup 0 (.v 19))
       (.rq (.tup 1 (.v 19))
       (.rq (.cells 8 (.proj (.v 19) 0))
       (.call false 38 [(.ag (.proj (.v 19) 0))]
       (.prim 12 3 (opr Tryz.f10 12 3) [(.v 20), (.v 14)]
       (.next 0 [(.v 21), (.ag (.proj (.v 18) 0))])))))))))))))
       (.rq (.int .i64 (.v 1))
       (.br (.op2 .eql .i64 (.v 1) (.k (.int .i64 (0))))
        (.prim 15 2 (opr Tryz.f10 15 2) [(.v 12), (.v 14)]
        (.ret [(.v 17), (.k (.int .i64 (0)))]))
        (.prim 16 1 (opr Tryz.f10 16 1) [(.v 14)]
        (.rq (.int .i64 (.v 17))
        (.prim 17 3 (opr Tryz.f10 17 3) [(.v 14), (.op2 .sub .i64 (.v 17) (.v 1))]
        (.prim 17 4 (opr Tryz.f10 17 4) [(.v 12), (.v 18)]
        (.prim 17 5 (opr Tryz.f10 17 5) [(.v 19), (.k (.string ⟨#[46]⟩))]
        (.prim 17 8 (opr Tryz.f10 17 8) [(.v 14), (.op2 .sub .i64 (.v 17) (.v 1))]
        (.prim 17 9 (opr Tryz.f10 17 9) [(.v 20), (.v 21)]
        (.ret [(.v 22), (.k (.int .i64 (0)))])))))))))))))))))))))))))))))))) := by kernel_rfl
theorem np_sDecimal : (Tryz.prog.funcs[10]?).map (fun fn => fn.params.size + fn.nfree) = some 2 := by kernel_rfl
theorem op_sDecimal_1_1 : (opr Tryz.f10 1 1).op = .buildSlice 120 1 #[(0, (.tmp 14))] := by kernel_rfl
theorem op_sDecimal_9_5 : (opr Tryz.f10 9 5).op = .call ⟨.builtin .len, #[(.tmp 41)], #[9]⟩ := by kernel_rfl
theorem op_sDecimal_12_3 : (opr Tryz.f10 12 3).op = .binOp .add 9 (.tmp 58) (.tmp 59) 9 := by kernel_rfl
theorem op_sDecimal_15_2 : (opr Tryz.f10 15 2).op = .binOp .add 9 (.tmp 64) (.tmp 65) 9 := by kernel_rfl
theorem op_sDecimal_16_1 : (opr Tryz.f10 16 1).op = .call ⟨.builtin .len, #[(.tmp 67)], #[9]⟩ := by kernel_rfl
theorem op_sDecimal_17_3 : (opr Tryz.f10 17 3).op = .slice 9 (.tmp 72) none (some (.tmp 73)) none := by kernel_rfl
theorem op_sDecimal_17_4 : (opr Tryz.f10 17 4).op = .binOp .add 9 (.tmp 71) (.tmp 74) 9 := by kernel_rfl
theorem op_sDecimal_17_5 : (opr Tryz.f10 17 5).op = .binOp .add 9 (.tmp 75) (.const (.string ⟨#[46]⟩)) 9 := by kernel_rfl
theorem op_sDecimal_17_8 : (opr Tryz.f10 17 8).op = .slice 9 (.tmp 77) (some (.tmp 78)) none none := by kernel_rfl
theorem op_sDecimal_17_9 : (opr Tryz.f10 17 9).op = .binOp .add 9 (.tmp 76) (.tmp 79) 9 := by kernel_rfl
theorem tr_sCut : tree Tryz.prog [] [] [] [] 39 = some (.call false 95 [(.v 0), (.v 1)]
(.rq (.tup 0 (.v 2))
(.rq (.tup 1 (.v 2))
(.rq (.tup 2 (.v 2))
(.ret [(.proj (.v 2) 0), (.proj (.v 2) 1), (.proj (.v 2) 2)]))))) := by kernel_rfl
theorem np_sCut : (Tryz.prog.funcs[39]?).map (fun fn => fn.params.size + fn.nfree) = some 2 := by kernel_rfl
theorem tr_sCuti : tree Tryz.prog [] [] [] [⟨3, [0, 0, 3, 0, 0, 0, 32, 112, 248, 7, 1023, 2047], [0, 0, 1, 0, 0, 0, 1, 0, 1, 0, 0, 0], [0, 0, 0, 0, 0, 0, 0, 0, 0, 0, 0, 0], [0, 1, 2, 3, 4, 5, 6, 7, 8, 9, 10, 11], []⟩] 95 = some (.call false 125 [(.v 0), (.v 1)]
(.rq (.int .i64 (.v 2))
(.br (.op2 .geq .i64 (.v 2) (.k (.int .i64 (0))))
 (.prim 3 2 (opr Tryz.f95 3 2) [(.v 0), (.v 2)]
 (.prim 3 6 (opr Tryz.f95 3 6) [(.v 1)]
 (.rq (.int .i64 (.v 4))
 (.prim 3 8 (opr Tryz.f95 3 8) [(.v 0), (.op2 .add .i64 (.v 2) (.v 4))]
 (.ret [(.v 3), (.v 5), (.k (.bool true))])))))
 (.ret [(.v 0), (.k (.string ⟨#[]⟩)), (.k (.bool false))])))) := by kernel_rfl
theorem np_sCuti : (Tryz.prog.funcs[95]?).map (fun fn => fn.params.size + fn.nfree) = some 2 := by kernel_rfl
theorem op_sCuti_3_2 : (opr Tryz.f95 3 2).op = .slice 9 (.tmp 13) none (some (.tmp 14)) none := by kernel_rfl
theorem op_sCuti_3_6 : (opr Tryz.f95 3 6).op = .call ⟨.builtin .len, #[(.tmp 18)], #[9]⟩ := by kernel_rfl
theorem op_sCuti_3_8 : (opr Tryz.f95 3 8).op = .slice 9 (.tmp 16) (some (.tmp 20)) none none := by kernel_rfl
theorem tr_sIndex : tree Tryz.prog [] [(19, false), (24, true)] [⟨3, 2, [16], []⟩] [] 125 = some (.prim 1 1 (opr Tryz.f125 1 1) [(.v 1)]
(.join 1
 (.rq (.int .i64 (.v 2))
 (.rq (.isb false (.op2 .eql .i64 (.v 2) (.k (.int .i64 (0)))))
 (.prim 2 5 (opr Tryz.f125 2 5) [(.v 1), (.v 0)]
 (.next 0 [(.v 3)]))))
 (.rq (.bool (.v 3))
 (.br (.v 3)
  (.ret [(.k (.int .i64 (0)))])
  (.rq (.int .i64 (.v 2))
  (.rq (.isb true (.op2 .eql .i64 (.v 2) (.k (.int .i64 (1)))))
  (.prim 5 2 (opr Tryz.f125 5 2) [(.v 1), (.k (.int .i64 (0)))]
  (.call false 150 [(.v 0), (.v 4)]
  (.ret [(.v 5)]))))))))) := by kernel_rfl
theorem np_sIndex : (Tryz.prog.funcs[125]?).map (fun fn => fn.params.size + fn.nfree) = some 2 := by kernel_rfl
theorem op_sIndex_1_1 : (opr Tryz.f125 1 1).op = .call ⟨.builtin .len, #[(.tmp 14)], #[9]⟩ := by kernel_rfl
theorem op_sIndex_2_5 : (opr Tryz.f125 2 5).op = .binOp .eql 9 (.tmp 20) (.tmp 21) 9 := by kernel_rfl
theorem op_sIndex_5_2 : (opr Tryz.f125 5 2).op = .index 9 (.tmp 28) (.const (.int .i64 (0))) := by kernel_rfl
theorem tr_sIndexB : tree Tryz.prog [] [] [] [] 150 = some (.ext 162 [(.v 0), (.v 1)]
(.ret [(.v 2)])) := by kernel_rfl
theorem np_sIndexB : (Tryz.prog.funcs[150]?).map (fun fn => fn.params.size + fn.nfree) = some 2 := by kernel_rfl
theorem tr_sAbs : tree Tryz.prog [] [] [] [] 17 = some (.rq (.cells 16 (.v 0))
(.call false 62 [(.ag (.v 0)), (.ag (.v 0)), (.k (.func (.func 64) #[] #[]))]
(.rq (.tup 0 (.v 1))
(.rq (.tup 1 (.v 1))
(.call false 61 [(.proj (.v 1) 0), (.proj (.v 1) 1)]
(.rq (.tup 0 (.v 2))
(.rq (.tup 1 (.v 2))
(.rq (.cells 16 (.proj (.v 2) 0))
(.ret [(.ag (.proj (.v 2) 0)), (.proj (.v 2) 1)]))))))))) := by kernel_rfl
theorem np_sAbs : (Tryz.prog.funcs[17]?).map (fun fn => fn.params.size + fn.nfree) = some 1 := by kernel_rfl
theorem tr_sAbs1 : tree Tryz.prog [] [] [] [⟨1, [0, 0, 2, 7, 15], [5, 5, 2, 2, 6], [0, 0, 0, 0, 2], [0, 1, 2, 3], [4]⟩] 64 = some (.rq (.cells 4 (.v 0))
(.rq (.cells 4 (.v 1))
(.call true 66 [(.ag (.v 0))]
(.call true 65 [(.ag (.v 0)), (.v 2)]
(.rq (.cells 4 (.v 3))
(.ret [(.ag (.v 3))])))))) := by kernel_rfl
theorem np_sAbs1 : (Tryz.prog.funcs[64]?).map (fun fn => fn.params.size + fn.nfree) = some 2 := by kernel_rfl
end Go.Proofs.YtcleogdmobdnpacGreatRDoor

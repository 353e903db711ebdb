/- MADE BY rxgen.py: the trees of the reference of chapter 02. -/
import Derived.Test.YtcleogdmobdnpabGreatWdT
namespace Go.Proofs.YtcleogdmobdnpabGreat
open Go.RowKit Go.RX
theorem tr_qLowest : tree Tryz.prog [] [] [] [] 118 = some (.rq (.cells 2 (.v 0))
(.rq (.cells 2 (.v 1))
(.call false 111 [(.ag (.v 0)), (.ag (.v 1))]
(.rq (.cells 2 (.v 2))
(.rq (.bool (.cell (.v 1) 0 0 noI))
(.br (.cell (.v 1) 0 0 noI)
 (.call false 113 [(.ag (.v 2))]
 (.rq (.cells 2 (.v 3))
 (.call false 151 [(.ag (.v 0)), (.ag (.v 3))]
 (.rq (.tup 0 (.v 4))
 (.rq (.tup 1 (.v 4))
 (.rq (.cells 2 (.proj (.v 4) 0))
 (.rq (.cells 2 (.proj (.v 4) 1))
 (.call false 151 [(.ag (.v 1)), (.ag (.v 3))]
 (.rq (.tup 0 (.v 5))
 (.rq (.tup 1 (.v 5))
 (.rq (.cells 2 (.proj (.v 5) 0))
 (.rq (.cells 2 (.proj (.v 5) 1))
 (.ret [(.cat (.ag (.proj (.v 4) 0)) 2 (.ag (.proj (.v 5) 0)))])))))))))))))
 (.call false 151 [(.ag (.v 0)), (.ag (.v 2))]
 (.rq (.tup 0 (.v 3))
 (.rq (.tup 1 (.v 3))
 (.rq (.cells 2 (.proj (.v 3) 0))
 (.rq (.cells 2 (.proj (.v 3) 1))
 (.call false 151 [(.ag (.v 1)), (.ag (.v 2))]
 (.rq (.tup 0 (.v 4))
 (.rq (.tup 1 (.v 4))
 (.rq (.cells 2 (.proj (.v 4) 0))
 (.rq (.cells 2 (.proj (.v 4) 1))
 (.ret [(.cat (.ag (.proj (.v 3) 0)) 2 (.ag (.proj (.v 4) 0)))]))))))))))))))))) := by kernel_rfl
theorem np_qLowest : (Tryz.prog.funcs[118]?).map (fun fn => fn.params.size + fn.nfree) = some 2 := by kernel_rfl
theorem tr_qQuick : tree Tryz.prog [] [] [] [] 92 = some (.call false 123 [(.v 0)]
(.call false 123 [(.v 1)]
(.call false 118 [(.v 2), (.v 3)]
(.rq (.cells 4 (.v 4))
(.ret [(.ag (.v 4))]))))) := by kernel_rfl
theorem np_qQuick : (Tryz.prog.funcs[92]?).map (fun fn => fn.params.size + fn.nfree) = some 2 := by kernel_rfl
theorem tr_qone : tree Tryz.prog [] [] [⟨3, 1, [2], []⟩] [] 110 = some (.rq (.cells 2 (.v 0))
(.join 1
 (.prim 1 2 (opr Tryz.f110 1 2) [(.cell (.v 0) 1 0 noI)]
 (.rq (.int .i64 (.v 1))
 (.br (.op2 .eql .i64 (.v 1) (.k (.int .i64 (1))))
  (.prim 1 7 (opr Tryz.f110 1 7) [(.cell (.v 0) 1 0 noI), (.k (.int .i64 (0)))]
  (.prim 1 8 (opr Tryz.f110 1 8) [(.v 2)]
  (.rq (.int .i64 (.v 3))
  (.br (.op2 .eql .i64 (.v 3) (.k (.int .i64 (1))))
   (.rq (.bool (.cell (.v 0) 0 0 noI))
   (.next 0 [(.nt (.cell (.v 0) 0 0 noI))]))
   (.next 0 [(.k (.bool false))])))))
  (.next 0 [(.k (.bool false))]))))
 (.ret [(.v 1)]))) := by kernel_rfl
theorem np_qone : (Tryz.prog.funcs[110]?).map (fun fn => fn.params.size + fn.nfree) = some 1 := by kernel_rfl
theorem op_qone_1_2 : (opr Tryz.f110 1 2).op = .call ⟨.builtin .len, #[(.tmp 4)], #[93]⟩ := by kernel_rfl
theorem op_qone_1_7 : (opr Tryz.f110 1 7).op = .indexAddr 93 (.tmp 9) (.const (.int .i64 (0))) := by kernel_rfl
theorem op_qone_1_8 : (opr Tryz.f110 1 8).op = .load 3 (.tmp 10) := by kernel_rfl
theorem tr_qRight : tree Tryz.prog [] [] [⟨3, 2, [2], []⟩] [⟨1, [0, 1, 3, 0, 8, 31, 0, 0, 255, 511], [1, 1, 2, 1, 1, 2, 3, 3, 4, 4], [0, 0, 0, 0, 0, 0, 0, 0, 0, 0], [0, 1, 3, 4, 2, 5, 6, 7], [8, 9]⟩] 57 = some (.rq (.cells 16 (.v 0))
(.call true 109 [(.sub (.v 0) 0 8 0 noI)]
(.call true 109 [(.sub (.v 0) 8 8 0 noI)]
(.rq (.cells 2 (.v 1))
(.rq (.cells 2 (.v 2))
(.join 1
 (.rq (.bool (.cell (.v 2) 0 0 noI))
 (.br (.nt (.cell (.v 2) 0 0 noI))
  (.prim 2 6 (opr Tryz.f57 2 6) [(.cell (.v 2) 1 0 noI)]
  (.rq (.int .i64 (.v 3))
  (.br (.op2 .gtr .i64 (.v 3) (.k (.int .i64 (0))))
   (.call false 111 [(.ag (.v 1)), (.ag (.v 2))]
   (.call false 110 [(.v 4)]
   (.next 0 [(.v 5)])))
   (.next 0 [(.k (.bool false))]))))
  (.next 0 [(.k (.bool false))])))
 (.ret [(.v 3)]))))))) := by kernel_rfl
theorem np_qRight : (Tryz.prog.funcs[57]?).map (fun fn => fn.params.size + fn.nfree) = some 1 := by kernel_rfl
theorem op_qRight_2_6 : (opr Tryz.f57 2 6).op = .call ⟨.builtin .len, #[(.tmp 16)], #[93]⟩ := by kernel_rfl
theorem tr_qIn : tree Tryz.prog [] [] [] [⟨1, [0, 1, 3, 0, 8, 31, 63, 127], [1, 1, 2, 1, 1, 2, 0, 6], [0, 0, 0, 0, 0, 0, 0, 1], [0, 1, 3, 4, 2, 5, 6], [7]⟩] 60 = some (.rq (.cells 16 (.v 0))
(.call true 109 [(.sub (.v 0) 0 8 0 noI)]
(.call true 109 [(.sub (.v 0) 8 8 0 noI)]
(.rq (.cells 2 (.v 1))
(.rq (.cells 2 (.v 2))
(.ret [(.put (.cat (.v 1) 2 (.z 95)) 2 2 (.v 2) 0 noI)])))))) := by kernel_rfl
theorem np_qIn : (Tryz.prog.funcs[60]?).map (fun fn => fn.params.size + fn.nfree) = some 1 := by kernel_rfl
theorem tr_qOut : tree Tryz.prog [] [] [⟨3, 3, [25], []⟩] [] 58 = some (.rq (.cells 4 (.v 0))
(.call false 112 [(.sub (.v 0) 0 2 0 noI)]
(.rq (.tup 0 (.v 1))
(.rq (.tup 1 (.v 1))
(.rq (.cells 8 (.proj (.v 1) 0))
(.call false 112 [(.sub (.v 0) 2 2 0 noI)]
(.rq (.tup 0 (.v 2))
(.rq (.tup 1 (.v 2))
(.rq (.cells 8 (.proj (.v 2) 0))
(.join 1
 (.rq (.int .i64 (.proj (.v 1) 1))
 (.br (.op2 .neq .i64 (.proj (.v 1) 1) (.k (.int .i64 (0))))
  (.next 0 [(.k (.bool true))])
  (.rq (.int .i64 (.proj (.v 2) 1))
  (.next 0 [(.op2 .neq .i64 (.proj (.v 2) 1) (.k (.int .i64 (0))))]))))
 (.rq (.bool (.v 3))
 (.br (.v 3)
  (.ret [(.cat (.z 24) 8 (.z 24)), (.k (.int .i64 (6)))])
  (.ret [(.cat (.ag (.proj (.v 1) 0)) 8 (.ag (.proj (.v 2) 0))), (.k (.int .i64 (0)))]))))))))))))) := by kernel_rfl
theorem np_qOut : (Tryz.prog.funcs[58]?).map (fun fn => fn.params.size + fn.nfree) = some 1 := by kernel_rfl
theorem tr_qMake : tree Tryz.prog [] [] [] [⟨3, [0, 1, 0, 7, 15, 31, 63, 63, 255, 511], [5, 2, 5, 2, 2, 2, 0, 0, 6, 0], [0, 0, 1, 0, 0, 0, 0, 0, 2, 0], [0, 2, 1, 3, 4, 5, 6, 7], [8, 9]⟩] 121 = some (.rq (.cells 8 (.v 0))
(.rq (.cells 8 (.v 1))
(.prim 1 2 (opr Tryz.f121 1 2) [(.ag (.v 1)), (.z 24)]
(.rq (.bool (.v 2))
(.br (.v 2)
 (.ret [(.cat (.z 24) 8 (.z 24)), (.k (.int .i64 (7)))])
 (.call true 109 [(.ag (.v 0))]
 (.call true 109 [(.ag (.v 1))]
 (.call true 118 [(.v 3), (.v 4)]
 (.call true 58 [(.v 5)]
 (.rq (.tup 0 (.v 6))
 (.rq (.tup 1 (.v 6))
 (.rq (.cells 16 (.proj (.v 6) 0))
 (.ret [(.ag (.proj (.v 6) 0)), (.proj (.v 6) 1)]))))))))))))) := by kernel_rfl
theorem np_qMake : (Tryz.prog.funcs[121]?).map (fun fn => fn.params.size + fn.nfree) = some 2 := by kernel_rfl
theorem op_qMake_1_2 : (opr Tryz.f121 1 2).op = .binOp .eql 24 (.tmp 6) (.tmp 7) 24 := by kernel_rfl
theorem tr_qTurn : tree Tryz.prog [] [] [] [⟨1, [0, 1, 3, 0, 8, 31, 63], [1, 1, 2, 1, 1, 0, 6], [0, 0, 0, 0, 0, 0, 1], [0, 1, 3, 4, 2, 5], [6]⟩] 59 = some (.rq (.cells 4 (.v 0))
(.call true 113 [(.sub (.v 0) 0 2 0 noI)]
(.rq (.cells 2 (.v 1))
(.ret [(.put (.cat (.v 1) 2 (.z 95)) 2 2 (.sub (.v 0) 2 2 0 noI) 0 noI)])))) := by kernel_rfl
theorem np_qTurn : (Tryz.prog.funcs[59]?).map (fun fn => fn.params.size + fn.nfree) = some 1 := by kernel_rfl
theorem tr_qPlus : tree Tryz.prog [] [] [] [⟨1, [0, 1, 0, 4, 15, 0, 32, 0, 128, 511, 1023, 0, 2048, 0, 8192, 32767, 65535, 131071], [1, 1, 1, 1, 2, 1, 1, 1, 1, 2, 2, 1, 1, 1, 1, 2, 2, 6], [0, 0, 0, 0, 0, 0, 0, 0, 0, 0, 0, 0, 0, 0, 0, 0, 0, 2], [0, 1, 2, 3, 5, 6, 7, 8, 11, 12, 13, 14, 4, 9, 10, 15, 16], [17]⟩] 67 = some (.rq (.cells 4 (.v 0))
(.rq (.cells 4 (.v 1))
(.call true 94 [(.sub (.v 0) 0 2 0 noI), (.sub (.v 1) 2 2 0 noI)]
(.call true 94 [(.sub (.v 1) 0 2 0 noI), (.sub (.v 0) 2 2 0 noI)]
(.call true 119 [(.v 2), (.v 3)]
(.call true 94 [(.sub (.v 0) 2 2 0 noI), (.sub (.v 1) 2 2 0 noI)]
(.call true 118 [(.v 4), (.v 5)]
(.rq (.cells 4 (.v 6))
(.ret [(.ag (.v 6))]))))))))) := by kernel_rfl
theorem np_qPlus : (Tryz.prog.funcs[67]?).map (fun fn => fn.params.size + fn.nfree) = some 2 := by kernel_rfl
theorem tr_qTimes : tree Tryz.prog [] [] [] [⟨1, [0, 1, 0, 4, 15, 0, 32, 0, 128, 511, 1023, 2047], [1, 1, 1, 1, 2, 1, 1, 1, 1, 2, 2, 6], [0, 0, 0, 0, 0, 0, 0, 0, 0, 0, 0, 2], [0, 1, 2, 3, 5, 6, 7, 8, 4, 9, 10], [11]⟩] 69 = some (.rq (.cells 4 (.v 0))
(.rq (.cells 4 (.v 1))
(.call true 94 [(.sub (.v 0) 0 2 0 noI), (.sub (.v 1) 0 2 0 noI)]
(.call true 94 [(.sub (.v 0) 2 2 0 noI), (.sub (.v 1) 2 2 0 noI)]
(.call true 118 [(.v 2), (.v 3)]
(.rq (.cells 4 (.v 4))
(.ret [(.ag (.v 4))]))))))) := by kernel_rfl
theorem np_qTimes : (Tryz.prog.funcs[69]?).map (fun fn => fn.params.size + fn.nfree) = some 2 := by kernel_rfl
theorem tr_qOrder : tree Tryz.prog [] [] [] [⟨1, [0, 1, 0, 4, 15, 0, 32, 0, 128, 511, 1023, 2047], [1, 1, 1, 1, 2, 1, 1, 1, 1, 2, 2, 0], [0, 0, 0, 0, 0, 0, 0, 0, 0, 0, 0, 0], [0, 1, 2, 3, 5, 6, 7, 8, 4, 9, 10, 11], []⟩] 120 = some (.rq (.cells 4 (.v 0))
(.rq (.cells 4 (.v 1))
(.call true 94 [(.sub (.v 0) 0 2 0 noI), (.sub (.v 1) 2 2 0 noI)]
(.call true 94 [(.sub (.v 1) 0 2 0 noI), (.sub (.v 0) 2 2 0 noI)]
(.call true 153 [(.v 2), (.v 3)]
(.ret [(.v 4)])))))) := by kernel_rfl
theorem np_qOrder : (Tryz.prog.funcs[120]?).map (fun fn => fn.params.size + fn.nfree) = some 2 := by kernel_rfl
theorem tr_qCmp : tree Tryz.prog [] [] [⟨3, 1, [13], []⟩] [⟨3, [0, 1, 0, 7, 15, 31, 63], [5, 2, 5, 2, 2, 0, 0], [0, 0, 1, 0, 0, 0, 0], [0, 2, 1, 3, 4, 5, 6], []⟩] 72 = some (.rq (.cells 16 (.v 0))
(.rq (.cells 16 (.v 1))
(.join 1
 (.call false 57 [(.ag (.v 0))]
 (.rq (.bool (.v 2))
 (.br (.nt (.v 2))
  (.next 0 [(.k (.bool true))])
  (.call false 57 [(.ag (.v 1))]
  (.rq (.bool (.v 3))
  (.next 0 [(.nt (.v 3))]))))))
 (.rq (.bool (.v 2))
 (.br (.v 2)
  (.ret [(.k (.int .i64 (0))), (.k (.int .i64 (20)))])
  (.call true 60 [(.ag (.v 0))]
  (.call true 60 [(.ag (.v 1))]
  (.call true 120 [(.v 3), (.v 4)]
  (.ret [(.v 5), (.k (.int .i64 (0)))]))))))))) := by kernel_rfl
theorem np_qCmp : (Tryz.prog.funcs[72]?).map (fun fn => fn.params.size + fn.nfree) = some 2 := by kernel_rfl
theorem tr_qmade : tree Tryz.prog [] [] [] [⟨3, [0, 0, 3, 7, 15, 15, 31], [5, 2, 2, 0, 0, 0, 6], [0, 0, 0, 0, 0, 0, 3], [0, 1, 2, 3, 4, 5], [6]⟩] 73 = some (.rq (.cells 8 (.v 0))
(.rq (.cells 8 (.v 1))
(.call false 121 [(.ag (.v 0)), (.ag (.v 1))]
(.rq (.tup 0 (.v 2))
(.rq (.tup 1 (.v 2))
(.rq (.cells 16 (.proj (.v 2) 0))
(.rq (.int .i64 (.proj (.v 2) 1))
(.br (.op2 .neq .i64 (.proj (.v 2) 1) (.k (.int .i64 (0))))
 (.call true 76 [(.k (.int .i64 (1)))]
 (.call true 121 [(.ag (.v 0)), (.v 3)]
 (.rq (.tup 0 (.v 4))
 (.rq (.tup 1 (.v 4))
 (.rq (.cells 16 (.proj (.v 4) 0))
 (.ret [(.ag (.proj (.v 4) 0))]))))))
 (.ret [(.ag (.proj (.v 2) 0))]))))))))) := by kernel_rfl
theorem np_qmade : (Tryz.prog.funcs[73]?).map (fun fn => fn.params.size + fn.nfree) = some 2 := by kernel_rfl
theorem tr_qShare : tree Tryz.prog [] [] [] [⟨1, [0, 1, 3, 0, 8, 31, 63, 127], [1, 1, 2, 1, 1, 2, 2, 6], [0, 0, 0, 0, 0, 0, 0, 1], [0, 1, 3, 4, 2, 5, 6], [7]⟩] 25 = some (.rq (.cells 6 (.v 0))
(.call true 74 [(.sub (.v 0) 0 3 0 noI), (.k (.int .i64 (200)))]
(.call true 74 [(.sub (.v 0) 3 3 0 noI), (.k (.int .i64 (200)))]
(.call true 73 [(.v 1), (.v 2)]
(.rq (.cells 16 (.v 3))
(.ret [(.ag (.v 3))])))))) := by kernel_rfl
theorem np_qShare : (Tryz.prog.funcs[25]?).map (fun fn => fn.params.size + fn.nfree) = some 1 := by kernel_rfl
theorem tr_qShort : tree Tryz.prog [] [] [⟨2, 8, [3], []⟩] [] 26 = some (.rq (.cells 6 (.v 0))
(.call false 75 [(.sub (.v 0) 3 3 0 noI)]
(.rq (.int .i64 (.v 1))
(.join 1
 (.br (.op2 .lss .i64 (.v 1) (.k (.int .i64 (0))))
  (.next 0 [(.op1 .neg .i64 (.v 1))])
  (.next 0 [(.v 1)]))
 (.call false 75 [(.sub (.v 0) 0 3 0 noI)]
 (.rq (.int .i64 (.v 3))
 (.call false 76 [(.op2 .rem .i64 (.v 3) (.k (.int .i64 (1000))))]
 (.rq (.int .i64 (.v 2))
 (.call false 76 [(.op2 .add .i64 (.k (.int .i64 (1))) (.op2 .rem .i64 (.v 2) (.k (.int .i64 (24)))))]
 (.call false 73 [(.v 4), (.v 5)]
 (.rq (.cells 16 (.v 6))
 (.ret [(.ag (.v 6))])))))))))))) := by kernel_rfl
theorem np_qShort : (Tryz.prog.funcs[26]?).map (fun fn => fn.params.size + fn.nfree) = some 1 := by kernel_rfl
theorem tr_qUnit : tree Tryz.prog [] [] [⟨2, 12, [3], []⟩, ⟨2, 16, [4], []⟩] [⟨1, [0, 1, 3, 0, 8, 31, 63, 127], [1, 1, 2, 1, 1, 2, 0, 0], [0, 0, 0, 0, 0, 0, 0, 0], [0, 1, 3, 4, 2, 5, 6, 7], []⟩] 37 = some (.rq (.cells 6 (.v 0))
(.call true 75 [(.sub (.v 0) 0 3 0 noI)]
(.call true 75 [(.sub (.v 0) 3 3 0 noI)]
(.rq (.int .i64 (.v 1))
(.join 1
 (.br (.op2 .lss .i64 (.v 1) (.k (.int .i64 (0))))
  (.next 0 [(.op1 .neg .i64 (.v 1))])
  (.next 0 [(.v 1)]))
 (.rq (.int .i64 (.v 2))
 (.join 1
  (.br (.op2 .lss .i64 (.v 2) (.k (.int .i64 (0))))
   (.next 0 [(.op1 .neg .i64 (.v 2))])
   (.next 0 [(.v 2)]))
  (.rq (.int .i64 (.v 4))
  (.rq (.int .i64 (.v 3))
  (.rq (.nz (.op2 .add .i64 (.k (.int .i64 (2))) (.op2 .rem .i64 (.v 4) (.k (.int .i64 (24))))))
  (.call false 76 [(.op2 .rem .i64 (.v 3) (.op2 .add .i64 (.k (.int .i64 (2))) (.op2 .rem .i64 (.v 4) (.k (.int .i64 (24))))))]
  (.call false 76 [(.op2 .add .i64 (.k (.int .i64 (1))) (.op2 .rem .i64 (.v 4) (.k (.int .i64 (24)))))]
  (.call false 73 [(.v 5), (.v 6)]
  (.rq (.cells 16 (.v 7))
  (.ret [(.ag (.v 7))]))))))))))))))) := by kernel_rfl
theorem np_qUnit : (Tryz.prog.funcs[37]?).map (fun fn => fn.params.size + fn.nfree) = some 1 := by kernel_rfl
theorem tr_qMinus : tree Tryz.prog [] [] [] [⟨1, [0, 0, 2, 7, 15], [5, 5, 2, 2, 6], [0, 1, 0, 0, 2], [0, 1, 2, 3], [4]⟩] 68 = some (.rq (.cells 4 (.v 0))
(.rq (.cells 4 (.v 1))
(.call true 59 [(.ag (.v 1))]
(.call true 67 [(.ag (.v 0)), (.v 2)]
(.rq (.cells 4 (.v 3))
(.ret [(.ag (.v 3))])))))) := by kernel_rfl
theorem np_qMinus : (Tryz.prog.funcs[68]?).map (fun fn => fn.params.size + fn.nfree) = some 2 := by kernel_rfl
theorem tr_qOver : tree Tryz.prog [] [] [] [⟨1, [0, 1, 0, 4, 15, 0, 32, 0, 128, 511, 1023, 2047], [1, 1, 1, 1, 2, 1, 1, 1, 1, 2, 2, 6], [0, 0, 0, 0, 0, 0, 0, 0, 0, 0, 0, 2], [0, 1, 2, 3, 5, 6, 7, 8, 4, 9, 10], [11]⟩] 71 = some (.rq (.cells 4 (.v 0))
(.rq (.cells 4 (.v 1))
(.call true 94 [(.sub (.v 0) 0 2 0 noI), (.sub (.v 1) 2 2 0 noI)]
(.call true 94 [(.sub (.v 0) 2 2 0 noI), (.sub (.v 1) 0 2 0 noI)]
(.call true 118 [(.v 2), (.v 3)]
(.rq (.cells 4 (.v 4))
(.ret [(.ag (.v 4))]))))))) := by kernel_rfl
theorem np_qOver : (Tryz.prog.funcs[71]?).map (fun fn => fn.params.size + fn.nfree) = some 2 := by kernel_rfl
theorem tr_qZero : tree Tryz.prog [] [] [] [] 70 = some (.rq (.cells 4 (.v 0))
(.prim 1 3 (opr Tryz.f70 1 3) [(.cell (.v 0) 1 0 noI)]
(.rq (.int .i64 (.v 1))
(.ret [(.op2 .eql .i64 (.v 1) (.k (.int .i64 (0))))])))) := by kernel_rfl
theorem np_qZero : (Tryz.prog.funcs[70]?).map (fun fn => fn.params.size + fn.nfree) = some 1 := by kernel_rfl
theorem op_qZero_1_3 : (opr Tryz.f70 1 3).op = .call ⟨.builtin .len, #[(.tmp 5)], #[93]⟩ := by kernel_rfl
theorem tr_qNeg : tree Tryz.prog [] [] [] [] 11 = some (.rq (.cells 16 (.v 0))
(.call false 57 [(.ag (.v 0))]
(.rq (.bool (.v 1))
(.br (.nt (.v 1))
 (.ret [(.cat (.z 24) 8 (.z 24)), (.k (.int .i64 (20)))])
 (.call false 60 [(.ag (.v 0))]
 (.call false 59 [(.v 2)]
 (.call false 58 [(.v 3)]
 (.rq (.tup 0 (.v 4))
 (.rq (.tup 1 (.v 4))
 (.rq (.cells 16 (.proj (.v 4) 0))
 (.ret [(.ag (.proj (.v 4) 0)), (.proj (.v 4) 1)]))))))))))) := by kernel_rfl
theorem np_qNeg : (Tryz.prog.funcs[11]?).map (fun fn => fn.params.size + fn.nfree) = some 1 := by kernel_rfl
theorem tr_qAbs : tree Tryz.prog [] [] [] [] 12 = some (.rq (.cells 16 (.v 0))
(.call false 57 [(.ag (.v 0))]
(.rq (.bool (.v 1))
(.br (.nt (.v 1))
 (.ret [(.cat (.z 24) 8 (.z 24)), (.k (.int .i64 (20)))])
 (.call false 60 [(.ag (.v 0))]
 (.rq (.cells 4 (.v 2))
 (.rq (.cells 1 (.cell (.v 2) 1 0 noI))
 (.call false 58 [(.cat (.cat (.z 4) 1 (.cell (.v 2) 1 0 noI)) 2 (.sub (.v 2) 2 2 0 noI))]
 (.rq (.tup 0 (.v 3))
 (.rq (.tup 1 (.v 3))
 (.rq (.cells 16 (.proj (.v 3) 0))
 (.ret [(.ag (.proj (.v 3) 0)), (.proj (.v 3) 1)])))))))))))) := by kernel_rfl
theorem np_qAbs : (Tryz.prog.funcs[12]?).map (fun fn => fn.params.size + fn.nfree) = some 1 := by kernel_rfl
theorem tr_qAdd : tree Tryz.prog [] [] [⟨3, 1, [13], []⟩] [⟨3, [0, 1, 0, 7, 15, 31, 63, 63, 255, 511], [5, 2, 5, 2, 2, 2, 0, 0, 6, 0], [0, 0, 1, 0, 0, 0, 0, 0, 2, 0], [0, 2, 1, 3, 4, 5, 6, 7], [8, 9]⟩] 19 = some (.rq (.cells 16 (.v 0))
(.rq (.cells 16 (.v 1))
(.join 1
 (.call false 57 [(.ag (.v 0))]
 (.rq (.bool (.v 2))
 (.br (.nt (.v 2))
  (.next 0 [(.k (.bool true))])
  (.call false 57 [(.ag (.v 1))]
  (.rq (.bool (.v 3))
  (.next 0 [(.nt (.v 3))]))))))
 (.rq (.bool (.v 2))
 (.br (.v 2)
  (.ret [(.cat (.z 24) 8 (.z 24)), (.k (.int .i64 (20)))])
  (.call true 60 [(.ag (.v 0))]
  (.call true 60 [(.ag (.v 1))]
  (.call true 67 [(.v 3), (.v 4)]
  (.call true 58 [(.v 5)]
  (.rq (.tup 0 (.v 6))
  (.rq (.tup 1 (.v 6))
  (.rq (.cells 16 (.proj (.v 6) 0))
  (.ret [(.ag (.proj (.v 6) 0)), (.proj (.v 6) 1)]))))))))))))) := by kernel_rfl
theorem np_qAdd : (Tryz.prog.funcs[19]?).map (fun fn => fn.params.size + fn.nfree) = some 2 := by kernel_rfl
theorem tr_qSub : tree Tryz.prog [] [] [⟨3, 1, [13], []⟩] [⟨3, [0, 1, 0, 7, 15, 31, 63, 63, 255, 511], [5, 2, 5, 2, 2, 2, 0, 0, 6, 0], [0, 0, 1, 0, 0, 0, 0, 0, 2, 0], [0, 2, 1, 3, 4, 5, 6, 7], [8, 9]⟩] 20 = some (.rq (.cells 16 (.v 0))
(.rq (.cells 16 (.v 1))
(.join 1
 (.call false 57 [(.ag (.v 0))]
 (.rq (.bool (.v 2))
 (.br (.nt (.v 2))
  (.next 0 [(.k (.bool true))])
  (.call false 57 [(.ag (.v 1))]
  (.rq (.bool (.v 3))
  (.next 0 [(.nt (.v 3))]))))))
 (.rq (.bool (.v 2))
 (.br (.v 2)
  (.ret [(.cat (.z 24) 8 (.z 24)), (.k (.int .i64 (20)))])
  (.call true 60 [(.ag (.v 0))]
  (.call true 60 [(.ag (.v 1))]
  (.call true 68 [(.v 3), (.v 4)]
  (.call true 58 [(.v 5)]
  (.rq (.tup 0 (.v 6))
  (.rq (.tup 1 (.v 6))
  (.rq (.cells 16 (.proj (.v 6) 0))
  (.ret [(.ag (.proj (.v 6) 0)), (.proj (.v 6) 1)]))))))))))))) := by kernel_rfl
theorem np_qSub : (Tryz.prog.funcs[20]?).map (fun fn => fn.params.size + fn.nfree) = some 2 := by kernel_rfl
theorem tr_qMul : tree Tryz.prog [] [] [⟨3, 1, [13], []⟩] [⟨3, [0, 1, 0, 7, 15, 31, 63, 63, 255, 511], [5, 2, 5, 2, 2, 2, 0, 0, 6, 0], [0, 0, 1, 0, 0, 0, 0, 0, 2, 0], [0, 2, 1, 3, 4, 5, 6, 7], [8, 9]⟩] 21 = some (.rq (.cells 16 (.v 0))
(.rq (.cells 16 (.v 1))
(.join 1
 (.call false 57 [(.ag (.v 0))]
 (.rq (.bool (.v 2))
 (.br (.nt (.v 2))
  (.next 0 [(.k (.bool true))])
  (.call false 57 [(.ag (.v 1))]
  (.rq (.bool (.v 3))
  (.next 0 [(.nt (.v 3))]))))))
 (.rq (.bool (.v 2))
 (.br (.v 2)
  (.ret [(.cat (.z 24) 8 (.z 24)), (.k (.int .i64 (20)))])
  (.call true 60 [(.ag (.v 0))]
  (.call true 60 [(.ag (.v 1))]
  (.call true 69 [(.v 3), (.v 4)]
  (.call true 58 [(.v 5)]
  (.rq (.tup 0 (.v 6))
  (.rq (.tup 1 (.v 6))
  (.rq (.cells 16 (.proj (.v 6) 0))
  (.ret [(.ag (.proj (.v 6) 0)), (.proj (.v 6) 1)]))))))))))))) := by kernel_rfl
theorem np_qMul : (Tryz.prog.funcs[21]?).map (fun fn => fn.params.size + fn.nfree) = some 2 := by kernel_rfl
theorem tr_qDiv : tree Tryz.prog [] [] [⟨3, 1, [14], []⟩] [⟨6, [0, 1, 0, 7, 15, 31, 31, 127, 255], [5, 2, 5, 2, 2, 0, 0, 6, 0], [0, 0, 3, 0, 0, 0, 0, 2, 0], [0, 2, 1, 3, 4, 5, 6], [7, 8]⟩] 22 = some (.rq (.cells 16 (.v 0))
(.rq (.cells 16 (.v 1))
(.join 1
 (.call false 57 [(.ag (.v 0))]
 (.rq (.bool (.v 2))
 (.br (.nt (.v 2))
  (.next 0 [(.k (.bool true))])
  (.call false 57 [(.ag (.v 1))]
  (.rq (.bool (.v 3))
  (.next 0 [(.nt (.v 3))]))))))
 (.rq (.bool (.v 2))
 (.br (.v 2)
  (.ret [(.cat (.z 24) 8 (.z 24)), (.k (.int .i64 (20)))])
  (.call false 60 [(.ag (.v 1))]
  (.rq (.cells 4 (.v 3))
  (.call false 70 [(.ag (.v 3))]
  (.rq (.bool (.v 4))
  (.br (.v 4)
   (.ret [(.cat (.z 24) 8 (.z 24)), (.k (.int .i64 (7)))])
   (.call true 60 [(.ag (.v 0))]
   (.call true 71 [(.v 5), (.ag (.v 3))]
   (.call true 58 [(.v 6)]
   (.rq (.tup 0 (.v 7))
   (.rq (.tup 1 (.v 7))
   (.rq (.cells 16 (.proj (.v 7) 0))
   (.ret [(.ag (.proj (.v 7) 0)), (.proj (.v 7) 1)]))))))))))))))))) := by kernel_rfl
theorem np_qDiv : (Tryz.prog.funcs[22]?).map (fun fn => fn.params.size + fn.nfree) = some 2 := by kernel_rfl
theorem tr_qMin : tree Tryz.prog [] [] [] [] 23 = some (.rq (.cells 16 (.v 0))
(.rq (.cells 16 (.v 1))
(.call false 72 [(.ag (.v 0)), (.ag (.v 1))]
(.rq (.tup 0 (.v 2))
(.rq (.tup 1 (.v 2))
(.rq (.int .i64 (.proj (.v 2) 1))
(.br (.op2 .neq .i64 (.proj (.v 2) 1) (.k (.int .i64 (0))))
 (.ret [(.cat (.z 24) 8 (.z 24)), (.proj (.v 2) 1)])
 (.rq (.int .i64 (.proj (.v 2) 0))
 (.br (.op2 .gtr .i64 (.proj (.v 2) 0) (.k (.int .i64 (0))))
  (.ret [(.ag (.v 1)), (.k (.int .i64 (0)))])
  (.ret [(.ag (.v 0)), (.k (.int .i64 (0)))])))))))))) := by kernel_rfl
theorem np_qMin : (Tryz.prog.funcs[23]?).map (fun fn => fn.params.size + fn.nfree) = some 2 := by kernel_rfl
theorem tr_qMax : tree Tryz.prog [] [] [] [] 24 = some (.rq (.cells 16 (.v 0))
(.rq (.cells 16 (.v 1))
(.call false 72 [(.ag (.v 0)), (.ag (.v 1))]
(.rq (.tup 0 (.v 2))
(.rq (.tup 1 (.v 2))
(.rq (.int .i64 (.proj (.v 2) 1))
(.br (.op2 .neq .i64 (.proj (.v 2) 1) (.k (.int .i64 (0))))
 (.ret [(.cat (.z 24) 8 (.z 24)), (.proj (.v 2) 1)])
 (.rq (.int .i64 (.proj (.v 2) 0))
 (.br (.op2 .lss .i64 (.proj (.v 2) 0) (.k (.int .i64 (0))))
  (.ret [(.ag (.v 1)), (.k (.int .i64 (0)))])
  (.ret [(.ag (.v 0)), (.k (.int .i64 (0)))])))))))))) := by kernel_rfl
theorem np_qMax : (Tryz.prog.funcs[24]?).map (fun fn => fn.params.size + fn.nfree) = some 2 := by kernel_rfl
theorem tr_qSum : tree Tryz.prog [] [] [⟨0, 5, [], [1]⟩] [⟨9, [0, 0, 0, 6, 14, 30, 63, 127], [5, 0, 0, 1, 1, 2, 2, 6], [1, 0, 0, 0, 0, 0, 0, 1], [0, 1, 2, 3, 4, 5, 6], [7]⟩] 39 = some (.prim 1 1 (opr Tryz.f39 1 1) [(.v 0)]
(.rq (.int .i64 (.v 1))
(.br (.op2 .gtr .i64 (.v 1) (.k (.int .i64 (400))))
 (.ret [(.cat (.z 24) 8 (.z 24)), (.k (.int .i64 (3)))])
 (.call false 92 [(.k (.int .i64 (0))), (.k (.int .i64 (1)))]
 (.rq (.cells 4 (.v 2))
 (.loop [(.k (.int .i64 (0))), (.k (.int .i64 (0))), (.v 2)]
  (.prim 5 2 (opr Tryz.f39 5 2) [(.v 0)]
  (.rq (.int .i64 (.v 4))
  (.rq (.int .i64 (.v 6))
  (.br (.op2 .lss .i64 (.v 4) (.v 6))
   (.prim 7 2 (opr Tryz.f39 7 2) [(.v 0), (.v 4)]
   (.prim 7 3 (opr Tryz.f39 7 3) [(.v 7)]
   (.call false 57 [(.v 8)]
   (.rq (.bool (.v 9))
   (.br (.nt (.v 9))
    (.ret [(.cat (.z 24) 8 (.z 24)), (.k (.int .i64 (20)))])
    (.prim 9 3 (opr Tryz.f39 9 3) [(.v 0), (.v 4)]
    (.prim 9 4 (opr Tryz.f39 9 4) [(.v 10)]
    (.call true 60 [(.v 11)]
    (.call true 67 [(.ag (.v 5)), (.v 12)]
    (.rq (.cells 4 (.v 13))
    (.next 0 [(.v 3), (.op2 .add .i64 (.v 4) (.k (.int .i64 (1)))), (.v 13)])))))))))))
   (.call false 58 [(.ag (.v 5))]
   (.rq (.tup 0 (.v 7))
   (.rq (.tup 1 (.v 7))
   (.rq (.cells 16 (.proj (.v 7) 0))
   (.ret [(.ag (.proj (.v 7) 0)), (.proj (.v 7) 1)]))))))))))))))) := by kernel_rfl
theorem np_qSum : (Tryz.prog.funcs[39]?).map (fun fn => fn.params.size + fn.nfree) = some 1 := by kernel_rfl
theorem op_qSum_1_1 : (opr Tryz.f39 1 1).op = .call ⟨.builtin .len, #[(.tmp 6)], #[60]⟩ := by kernel_rfl
theorem op_qSum_5_2 : (opr Tryz.f39 5 2).op = .call ⟨.builtin .len, #[(.tmp 12)], #[60]⟩ := by kernel_rfl
theorem op_qSum_7_2 : (opr Tryz.f39 7 2).op = .indexAddr 60 (.tmp 17) (.tmp 18) := by kernel_rfl
theorem op_qSum_7_3 : (opr Tryz.f39 7 3).op = .load 26 (.tmp 19) := by kernel_rfl
theorem op_qSum_9_3 : (opr Tryz.f39 9 3).op = .indexAddr 60 (.tmp 25) (.tmp 26) := by kernel_rfl
theorem op_qSum_9_4 : (opr Tryz.f39 9 4).op = .load 26 (.tmp 27) := by kernel_rfl
theorem tr_qPow : tree Tryz.prog [] [] [⟨0, 7, [], [3]⟩] [⟨9, [0, 1, 0, 4, 15, 0, 32, 0, 128, 511, 1023, 2047], [1, 1, 1, 1, 2, 1, 1, 1, 1, 2, 0, 6], [0, 0, 0, 0, 0, 0, 0, 0, 0, 0, 0, 3], [0, 1, 2, 3, 5, 6, 7, 8, 4, 9, 10], [11]⟩] 41 = some (.rq (.cells 16 (.v 0))
(.call false 57 [(.ag (.v 0))]
(.rq (.bool (.v 2))
(.br (.nt (.v 2))
 (.ret [(.cat (.z 24) 8 (.z 24)), (.k (.int .i64 (20)))])
 (.rq (.int .i64 (.v 1))
 (.br (.op2 .lss .i64 (.v 1) (.k (.int .i64 (0))))
  (.ret [(.cat (.z 24) 8 (.z 24)), (.k (.int .i64 (2)))])
  (.br (.op2 .gtr .i64 (.v 1) (.k (.int .i64 (600))))
   (.ret [(.cat (.z 24) 8 (.z 24)), (.k (.int .i64 (2)))])
   (.call false 60 [(.ag (.v 0))]
   (.call false 92 [(.k (.int .i64 (1))), (.k (.int .i64 (1)))]
   (.rq (.cells 4 (.v 3))
   (.rq (.cells 4 (.v 4))
   (.loop [(.k (.int .i64 (0))), (.k (.int .i64 (0))), (.v 4)]
    (.rq (.int .i64 (.v 6))
    (.br (.op2 .lss .i64 (.v 6) (.v 1))
     (.call true 94 [(.sub (.v 7) 0 2 0 noI), (.sub (.v 3) 0 2 0 noI)]
     (.call true 94 [(.sub (.v 7) 2 2 0 noI), (.sub (.v 3) 2 2 0 noI)]
     (.rq (.cells 2 (.v 8))
     (.rq (.cells 2 (.v 9))
     (.prim 10 3 (opr Tryz.f41 10 3) [(.cell (.put (.cat (.v 8) 2 (.z 95)) 2 2 (.v 9) 0 noI) 1 0 noI)]
     (.rq (.int .i64 (.v 10))
     (.br (.op2 .gtr .i64 (.v 10) (.k (.int .i64 (17))))
      (.ret [(.cat (.z 24) 8 (.z 24)), (.k (.int .i64 (6)))])
      (.prim 10 9 (opr Tryz.f41 10 9) [(.cell (.put (.cat (.v 8) 2 (.z 95)) 2 2 (.v 9) 0 noI) 3 0 noI)]
      (.rq (.int .i64 (.v 11))
      (.br (.op2 .gtr .i64 (.v 11) (.k (.int .i64 (17))))
       (.ret [(.cat (.z 24) 8 (.z 24)), (.k (.int .i64 (6)))])
       (.next 0 [(.v 5), (.op2 .add .i64 (.v 6) (.k (.int .i64 (1)))), (.put (.cat (.v 8) 2 (.z 95)) 2 2 (.v 9) 0 noI)])))))))))))
     (.call false 58 [(.ag (.v 7))]
     (.rq (.tup 0 (.v 8))
     (.rq (.tup 1 (.v 8))
     (.rq (.cells 16 (.proj (.v 8) 0))
     (.ret [(.ag (.proj (.v 8) 0)), (.proj (.v 8) 1)]))))))))))))))))))) := by kernel_rfl
theorem np_qPow : (Tryz.prog.funcs[41]?).map (fun fn => fn.params.size + fn.nfree) = some 2 := by kernel_rfl
theorem op_qPow_10_3 : (opr Tryz.f41 10 3).op = .call ⟨.builtin .len, #[(.tmp 41)], #[93]⟩ := by kernel_rfl
theorem op_qPow_10_9 : (opr Tryz.f41 10 9).op = .call ⟨.builtin .len, #[(.tmp 47)], #[93]⟩ := by kernel_rfl
end Go.Proofs.YtcleogdmobdnpabGreat

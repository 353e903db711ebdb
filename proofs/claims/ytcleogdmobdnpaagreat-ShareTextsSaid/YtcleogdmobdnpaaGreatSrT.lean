/- MADE BY rxgen.py: the trees of the reference of chapter 02. -/
import Derived.Test.YtcleogdmobdnpaaGreatWdT
namespace Go.Proofs.YtcleogdmobdnpaaGreat
open Go.RowKit Go.RX
theorem tr_qLowest : tree Tryz.prog [] [] [] [] 49 = some (.rq (.cells 2 (.v 0))
(.rq (.cells 2 (.v 1))
(.call false 107 [(.ag (.v 0)), (.ag (.v 1))]
(.rq (.cells 2 (.v 2))
(.rq (.bool (.cell (.v 1) 0 0 noI))
(.br (.cell (.v 1) 0 0 noI)
 (.call false 89 [(.ag (.v 2))]
 (.rq (.cells 2 (.v 3))
 (.call false 108 [(.ag (.v 0)), (.ag (.v 3))]
 (.rq (.tup 0 (.v 4))
 (.rq (.tup 1 (.v 4))
 (.rq (.cells 2 (.proj (.v 4) 0))
 (.rq (.cells 2 (.proj (.v 4) 1))
 (.call false 108 [(.ag (.v 1)), (.ag (.v 3))]
 (.rq (.tup 0 (.v 5))
 (.rq (.tup 1 (.v 5))
 (.rq (.cells 2 (.proj (.v 5) 0))
 (.rq (.cells 2 (.proj (.v 5) 1))
 (.ret [(.cat (.ag (.proj (.v 4) 0)) 2 (.ag (.proj (.v 5) 0)))])))))))))))))
 (.call false 108 [(.ag (.v 0)), (.ag (.v 2))]
 (.rq (.tup 0 (.v 3))
 (.rq (.tup 1 (.v 3))
 (.rq (.cells 2 (.proj (.v 3) 0))
 (.rq (.cells 2 (.proj (.v 3) 1))
 (.call false 108 [(.ag (.v 1)), (.ag (.v 2))]
 (.rq (.tup 0 (.v 4))
 (.rq (.tup 1 (.v 4))
 (.rq (.cells 2 (.proj (.v 4) 0))
 (.rq (.cells 2 (.proj (.v 4) 1))
 (.ret [(.cat (.ag (.proj (.v 3) 0)) 2 (.ag (.proj (.v 4) 0)))]))))))))))))))))) := by kernel_rfl
theorem np_qLowest : (Tryz.prog.funcs[49]?).map (fun fn => fn.params.size + fn.nfree) = some 2 := by kernel_rfl
theorem tr_qQuick : tree Tryz.prog [] [] [] [] 57 = some (.call false 77 [(.v 0)]
(.call false 77 [(.v 1)]
(.call false 49 [(.v 2), (.v 3)]
(.rq (.cells 4 (.v 4))
(.ret [(.ag (.v 4))]))))) := by kernel_rfl
theorem np_qQuick : (Tryz.prog.funcs[57]?).map (fun fn => fn.params.size + fn.nfree) = some 2 := by kernel_rfl
theorem tr_qone : tree Tryz.prog [] [] [⟨3, 1, [2], []⟩] [] 59 = some (.rq (.cells 2 (.v 0))
(.join 1
 (.prim 1 2 (opr Tryz.f59 1 2) [(.cell (.v 0) 1 0 noI)]
 (.rq (.int .i64 (.v 1))
 (.br (.op2 .eql .i64 (.v 1) (.k (.int .i64 (1))))
  (.prim 1 7 (opr Tryz.f59 1 7) [(.cell (.v 0) 1 0 noI), (.k (.int .i64 (0)))]
  (.prim 1 8 (opr Tryz.f59 1 8) [(.v 2)]
  (.rq (.int .i64 (.v 3))
  (.br (.op2 .eql .i64 (.v 3) (.k (.int .i64 (1))))
   (.rq (.bool (.cell (.v 0) 0 0 noI))
   (.next 0 [(.nt (.cell (.v 0) 0 0 noI))]))
   (.next 0 [(.k (.bool false))])))))
  (.next 0 [(.k (.bool false))]))))
 (.ret [(.v 1)]))) := by kernel_rfl
theorem np_qone : (Tryz.prog.funcs[59]?).map (fun fn => fn.params.size + fn.nfree) = some 1 := by kernel_rfl
theorem op_qone_1_2 : (opr Tryz.f59 1 2).op = .call ⟨.builtin .len, #[(.tmp 4)], #[83]⟩ := by kernel_rfl
theorem op_qone_1_7 : (opr Tryz.f59 1 7).op = .indexAddr 83 (.tmp 9) (.const (.int .i64 (0))) := by kernel_rfl
theorem op_qone_1_8 : (opr Tryz.f59 1 8).op = .load 3 (.tmp 10) := by kernel_rfl
theorem tr_qRight : tree Tryz.prog [] [] [⟨3, 2, [2], []⟩] [⟨1, [0, 1, 3, 0, 8, 31, 0, 0, 255, 511], [1, 1, 2, 1, 1, 2, 3, 3, 4, 4], [0, 0, 0, 0, 0, 0, 0, 0, 0, 0], [0, 1, 3, 4, 2, 5, 6, 7], [8, 9]⟩] 56 = some (.rq (.cells 16 (.v 0))
(.call true 50 [(.sub (.v 0) 0 8 0 noI)]
(.call true 50 [(.sub (.v 0) 8 8 0 noI)]
(.rq (.cells 2 (.v 1))
(.rq (.cells 2 (.v 2))
(.join 1
 (.rq (.bool (.cell (.v 2) 0 0 noI))
 (.br (.nt (.cell (.v 2) 0 0 noI))
  (.prim 2 6 (opr Tryz.f56 2 6) [(.cell (.v 2) 1 0 noI)]
  (.rq (.int .i64 (.v 3))
  (.br (.op2 .gtr .i64 (.v 3) (.k (.int .i64 (0))))
   (.call false 107 [(.ag (.v 1)), (.ag (.v 2))]
   (.call false 59 [(.v 4)]
   (.next 0 [(.v 5)])))
   (.next 0 [(.k (.bool false))]))))
  (.next 0 [(.k (.bool false))])))
 (.ret [(.v 3)]))))))) := by kernel_rfl
theorem np_qRight : (Tryz.prog.funcs[56]?).map (fun fn => fn.params.size + fn.nfree) = some 1 := by kernel_rfl
theorem op_qRight_2_6 : (opr Tryz.f56 2 6).op = .call ⟨.builtin .len, #[(.tmp 16)], #[83]⟩ := by kernel_rfl
theorem tr_qCheck : tree Tryz.prog [] [] [] [] 12 = some (.rq (.cells 16 (.v 0))
(.call false 56 [(.ag (.v 0))]
(.rq (.bool (.v 1))
(.br (.nt (.v 1))
 (.ret [(.k (.int .i64 (20)))])
 (.ret [(.k (.int .i64 (0)))]))))) := by kernel_rfl
theorem np_qCheck : (Tryz.prog.funcs[12]?).map (fun fn => fn.params.size + fn.nfree) = some 1 := by kernel_rfl
theorem tr_qIn : tree Tryz.prog [] [] [] [⟨1, [0, 1, 3, 0, 8, 31, 63, 127], [1, 1, 2, 1, 1, 2, 0, 6], [0, 0, 0, 0, 0, 0, 0, 1], [0, 1, 3, 4, 2, 5, 6], [7]⟩] 58 = some (.rq (.cells 16 (.v 0))
(.call true 50 [(.sub (.v 0) 0 8 0 noI)]
(.call true 50 [(.sub (.v 0) 8 8 0 noI)]
(.rq (.cells 2 (.v 1))
(.rq (.cells 2 (.v 2))
(.ret [(.put (.cat (.v 1) 2 (.z 85)) 2 2 (.v 2) 0 noI)])))))) := by kernel_rfl
theorem np_qIn : (Tryz.prog.funcs[58]?).map (fun fn => fn.params.size + fn.nfree) = some 1 := by kernel_rfl
theorem tr_qOut : tree Tryz.prog [] [] [⟨3, 3, [25], []⟩] [] 48 = some (.rq (.cells 4 (.v 0))
(.call false 87 [(.sub (.v 0) 0 2 0 noI)]
(.rq (.tup 0 (.v 1))
(.rq (.tup 1 (.v 1))
(.rq (.cells 8 (.proj (.v 1) 0))
(.call false 87 [(.sub (.v 0) 2 2 0 noI)]
(.rq (.tup 0 (.v 2))
(.rq (.tup 1 (.v 2))
(.rq (.cells 8 (.proj (.v 2) 0))
(.join 1
 (.rq (.int .i64 (.proj (.v 1) 1))
 (.br (.op2 .neq .i64 (.proj (.v 1) 1) (.k (.int .i64 (0))))
  (.next 0 [(.k (.bool true))])
  (.rq (.int .i64 (.proj (.v 2) 1))
  (.next 0 [(.op2 .neq .i64 (.proj (.v 2) 1) (.k (.int .i64 (0))))]))))
 (.rq (.bool (.v 3))
 (.br (.v 3)
  (.ret [(.cat (.z 24) 8 (.z 24)), (.k (.int .i64 (6)))])
  (.ret [(.cat (.ag (.proj (.v 1) 0)) 8 (.ag (.proj (.v 2) 0))), (.k (.int .i64 (0)))]))))))))))))) := by kernel_rfl
theorem np_qOut : (Tryz.prog.funcs[48]?).map (fun fn => fn.params.size + fn.nfree) = some 1 := by kernel_rfl
theorem tr_qMake : tree Tryz.prog [] [] [] [⟨3, [0, 1, 0, 7, 15, 31, 63, 63, 255, 511], [5, 2, 5, 2, 2, 2, 0, 0, 6, 0], [0, 0, 1, 0, 0, 0, 0, 0, 2, 0], [0, 2, 1, 3, 4, 5, 6, 7], [8, 9]⟩] 10 = some (.rq (.cells 8 (.v 0))
(.rq (.cells 8 (.v 1))
(.prim 1 2 (opr Tryz.f10 1 2) [(.ag (.v 1)), (.z 24)]
(.rq (.bool (.v 2))
(.br (.v 2)
 (.ret [(.cat (.z 24) 8 (.z 24)), (.k (.int .i64 (7)))])
 (.call true 50 [(.ag (.v 0))]
 (.call true 50 [(.ag (.v 1))]
 (.call true 49 [(.v 3), (.v 4)]
 (.call true 48 [(.v 5)]
 (.rq (.tup 0 (.v 6))
 (.rq (.tup 1 (.v 6))
 (.rq (.cells 16 (.proj (.v 6) 0))
 (.ret [(.ag (.proj (.v 6) 0)), (.proj (.v 6) 1)]))))))))))))) := by kernel_rfl
theorem np_qMake : (Tryz.prog.funcs[10]?).map (fun fn => fn.params.size + fn.nfree) = some 2 := by kernel_rfl
theorem op_qMake_1_2 : (opr Tryz.f10 1 2).op = .binOp .eql 24 (.tmp 6) (.tmp 7) 24 := by kernel_rfl
theorem tr_qOf : tree Tryz.prog [] [] [] [] 14 = some (.rq (.int .i64 (.v 1))
(.br (.op2 .eql .i64 (.v 1) (.k (.int .i64 (0))))
 (.ret [(.cat (.z 24) 8 (.z 24)), (.k (.int .i64 (7)))])
 (.call false 57 [(.v 0), (.v 1)]
 (.call false 48 [(.v 2)]
 (.rq (.tup 0 (.v 3))
 (.rq (.tup 1 (.v 3))
 (.rq (.cells 16 (.proj (.v 3) 0))
 (.ret [(.ag (.proj (.v 3) 0)), (.proj (.v 3) 1)])))))))) := by kernel_rfl
theorem np_qOf : (Tryz.prog.funcs[14]?).map (fun fn => fn.params.size + fn.nfree) = some 2 := by kernel_rfl
theorem tr_qTurn : tree Tryz.prog [] [] [] [⟨1, [0, 1, 3, 0, 8, 31, 63], [1, 1, 2, 1, 1, 0, 6], [0, 0, 0, 0, 0, 0, 1], [0, 1, 3, 4, 2, 5], [6]⟩] 90 = some (.rq (.cells 4 (.v 0))
(.call true 89 [(.sub (.v 0) 0 2 0 noI)]
(.rq (.cells 2 (.v 1))
(.ret [(.put (.cat (.v 1) 2 (.z 85)) 2 2 (.sub (.v 0) 2 2 0 noI) 0 noI)])))) := by kernel_rfl
theorem np_qTurn : (Tryz.prog.funcs[90]?).map (fun fn => fn.params.size + fn.nfree) = some 1 := by kernel_rfl
theorem tr_qPlus : tree Tryz.prog [] [] [] [⟨1, [0, 1, 0, 4, 15, 0, 32, 0, 128, 511, 1023, 0, 2048, 0, 8192, 32767, 65535, 131071], [1, 1, 1, 1, 2, 1, 1, 1, 1, 2, 2, 1, 1, 1, 1, 2, 2, 6], [0, 0, 0, 0, 0, 0, 0, 0, 0, 0, 0, 0, 0, 0, 0, 0, 0, 2], [0, 1, 2, 3, 5, 6, 7, 8, 11, 12, 13, 14, 4, 9, 10, 15, 16], [17]⟩] 131 = some (.rq (.cells 4 (.v 0))
(.rq (.cells 4 (.v 1))
(.call true 132 [(.sub (.v 0) 0 2 0 noI), (.sub (.v 1) 2 2 0 noI)]
(.call true 132 [(.sub (.v 1) 0 2 0 noI), (.sub (.v 0) 2 2 0 noI)]
(.call true 136 [(.v 2), (.v 3)]
(.call true 132 [(.sub (.v 0) 2 2 0 noI), (.sub (.v 1) 2 2 0 noI)]
(.call true 49 [(.v 4), (.v 5)]
(.rq (.cells 4 (.v 6))
(.ret [(.ag (.v 6))]))))))))) := by kernel_rfl
theorem np_qPlus : (Tryz.prog.funcs[131]?).map (fun fn => fn.params.size + fn.nfree) = some 2 := by kernel_rfl
theorem tr_qTimes : tree Tryz.prog [] [] [] [⟨1, [0, 1, 0, 4, 15, 0, 32, 0, 128, 511, 1023, 2047], [1, 1, 1, 1, 2, 1, 1, 1, 1, 2, 2, 6], [0, 0, 0, 0, 0, 0, 0, 0, 0, 0, 0, 2], [0, 1, 2, 3, 5, 6, 7, 8, 4, 9, 10], [11]⟩] 75 = some (.rq (.cells 4 (.v 0))
(.rq (.cells 4 (.v 1))
(.call true 132 [(.sub (.v 0) 0 2 0 noI), (.sub (.v 1) 0 2 0 noI)]
(.call true 132 [(.sub (.v 0) 2 2 0 noI), (.sub (.v 1) 2 2 0 noI)]
(.call true 49 [(.v 2), (.v 3)]
(.rq (.cells 4 (.v 4))
(.ret [(.ag (.v 4))]))))))) := by kernel_rfl
theorem np_qTimes : (Tryz.prog.funcs[75]?).map (fun fn => fn.params.size + fn.nfree) = some 2 := by kernel_rfl
theorem tr_qOrder : tree Tryz.prog [] [] [] [⟨1, [0, 1, 0, 4, 15, 0, 32, 0, 128, 511, 1023, 2047], [1, 1, 1, 1, 2, 1, 1, 1, 1, 2, 2, 0], [0, 0, 0, 0, 0, 0, 0, 0, 0, 0, 0, 0], [0, 1, 2, 3, 5, 6, 7, 8, 4, 9, 10, 11], []⟩] 82 = some (.rq (.cells 4 (.v 0))
(.rq (.cells 4 (.v 1))
(.call true 132 [(.sub (.v 0) 0 2 0 noI), (.sub (.v 1) 2 2 0 noI)]
(.call true 132 [(.sub (.v 1) 0 2 0 noI), (.sub (.v 0) 2 2 0 noI)]
(.call true 134 [(.v 2), (.v 3)]
(.ret [(.v 4)])))))) := by kernel_rfl
theorem np_qOrder : (Tryz.prog.funcs[82]?).map (fun fn => fn.params.size + fn.nfree) = some 2 := by kernel_rfl
theorem tr_qDown : tree Tryz.prog [] [] [] [] 88 = some (.rq (.cells 4 (.v 0))
(.call false 108 [(.sub (.v 0) 0 2 0 noI), (.sub (.v 0) 2 2 0 noI)]
(.rq (.tup 0 (.v 1))
(.rq (.tup 1 (.v 1))
(.rq (.cells 2 (.proj (.v 1) 0))
(.rq (.cells 2 (.proj (.v 1) 1))
(.ret [(.ag (.proj (.v 1) 0))]))))))) := by kernel_rfl
theorem np_qDown : (Tryz.prog.funcs[88]?).map (fun fn => fn.params.size + fn.nfree) = some 1 := by kernel_rfl
theorem tr_qNearest : tree Tryz.prog [] [] [] [⟨1, [0, 0, 3, 7, 15], [5, 2, 2, 2, 6], [0, 0, 0, 0, 1], [0, 1, 2, 3], [4]⟩] 74 = some (.rq (.cells 4 (.v 0))
(.call true 57 [(.k (.int .i64 (1))), (.k (.int .i64 (2)))]
(.call true 131 [(.ag (.v 0)), (.v 1)]
(.call true 88 [(.v 2)]
(.rq (.cells 2 (.v 3))
(.ret [(.ag (.v 3))])))))) := by kernel_rfl
theorem np_qNearest : (Tryz.prog.funcs[74]?).map (fun fn => fn.params.size + fn.nfree) = some 1 := by kernel_rfl
theorem tr_qSign : tree Tryz.prog [] [] [] [] 22 = some (.rq (.cells 16 (.v 0))
(.call false 56 [(.ag (.v 0))]
(.rq (.bool (.v 1))
(.br (.nt (.v 1))
 (.ret [(.k (.int .i64 (0))), (.k (.int .i64 (20)))])
 (.call false 80 [(.sub (.v 0) 0 8 0 noI)]
 (.ret [(.v 2), (.k (.int .i64 (0)))])))))) := by kernel_rfl
theorem np_qSign : (Tryz.prog.funcs[22]?).map (fun fn => fn.params.size + fn.nfree) = some 1 := by kernel_rfl
theorem tr_qCmp : tree Tryz.prog [] [] [⟨3, 1, [13], []⟩] [⟨3, [0, 1, 0, 7, 15, 31, 63], [5, 2, 5, 2, 2, 0, 0], [0, 0, 1, 0, 0, 0, 0], [0, 2, 1, 3, 4, 5, 6], []⟩] 24 = some (.rq (.cells 16 (.v 0))
(.rq (.cells 16 (.v 1))
(.join 1
 (.call false 56 [(.ag (.v 0))]
 (.rq (.bool (.v 2))
 (.br (.nt (.v 2))
  (.next 0 [(.k (.bool true))])
  (.call false 56 [(.ag (.v 1))]
  (.rq (.bool (.v 3))
  (.next 0 [(.nt (.v 3))]))))))
 (.rq (.bool (.v 2))
 (.br (.v 2)
  (.ret [(.k (.int .i64 (0))), (.k (.int .i64 (20)))])
  (.call true 58 [(.ag (.v 0))]
  (.call true 58 [(.ag (.v 1))]
  (.call true 82 [(.v 3), (.v 4)]
  (.ret [(.v 5), (.k (.int .i64 (0)))]))))))))) := by kernel_rfl
theorem np_qCmp : (Tryz.prog.funcs[24]?).map (fun fn => fn.params.size + fn.nfree) = some 2 := by kernel_rfl
theorem tr_qFloor : tree Tryz.prog [] [] [] [] 28 = some (.rq (.cells 16 (.v 0))
(.call false 56 [(.ag (.v 0))]
(.rq (.bool (.v 1))
(.br (.nt (.v 1))
 (.ret [(.z 24), (.k (.int .i64 (20)))])
 (.call false 58 [(.ag (.v 0))]
 (.call false 88 [(.v 2)]
 (.call false 87 [(.v 3)]
 (.rq (.tup 0 (.v 4))
 (.rq (.tup 1 (.v 4))
 (.rq (.cells 8 (.proj (.v 4) 0))
 (.ret [(.ag (.proj (.v 4) 0)), (.proj (.v 4) 1)]))))))))))) := by kernel_rfl
theorem np_qFloor : (Tryz.prog.funcs[28]?).map (fun fn => fn.params.size + fn.nfree) = some 1 := by kernel_rfl
theorem tr_qCeil : tree Tryz.prog [] [] [] [] 29 = some (.rq (.cells 16 (.v 0))
(.call false 56 [(.ag (.v 0))]
(.rq (.bool (.v 1))
(.br (.nt (.v 1))
 (.ret [(.z 24), (.k (.int .i64 (20)))])
 (.call false 58 [(.ag (.v 0))]
 (.call false 90 [(.v 2)]
 (.call false 88 [(.v 3)]
 (.call false 89 [(.v 4)]
 (.call false 87 [(.v 5)]
 (.rq (.tup 0 (.v 6))
 (.rq (.tup 1 (.v 6))
 (.rq (.cells 8 (.proj (.v 6) 0))
 (.ret [(.ag (.proj (.v 6) 0)), (.proj (.v 6) 1)]))))))))))))) := by kernel_rfl
theorem np_qCeil : (Tryz.prog.funcs[29]?).map (fun fn => fn.params.size + fn.nfree) = some 1 := by kernel_rfl
theorem tr_qNear : tree Tryz.prog [] [] [] [] 30 = some (.rq (.cells 16 (.v 0))
(.call false 56 [(.ag (.v 0))]
(.rq (.bool (.v 1))
(.br (.nt (.v 1))
 (.ret [(.z 24), (.k (.int .i64 (20)))])
 (.call false 58 [(.ag (.v 0))]
 (.call false 74 [(.v 2)]
 (.call false 87 [(.v 3)]
 (.rq (.tup 0 (.v 4))
 (.rq (.tup 1 (.v 4))
 (.rq (.cells 8 (.proj (.v 4) 0))
 (.ret [(.ag (.proj (.v 4) 0)), (.proj (.v 4) 1)]))))))))))) := by kernel_rfl
theorem np_qNear : (Tryz.prog.funcs[30]?).map (fun fn => fn.params.size + fn.nfree) = some 1 := by kernel_rfl
theorem tr_qText : tree Tryz.prog [] [] [] [⟨6, [0, 1, 3, 7, 0, 16, 55, 127, 255, 511], [1, 1, 2, 1, 1, 1, 2, 1, 0, 0], [0, 0, 0, 0, 0, 0, 0, 0, 0, 0], [0, 1, 4, 5, 2, 3, 6, 7, 8, 9], []⟩] 15 = some (.rq (.cells 16 (.v 0))
(.call false 56 [(.ag (.v 0))]
(.rq (.bool (.v 1))
(.br (.nt (.v 1))
 (.ret [(.k (.string ⟨#[]⟩)), (.k (.int .i64 (20)))])
 (.call false 58 [(.ag (.v 0))]
 (.rq (.cells 4 (.v 2))
 (.call false 59 [(.sub (.v 2) 2 2 0 noI)]
 (.rq (.bool (.v 3))
 (.br (.v 3)
  (.call false 60 [(.sub (.v 2) 0 2 0 noI)]
  (.ret [(.v 4), (.k (.int .i64 (0)))]))
  (.call true 60 [(.sub (.v 2) 0 2 0 noI)]
  (.prim 6 3 (opr Tryz.f15 6 3) [(.v 4), (.k (.string ⟨#[47]⟩))]
  (.call true 60 [(.sub (.v 2) 2 2 0 noI)]
  (.prim 6 7 (opr Tryz.f15 6 7) [(.v 5), (.v 6)]
  (.ret [(.v 7), (.k (.int .i64 (0)))])))))))))))))) := by kernel_rfl
theorem np_qText : (Tryz.prog.funcs[15]?).map (fun fn => fn.params.size + fn.nfree) = some 1 := by kernel_rfl
theorem op_qText_6_3 : (opr Tryz.f15 6 3).op = .binOp .add 9 (.tmp 18) (.const (.string ⟨#[47]⟩)) 9 := by kernel_rfl
theorem op_qText_6_7 : (opr Tryz.f15 6 7).op = .binOp .add 9 (.tmp 19) (.tmp 22) 9 := by kernel_rfl
theorem tr_qParse : tree Tryz.prog [] [] [⟨3, 2, [21], []⟩, ⟨2, 30, [6], []⟩, ⟨3, 7, [51], []⟩, ⟨3, 11, [68], []⟩, ⟨3, 14, [85], []⟩, ⟨0, 2, [], []⟩] [] 18 = some (.loop [(.k (.int .i64 (0)))]
 (.join 1
  (.prim 2 2 (opr Tryz.f18 2 2) [(.v 0)]
  (.rq (.int .i64 (.v 1))
  (.rq (.int .i64 (.v 2))
  (.br (.op2 .lss .i64 (.v 1) (.v 2))
   (.prim 2 7 (opr Tryz.f18 2 7) [(.v 0), (.v 1)]
   (.rq (.int .u8 (.v 3))
   (.next 1 [(.op2 .neq .u8 (.v 3) (.k (.int .u8 (47))))])))
   (.next 1 [(.k (.bool false))])))))
  (.rq (.bool (.v 2))
  (.br (.v 2)
   (.rq (.int .i64 (.v 1))
   (.next 0 [(.op2 .add .i64 (.v 1) (.k (.int .i64 (1))))]))
   (.prim 4 2 (opr Tryz.f18 4 2) [(.v 0), (.v 1)]
   (.prim 5 2 (opr Tryz.f18 5 2) [(.v 0)]
   (.rq (.int .i64 (.v 1))
   (.rq (.int .i64 (.v 4))
   (.join 1
    (.br (.op2 .lss .i64 (.v 1) (.v 4))
     (.prim 6 3 (opr Tryz.f18 6 3) [(.v 0), (.op2 .add .i64 (.v 1) (.k (.int .i64 (1))))]
     (.next 1 [(.v 5)]))
     (.next 1 [(.k (.string ⟨#[49]⟩))]))
    (.join 1
     (.call false 65 [(.v 3)]
     (.rq (.bool (.v 6))
     (.br (.nt (.v 6))
      (.next 1 [(.k (.bool true))])
      (.call false 65 [(.v 5)]
      (.rq (.bool (.v 7))
      (.br (.nt (.v 7))
       (.next 1 [(.k (.bool true))])
       (.prim 7 10 (opr Tryz.f18 7 10) [(.v 5), (.k (.int .i64 (0)))]
       (.rq (.int .u8 (.v 8))
       (.br (.op2 .eql .u8 (.v 8) (.k (.int .u8 (45))))
        (.next 1 [(.k (.bool true))])
        (.prim 7 15 (opr Tryz.f18 7 15) [(.v 5), (.k (.string ⟨#[48]⟩))]
        (.next 1 [(.v 9)])))))))))))
     (.rq (.bool (.v 6))
     (.br (.v 6)
      (.ret [(.cat (.z 24) 8 (.z 24)), (.k (.int .i64 (5)))])
      (.call false 66 [(.v 3)]
      (.rq (.tup 0 (.v 7))
      (.rq (.tup 1 (.v 7))
      (.rq (.cells 8 (.proj (.v 7) 0))
      (.call false 66 [(.v 5)]
      (.rq (.tup 0 (.v 8))
      (.rq (.tup 1 (.v 8))
      (.rq (.cells 8 (.proj (.v 8) 0))
      (.join 1
       (.rq (.int .i64 (.proj (.v 7) 1))
       (.br (.op2 .neq .i64 (.proj (.v 7) 1) (.k (.int .i64 (0))))
        (.next 1 [(.k (.bool true))])
        (.rq (.int .i64 (.proj (.v 8) 1))
        (.next 1 [(.op2 .neq .i64 (.proj (.v 8) 1) (.k (.int .i64 (0))))]))))
       (.rq (.bool (.v 9))
       (.br (.v 9)
        (.ret [(.cat (.z 24) 8 (.z 24)), (.k (.int .i64 (6)))])
        (.join 1
         (.call false 56 [(.cat (.ag (.proj (.v 7) 0)) 8 (.ag (.proj (.v 8) 0)))]
         (.rq (.bool (.v 10))
         (.br (.nt (.v 10))
          (.next 1 [(.k (.bool true))])
          (.prim 14 6 (opr Tryz.f18 14 6) [(.v 0)]
          (.rq (.int .i64 (.v 11))
          (.br (.op2 .lss .i64 (.v 1) (.v 11))
           (.prim 14 10 (opr Tryz.f18 14 10) [(.v 5), (.k (.string ⟨#[49]⟩))]
           (.next 1 [(.v 12)]))
           (.next 1 [(.k (.bool false))])))))))
         (.rq (.bool (.v 10))
         (.br (.v 10)
          (.ret [(.cat (.z 24) 8 (.z 24)), (.k (.int .i64 (5)))])
          (.ret [(.cat (.ag (.proj (.v 7) 0)) 8 (.ag (.proj (.v 8) 0))), (.k (.int .i64 (0)))]))))))))))))))))))))))))))) := by kernel_rfl
theorem np_qParse : (Tryz.prog.funcs[18]?).map (fun fn => fn.params.size + fn.nfree) = some 1 := by kernel_rfl
theorem op_qParse_2_2 : (opr Tryz.f18 2 2).op = .call ⟨.builtin .len, #[(.tmp 13)], #[9]⟩ := by kernel_rfl
theorem op_qParse_2_7 : (opr Tryz.f18 2 7).op = .index 9 (.tmp 17) (.tmp 18) := by kernel_rfl
theorem op_qParse_4_2 : (opr Tryz.f18 4 2).op = .slice 9 (.tmp 24) none (some (.tmp 25)) none := by kernel_rfl
theorem op_qParse_5_2 : (opr Tryz.f18 5 2).op = .call ⟨.builtin .len, #[(.tmp 28)], #[9]⟩ := by kernel_rfl
theorem op_qParse_6_3 : (opr Tryz.f18 6 3).op = .slice 9 (.tmp 31) (some (.tmp 33)) none none := by kernel_rfl
theorem op_qParse_7_10 : (opr Tryz.f18 7 10).op = .index 9 (.tmp 44) (.const (.int .i64 (0))) := by kernel_rfl
theorem op_qParse_7_15 : (opr Tryz.f18 7 15).op = .binOp .eql 9 (.tmp 49) (.const (.string ⟨#[48]⟩)) 9 := by kernel_rfl
theorem op_qParse_14_6 : (opr Tryz.f18 14 6).op = .call ⟨.builtin .len, #[(.tmp 78)], #[9]⟩ := by kernel_rfl
theorem op_qParse_14_10 : (opr Tryz.f18 14 10).op = .binOp .eql 9 (.tmp 82) (.const (.string ⟨#[49]⟩)) 9 := by kernel_rfl
theorem tr_qTen : tree Tryz.prog [] [] [] [] 76 = some (.call false 77 [(.k (.int .i64 (10)))]
(.call false 133 [(.v 1), (.v 0)]
(.rq (.cells 2 (.v 2))
(.ret [(.ag (.v 2))])))) := by kernel_rfl
theorem np_qTen : (Tryz.prog.funcs[76]?).map (fun fn => fn.params.size + fn.nfree) = some 1 := by kernel_rfl
theorem tr_qDecimal : tree Tryz.prog [] [] [⟨3, 3, [18], []⟩, ⟨2, 45, [9], []⟩, ⟨2, 53, [9], []⟩, ⟨0, 7, [], []⟩] [] 20 = some (.rq (.cells 16 (.v 0))
(.call false 56 [(.ag (.v 0))]
(.rq (.bool (.v 2))
(.br (.nt (.v 2))
 (.ret [(.k (.string ⟨#[]⟩)), (.k (.int .i64 (20)))])
 (.join 1
  (.rq (.int .i64 (.v 1))
  (.br (.op2 .lss .i64 (.v 1) (.k (.int .i64 (0))))
   (.next 0 [(.k (.bool true))])
   (.next 0 [(.op2 .gtr .i64 (.v 1) (.k (.int .i64 (20))))])))
  (.rq (.bool (.v 3))
  (.br (.v 3)
   (.ret [(.k (.string ⟨#[]⟩)), (.k (.int .i64 (2)))])
   (.call false 58 [(.ag (.v 0))]
   (.call false 76 [(.v 1)]
   (.call false 77 [(.k (.int .i64 (1)))]
   (.rq (.cells 2 (.v 5))
   (.rq (.cells 2 (.v 6))
   (.call false 75 [(.v 4), (.put (.cat (.v 5) 2 (.z 85)) 2 2 (.v 6) 0 noI)]
   (.call false 74 [(.v 7)]
   (.rq (.cells 2 (.v 8))
   (.rq (.cells 1 (.cell (.v 8) 1 0 noI))
   (.call false 60 [(.cat (.z 4) 1 (.cell (.v 8) 1 0 noI))]
   (.loop [(.v 9)]
    (.prim 7 1 (opr Tryz.f20 7 1) [(.v 10)]
    (.rq (.int .i64 (.v 11))
    (.rq (.int .i64 (.v 1))
    (.br (.op2 .leq .i64 (.v 11) (.v 1))
     (.prim 8 1 (opr Tryz.f20 8 1) [(.k (.string ⟨#[48]⟩)), (.v 10)]
     (.next 0 [(.v 12)]))
     (.prim 9 1 (opr Tryz.f20 9 1) [(.v 10)]
     (.rq (.int .i64 (.v 12))
     (.prim 10 2 (opr Tryz.f20 10 2) [(.v 10), (.op2 .sub .i64 (.v 12) (.v 1))]
     (.join 1
      (.br (.op2 .gtr .i64 (.v 1) (.k (.int .i64 (0))))
       (.prim 12 1 (opr Tryz.f20 12 1) [(.v 13), (.k (.string ⟨#[46]⟩))]
       (.prim 12 4 (opr Tryz.f20 12 4) [(.v 10), (.op2 .sub .i64 (.v 12) (.v 1))]
       (.prim 12 5 (opr Tryz.f20 12 5) [(.v 14), (.v 15)]
       (.next 1 [(.v 16)]))))
       (.next 1 [(.v 13)]))
      (.join 1
       (.rq (.bool (.cell (.v 8) 0 0 noI))
       (.br (.cell (.v 8) 0 0 noI)
        (.prim 14 1 (opr Tryz.f20 14 1) [(.k (.string ⟨#[45]⟩)), (.v 14)]
        (.next 1 [(.v 15)]))
        (.next 1 [(.v 14)])))
       (.ret [(.v 15), (.k (.int .i64 (0)))])))))))))))))))))))))))))))) := by kernel_rfl
theorem np_qDecimal : (Tryz.prog.funcs[20]?).map (fun fn => fn.params.size + fn.nfree) = some 2 := by kernel_rfl
theorem op_qDecimal_7_1 : (opr Tryz.f20 7 1).op = .call ⟨.builtin .len, #[(.tmp 31)], #[9]⟩ := by kernel_rfl
theorem op_qDecimal_8_1 : (opr Tryz.f20 8 1).op = .binOp .add 9 (.const (.string ⟨#[48]⟩)) (.tmp 35) 9 := by kernel_rfl
theorem op_qDecimal_9_1 : (opr Tryz.f20 9 1).op = .call ⟨.builtin .len, #[(.tmp 37)], #[9]⟩ := by kernel_rfl
theorem op_qDecimal_10_2 : (opr Tryz.f20 10 2).op = .slice 9 (.tmp 41) none (some (.tmp 42)) none := by kernel_rfl
theorem op_qDecimal_12_1 : (opr Tryz.f20 12 1).op = .binOp .add 9 (.tmp 46) (.const (.string ⟨#[46]⟩)) 9 := by kernel_rfl
theorem op_qDecimal_12_4 : (opr Tryz.f20 12 4).op = .slice 9 (.tmp 48) (some (.tmp 49)) none none := by kernel_rfl
theorem op_qDecimal_12_5 : (opr Tryz.f20 12 5).op = .binOp .add 9 (.tmp 47) (.tmp 50) 9 := by kernel_rfl
theorem op_qDecimal_14_1 : (opr Tryz.f20 14 1).op = .binOp .add 9 (.const (.string ⟨#[45]⟩)) (.tmp 54) 9 := by kernel_rfl
theorem tr_qmade : tree Tryz.prog [] [] [] [⟨3, [0, 0, 3, 7, 15, 15, 31], [5, 2, 2, 0, 0, 0, 6], [0, 0, 0, 0, 0, 0, 3], [0, 1, 2, 3, 4, 5], [6]⟩] 92 = some (.rq (.cells 8 (.v 0))
(.rq (.cells 8 (.v 1))
(.call false 10 [(.ag (.v 0)), (.ag (.v 1))]
(.rq (.tup 0 (.v 2))
(.rq (.tup 1 (.v 2))
(.rq (.cells 16 (.proj (.v 2) 0))
(.rq (.int .i64 (.proj (.v 2) 1))
(.br (.op2 .neq .i64 (.proj (.v 2) 1) (.k (.int .i64 (0))))
 (.call true 93 [(.k (.int .i64 (1)))]
 (.call true 10 [(.ag (.v 0)), (.v 3)]
 (.rq (.tup 0 (.v 4))
 (.rq (.tup 1 (.v 4))
 (.rq (.cells 16 (.proj (.v 4) 0))
 (.ret [(.ag (.proj (.v 4) 0))]))))))
 (.ret [(.ag (.proj (.v 2) 0))]))))))))) := by kernel_rfl
theorem np_qmade : (Tryz.prog.funcs[92]?).map (fun fn => fn.params.size + fn.nfree) = some 2 := by kernel_rfl
theorem tr_qShare : tree Tryz.prog [] [] [] [⟨1, [0, 1, 3, 0, 8, 31, 63, 127], [1, 1, 2, 1, 1, 2, 2, 6], [0, 0, 0, 0, 0, 0, 0, 1], [0, 1, 3, 4, 2, 5, 6], [7]⟩] 32 = some (.rq (.cells 6 (.v 0))
(.call true 94 [(.sub (.v 0) 0 3 0 noI), (.k (.int .i64 (200)))]
(.call true 94 [(.sub (.v 0) 3 3 0 noI), (.k (.int .i64 (200)))]
(.call true 92 [(.v 1), (.v 2)]
(.rq (.cells 16 (.v 3))
(.ret [(.ag (.v 3))])))))) := by kernel_rfl
theorem np_qShare : (Tryz.prog.funcs[32]?).map (fun fn => fn.params.size + fn.nfree) = some 1 := by kernel_rfl
theorem tr_qShort : tree Tryz.prog [] [] [⟨2, 8, [3], []⟩] [] 31 = some (.rq (.cells 6 (.v 0))
(.call false 91 [(.sub (.v 0) 3 3 0 noI)]
(.rq (.int .i64 (.v 1))
(.join 1
 (.br (.op2 .lss .i64 (.v 1) (.k (.int .i64 (0))))
  (.next 0 [(.op1 .neg .i64 (.v 1))])
  (.next 0 [(.v 1)]))
 (.call false 91 [(.sub (.v 0) 0 3 0 noI)]
 (.rq (.int .i64 (.v 3))
 (.call false 93 [(.op2 .rem .i64 (.v 3) (.k (.int .i64 (1000))))]
 (.rq (.int .i64 (.v 2))
 (.call false 93 [(.op2 .add .i64 (.k (.int .i64 (1))) (.op2 .rem .i64 (.v 2) (.k (.int .i64 (24)))))]
 (.call false 92 [(.v 4), (.v 5)]
 (.rq (.cells 16 (.v 6))
 (.ret [(.ag (.v 6))])))))))))))) := by kernel_rfl
theorem np_qShort : (Tryz.prog.funcs[31]?).map (fun fn => fn.params.size + fn.nfree) = some 1 := by kernel_rfl
theorem tr_qUnit : tree Tryz.prog [] [] [⟨2, 12, [3], []⟩, ⟨2, 16, [4], []⟩] [⟨1, [0, 1, 3, 0, 8, 31, 63, 127], [1, 1, 2, 1, 1, 2, 0, 0], [0, 0, 0, 0, 0, 0, 0, 0], [0, 1, 3, 4, 2, 5, 6, 7], []⟩] 44 = some (.rq (.cells 6 (.v 0))
(.call true 91 [(.sub (.v 0) 0 3 0 noI)]
(.call true 91 [(.sub (.v 0) 3 3 0 noI)]
(.rq (.int .i64 (.v 1))
(.join 1
 (.br (.op2 .lss .i64 (.v 1) (.k (.int .i64 (0))))
  (.next 0 [(.op1 .neg .i64 (.v 1))])
  (.next 0 [(.v 1)]))
 (.rq (.int .i64 (.v 2))
 (.join 1
  (.br (.op2 .lss .i64 (.v 2) (.k (.int .i64 (0))))
   (.next 0 [(.op1 .neg .i64 (.v 2))])
   (.next 0 [(.v 2)]))
  (.rq (.int .i64 (.v 4))
  (.rq (.int .i64 (.v 3))
  (.rq (.nz (.op2 .add .i64 (.k (.int .i64 (2))) (.op2 .rem .i64 (.v 4) (.k (.int .i64 (24))))))
  (.call false 93 [(.op2 .rem .i64 (.v 3) (.op2 .add .i64 (.k (.int .i64 (2))) (.op2 .rem .i64 (.v 4) (.k (.int .i64 (24))))))]
  (.call false 93 [(.op2 .add .i64 (.k (.int .i64 (1))) (.op2 .rem .i64 (.v 4) (.k (.int .i64 (24)))))]
  (.call false 92 [(.v 5), (.v 6)]
  (.rq (.cells 16 (.v 7))
  (.ret [(.ag (.v 7))]))))))))))))))) := by kernel_rfl
theorem np_qUnit : (Tryz.prog.funcs[44]?).map (fun fn => fn.params.size + fn.nfree) = some 1 := by kernel_rfl
end Go.Proofs.YtcleogdmobdnpaaGreat

/- MADE BY rxgen.py: the trees of the reference of chapter 02. -/
import Derived.Test.YtcleogdmobdnpacGreatRWdT
namespace Go.Proofs.YtcleogdmobdnpacGreatR
open Go.RowKit Go.RX
theorem tr_qLowest : tree Tryz.prog [] [] [] [] 88 = some (.rq (.cells 2 (.v 0))
(.rq (.cells 2 (.v 1))
(.call false 110 [(.ag (.v 0)), (.ag (.v 1))]
(.rq (.cells 2 (.v 2))
(.rq (.bool (.cell (.v 1) 0 0 noI))
(.br (.cell (.v 1) 0 0 noI)
 (.call false 111 [(.ag (.v 2))]
 (.rq (.cells 2 (.v 3))
 (.call false 112 [(.ag (.v 0)), (.ag (.v 3))]
 (.rq (.tup 0 (.v 4))
 (.rq (.tup 1 (.v 4))
 (.rq (.cells 2 (.proj (.v 4) 0))
 (.rq (.cells 2 (.proj (.v 4) 1))
 (.call false 112 [(.ag (.v 1)), (.ag (.v 3))]
 (.rq (.tup 0 (.v 5))
 (.rq (.tup 1 (.v 5))
 (.rq (.cells 2 (.proj (.v 5) 0))
 (.rq (.cells 2 (.proj (.v 5) 1))
 (.ret [(.cat (.ag (.proj (.v 4) 0)) 2 (.ag (.proj (.v 5) 0)))])))))))))))))
 (.call false 112 [(.ag (.v 0)), (.ag (.v 2))]
 (.rq (.tup 0 (.v 3))
 (.rq (.tup 1 (.v 3))
 (.rq (.cells 2 (.proj (.v 3) 0))
 (.rq (.cells 2 (.proj (.v 3) 1))
 (.call false 112 [(.ag (.v 1)), (.ag (.v 2))]
 (.rq (.tup 0 (.v 4))
 (.rq (.tup 1 (.v 4))
 (.rq (.cells 2 (.proj (.v 4) 0))
 (.rq (.cells 2 (.proj (.v 4) 1))
 (.ret [(.cat (.ag (.proj (.v 3) 0)) 2 (.ag (.proj (.v 4) 0)))]))))))))))))))))) := by kernel_rfl
theorem np_qLowest : (Tryz.prog.funcs[88]?).map (fun fn => fn.params.size + fn.nfree) = some 2 := by kernel_rfl
theorem tr_qOut : tree Tryz.prog [] [] [⟨3, 3, [25], []⟩] [] 87 = some (.rq (.cells 4 (.v 0))
(.call false 63 [(.sub (.v 0) 0 2 0 noI)]
(.rq (.tup 0 (.v 1))
(.rq (.tup 1 (.v 1))
(.rq (.cells 8 (.proj (.v 1) 0))
(.call false 63 [(.sub (.v 0) 2 2 0 noI)]
(.rq (.tup 0 (.v 2))
(.rq (.tup 1 (.v 2))
(.rq (.cells 8 (.proj (.v 2) 0))
(.join 1
 (.rq (.int .i64 (.proj (.v 1) 1))
 (.br (.op2 .neq .i64 (.proj (.v 1) 1) (.k (.int .i64 (0))))
  (.next 0 [(.k (.bool true))])
  (.rq (.int .i64 (.proj (.v 2) 1))
  (.next 0 [(.op2 .neq .i64 (.proj (.v 2) 1) (.k (.int .i64 (0))))]))))
 (.rq (.bool (.v 3))
 (.br (.v 3)
  (.ret [(.cat (.z 32) 8 (.z 32)), (.k (.int .i64 (6)))])
  (.ret [(.cat (.ag (.proj (.v 1) 0)) 8 (.ag (.proj (.v 2) 0))), (.k (.int .i64 (0)))]))))))))))))) := by kernel_rfl
theorem np_qOut : (Tryz.prog.funcs[87]?).map (fun fn => fn.params.size + fn.nfree) = some 1 := by kernel_rfl
theorem tr_qMake : tree Tryz.prog [] [] [] [⟨3, [0, 1, 0, 7, 15, 31, 63, 63, 255, 511], [5, 2, 5, 2, 2, 2, 0, 0, 6, 0], [0, 0, 1, 0, 0, 0, 0, 0, 2, 0], [0, 2, 1, 3, 4, 5, 6, 7], [8, 9]⟩] 62 = some (.rq (.cells 8 (.v 0))
(.rq (.cells 8 (.v 1))
(.prim 1 2 (opr Tryz.f62 1 2) [(.ag (.v 1)), (.z 32)]
(.rq (.bool (.v 2))
(.br (.v 2)
 (.ret [(.cat (.z 32) 8 (.z 32)), (.k (.int .i64 (7)))])
 (.call true 89 [(.ag (.v 0))]
 (.call true 89 [(.ag (.v 1))]
 (.call true 88 [(.v 3), (.v 4)]
 (.call true 87 [(.v 5)]
 (.rq (.tup 0 (.v 6))
 (.rq (.tup 1 (.v 6))
 (.rq (.cells 16 (.proj (.v 6) 0))
 (.ret [(.ag (.proj (.v 6) 0)), (.proj (.v 6) 1)]))))))))))))) := by kernel_rfl
theorem np_qMake : (Tryz.prog.funcs[62]?).map (fun fn => fn.params.size + fn.nfree) = some 2 := by kernel_rfl
theorem op_qMake_1_2 : (opr Tryz.f62 1 2).op = .binOp .eql 32 (.tmp 6) (.tmp 7) 32 := by kernel_rfl
theorem tr_qmade : tree Tryz.prog [] [] [] [⟨3, [0, 0, 3, 7, 15, 15, 31], [5, 2, 2, 0, 0, 0, 6], [0, 0, 0, 0, 0, 0, 3], [0, 1, 2, 3, 4, 5], [6]⟩] 27 = some (.rq (.cells 8 (.v 0))
(.rq (.cells 8 (.v 1))
(.call false 62 [(.ag (.v 0)), (.ag (.v 1))]
(.rq (.tup 0 (.v 2))
(.rq (.tup 1 (.v 2))
(.rq (.cells 16 (.proj (.v 2) 0))
(.rq (.int .i64 (.proj (.v 2) 1))
(.br (.op2 .neq .i64 (.proj (.v 2) 1) (.k (.int .i64 (0))))
 (.call true 28 [(.k (.int .i64 (1)))]
 (.call true 62 [(.ag (.v 0)), (.v 3)]
 (.rq (.tup 0 (.v 4))
 (.rq (.tup 1 (.v 4))
 (.rq (.cells 16 (.proj (.v 4) 0))
 (.ret [(.ag (.proj (.v 4) 0))]))))))
 (.ret [(.ag (.proj (.v 2) 0))]))))))))) := by kernel_rfl
theorem np_qmade : (Tryz.prog.funcs[27]?).map (fun fn => fn.params.size + fn.nfree) = some 2 := by kernel_rfl
theorem tr_qShort : tree Tryz.prog [] [] [⟨2, 8, [3], []⟩] [] 5 = some (.rq (.cells 6 (.v 0))
(.call false 26 [(.sub (.v 0) 3 3 0 noI)]
(.rq (.int .i64 (.v 1))
(.join 1
 (.br (.op2 .lss .i64 (.v 1) (.k (.int .i64 (0))))
  (.next 0 [(.op1 .neg .i64 (.v 1))])
  (.next 0 [(.v 1)]))
 (.call false 26 [(.sub (.v 0) 0 3 0 noI)]
 (.rq (.int .i64 (.v 3))
 (.call false 28 [(.op2 .rem .i64 (.v 3) (.k (.int .i64 (1000))))]
 (.rq (.int .i64 (.v 2))
 (.call false 28 [(.op2 .add .i64 (.k (.int .i64 (1))) (.op2 .rem .i64 (.v 2) (.k (.int .i64 (24)))))]
 (.call false 27 [(.v 4), (.v 5)]
 (.rq (.cells 16 (.v 6))
 (.ret [(.ag (.v 6))])))))))))))) := by kernel_rfl
theorem np_qShort : (Tryz.prog.funcs[5]?).map (fun fn => fn.params.size + fn.nfree) = some 1 := by kernel_rfl
end Go.Proofs.YtcleogdmobdnpacGreatR

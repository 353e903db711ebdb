/- MADE BY rxgen.py: the tree of the law WideEnds. -/
import Derived.Test.YtmndieeelnicpaaRRWdT
namespace Go.Proofs.YtmndieeelnicpaaRR
open Go.RowKit Go.RX
theorem tr_wideEnds : tree Try.prog [] [(27, false), (69, false), (73, false), (77, false), (81, false), (85, false), (88, false), (125, true), (129, true)] [⟨3, 11, [19], []⟩] [⟨3, [0, 0, 3, 7, 15, 15, 15, 0, 0, 415, 959, 2047], [5, 2, 2, 0, 0, 0, 0, 3, 3, 4, 4, 0], [0, 0, 0, 0, 0, 0, 0, 0, 0, 0, 0, 0], [0, 1, 2, 3, 4, 5, 6, 7, 8], [9, 10, 11]⟩, ⟨4, [0, 0, 3, 7, 15, 15, 15, 0, 0, 415, 959, 2047], [5, 2, 2, 0, 0, 0, 0, 3, 3, 4, 4, 0], [1, 0, 0, 0, 0, 0, 0, 0, 0, 0, 0, 0], [0, 1, 2, 3, 4, 5, 6, 7, 8], [9, 10, 11]⟩, ⟨6, [0, 0, 3, 7, 15, 15, 15, 0, 0, 415, 959, 2047], [5, 2, 2, 0, 0, 0, 0, 3, 3, 4, 4, 0], [6, 0, 0, 0, 0, 0, 0, 0, 0, 0, 0, 0], [0, 1, 2, 3, 4, 5, 6, 7, 8], [9, 10, 11]⟩, ⟨11, [0, 0, 3, 7, 15, 31, 31, 127, 255, 511, 1023], [5, 2, 2, 0, 0, 5, 2, 2, 0, 0, 0], [9, 0, 0, 0, 0, 9, 0, 0, 0, 0, 0], [0, 1, 2, 3, 4, 5, 6, 7, 8, 9, 10], []⟩, ⟨14, [0, 0, 0, 7, 15], [2, 5, 0, 2, 0], [0, 10, 0, 0, 0], [1, 2, 0, 3, 4], []⟩, ⟨15, [0, 0, 3, 7, 15, 15, 0, 95, 255], [5, 2, 2, 0, 0, 0, 3, 4, 0], [9, 0, 0, 0, 0, 0, 0, 0, 0], [0, 1, 2, 3, 4, 5, 6], [7, 8]⟩, ⟨17, [0, 1, 3, 7, 15, 31, 63, 127, 255, 127, 127, 2047, 4095, 8191], [0, 0, 0, 0, 0, 0, 0, 5, 2, 5, 0, 2, 0, 0], [0, 0, 0, 0, 0, 0, 0, 12, 0, 10, 0, 0, 0, 0], [0, 1, 2, 3, 4, 5, 6, 7, 9, 10, 8, 11, 12, 13], []⟩] 6 = some (.rq (.cells 8 (.v 0))
(.rq (.cells 8 (.v 1))
(.call false 12 []
(.rq (.bool (.v 2))
(.rq (.isb false (.nt (.v 2)))
(.call true 32 [(.k (.int .i64 (2)))]
(.call true 14 [(.ag (.v 0)), (.v 3)]
(.rq (.tup 0 (.v 4))
(.rq (.tup 1 (.v 4))
(.rq (.tup 2 (.v 4))
(.rq (.cells 8 (.proj (.v 4) 0))
(.rq (.cells 8 (.proj (.v 4) 1))
(.call true 32 [(.k (.int .i64 (2)))]
(.call true 14 [(.ag (.v 1)), (.v 5)]
(.rq (.tup 0 (.v 6))
(.rq (.tup 1 (.v 6))
(.rq (.tup 2 (.v 6))
(.rq (.cells 8 (.proj (.v 6) 0))
(.rq (.cells 8 (.proj (.v 6) 1))
(.call false 26 [(.ag (.proj (.v 4) 1)), (.ag (.proj (.v 6) 1))]
(.rq (.tup 0 (.v 7))
(.rq (.tup 1 (.v 7))
(.rq (.cells 8 (.proj (.v 7) 0))
(.call true 32 [(.k (.int .i64 (2)))]
(.call true 14 [(.ag (.proj (.v 7) 0)), (.v 8)]
(.rq (.tup 0 (.v 9))
(.rq (.tup 1 (.v 9))
(.rq (.tup 2 (.v 9))
(.rq (.cells 8 (.proj (.v 9) 0))
(.rq (.cells 8 (.proj (.v 9) 1))
(.call false 26 [(.ag (.proj (.v 4) 0)), (.ag (.proj (.v 6) 0))]
(.rq (.tup 0 (.v 10))
(.rq (.tup 1 (.v 10))
(.rq (.cells 8 (.proj (.v 10) 0))
(.call false 26 [(.ag (.proj (.v 10) 0)), (.ag (.proj (.v 9) 0))]
(.rq (.tup 0 (.v 11))
(.rq (.tup 1 (.v 11))
(.rq (.cells 8 (.proj (.v 11) 0))
(.rq (.int .i64 (.proj (.v 4) 2))
(.rq (.isb false (.op2 .neq .i64 (.proj (.v 4) 2) (.k (.int .i64 (0)))))
(.rq (.int .i64 (.proj (.v 6) 2))
(.rq (.isb false (.op2 .neq .i64 (.proj (.v 6) 2) (.k (.int .i64 (0)))))
(.rq (.int .i64 (.proj (.v 7) 1))
(.rq (.isb false (.op2 .neq .i64 (.proj (.v 7) 1) (.k (.int .i64 (0)))))
(.rq (.int .i64 (.proj (.v 9) 2))
(.rq (.isb false (.op2 .neq .i64 (.proj (.v 9) 2) (.k (.int .i64 (0)))))
(.rq (.int .i64 (.proj (.v 10) 1))
(.rq (.isb false (.op2 .neq .i64 (.proj (.v 10) 1) (.k (.int .i64 (0)))))
(.rq (.int .i64 (.proj (.v 11) 1))
(.rq (.isb false (.op2 .neq .i64 (.proj (.v 11) 1) (.k (.int .i64 (0)))))
(.join 1
 (.call true 34 [(.k (.int .i64 (-510)))]
 (.call true 33 [(.ag (.proj (.v 11) 0)), (.v 12)]
 (.rq (.int .i64 (.v 13))
 (.br (.op2 .geq .i64 (.v 13) (.k (.int .i64 (0))))
  (.call true 34 [(.k (.int .i64 (510)))]
  (.call true 33 [(.ag (.proj (.v 11) 0)), (.v 14)]
  (.rq (.int .i64 (.v 15))
  (.next 0 [(.op2 .lss .i64 (.v 15) (.k (.int .i64 (0))))]))))
  (.next 0 [(.k (.bool false))])))))
 (.call false 26 [(.ag (.v 0)), (.ag (.v 1))]
 (.rq (.tup 0 (.v 13))
 (.rq (.tup 1 (.v 13))
 (.rq (.cells 8 (.proj (.v 13) 0))
 (.rq (.bool (.v 12))
 (.br (.nt (.v 12))
  (.call true 35 [(.k (.int .i64 (6)))]
  (.eff true 14 3 (opr Try.f6 14 3) [(.v 14), (.ag (.proj (.v 13) 0)), (.proj (.v 13) 1)]
  (.ret [(.v 15)])))
  (.call true 32 [(.k (.int .i64 (2)))]
  (.call true 30 [(.ag (.proj (.v 11) 0)), (.v 14)]
  (.rq (.tup 0 (.v 15))
  (.rq (.tup 1 (.v 15))
  (.rq (.cells 8 (.proj (.v 15) 0))
  (.call false 26 [(.ag (.proj (.v 15) 0)), (.ag (.proj (.v 9) 1))]
  (.rq (.tup 0 (.v 16))
  (.rq (.tup 1 (.v 16))
  (.rq (.cells 8 (.proj (.v 16) 0))
  (.rq (.int .i64 (.proj (.v 15) 1))
  (.rq (.isb true (.op2 .eql .i64 (.proj (.v 15) 1) (.k (.int .i64 (0)))))
  (.rq (.int .i64 (.proj (.v 16) 1))
  (.rq (.isb true (.op2 .eql .i64 (.proj (.v 16) 1) (.k (.int .i64 (0)))))
  (.call true 36 [(.ag (.proj (.v 16) 0))]
  (.eff true 17 11 (opr Try.f6 17 11) [(.v 17), (.ag (.proj (.v 13) 0)), (.proj (.v 13) 1)]
  (.ret [(.v 18)]))))))))))))))))))))))))))))))))))))))))))))))))))))))))))))))))))))))))) := by kernel_rfl
theorem np_wideEnds : (Try.prog.funcs[6]?).map (fun fn => fn.params.size + fn.nfree) = some 2 := by kernel_rfl
theorem op_wideEnds_14_3 : (opr Try.f6 14 3).op = .call ⟨.value (.tmp 107), #[(.tmp 108), (.tmp 109)], #[24, 35]⟩ := by kernel_rfl
theorem op_wideEnds_17_11 : (opr Try.f6 17 11).op = .call ⟨.value (.tmp 131), #[(.tmp 132), (.tmp 133)], #[24, 35]⟩ := by kernel_rfl
end Go.Proofs.YtmndieeelnicpaaRR

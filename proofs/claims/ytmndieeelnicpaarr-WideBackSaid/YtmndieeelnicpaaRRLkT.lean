/- MADE BY rxgen.py: the tree of the law WideBack. -/
import Derived.Test.YtmndieeelnicpaaRRWdT
namespace Go.Proofs.YtmndieeelnicpaaRR
open Go.RowKit Go.RX
theorem tr_WideBack : tree Try.prog [] [(21, false), (31, false), (36, false), (66, false), (85, true), (93, true), (102, true), (111, true)] [⟨3, 7, [66], []⟩, ⟨2, 79, [19], []⟩] [⟨3, [0, 1, 0, 7, 15, 31, 31, 127, 255, 511, 1023, 2047, 4095, 8191, 16383], [5, 2, 5, 2, 2, 0, 0, 2, 0, 0, 5, 2, 1, 0, 0], [0, 0, 0, 0, 0, 0, 0, 0, 0, 0, 0, 0, 0, 0, 0], [0, 2, 1, 3, 4, 5, 6, 7, 8, 9, 10, 11, 12, 13, 14], []⟩, ⟨9, [0, 1, 0, 7, 0, 0, 63, 127], [5, 2, 5, 2, 3, 3, 4, 4], [1, 0, 2, 0, 0, 0, 0, 0], [0, 2, 1, 3, 4, 5], [6, 7]⟩, ⟨16, [0, 1, 3, 7, 7, 31, 7, 127, 255, 511, 1023, 2047, 2047, 8191, 2047, 18431, 51199, 131071, 262143, 524287, 1048575, 2097151, 1048575, 8388607, 16777215, 1048575, 67108863, 134217727, 268435455, 536870911, 1073741823, 536870911, 4294967295, 8589934591, 17179869183, 17179869183, 68719476735, 137438953471, 274877906943], [0, 0, 0, 5, 5, 2, 5, 2, 0, 0, 0, 5, 5, 1, 5, 2, 0, 0, 0, 0, 0, 2, 0, 2, 2, 0, 0, 0, 0, 0, 2, 0, 2, 2, 0, 0, 2, 0, 0], [0, 0, 0, 4, 5, 0, 6, 0, 0, 0, 0, 4, 5, 0, 6, 0, 0, 0, 0, 0, 0, 0, 0, 0, 0, 0, 0, 0, 0, 0, 0, 0, 0, 0, 0, 0, 0, 0, 0], [0, 1, 2, 3, 4, 6, 5, 7, 8, 9, 10, 11, 12, 13, 14, 15, 16, 17, 18, 19, 20, 22, 25, 21, 23, 24, 26, 27, 28, 29, 31, 30, 32, 33, 34, 35, 36, 37, 38], []⟩] 11 = some (.rq (.cells 8 (.v 0))
(.rq (.cells 3 (.v 1))
(.rq (.cells 3 (.v 2))
(.call false 12 []
(.rq (.bool (.v 6))
(.rq (.isb false (.nt (.v 6)))
(.call true 36 [(.ag (.v 0))]
(.call true 47 [(.ag (.v 0))]
(.call true 46 [(.v 8)]
(.rq (.tup 0 (.v 9))
(.rq (.tup 1 (.v 9))
(.eff true 3 7 (opr Try.f11 3 7) [(.v 7), (.proj (.v 9) 0), (.proj (.v 9) 1)]
(.rq (.bool (.v 10))
(.rq (.isb false (.nt (.v 10)))
(.call true 47 [(.ag (.v 0))]
(.prim 3 12 (opr Try.f11 3 12) [(.v 11)]
(.rq (.int .i64 (.v 12))
(.rq (.isb false (.op2 .gtr .i64 (.v 12) (.k (.int .i64 (155)))))
(.prim 5 2 (opr Try.f11 5 2) [(.v 3)]
(.prim 5 3 (opr Try.f11 5 3) [(.v 13), (.k (.int .i64 (160)))]
(.prim 5 4 (opr Try.f11 5 4) [(.v 3), (.v 14)]
(.call false 46 [(.v 15)]
(.rq (.tup 0 (.v 16))
(.rq (.tup 1 (.v 16))
(.rq (.cells 8 (.proj (.v 16) 0))
(.join 1
 (.rq (.int .i64 (.proj (.v 16) 1))
 (.br (.op2 .eql .i64 (.proj (.v 16) 1) (.k (.int .i64 (0))))
  (.call false 47 [(.ag (.proj (.v 16) 0))]
  (.prim 7 6 (opr Try.f11 7 6) [(.v 17), (.v 15)]
  (.rq (.bool (.v 18))
  (.br (.v 18)
   (.next 0 [(.k (.bool true))])
   (.br (.op2 .neq .i64 (.proj (.v 16) 1) (.k (.int .i64 (0))))
    (.br (.op2 .neq .i64 (.proj (.v 16) 1) (.k (.int .i64 (5))))
     (.next 0 [(.op2 .neq .i64 (.proj (.v 16) 1) (.k (.int .i64 (6))))])
     (.next 0 [(.k (.bool false))]))
    (.next 0 [(.k (.bool false))]))))))
  (.br (.op2 .neq .i64 (.proj (.v 16) 1) (.k (.int .i64 (0))))
   (.br (.op2 .neq .i64 (.proj (.v 16) 1) (.k (.int .i64 (5))))
    (.next 0 [(.op2 .neq .i64 (.proj (.v 16) 1) (.k (.int .i64 (6))))])
    (.next 0 [(.k (.bool false))]))
   (.next 0 [(.k (.bool false))]))))
 (.rq (.isb false (.v 17))
 (.call true 37 [(.ag (.v 1)), (.k (.int .i64 (500)))]
 (.call true 37 [(.ag (.v 2)), (.k (.int .i64 (500)))]
 (.rq (.cells 8 (.v 18))
 (.rq (.cells 8 (.v 19))
 (.call false 28 [(.ag (.v 18)), (.ag (.v 19))]
 (.rq (.tup 0 (.v 20))
 (.rq (.tup 1 (.v 20))
 (.rq (.cells 8 (.proj (.v 20) 0))
 (.rq (.int .i64 (.v 4))
 (.rq (.int .i64 (.v 5))
 (.join 1
  (.br (.op2 .lss .i64 (.v 4) (.v 5))
   (.next 0 [(.k (.int .i64 (-1)))])
   (.br (.op2 .gtr .i64 (.v 4) (.v 5))
    (.next 0 [(.k (.int .i64 (1)))])
    (.next 0 [(.k (.int .i64 (0)))])))
  (.rq (.int .i64 (.proj (.v 20) 1))
  (.rq (.isb true (.op2 .eql .i64 (.proj (.v 20) 1) (.k (.int .i64 (0)))))
  (.call true 33 [(.ag (.v 18)), (.ag (.v 19))]
  (.call true 39 [(.ag (.proj (.v 20) 0))]
  (.rq (.int .i64 (.v 22))
  (.rq (.int .i64 (.v 23))
  (.rq (.isb true (.op2 .eql .i64 (.v 22) (.v 23)))
  (.prim 16 13 (opr Try.f11 16 13) [(.ag (.v 18)), (.ag (.v 19))]
  (.call true 39 [(.ag (.proj (.v 20) 0))]
  (.rq (.int .i64 (.v 25))
  (.rq (.bool (.v 24))
  (.rq (.isb true (.eqb false (.v 24) (.op2 .eql .i64 (.v 25) (.k (.int .i64 (0))))))
  (.call true 32 [(.v 4)]
  (.call true 32 [(.v 5)]
  (.call true 33 [(.v 26), (.v 27)]
  (.rq (.int .i64 (.v 28))
  (.rq (.int .i64 (.v 21))
  (.rq (.isb true (.op2 .eql .i64 (.v 28) (.v 21)))
  (.call true 48 [(.v 4)]
  (.call true 32 [(.v 4)]
  (.call true 41 [(.v 30)]
  (.rq (.tup 0 (.v 31))
  (.rq (.tup 1 (.v 31))
  (.eff true 16 36 (opr Try.f11 16 36) [(.v 29), (.proj (.v 31) 0), (.proj (.v 31) 1)]
  (.ret [(.v 32)]))))))))))))))))))))))))))))))))))))))))))))))))))))))))))))))) := by kernel_rfl
theorem np_WideBack : (Try.prog.funcs[11]?).map (fun fn => fn.params.size + fn.nfree) = some 6 := by kernel_rfl
theorem op_WideBack_3_7 : (opr Try.f11 3 7).op = .call ⟨.value (.tmp 23), #[(.tmp 27), (.tmp 28)], #[24, 35]⟩ := by kernel_rfl
theorem op_WideBack_3_12 : (opr Try.f11 3 12).op = .call ⟨.builtin .len, #[(.tmp 33)], #[9]⟩ := by kernel_rfl
theorem op_WideBack_5_2 : (opr Try.f11 5 2).op = .call ⟨.builtin .len, #[(.tmp 38)], #[9]⟩ := by kernel_rfl
theorem op_WideBack_5_3 : (opr Try.f11 5 3).op = .call ⟨.builtin .min, #[(.tmp 39), (.const (.int .i64 (160)))], #[3, 3]⟩ := by kernel_rfl
theorem op_WideBack_5_4 : (opr Try.f11 5 4).op = .slice 9 (.tmp 37) none (some (.tmp 40)) none := by kernel_rfl
theorem op_WideBack_7_6 : (opr Try.f11 7 6).op = .binOp .neq 9 (.tmp 51) (.tmp 52) 9 := by kernel_rfl
theorem op_WideBack_16_13 : (opr Try.f11 16 13).op = .binOp .eql 24 (.tmp 94) (.tmp 95) 24 := by kernel_rfl
theorem op_WideBack_16_36 : (opr Try.f11 16 36).op = .call ⟨.value (.tmp 113), #[(.tmp 117), (.tmp 118)], #[3, 35]⟩ := by kernel_rfl
end Go.Proofs.YtmndieeelnicpaaRR

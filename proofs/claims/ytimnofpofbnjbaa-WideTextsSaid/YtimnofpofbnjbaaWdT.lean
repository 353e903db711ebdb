/- MADE BY rxgen.py: the trees of package wide. -/
import Derived.Test.YtimnofpofbnjbaaRows
import Derived.Test.YtimnofpofbnjbaaRxH
import Derived.KernelRfl
namespace Go.Proofs.Ytimnofpofbnjbaa
open Go.RowKit Go.RX
theorem mixed : Try.prog.follows .mixedOrders = true := by kernel_rfl
theorem tr_zero : tree Try.prog [] [] [] [] 34 = some (.rq (.cells 8 (.v 0))
(.prim 1 2 (opr Try.f34 1 2) [(.ag (.v 0)), (.z 67)]
(.ret [(.v 1)]))) := by kernel_rfl
theorem np_zero : (Try.prog.funcs[34]?).map (fun fn => fn.params.size + fn.nfree) = some 1 := by kernel_rfl
theorem op_zero_1_2 : (opr Try.f34 1 2).op = .binOp .eql 67 (.tmp 3) (.tmp 4) 67 := by kernel_rfl
theorem tr_plus : tree Try.prog [] [] [⟨0, 3, [], [0]⟩] [⟨5, [0, 0, 2, 6, 0, 16, 48, 0, 254, 510, 1022, 1022, 2047, 6143, 16383], [0, 0, 1, 1, 0, 1, 1, 0, 2, 0, 0, 0, 1, 4, 0], [0, 0, 0, 0, 0, 0, 0, 0, 0, 0, 0, 0, 0, 0, 0], [0, 1, 2, 3, 4, 5, 6, 7, 8, 9, 10, 11, 12], [13, 14]⟩] 40 = some (.rq (.cells 8 (.v 0))
(.rq (.cells 8 (.v 1))
(.loop [(.k (.int .u64 (0))), (.k (.int .i64 (0))), (.v 0)]
 (.rq (.int .i64 (.v 3))
 (.br (.op2 .lss .i64 (.v 3) (.k (.int .i64 (8))))
  (.rq (.num (.v 3))
  (.rq (.lt 8 (.v 3))
  (.ext 73 [(.cell (.v 4) 0 1 (.v 3)), (.cell (.v 1) 0 1 (.v 3)), (.v 2)]
  (.rq (.tup 0 (.v 5))
  (.rq (.tup 1 (.v 5))
  (.rq (.cells 1 (.proj (.v 5) 0))
  (.next 0 [(.proj (.v 5) 1), (.op2 .add .i64 (.v 3) (.k (.int .i64 (1)))), (.put (.v 4) 0 1 (.proj (.v 5) 0) 1 (.v 3))])))))))
  (.ret [(.ag (.v 4)), (.v 2)])))))) := by kernel_rfl
theorem np_plus : (Try.prog.funcs[40]?).map (fun fn => fn.params.size + fn.nfree) = some 2 := by kernel_rfl
theorem tr_minus : tree Try.prog [] [] [⟨0, 3, [], [0]⟩] [⟨5, [0, 0, 2, 6, 0, 16, 48, 0, 254, 510, 1022, 1022, 2047, 6143, 16383], [0, 0, 1, 1, 0, 1, 1, 0, 2, 0, 0, 0, 1, 4, 0], [0, 0, 0, 0, 0, 0, 0, 0, 0, 0, 0, 0, 0, 0, 0], [0, 1, 2, 3, 4, 5, 6, 7, 8, 9, 10, 11, 12], [13, 14]⟩] 54 = some (.rq (.cells 8 (.v 0))
(.rq (.cells 8 (.v 1))
(.loop [(.k (.int .u64 (0))), (.k (.int .i64 (0))), (.v 0)]
 (.rq (.int .i64 (.v 3))
 (.br (.op2 .lss .i64 (.v 3) (.k (.int .i64 (8))))
  (.rq (.num (.v 3))
  (.rq (.lt 8 (.v 3))
  (.ext 80 [(.cell (.v 4) 0 1 (.v 3)), (.cell (.v 1) 0 1 (.v 3)), (.v 2)]
  (.rq (.tup 0 (.v 5))
  (.rq (.tup 1 (.v 5))
  (.rq (.cells 1 (.proj (.v 5) 0))
  (.next 0 [(.proj (.v 5) 1), (.op2 .add .i64 (.v 3) (.k (.int .i64 (1)))), (.put (.v 4) 0 1 (.proj (.v 5) 0) 1 (.v 3))])))))))
  (.ret [(.ag (.v 4)), (.v 2)])))))) := by kernel_rfl
theorem np_minus : (Try.prog.funcs[54]?).map (fun fn => fn.params.size + fn.nfree) = some 2 := by kernel_rfl
theorem tr_order : tree Try.prog [] [] [⟨0, 2, [], []⟩] [⟨4, [0, 1, 3, 0, 8, 24, 63], [0, 1, 1, 0, 1, 1, 0], [0, 0, 0, 0, 0, 0, 0], [0, 1, 2, 3, 4, 5, 6], []⟩, ⟨5, [0, 1, 3, 0, 8, 24, 63], [0, 1, 1, 0, 1, 1, 0], [0, 0, 0, 0, 0, 0, 0], [0, 1, 2, 3, 4, 5, 6], []⟩] 74 = some (.rq (.cells 8 (.v 0))
(.rq (.cells 8 (.v 1))
(.loop [(.k (.int .i64 (0))), (.k (.int .i64 (7)))]
 (.rq (.int .i64 (.v 3))
 (.br (.op2 .geq .i64 (.v 3) (.k (.int .i64 (0))))
  (.rq (.num (.v 3))
  (.rq (.lt 8 (.v 3))
  (.rq (.int .u64 (.cell (.v 0) 0 1 (.v 3)))
  (.rq (.int .u64 (.cell (.v 1) 0 1 (.v 3)))
  (.br (.op2 .neq .u64 (.cell (.v 0) 0 1 (.v 3)) (.cell (.v 1) 0 1 (.v 3)))
   (.br (.op2 .lss .u64 (.cell (.v 0) 0 1 (.v 3)) (.cell (.v 1) 0 1 (.v 3)))
    (.ret [(.k (.int .i64 (-1)))])
    (.ret [(.k (.int .i64 (1)))]))
   (.next 0 [(.v 2), (.op2 .sub .i64 (.v 3) (.k (.int .i64 (1))))]))))))
  (.ret [(.k (.int .i64 (0)))])))))) := by kernel_rfl
theorem np_order : (Try.prog.funcs[74]?).map (fun fn => fn.params.size + fn.nfree) = some 2 := by kernel_rfl
theorem tr_bits : tree Try.prog [] [] [⟨0, 2, [], []⟩] [] 78 = some (.rq (.cells 8 (.v 0))
(.loop [(.k (.int .i64 (0))), (.k (.int .i64 (7)))]
 (.rq (.int .i64 (.v 2))
 (.br (.op2 .geq .i64 (.v 2) (.k (.int .i64 (0))))
  (.rq (.num (.v 2))
  (.rq (.lt 8 (.v 2))
  (.rq (.int .u64 (.cell (.v 0) 0 1 (.v 2)))
  (.br (.op2 .neq .u64 (.cell (.v 0) 0 1 (.v 2)) (.k (.int .u64 (0))))
   (.call false 90 [(.cell (.v 0) 0 1 (.v 2))]
   (.rq (.int .i64 (.v 3))
   (.ret [(.op2 .add .i64 (.op2 .mul .i64 (.k (.int .i64 (64))) (.v 2)) (.v 3))])))
   (.next 0 [(.v 1), (.op2 .sub .i64 (.v 2) (.k (.int .i64 (1))))])))))
  (.ret [(.k (.int .i64 (0)))]))))) := by kernel_rfl
theorem np_bits : (Try.prog.funcs[78]?).map (fun fn => fn.params.size + fn.nfree) = some 1 := by kernel_rfl
theorem tr_shifted : tree Try.prog [] [] [⟨0, 3, [], [2]⟩] [⟨8, [0, 1, 3, 0, 8, 24, 0, 64, 192, 504, 1023, 2047, 4095], [0, 1, 1, 0, 1, 1, 0, 0, 0, 0, 0, 1, 4], [0, 0, 0, 0, 0, 0, 0, 0, 0, 0, 0, 0, 0], [0, 1, 2, 3, 4, 5, 6, 7, 8, 9, 10, 11], [12]⟩] 79 = some (.rq (.cells 8 (.v 0))
(.rq (.int .i64 (.v 1))
(.loop [(.op2 .quo .i64 (.v 1) (.k (.int .i64 (64)))), (.z 67)]
 (.rq (.int .i64 (.v 2))
 (.br (.op2 .lss .i64 (.v 2) (.k (.int .i64 (8))))
  (.rq (.lt 8 (.op2 .sub .i64 (.v 2) (.op2 .quo .i64 (.v 1) (.k (.int .i64 (64))))))
  (.rq (.int .u64 (.cell (.v 0) 0 1 (.op2 .sub .i64 (.v 2) (.op2 .quo .i64 (.v 1) (.k (.int .i64 (64)))))))
  (.rq (.nn (.op2 .rem .i64 (.v 1) (.k (.int .i64 (64)))))
  (.rq (.num (.v 2))
  (.rq (.lt 8 (.v 2))
  (.br (.op2 .geq .i64 (.op2 .sub .i64 (.op2 .sub .i64 (.v 2) (.op2 .quo .i64 (.v 1) (.k (.int .i64 (64))))) (.k (.int .i64 (1)))) (.k (.int .i64 (0))))
   (.br (.op2 .gtr .i64 (.op2 .rem .i64 (.v 1) (.k (.int .i64 (64)))) (.k (.int .i64 (0))))
    (.rq (.lt 8 (.op2 .sub .i64 (.op2 .sub .i64 (.v 2) (.op2 .quo .i64 (.v 1) (.k (.int .i64 (64))))) (.k (.int .i64 (1)))))
    (.rq (.int .u64 (.cell (.v 0) 0 1 (.op2 .sub .i64 (.op2 .sub .i64 (.v 2) (.op2 .quo .i64 (.v 1) (.k (.int .i64 (64))))) (.k (.int .i64 (1))))))
    (.rq (.nn (.op2 .sub .i64 (.k (.int .i64 (64))) (.op2 .rem .i64 (.v 1) (.k (.int .i64 (64))))))
    (.rq (.int .u64 (.cell (.put (.v 3) 0 1 (.op2 .shl .u64 (.cell (.v 0) 0 1 (.op2 .sub .i64 (.v 2) (.op2 .quo .i64 (.v 1) (.k (.int .i64 (64)))))) (.op2 .rem .i64 (.v 1) (.k (.int .i64 (64))))) 1 (.v 2)) 0 1 (.v 2)))
    (.next 0 [(.op2 .add .i64 (.v 2) (.k (.int .i64 (1)))), (.put (.put (.v 3) 0 1 (.op2 .shl .u64 (.cell (.v 0) 0 1 (.op2 .sub .i64 (.v 2) (.op2 .quo .i64 (.v 1) (.k (.int .i64 (64)))))) (.op2 .rem .i64 (.v 1) (.k (.int .i64 (64))))) 1 (.v 2)) 0 1 (.op2 .or .u64 (.cell (.put (.v 3) 0 1 (.op2 .shl .u64 (.cell (.v 0) 0 1 (.op2 .sub .i64 (.v 2) (.op2 .quo .i64 (.v 1) (.k (.int .i64 (64)))))) (.op2 .rem .i64 (.v 1) (.k (.int .i64 (64))))) 1 (.v 2)) 0 1 (.v 2)) (.op2 .shr .u64 (.cell (.v 0) 0 1 (.op2 .sub .i64 (.op2 .sub .i64 (.v 2) (.op2 .quo .i64 (.v 1) (.k (.int .i64 (64))))) (.k (.int .i64 (1))))) (.op2 .sub .i64 (.k (.int .i64 (64))) (.op2 .rem .i64 (.v 1) (.k (.int .i64 (64))))))) 1 (.v 2))])))))
    (.next 0 [(.op2 .add .i64 (.v 2) (.k (.int .i64 (1)))), (.put (.v 3) 0 1 (.op2 .shl .u64 (.cell (.v 0) 0 1 (.op2 .sub .i64 (.v 2) (.op2 .quo .i64 (.v 1) (.k (.int .i64 (64)))))) (.op2 .rem .i64 (.v 1) (.k (.int .i64 (64))))) 1 (.v 2))]))
   (.next 0 [(.op2 .add .i64 (.v 2) (.k (.int .i64 (1)))), (.put (.v 3) 0 1 (.op2 .shl .u64 (.cell (.v 0) 0 1 (.op2 .sub .i64 (.v 2) (.op2 .quo .i64 (.v 1) (.k (.int .i64 (64)))))) (.op2 .rem .i64 (.v 1) (.k (.int .i64 (64))))) 1 (.v 2))])))))))
  (.ret [(.ag (.v 3))])))))) := by kernel_rfl
theorem np_shifted : (Try.prog.funcs[79]?).map (fun fn => fn.params.size + fn.nfree) = some 2 := by kernel_rfl
theorem tr_short : tree Try.prog [] [] [⟨0, 3, [], [0]⟩] [] 35 = some (.rq (.cells 8 (.v 0))
(.loop [(.k (.int .u64 (0))), (.k (.int .i64 (7))), (.v 0)]
 (.rq (.int .i64 (.v 3))
 (.br (.op2 .geq .i64 (.v 3) (.k (.int .i64 (0))))
  (.rq (.num (.v 3))
  (.rq (.lt 8 (.v 3))
  (.call false 68 [(.v 2), (.cell (.v 4) 0 1 (.v 3)), (.v 1)]
  (.rq (.tup 0 (.v 5))
  (.rq (.tup 1 (.v 5))
  (.rq (.cells 1 (.proj (.v 5) 0))
  (.next 0 [(.proj (.v 5) 1), (.op2 .sub .i64 (.v 3) (.k (.int .i64 (1)))), (.put (.v 4) 0 1 (.proj (.v 5) 0) 1 (.v 3))])))))))
  (.ret [(.ag (.v 4)), (.v 2)]))))) := by kernel_rfl
theorem np_short : (Try.prog.funcs[35]?).map (fun fn => fn.params.size + fn.nfree) = some 2 := by kernel_rfl
theorem tr_over : tree Try.prog [] [] [⟨0, 6, [], [2, 3]⟩] [⟨5, [0, 1, 0, 7, 15, 31], [5, 2, 5, 2, 0, 0], [0, 0, 1, 0, 0, 0], [0, 2, 1, 3, 4, 5], []⟩, ⟨11, [0, 1, 3, 7, 0, 16, 48, 127, 255, 511], [0, 0, 1, 1, 0, 0, 0, 0, 1, 4], [0, 0, 0, 0, 0, 0, 0, 0, 0, 0], [0, 1, 2, 3, 4, 5, 6, 7, 8], [9]⟩, ⟨12, [0, 0, 1, 7], [5, 5, 6, 6], [2, 3, 2, 3], [0, 1], [2, 3]⟩] 53 = some (.rq (.cells 8 (.v 0))
(.rq (.cells 8 (.v 1))
(.call false 78 [(.ag (.v 1))]
(.rq (.int .i64 (.v 2))
(.br (.op2 .leq .i64 (.v 2) (.k (.int .i64 (64))))
 (.call false 35 [(.ag (.v 0)), (.cell (.v 1) 0 0 noI)]
 (.rq (.tup 0 (.v 3))
 (.rq (.tup 1 (.v 3))
 (.rq (.cells 8 (.proj (.v 3) 0))
 (.rq (.cells 1 (.proj (.v 3) 1))
 (.ret [(.ag (.proj (.v 3) 0)), (.put (.z 67) 0 1 (.proj (.v 3) 1) 0 noI)]))))))
 (.call true 78 [(.ag (.v 0))]
 (.call true 78 [(.ag (.v 1))]
 (.rq (.int .i64 (.v 3))
 (.rq (.int .i64 (.v 4))
 (.loop [(.op2 .sub .i64 (.v 3) (.v 4)), (.z 67), (.ag (.v 0))]
  (.rq (.int .i64 (.v 5))
  (.br (.op2 .geq .i64 (.v 5) (.k (.int .i64 (0))))
   (.call false 79 [(.ag (.v 1)), (.v 5)]
   (.rq (.cells 8 (.v 8))
   (.call false 74 [(.ag (.v 7)), (.ag (.v 8))]
   (.rq (.int .i64 (.v 9))
   (.br (.op2 .geq .i64 (.v 9) (.k (.int .i64 (0))))
    (.call false 54 [(.ag (.v 7)), (.ag (.v 8))]
    (.rq (.tup 0 (.v 10))
    (.rq (.tup 1 (.v 10))
    (.rq (.cells 8 (.proj (.v 10) 0))
    (.rq (.lt 8 (.op2 .quo .i64 (.v 5) (.k (.int .i64 (64)))))
    (.rq (.nn (.op2 .rem .i64 (.v 5) (.k (.int .i64 (64)))))
    (.rq (.int .u64 (.cell (.v 6) 0 1 (.op2 .quo .i64 (.v 5) (.k (.int .i64 (64))))))
    (.next 0 [(.op2 .sub .i64 (.v 5) (.k (.int .i64 (1)))), (.put (.v 6) 0 1 (.op2 .or .u64 (.cell (.v 6) 0 1 (.op2 .quo .i64 (.v 5) (.k (.int .i64 (64))))) (.op2 .shl .u64 (.k (.int .u64 (1))) (.op2 .rem .i64 (.v 5) (.k (.int .i64 (64)))))) 1 (.op2 .quo .i64 (.v 5) (.k (.int .i64 (64))))), (.proj (.v 10) 0)]))))))))
    (.next 0 [(.op2 .sub .i64 (.v 5) (.k (.int .i64 (1)))), (.v 6), (.v 7)]))))))
   (.ret [(.ag (.v 6)), (.ag (.v 7))]))))))))))))) := by kernel_rfl
theorem np_over : (Try.prog.funcs[53]?).map (fun fn => fn.params.size + fn.nfree) = some 2 := by kernel_rfl
theorem tr_common : tree Try.prog [] [] [⟨0, 1, [], [0, 1]⟩] [⟨3, [0, 0, 1, 7], [5, 5, 6, 6], [1, 4, 0, 1], [0, 1], [2, 3]⟩] 56 = some (.rq (.cells 8 (.v 0))
(.rq (.cells 8 (.v 1))
(.loop [(.v 0), (.v 1)]
 (.call false 34 [(.ag (.v 3))]
 (.rq (.bool (.v 4))
 (.br (.nt (.v 4))
  (.call false 53 [(.ag (.v 2)), (.ag (.v 3))]
  (.rq (.tup 0 (.v 5))
  (.rq (.tup 1 (.v 5))
  (.rq (.cells 8 (.proj (.v 5) 0))
  (.rq (.cells 8 (.proj (.v 5) 1))
  (.next 0 [(.ag (.v 3)), (.ag (.proj (.v 5) 1))]))))))
  (.ret [(.ag (.v 2))]))))))) := by kernel_rfl
theorem np_common : (Try.prog.funcs[56]?).map (fun fn => fn.params.size + fn.nfree) = some 2 := by kernel_rfl
theorem tr_sroot : tree Try.prog [] [] [⟨0, 3, [], [2]⟩] [⟨6, [0, 1, 3, 7, 0, 16, 48, 127, 255, 511], [0, 0, 1, 1, 0, 0, 0, 0, 1, 4], [0, 0, 0, 0, 0, 0, 0, 0, 0, 0], [0, 1, 2, 3, 4, 5, 6, 7, 8], [9]⟩] 57 = some (.rq (.cells 8 (.v 0))
(.call false 78 [(.ag (.v 0))]
(.rq (.int .i64 (.v 1))
(.loop [(.op2 .quo .i64 (.op2 .sub .i64 (.v 1) (.k (.int .i64 (1)))) (.k (.int .i64 (2)))), (.z 67)]
 (.rq (.int .i64 (.v 2))
 (.br (.op2 .geq .i64 (.v 2) (.k (.int .i64 (0))))
  (.rq (.lt 8 (.op2 .quo .i64 (.v 2) (.k (.int .i64 (64)))))
  (.rq (.nn (.op2 .rem .i64 (.v 2) (.k (.int .i64 (64)))))
  (.rq (.int .u64 (.cell (.ag (.v 3)) 0 1 (.op2 .quo .i64 (.v 2) (.k (.int .i64 (64))))))
  (.call false 39 [(.put (.ag (.v 3)) 0 1 (.op2 .or .u64 (.cell (.ag (.v 3)) 0 1 (.op2 .quo .i64 (.v 2) (.k (.int .i64 (64))))) (.op2 .shl .u64 (.k (.int .u64 (1))) (.op2 .rem .i64 (.v 2) (.k (.int .i64 (64)))))) 1 (.op2 .quo .i64 (.v 2) (.k (.int .i64 (64))))), (.put (.ag (.v 3)) 0 1 (.op2 .or .u64 (.cell (.ag (.v 3)) 0 1 (.op2 .quo .i64 (.v 2) (.k (.int .i64 (64))))) (.op2 .shl .u64 (.k (.int .u64 (1))) (.op2 .rem .i64 (.v 2) (.k (.int .i64 (64)))))) 1 (.op2 .quo .i64 (.v 2) (.k (.int .i64 (64)))))]
  (.rq (.tup 0 (.v 4))
  (.rq (.tup 1 (.v 4))
  (.rq (.cells 8 (.proj (.v 4) 0))
  (.rq (.int .u64 (.proj (.v 4) 1))
  (.br (.op2 .eql .u64 (.proj (.v 4) 1) (.k (.int .u64 (0))))
   (.call false 74 [(.ag (.proj (.v 4) 0)), (.ag (.v 0))]
   (.rq (.int .i64 (.v 5))
   (.br (.op2 .leq .i64 (.v 5) (.k (.int .i64 (0))))
    (.next 0 [(.op2 .sub .i64 (.v 2) (.k (.int .i64 (1)))), (.put (.ag (.v 3)) 0 1 (.op2 .or .u64 (.cell (.ag (.v 3)) 0 1 (.op2 .quo .i64 (.v 2) (.k (.int .i64 (64))))) (.op2 .shl .u64 (.k (.int .u64 (1))) (.op2 .rem .i64 (.v 2) (.k (.int .i64 (64)))))) 1 (.op2 .quo .i64 (.v 2) (.k (.int .i64 (64)))))])
    (.next 0 [(.op2 .sub .i64 (.v 2) (.k (.int .i64 (1)))), (.v 3)]))))
   (.next 0 [(.op2 .sub .i64 (.v 2) (.k (.int .i64 (1)))), (.v 3)]))))))))))
  (.ret [(.ag (.v 3))]))))))) := by kernel_rfl
theorem np_sroot : (Try.prog.funcs[57]?).map (fun fn => fn.params.size + fn.nfree) = some 1 := by kernel_rfl
theorem tr_read : tree Try.prog [] [] [] [] 33 = some (.rq (.cells 8 (.v 0))
(.rq (.int .u64 (.cell (.v 0) 7 0 noI))
(.br (.op2 .eql .u64 (.op2 .shr .u64 (.cell (.v 0) 7 0 noI) (.k (.int .u64 (63)))) (.k (.int .u64 (1))))
 (.call false 54 [(.z 67), (.ag (.v 0))]
 (.rq (.tup 0 (.v 1))
 (.rq (.tup 1 (.v 1))
 (.rq (.cells 8 (.proj (.v 1) 0))
 (.ret [(.cat (.op2 .eql .u64 (.op2 .shr .u64 (.cell (.v 0) 7 0 noI) (.k (.int .u64 (63)))) (.k (.int .u64 (1)))) 1 (.proj (.v 1) 0))])))))
 (.ret [(.cat (.op2 .eql .u64 (.op2 .shr .u64 (.cell (.v 0) 7 0 noI) (.k (.int .u64 (63)))) (.k (.int .u64 (1)))) 1 (.ag (.v 0)))])))) := by kernel_rfl
theorem np_read : (Try.prog.funcs[33]?).map (fun fn => fn.params.size + fn.nfree) = some 1 := by kernel_rfl
theorem tr_told : tree Try.prog [] [] [] [] 42 = some (.rq (.cells 9 (.v 0))
(.call false 74 [(.sub (.v 0) 1 8 0 noI), (.put (.z 67) 7 1 (.k (.int .u64 (9223372036854775808))) 0 noI)]
(.rq (.int .i64 (.v 1))
(.br (.op2 .gtr .i64 (.v 1) (.k (.int .i64 (0))))
 (.ret [(.z 24), (.k (.int .i64 (6)))])
 (.br (.op2 .eql .i64 (.v 1) (.k (.int .i64 (0))))
  (.rq (.bool (.cell (.v 0) 0 0 noI))
  (.br (.nt (.cell (.v 0) 0 0 noI))
   (.ret [(.z 24), (.k (.int .i64 (6)))])
   (.call false 54 [(.z 67), (.sub (.v 0) 1 8 0 noI)]
   (.rq (.tup 0 (.v 2))
   (.rq (.tup 1 (.v 2))
   (.rq (.cells 8 (.proj (.v 2) 0))
   (.ret [(.ag (.proj (.v 2) 0)), (.k (.int .i64 (0)))])))))))
  (.rq (.bool (.cell (.v 0) 0 0 noI))
  (.br (.cell (.v 0) 0 0 noI)
   (.call false 54 [(.z 67), (.sub (.v 0) 1 8 0 noI)]
   (.rq (.tup 0 (.v 2))
   (.rq (.tup 1 (.v 2))
   (.rq (.cells 8 (.proj (.v 2) 0))
   (.ret [(.ag (.proj (.v 2) 0)), (.k (.int .i64 (0)))])))))
   (.ret [(.sub (.v 0) 1 8 0 noI), (.k (.int .i64 (0)))])))))))) := by kernel_rfl
theorem np_told : (Try.prog.funcs[42]?).map (fun fn => fn.params.size + fn.nfree) = some 1 := by kernel_rfl
theorem tr_of : tree Try.prog [] [] [] [⟨1, [0, 1, 3, 7, 15, 31, 0, 127, 255], [0, 0, 5, 2, 0, 0, 5, 0, 6], [0, 0, 0, 0, 0, 0, 0, 0, 1], [0, 1, 2, 6, 3, 4, 5, 7], [8]⟩] 41 = some (.rq (.cells 8 (.v 1))
(.rq (.bool (.v 0))
(.br (.v 0)
 (.call true 34 [(.ag (.v 1))]
 (.rq (.bool (.v 2))
 (.ret [(.cat (.nt (.v 2)) 1 (.ag (.v 1)))])))
 (.ret [(.cat (.k (.bool false)) 1 (.ag (.v 1)))])))) := by kernel_rfl
theorem np_of : (Try.prog.funcs[41]?).map (fun fn => fn.params.size + fn.nfree) = some 2 := by kernel_rfl
theorem tr_sum : tree Try.prog [] [] [] [] 87 = some (.rq (.cells 9 (.v 0))
(.rq (.cells 9 (.v 1))
(.rq (.bool (.cell (.v 0) 0 0 noI))
(.rq (.bool (.cell (.v 1) 0 0 noI))
(.br (.eqb false (.cell (.v 0) 0 0 noI) (.cell (.v 1) 0 0 noI))
 (.call false 40 [(.sub (.v 0) 1 8 0 noI), (.sub (.v 1) 1 8 0 noI)]
 (.rq (.tup 0 (.v 2))
 (.rq (.tup 1 (.v 2))
 (.rq (.cells 8 (.proj (.v 2) 0))
 (.call false 41 [(.cell (.v 0) 0 0 noI), (.ag (.proj (.v 2) 0))]
 (.rq (.int .u64 (.proj (.v 2) 1))
 (.rq (.cells 9 (.v 3))
 (.ret [(.ag (.v 3)), (.op2 .gtr .u64 (.proj (.v 2) 1) (.k (.int .u64 (0))))]))))))))
 (.call false 74 [(.sub (.v 0) 1 8 0 noI), (.sub (.v 1) 1 8 0 noI)]
 (.rq (.int .i64 (.v 2))
 (.br (.op2 .geq .i64 (.v 2) (.k (.int .i64 (0))))
  (.call false 54 [(.sub (.v 0) 1 8 0 noI), (.sub (.v 1) 1 8 0 noI)]
  (.rq (.tup 0 (.v 3))
  (.rq (.tup 1 (.v 3))
  (.rq (.cells 8 (.proj (.v 3) 0))
  (.call false 41 [(.cell (.v 0) 0 0 noI), (.ag (.proj (.v 3) 0))]
  (.rq (.cells 9 (.v 4))
  (.ret [(.ag (.v 4)), (.k (.bool false))])))))))
  (.call false 54 [(.sub (.v 1) 1 8 0 noI), (.sub (.v 0) 1 8 0 noI)]
  (.rq (.tup 0 (.v 3))
  (.rq (.tup 1 (.v 3))
  (.rq (.cells 8 (.proj (.v 3) 0))
  (.call false 41 [(.cell (.v 1) 0 0 noI), (.ag (.proj (.v 3) 0))]
  (.rq (.cells 9 (.v 4))
  (.ret [(.ag (.v 4)), (.k (.bool false))]))))))))))))))) := by kernel_rfl
theorem np_sum : (Try.prog.funcs[87]?).map (fun fn => fn.params.size + fn.nfree) = some 2 := by kernel_rfl
theorem tr_turned : tree Try.prog [] [] [] [] 50 = some (.rq (.cells 9 (.v 0))
(.rq (.bool (.cell (.v 0) 0 0 noI))
(.call false 41 [(.nt (.cell (.v 0) 0 0 noI)), (.sub (.v 0) 1 8 0 noI)]
(.rq (.cells 9 (.v 1))
(.ret [(.ag (.v 1))]))))) := by kernel_rfl
theorem np_turned : (Try.prog.funcs[50]?).map (fun fn => fn.params.size + fn.nfree) = some 1 := by kernel_rfl
theorem tr_diff : tree Try.prog [] [] [] [⟨1, [0, 0, 2, 7, 15, 15, 63, 127], [5, 5, 2, 2, 0, 0, 6, 0], [0, 1, 0, 0, 0, 0, 2, 0], [0, 1, 2, 3, 4, 5], [6, 7]⟩] 88 = some (.rq (.cells 9 (.v 0))
(.rq (.cells 9 (.v 1))
(.call true 50 [(.ag (.v 1))]
(.call true 87 [(.ag (.v 0)), (.v 2)]
(.rq (.tup 0 (.v 3))
(.rq (.tup 1 (.v 3))
(.rq (.cells 9 (.proj (.v 3) 0))
(.ret [(.ag (.proj (.v 3) 0)), (.proj (.v 3) 1)])))))))) := by kernel_rfl
theorem np_diff : (Try.prog.funcs[88]?).map (fun fn => fn.params.size + fn.nfree) = some 2 := by kernel_rfl
theorem tr_prod : tree Try.prog [] [] [] [] 89 = some (.rq (.cells 9 (.v 0))
(.rq (.cells 9 (.v 1))
(.call false 39 [(.sub (.v 0) 1 8 0 noI), (.sub (.v 1) 1 8 0 noI)]
(.rq (.tup 0 (.v 2))
(.rq (.tup 1 (.v 2))
(.rq (.cells 8 (.proj (.v 2) 0))
(.rq (.bool (.cell (.v 0) 0 0 noI))
(.rq (.bool (.cell (.v 1) 0 0 noI))
(.call false 41 [(.eqb true (.cell (.v 0) 0 0 noI) (.cell (.v 1) 0 0 noI)), (.ag (.proj (.v 2) 0))]
(.rq (.int .u64 (.proj (.v 2) 1))
(.rq (.cells 9 (.v 3))
(.ret [(.ag (.v 3)), (.op2 .gtr .u64 (.proj (.v 2) 1) (.k (.int .u64 (0))))])))))))))))) := by kernel_rfl
theorem np_prod : (Try.prog.funcs[89]?).map (fun fn => fn.params.size + fn.nfree) = some 2 := by kernel_rfl
theorem tr_oper : tree Try.prog [] [] [] [] 77 = some (.eff false 1 0 (opr Try.f77 1 0) []
(.eff false 1 1 (opr Try.f77 1 1) [(.v 0), (.k (.int .u8 (43))), (.k (.func (.func 87) #[] #[]))]
(.eff false 1 2 (opr Try.f77 1 2) [(.v 0), (.k (.int .u8 (45))), (.k (.func (.func 88) #[] #[]))]
(.eff false 1 3 (opr Try.f77 1 3) [(.v 0), (.k (.int .u8 (42))), (.k (.func (.func 89) #[] #[]))]
(.ret [(.v 0)]))))) := by kernel_rfl
theorem np_oper : (Try.prog.funcs[77]?).map (fun fn => fn.params.size + fn.nfree) = some 0 := by kernel_rfl
theorem op_oper_1_0 : (opr Try.f77 1 0).op = .makeMap 116 none := by kernel_rfl
theorem op_oper_1_1 : (opr Try.f77 1 1).op = .insert 116 (.tmp 1) (.const (.int .u8 (43))) (.func 87) := by kernel_rfl
theorem op_oper_1_2 : (opr Try.f77 1 2).op = .insert 116 (.tmp 1) (.const (.int .u8 (45))) (.func 88) := by kernel_rfl
theorem op_oper_1_3 : (opr Try.f77 1 3).op = .insert 116 (.tmp 1) (.const (.int .u8 (42))) (.func 89) := by kernel_rfl
theorem tr_both : tree Try.prog [] [] [] [⟨1, [0, 0, 3, 0, 9, 0, 57, 127, 255, 511, 511, 0, 3071, 8191], [2, 0, 1, 5, 2, 5, 2, 2, 0, 0, 0, 3, 4, 0], [0, 0, 0, 0, 0, 1, 0, 0, 0, 0, 0, 0, 0, 0], [1, 3, 5, 0, 2, 4, 6, 7, 8, 9, 10, 11], [12, 13]⟩] 49 = some (.rq (.cells 8 (.v 0))
(.rq (.cells 8 (.v 1))
(.call true 77 []
(.prim 1 2 (opr Try.f49 1 2) [(.v 3), (.v 2)]
(.call true 33 [(.ag (.v 0))]
(.call true 33 [(.ag (.v 1))]
(.eff true 1 7 (opr Try.f49 1 7) [(.v 4), (.v 5), (.v 6)]
(.rq (.tup 0 (.v 7))
(.rq (.tup 1 (.v 7))
(.rq (.cells 9 (.proj (.v 7) 0))
(.rq (.bool (.proj (.v 7) 1))
(.br (.proj (.v 7) 1)
 (.ret [(.z 24), (.k (.int .i64 (6)))])
 (.call false 42 [(.ag (.proj (.v 7) 0))]
 (.rq (.tup 0 (.v 8))
 (.rq (.tup 1 (.v 8))
 (.rq (.cells 8 (.proj (.v 8) 0))
 (.ret [(.ag (.proj (.v 8) 0)), (.proj (.v 8) 1)]))))))))))))))))) := by kernel_rfl
theorem np_both : (Try.prog.funcs[49]?).map (fun fn => fn.params.size + fn.nfree) = some 3 := by kernel_rfl
theorem op_both_1_2 : (opr Try.f49 1 2).op = .lookup 116 (.tmp 11) (.tmp 12) false := by kernel_rfl
theorem op_both_1_7 : (opr Try.f49 1 7).op = .call ⟨.value (.tmp 13), #[(.tmp 15), (.tmp 17)], #[69, 69]⟩ := by kernel_rfl
theorem tr_times : tree Try.prog [6] [] [⟨0, 4, [], []⟩, ⟨0, 7, [], []⟩, ⟨0, 15, [], []⟩] [] 39 = some (.rq (.cells 8 (.v 0))
(.rq (.cells 8 (.v 1))
(.pub 108 (.z 108)
(.eff false 2 0 (opr Try.f39 2 0) [(.v 2)]
(.loop [(.k (.int .i64 (0)))]
 (.rq (.int .i64 (.v 4))
 (.br (.op2 .lss .i64 (.v 4) (.k (.int .i64 (8))))
  (.rq (.num (.v 4))
  (.rq (.lt 8 (.v 4))
  (.loop [(.k (.int .i64 (0)))]
   (.rq (.int .i64 (.v 5))
   (.br (.op2 .lss .i64 (.v 5) (.k (.int .i64 (8))))
    (.rq (.num (.v 5))
    (.rq (.lt 8 (.v 5))
    (.rq (.int .u64 (.cell (.ag (.v 0)) 0 1 (.v 4)))
    (.br (.op2 .neq .u64 (.cell (.ag (.v 0)) 0 1 (.v 4)) (.k (.int .u64 (0))))
     (.rq (.int .u64 (.cell (.ag (.v 1)) 0 1 (.v 5)))
     (.br (.op2 .neq .u64 (.cell (.ag (.v 1)) 0 1 (.v 5)) (.k (.int .u64 (0))))
      (.eff false 10 6 (opr Try.f39 10 6) [(.v 3), (.cell (.ag (.v 0)) 0 1 (.v 4)), (.cell (.ag (.v 1)) 0 1 (.v 5)), (.op2 .add .i64 (.v 4) (.v 5))]
      (.next 1 [(.op2 .add .i64 (.v 5) (.k (.int .i64 (1))))]))
      (.next 1 [(.op2 .add .i64 (.v 5) (.k (.int .i64 (1))))])))
     (.next 1 [(.op2 .add .i64 (.v 5) (.k (.int .i64 (1))))])))))
    (.next 0 [(.op2 .add .i64 (.v 4) (.k (.int .i64 (1))))]))))))
  (.prim 14 0 (opr Try.f39 14 0) [(.v 2), (.k (.int .i64 (8)))]
  (.prim 14 1 (opr Try.f39 14 1) [(.v 5)]
  (.loop [(.k (.int .u64 (0))), (.k (.int .i64 (0)))]
   (.rq (.int .i64 (.v 8))
   (.rq (.int .i64 (.v 6))
   (.br (.op2 .lss .i64 (.v 8) (.v 6))
    (.prim 16 0 (opr Try.f39 16 0) [(.v 5), (.v 8)]
    (.prim 16 1 (opr Try.f39 16 1) [(.v 9)]
    (.rq (.int .u64 (.v 7))
    (.rq (.int .u64 (.v 10))
    (.next 1 [(.op2 .or .u64 (.v 7) (.v 10)), (.op2 .add .i64 (.v 8) (.k (.int .i64 (1))))])))))
    (.prim 19 0 (opr Try.f39 19 0) [(.v 2), (.k (.int .i64 (8)))]
    (.prim 19 1 (opr Try.f39 19 1) [(.v 9)]
    (.prim 19 2 (opr Try.f39 19 2) [(.v 10)]
    (.rq (.cells 8 (.v 11))
    (.ret [(.ag (.v 11)), (.v 7)])))))))))))))))))) := by kernel_rfl
theorem np_times : (Try.prog.funcs[39]?).map (fun fn => fn.params.size + fn.nfree) = some 2 := by kernel_rfl
theorem op_times_2_0 : (opr Try.f39 2 0).op = .makeFunc (.func 71) #[] #[(.tmp 6)] := by kernel_rfl
theorem op_times_10_6 : (opr Try.f39 10 6).op = .call ⟨.value (.tmp 32), #[(.tmp 33), (.tmp 34), (.tmp 37)], #[22, 22, 3]⟩ := by kernel_rfl
theorem op_times_14_0 : (opr Try.f39 14 0).op = .slice 108 (.tmp 6) (some (.const (.int .i64 (8)))) none none := by kernel_rfl
theorem op_times_14_1 : (opr Try.f39 14 1).op = .call ⟨.builtin .len, #[(.tmp 41)], #[111]⟩ := by kernel_rfl
theorem op_times_16_0 : (opr Try.f39 16 0).op = .indexAddr 111 (.tmp 41) (.tmp 43) := by kernel_rfl
theorem op_times_16_1 : (opr Try.f39 16 1).op = .load 22 (.tmp 45) := by kernel_rfl
theorem op_times_19_0 : (opr Try.f39 19 0).op = .slice 108 (.tmp 6) none (some (.const (.int .i64 (8)))) none := by kernel_rfl
theorem op_times_19_1 : (opr Try.f39 19 1).op = .sliceToArrayPointer 67 (.tmp 51) := by kernel_rfl
theorem op_times_19_2 : (opr Try.f39 19 2).op = .load 67 (.tmp 52) := by kernel_rfl
theorem tr_times1 : tree Try.prog [] [] [⟨0, 5, [], []⟩] [] 71 = some (.call false 72 [(.v 0), (.v 1)]
(.rq (.tup 0 (.v 4))
(.rq (.tup 1 (.v 4))
(.prim 1 1 (opr Try.f71 1 1) [(.v 3), (.v 2)]
(.prim 1 2 (opr Try.f71 1 2) [(.v 5)]
(.ext 73 [(.v 6), (.proj (.v 4) 1), (.k (.int .u64 (0)))]
(.rq (.tup 0 (.v 7))
(.rq (.tup 1 (.v 7))
(.prim 2 2 (opr Try.f71 2 2) [(.v 3), (.v 2)]
(.eff false 2 3 (opr Try.f71 2 3) [(.v 8), (.proj (.v 7) 0)]
(.rq (.int .i64 (.v 2))
(.prim 3 4 (opr Try.f71 3 4) [(.v 3), (.op2 .add .i64 (.v 2) (.k (.int .i64 (1))))]
(.prim 3 5 (opr Try.f71 3 5) [(.v 10)]
(.ext 73 [(.v 11), (.proj (.v 4) 0), (.proj (.v 7) 1)]
(.rq (.tup 0 (.v 12))
(.rq (.tup 1 (.v 12))
(.prim 3 12 (opr Try.f71 3 12) [(.v 3), (.op2 .add .i64 (.v 2) (.k (.int .i64 (1))))]
(.eff false 3 13 (opr Try.f71 3 13) [(.v 13), (.proj (.v 12) 0)]
(.loop [(.proj (.v 12) 1), (.op2 .add .i64 (.v 2) (.k (.int .i64 (2))))]
 (.rq (.int .u64 (.v 15))
 (.br (.op2 .gtr .u64 (.v 15) (.k (.int .u64 (0))))
  (.rq (.int .i64 (.v 16))
  (.br (.op2 .eql .i64 (.v 16) (.k (.int .i64 (16))))
   (.ret [])
   (.prim 8 2 (opr Try.f71 8 2) [(.v 3), (.v 16)]
   (.prim 8 3 (opr Try.f71 8 3) [(.v 17)]
   (.ext 73 [(.v 18), (.k (.int .u64 (0))), (.v 15)]
   (.rq (.tup 0 (.v 19))
   (.rq (.tup 1 (.v 19))
   (.prim 8 9 (opr Try.f71 8 9) [(.v 3), (.v 16)]
   (.eff false 8 10 (opr Try.f71 8 10) [(.v 20), (.proj (.v 19) 0)]
   (.next 0 [(.proj (.v 19) 1), (.op2 .add .i64 (.v 16) (.k (.int .i64 (1))))]))))))))))
  (.ret [])))))))))))))))))))))) := by kernel_rfl
theorem np_times1 : (Try.prog.funcs[71]?).map (fun fn => fn.params.size + fn.nfree) = some 4 := by kernel_rfl
theorem op_times1_1_1 : (opr Try.f71 1 1).op = .indexAddr 108 (.tmp 3) (.tmp 19) := by kernel_rfl
theorem op_times1_1_2 : (opr Try.f71 1 2).op = .load 22 (.tmp 20) := by kernel_rfl
theorem op_times1_2_2 : (opr Try.f71 2 2).op = .indexAddr 108 (.tmp 3) (.tmp 26) := by kernel_rfl
theorem op_times1_2_3 : (opr Try.f71 2 3).op = .store 22 (.tmp 28) (.tmp 27) := by kernel_rfl
theorem op_times1_3_4 : (opr Try.f71 3 4).op = .indexAddr 108 (.tmp 3) (.tmp 33) := by kernel_rfl
theorem op_times1_3_5 : (opr Try.f71 3 5).op = .load 22 (.tmp 34) := by kernel_rfl
theorem op_times1_3_12 : (opr Try.f71 3 12).op = .indexAddr 108 (.tmp 3) (.tmp 31) := by kernel_rfl
theorem op_times1_3_13 : (opr Try.f71 3 13).op = .store 22 (.tmp 41) (.tmp 39) := by kernel_rfl
theorem op_times1_8_2 : (opr Try.f71 8 2).op = .indexAddr 108 (.tmp 3) (.tmp 52) := by kernel_rfl
theorem op_times1_8_3 : (opr Try.f71 8 3).op = .load 22 (.tmp 53) := by kernel_rfl
theorem op_times1_8_9 : (opr Try.f71 8 9).op = .indexAddr 108 (.tmp 3) (.tmp 51) := by kernel_rfl
theorem op_times1_8_10 : (opr Try.f71 8 10).op = .store 22 (.tmp 59) (.tmp 57) := by kernel_rfl
theorem tr_Of : tree Try.prog [] [] [⟨0, 4, [], [1]⟩] [] 10 = some (.rq (.int .i64 (.v 0))
(.br (.op2 .lss .i64 (.v 0) (.k (.int .i64 (0))))
 (.loop [(.k (.int .i64 (1))), (.put (.z 24) 0 1 (.cv .u64 (.v 0)) 0 noI)]
  (.rq (.int .i64 (.v 1))
  (.br (.op2 .lss .i64 (.v 1) (.k (.int .i64 (8))))
   (.rq (.num (.v 1))
   (.rq (.lt 8 (.v 1))
   (.next 0 [(.op2 .add .i64 (.v 1) (.k (.int .i64 (1)))), (.put (.v 2) 0 1 (.k (.int .u64 (18446744073709551615))) 1 (.v 1))])))
   (.ret [(.ag (.v 2))]))))
 (.ret [(.put (.z 24) 0 1 (.cv .u64 (.v 0)) 0 noI)]))) := by kernel_rfl
theorem np_Of : (Try.prog.funcs[10]?).map (fun fn => fn.params.size + fn.nfree) = some 1 := by kernel_rfl
theorem tr_Int : tree Try.prog [] [] [] [⟨2, [0, 1, 0, 7], [0, 2, 5, 1], [0, 0, 0, 0], [0, 2, 1, 3], []⟩] 12 = some (.rq (.cells 8 (.v 0))
(.rq (.int .u64 (.cell (.v 0) 0 0 noI))
(.call true 10 [(.cv .i64 (.cell (.v 0) 0 0 noI))]
(.prim 2 3 (opr Try.f12 2 3) [(.v 1), (.ag (.v 0))]
(.rq (.bool (.v 2))
(.br (.v 2)
 (.ret [(.k (.int .i64 (0))), (.k (.int .i64 (6)))])
 (.ret [(.cv .i64 (.cell (.v 0) 0 0 noI)), (.k (.int .i64 (0)))]))))))) := by kernel_rfl
theorem np_Int : (Try.prog.funcs[12]?).map (fun fn => fn.params.size + fn.nfree) = some 1 := by kernel_rfl
theorem op_Int_2_3 : (opr Try.f12 2 3).op = .binOp .neq 24 (.tmp 9) (.tmp 10) 24 := by kernel_rfl
theorem tr_Neg : tree Try.prog [] [] [] [] 18 = some (.rq (.cells 8 (.v 0))
(.call false 33 [(.ag (.v 0))]
(.call false 50 [(.v 1)]
(.call false 42 [(.v 2)]
(.rq (.tup 0 (.v 3))
(.rq (.tup 1 (.v 3))
(.rq (.cells 8 (.proj (.v 3) 0))
(.ret [(.ag (.proj (.v 3) 0)), (.proj (.v 3) 1)])))))))) := by kernel_rfl
theorem np_Neg : (Try.prog.funcs[18]?).map (fun fn => fn.params.size + fn.nfree) = some 1 := by kernel_rfl
theorem tr_Add : tree Try.prog [] [] [] [] 16 = some (.rq (.cells 8 (.v 0))
(.rq (.cells 8 (.v 1))
(.call false 49 [(.ag (.v 0)), (.ag (.v 1)), (.k (.int .u8 (43)))]
(.rq (.tup 0 (.v 2))
(.rq (.tup 1 (.v 2))
(.rq (.cells 8 (.proj (.v 2) 0))
(.ret [(.ag (.proj (.v 2) 0)), (.proj (.v 2) 1)]))))))) := by kernel_rfl
theorem np_Add : (Try.prog.funcs[16]?).map (fun fn => fn.params.size + fn.nfree) = some 2 := by kernel_rfl
theorem tr_Mul : tree Try.prog [] [] [] [] 20 = some (.rq (.cells 8 (.v 0))
(.rq (.cells 8 (.v 1))
(.call false 49 [(.ag (.v 0)), (.ag (.v 1)), (.k (.int .u8 (42)))]
(.rq (.tup 0 (.v 2))
(.rq (.tup 1 (.v 2))
(.rq (.cells 8 (.proj (.v 2) 0))
(.ret [(.ag (.proj (.v 2) 0)), (.proj (.v 2) 1)]))))))) := by kernel_rfl
theorem np_Mul : (Try.prog.funcs[20]?).map (fun fn => fn.params.size + fn.nfree) = some 2 := by kernel_rfl
theorem tr_Div : tree Try.prog [] [] [⟨3, 5, [34], []⟩, ⟨2, 34, [], [6, 7]⟩] [⟨2, [0, 0, 1, 7, 15], [5, 5, 6, 6, 0], [2, 3, 2, 3, 0], [0, 1], [2, 3, 4]⟩, ⟨3, [0, 1, 0, 7, 0, 0, 63, 127], [5, 2, 5, 2, 3, 3, 4, 4], [0, 0, 1, 0, 0, 0, 0, 0], [0, 2, 1, 3, 4, 5], [6, 7]⟩, ⟨10, [0, 0, 0, 1, 11, 31], [5, 5, 0, 6, 6, 0], [2, 3, 0, 2, 3, 0], [0, 1, 2], [3, 4, 5]⟩, ⟨12, [0, 0, 1, 7, 15], [5, 5, 6, 6, 0], [2, 3, 2, 3, 0], [0, 1], [2, 3, 4]⟩] 22 = some (.rq (.cells 8 (.v 0))
(.rq (.cells 8 (.v 1))
(.prim 1 2 (opr Try.f22 1 2) [(.ag (.v 1)), (.z 24)]
(.rq (.bool (.v 2))
(.br (.v 2)
 (.ret [(.z 24), (.z 24), (.k (.int .i64 (7)))])
 (.call true 33 [(.ag (.v 0))]
 (.call true 33 [(.ag (.v 1))]
 (.rq (.cells 9 (.v 3))
 (.rq (.cells 9 (.v 4))
 (.call false 53 [(.sub (.v 3) 1 8 0 noI), (.sub (.v 4) 1 8 0 noI)]
 (.rq (.tup 0 (.v 5))
 (.rq (.tup 1 (.v 5))
 (.rq (.cells 8 (.proj (.v 5) 0))
 (.rq (.cells 8 (.proj (.v 5) 1))
 (.join 1
  (.rq (.bool (.cell (.v 3) 0 0 noI))
  (.br (.cell (.v 3) 0 0 noI)
   (.call false 34 [(.ag (.proj (.v 5) 1))]
   (.rq (.bool (.v 6))
   (.next 0 [(.nt (.v 6))])))
   (.next 0 [(.k (.bool false))])))
  (.join 2
   (.rq (.bool (.v 6))
   (.br (.v 6)
    (.call false 40 [(.ag (.proj (.v 5) 0)), (.put (.z 67) 0 1 (.k (.int .u64 (1))) 0 noI)]
    (.rq (.tup 0 (.v 7))
    (.rq (.tup 1 (.v 7))
    (.rq (.cells 8 (.proj (.v 7) 0))
    (.call false 54 [(.sub (.v 4) 1 8 0 noI), (.ag (.proj (.v 5) 1))]
    (.rq (.tup 0 (.v 8))
    (.rq (.tup 1 (.v 8))
    (.rq (.cells 8 (.proj (.v 8) 0))
    (.next 0 [(.proj (.v 7) 0), (.proj (.v 8) 0)])))))))))
    (.next 0 [(.proj (.v 5) 0), (.proj (.v 5) 1)])))
   (.rq (.bool (.cell (.v 3) 0 0 noI))
   (.rq (.bool (.cell (.v 4) 0 0 noI))
   (.call false 41 [(.eqb true (.cell (.v 3) 0 0 noI) (.cell (.v 4) 0 0 noI)), (.ag (.v 7))]
   (.call false 42 [(.v 9)]
   (.rq (.tup 0 (.v 10))
   (.rq (.tup 1 (.v 10))
   (.rq (.cells 8 (.proj (.v 10) 0))
   (.rq (.int .i64 (.proj (.v 10) 1))
   (.br (.op2 .neq .i64 (.proj (.v 10) 1) (.k (.int .i64 (0))))
    (.ret [(.ag (.proj (.v 10) 0)), (.z 24), (.proj (.v 10) 1)])
    (.call false 41 [(.k (.bool false)), (.ag (.v 8))]
    (.call false 42 [(.v 11)]
    (.rq (.tup 0 (.v 12))
    (.rq (.tup 1 (.v 12))
    (.rq (.cells 8 (.proj (.v 12) 0))
    (.ret [(.ag (.proj (.v 10) 0)), (.ag (.proj (.v 12) 0)), (.k (.int .i64 (0)))]))))))))))))))))))))))))))))))) := by kernel_rfl
theorem np_Div : (Try.prog.funcs[22]?).map (fun fn => fn.params.size + fn.nfree) = some 2 := by kernel_rfl
theorem op_Div_1_2 : (opr Try.f22 1 2).op = .binOp .eql 24 (.tmp 11) (.tmp 12) 24 := by kernel_rfl
theorem tr_Gcd : tree Try.prog [] [] [] [⟨1, [0, 1, 3, 0, 11, 27, 63, 127, 255, 511, 511, 2047, 4095], [5, 2, 0, 5, 2, 0, 2, 2, 2, 0, 0, 6, 0], [0, 0, 0, 1, 0, 0, 0, 0, 0, 0, 0, 2, 0], [0, 3, 1, 2, 4, 5, 6, 7, 8, 9, 10], [11, 12]⟩] 24 = some (.rq (.cells 8 (.v 0))
(.rq (.cells 8 (.v 1))
(.call true 33 [(.ag (.v 0))]
(.rq (.agg 9 (.v 2))
(.call true 33 [(.ag (.v 1))]
(.rq (.agg 9 (.v 3))
(.call true 56 [(.sub (.v 2) 1 8 0 noI), (.sub (.v 3) 1 8 0 noI)]
(.call true 41 [(.k (.bool false)), (.v 4)]
(.call true 42 [(.v 5)]
(.rq (.tup 0 (.v 6))
(.rq (.tup 1 (.v 6))
(.rq (.cells 8 (.proj (.v 6) 0))
(.ret [(.ag (.proj (.v 6) 0)), (.proj (.v 6) 1)]))))))))))))) := by kernel_rfl
theorem np_Gcd : (Try.prog.funcs[24]?).map (fun fn => fn.params.size + fn.nfree) = some 2 := by kernel_rfl
theorem tr_Pow : tree Try.prog [] [] [⟨0, 5, [], [2]⟩] [⟨10, [0, 0, 3, 7, 15, 15, 63, 127, 255, 255, 1023, 2047, 4095], [5, 0, 1, 0, 5, 2, 1, 0, 5, 2, 1, 0, 0], [2, 0, 0, 0, 2, 0, 0, 0, 0, 0, 0, 0, 0], [0, 1, 2, 3, 4, 5, 6, 7, 8, 9, 10, 11, 12], []⟩] 25 = some (.rq (.cells 8 (.v 0))
(.rq (.int .i64 (.v 1))
(.br (.op2 .lss .i64 (.v 1) (.k (.int .i64 (0))))
 (.ret [(.z 24), (.k (.int .i64 (2)))])
 (.br (.op2 .gtr .i64 (.v 1) (.k (.int .i64 (600))))
  (.ret [(.z 24), (.k (.int .i64 (2)))])
  (.call false 10 [(.k (.int .i64 (1)))]
  (.rq (.cells 8 (.v 2))
  (.loop [(.k (.int .i64 (0))), (.k (.int .i64 (0))), (.v 2)]
   (.rq (.int .i64 (.v 4))
   (.br (.op2 .lss .i64 (.v 4) (.v 1))
    (.call false 20 [(.ag (.v 5)), (.ag (.v 0))]
    (.rq (.tup 0 (.v 6))
    (.rq (.tup 1 (.v 6))
    (.rq (.cells 8 (.proj (.v 6) 0))
    (.rq (.int .i64 (.proj (.v 6) 1))
    (.br (.op2 .neq .i64 (.proj (.v 6) 1) (.k (.int .i64 (0))))
     (.ret [(.z 24), (.proj (.v 6) 1)])
     (.prim 10 2 (opr Try.f25 10 2) [(.ag (.proj (.v 6) 0)), (.z 24)]
     (.rq (.bool (.v 7))
     (.br (.v 7)
      (.ret [(.ag (.proj (.v 6) 0)), (.k (.int .i64 (0)))])
      (.call true 10 [(.k (.int .i64 (1)))]
      (.prim 10 6 (opr Try.f25 10 6) [(.ag (.proj (.v 6) 0)), (.v 8)]
      (.rq (.bool (.v 9))
      (.br (.v 9)
       (.call true 10 [(.k (.int .i64 (1)))]
       (.prim 10 10 (opr Try.f25 10 10) [(.ag (.v 0)), (.v 10)]
       (.rq (.bool (.v 11))
       (.br (.v 11)
        (.ret [(.ag (.proj (.v 6) 0)), (.k (.int .i64 (0)))])
        (.next 0 [(.v 3), (.op2 .add .i64 (.v 4) (.k (.int .i64 (1)))), (.proj (.v 6) 0)])))))
       (.next 0 [(.v 3), (.op2 .add .i64 (.v 4) (.k (.int .i64 (1)))), (.proj (.v 6) 0)]))))))))))))))
    (.ret [(.ag (.v 5)), (.k (.int .i64 (0)))])))))))))) := by kernel_rfl
theorem np_Pow : (Try.prog.funcs[25]?).map (fun fn => fn.params.size + fn.nfree) = some 2 := by kernel_rfl
theorem op_Pow_10_2 : (opr Try.f25 10 2).op = .binOp .eql 24 (.tmp 29) (.tmp 30) 24 := by kernel_rfl
theorem op_Pow_10_6 : (opr Try.f25 10 6).op = .binOp .eql 24 (.tmp 33) (.tmp 34) 24 := by kernel_rfl
theorem op_Pow_10_10 : (opr Try.f25 10 10).op = .binOp .eql 24 (.tmp 37) (.tmp 38) 24 := by kernel_rfl
theorem tr_Root : tree Try.prog [] [] [] [] 26 = some (.rq (.cells 8 (.v 0))
(.call false 33 [(.ag (.v 0))]
(.rq (.cells 9 (.v 1))
(.rq (.bool (.cell (.v 1) 0 0 noI))
(.br (.cell (.v 1) 0 0 noI)
 (.ret [(.z 24), (.k (.int .i64 (2)))])
 (.call false 57 [(.sub (.v 1) 1 8 0 noI)]
 (.rq (.cells 8 (.v 2))
 (.ret [(.ag (.v 2)), (.k (.int .i64 (0)))])))))))) := by kernel_rfl
theorem np_Root : (Try.prog.funcs[26]?).map (fun fn => fn.params.size + fn.nfree) = some 1 := by kernel_rfl
theorem tr_Parse : tree Try.prog [] [] [⟨3, 2, [26], []⟩, ⟨0, 6, [], [1]⟩] [⟨13, [0, 1, 3, 0, 15, 0, 0, 96, 224, 31, 1023], [0, 1, 0, 5, 2, 0, 0, 0, 0, 6, 0], [0, 0, 0, 3, 0, 0, 0, 0, 0, 1, 0], [0, 1, 2, 3, 5, 6, 7, 8, 4], [9, 10]⟩] 8 = some (.call false 38 [(.v 0), (.k (.string ⟨#[45]⟩))]
(.join 1
 (.prim 2 1 (opr Try.f8 2 1) [(.v 1), (.k (.string ⟨#[]⟩))]
 (.rq (.bool (.v 2))
 (.br (.v 2)
  (.next 0 [(.k (.bool true))])
  (.prim 2 4 (opr Try.f8 2 4) [(.v 1), (.k (.int .i64 (0)))]
  (.rq (.int .u8 (.v 3))
  (.br (.op2 .eql .u8 (.v 3) (.k (.int .u8 (48))))
   (.prim 2 8 (opr Try.f8 2 8) [(.v 0)]
   (.rq (.int .i64 (.v 4))
   (.next 0 [(.op2 .gtr .i64 (.v 4) (.k (.int .i64 (1))))])))
   (.next 0 [(.k (.bool false))])))))))
 (.rq (.bool (.v 2))
 (.br (.v 2)
  (.ret [(.z 24), (.k (.int .i64 (5)))])
  (.eff false 5 1 (opr Try.f8 5 1) [(.v 1)]
  (.loop [(.k (.int .i64 (0))), (.k (.bool false)), (.cat (.z 4) 1 (.z 67))]
   (.eff false 6 0 (opr Try.f8 6 0) [(.v 3)]
   (.rq (.tup 0 (.v 7))
   (.rq (.bool (.proj (.v 7) 0))
   (.br (.proj (.v 7) 0)
    (.rq (.tup 2 (.v 7))
    (.rq (.int .i32 (.proj (.v 7) 2))
    (.br (.op2 .lss .i32 (.proj (.v 7) 2) (.k (.int .i32 (48))))
     (.ret [(.z 24), (.k (.int .i64 (5)))])
     (.br (.op2 .gtr .i32 (.proj (.v 7) 2) (.k (.int .i32 (57))))
      (.ret [(.z 24), (.k (.int .i64 (5)))])
      (.rq (.bool (.v 5))
      (.br (.v 5)
       (.next 0 [(.v 4), (.v 5), (.v 6)])
       (.call false 39 [(.sub (.v 6) 1 8 0 noI), (.put (.z 67) 0 1 (.k (.int .u64 (10))) 0 noI)]
       (.rq (.tup 0 (.v 8))
       (.rq (.tup 1 (.v 8))
       (.rq (.cells 8 (.proj (.v 8) 0))
       (.call false 40 [(.ag (.proj (.v 8) 0)), (.put (.z 67) 0 1 (.cv .u64 (.op2 .sub .i32 (.proj (.v 7) 2) (.k (.int .i32 (48))))) 0 noI)]
       (.rq (.tup 0 (.v 9))
       (.rq (.tup 1 (.v 9))
       (.rq (.cells 8 (.proj (.v 9) 0))
       (.prim 13 1 (opr Try.f8 13 1) [(.v 0), (.k (.int .i64 (0)))]
       (.rq (.int .u8 (.v 10))
       (.rq (.int .u64 (.proj (.v 8) 1))
       (.rq (.int .u64 (.proj (.v 9) 1))
       (.call true 41 [(.op2 .eql .u8 (.v 10) (.k (.int .u8 (45)))), (.ag (.proj (.v 9) 0))]
       (.rq (.cells 9 (.v 11))
       (.next 0 [(.v 4), (.op2 .gtr .u64 (.op2 .add .u64 (.proj (.v 8) 1) (.proj (.v 9) 1)) (.k (.int .u64 (0)))), (.v 11)])))))))))))))))))))))
    (.rq (.bool (.v 5))
    (.br (.v 5)
     (.ret [(.z 24), (.k (.int .i64 (6)))])
     (.call false 42 [(.ag (.v 6))]
     (.rq (.tup 0 (.v 8))
     (.rq (.tup 1 (.v 8))
     (.rq (.cells 8 (.proj (.v 8) 0))
     (.ret [(.ag (.proj (.v 8) 0)), (.proj (.v 8) 1)]))))))))))))))))) := by kernel_rfl
theorem np_Parse : (Try.prog.funcs[8]?).map (fun fn => fn.params.size + fn.nfree) = some 1 := by kernel_rfl
theorem op_Parse_2_1 : (opr Try.f8 2 1).op = .binOp .eql 9 (.tmp 15) (.const (.string ⟨#[]⟩)) 9 := by kernel_rfl
theorem op_Parse_2_4 : (opr Try.f8 2 4).op = .index 9 (.tmp 18) (.const (.int .i64 (0))) := by kernel_rfl
theorem op_Parse_2_8 : (opr Try.f8 2 8).op = .call ⟨.builtin .len, #[(.tmp 22)], #[9]⟩ := by kernel_rfl
theorem op_Parse_5_1 : (opr Try.f8 5 1).op = .range 9 (.tmp 29) := by kernel_rfl
theorem op_Parse_6_0 : (opr Try.f8 6 0).op = .next (.tmp 30) true := by kernel_rfl
theorem op_Parse_13_1 : (opr Try.f8 13 1).op = .index 9 (.tmp 58) (.const (.int .i64 (0))) := by kernel_rfl
theorem tr_mul64 : tree Try.prog [] [] [] [] 72 = some (.rq (.int .u64 (.v 0))
(.rq (.int .u64 (.v 1))
(.ret [(.op2 .add .u64 (.op2 .add .u64 (.op2 .mul .u64 (.op2 .shr .u64 (.v 0) (.k (.int .u64 (32)))) (.op2 .shr .u64 (.v 1) (.k (.int .u64 (32))))) (.op2 .shr .u64 (.op2 .add .u64 (.op2 .mul .u64 (.op2 .shr .u64 (.v 0) (.k (.int .u64 (32)))) (.op2 .and .u64 (.v 1) (.k (.int .u64 (4294967295))))) (.op2 .shr .u64 (.op2 .mul .u64 (.op2 .and .u64 (.v 0) (.k (.int .u64 (4294967295)))) (.op2 .and .u64 (.v 1) (.k (.int .u64 (4294967295))))) (.k (.int .u64 (32))))) (.k (.int .u64 (32))))) (.op2 .shr .u64 (.op2 .add .u64 (.op2 .and .u64 (.op2 .add .u64 (.op2 .mul .u64 (.op2 .shr .u64 (.v 0) (.k (.int .u64 (32)))) (.op2 .and .u64 (.v 1) (.k (.int .u64 (4294967295))))) (.op2 .shr .u64 (.op2 .mul .u64 (.op2 .and .u64 (.v 0) (.k (.int .u64 (4294967295)))) (.op2 .and .u64 (.v 1) (.k (.int .u64 (4294967295))))) (.k (.int .u64 (32))))) (.k (.int .u64 (4294967295)))) (.op2 .mul .u64 (.op2 .and .u64 (.v 0) (.k (.int .u64 (4294967295)))) (.op2 .shr .u64 (.v 1) (.k (.int .u64 (32)))))) (.k (.int .u64 (32))))), (.op2 .mul .u64 (.v 0) (.v 1))]))) := by kernel_rfl
theorem np_mul64 : (Try.prog.funcs[72]?).map (fun fn => fn.params.size + fn.nfree) = some 2 := by kernel_rfl
theorem tr_div64 : tree Try.prog [] [(20, false), (24, false)] [⟨3, 16, [2, 8, 9, 10, 11, 13, 14, 15, 16], []⟩, ⟨1, 0, [15], []⟩, ⟨3, 23, [17, 18, 16], []⟩, ⟨1, 2, [18], []⟩, ⟨0, 17, [], []⟩, ⟨0, 24, [], []⟩] [⟨6, [0, 0, 3, 0, 0, 24, 7, 127], [0, 0, 0, 0, 0, 0, 0, 0], [0, 0, 0, 0, 0, 0, 0, 0], [0, 1, 2, 3, 4, 5, 6, 7], []⟩] 68 = some (.rq (.int .u64 (.v 2))
(.rq (.isb false (.op2 .eql .u64 (.v 2) (.k (.int .u64 (0)))))
(.rq (.int .u64 (.v 0))
(.rq (.isb false (.op2 .leq .u64 (.v 2) (.v 0)))
(.br (.op2 .eql .u64 (.v 0) (.k (.int .u64 (0))))
 (.rq (.int .u64 (.v 1))
 (.rq (.nz (.v 2))
 (.ret [(.op2 .quo .u64 (.v 1) (.v 2)), (.op2 .rem .u64 (.v 1) (.v 2))])))
 (.call false 83 [(.v 2)]
 (.rq (.int .i64 (.v 3))
 (.rq (.nn (.cv .u64 (.v 3)))
 (.rq (.int .u64 (.v 1))
 (.rq (.nn (.op2 .sub .u64 (.k (.int .u64 (64))) (.cv .u64 (.v 3))))
 (.rq (.nz (.op2 .shr .u64 (.op2 .shl .u64 (.v 2) (.cv .u64 (.v 3))) (.k (.int .u64 (32)))))
 (.join 9
  (.next 0 [(.op2 .shl .u64 (.v 2) (.cv .u64 (.v 3))), (.cv .u64 (.v 3)), (.op2 .shr .u64 (.op2 .shl .u64 (.v 2) (.cv .u64 (.v 3))) (.k (.int .u64 (32)))), (.op2 .and .u64 (.op2 .shl .u64 (.v 2) (.cv .u64 (.v 3))) (.k (.int .u64 (4294967295)))), (.op2 .or .u64 (.op2 .shl .u64 (.v 0) (.cv .u64 (.v 3))) (.op2 .shr .u64 (.v 1) (.op2 .sub .u64 (.k (.int .u64 (64))) (.cv .u64 (.v 3))))), (.op2 .shr .u64 (.op2 .shl .u64 (.v 1) (.cv .u64 (.v 3))) (.k (.int .u64 (32)))), (.op2 .and .u64 (.op2 .shl .u64 (.v 1) (.cv .u64 (.v 3))) (.k (.int .u64 (4294967295)))), (.op2 .quo .u64 (.op2 .or .u64 (.op2 .shl .u64 (.v 0) (.cv .u64 (.v 3))) (.op2 .shr .u64 (.v 1) (.op2 .sub .u64 (.k (.int .u64 (64))) (.cv .u64 (.v 3))))) (.op2 .shr .u64 (.op2 .shl .u64 (.v 2) (.cv .u64 (.v 3))) (.k (.int .u64 (32))))), (.op2 .sub .u64 (.op2 .or .u64 (.op2 .shl .u64 (.v 0) (.cv .u64 (.v 3))) (.op2 .shr .u64 (.v 1) (.op2 .sub .u64 (.k (.int .u64 (64))) (.cv .u64 (.v 3))))) (.op2 .mul .u64 (.op2 .quo .u64 (.op2 .or .u64 (.op2 .shl .u64 (.v 0) (.cv .u64 (.v 3))) (.op2 .shr .u64 (.v 1) (.op2 .sub .u64 (.k (.int .u64 (64))) (.cv .u64 (.v 3))))) (.op2 .shr .u64 (.op2 .shl .u64 (.v 2) (.cv .u64 (.v 3))) (.k (.int .u64 (32))))) (.op2 .shr .u64 (.op2 .shl .u64 (.v 2) (.cv .u64 (.v 3))) (.k (.int .u64 (32))))))])
  (.join 1
   (.loop [(.v 11), (.v 12)]
    (.rq (.int .u64 (.v 13))
    (.br (.op2 .geq .u64 (.v 13) (.k (.int .u64 (4294967296))))
     (.rq (.int .u64 (.v 14))
     (.rq (.int .u64 (.v 6))
     (.br (.op2 .geq .u64 (.op2 .add .u64 (.v 14) (.v 6)) (.k (.int .u64 (4294967296))))
      (.next 0 [(.op2 .sub .u64 (.v 13) (.k (.int .u64 (1))))])
      (.next 1 [(.op2 .sub .u64 (.v 13) (.k (.int .u64 (1)))), (.op2 .add .u64 (.v 14) (.v 6))]))))
     (.rq (.int .u64 (.v 7))
     (.rq (.int .u64 (.v 14))
     (.rq (.int .u64 (.v 9))
     (.br (.op2 .gtr .u64 (.op2 .mul .u64 (.v 13) (.v 7)) (.op2 .add .u64 (.op2 .mul .u64 (.k (.int .u64 (4294967296))) (.v 14)) (.v 9)))
      (.rq (.int .u64 (.v 6))
      (.br (.op2 .geq .u64 (.op2 .add .u64 (.v 14) (.v 6)) (.k (.int .u64 (4294967296))))
       (.next 0 [(.op2 .sub .u64 (.v 13) (.k (.int .u64 (1))))])
       (.next 1 [(.op2 .sub .u64 (.v 13) (.k (.int .u64 (1)))), (.op2 .add .u64 (.v 14) (.v 6))])))
      (.next 0 [(.v 13)]))))))))
   (.rq (.int .u64 (.v 8))
   (.rq (.int .u64 (.v 9))
   (.rq (.int .u64 (.v 13))
   (.rq (.int .u64 (.v 4))
   (.rq (.int .u64 (.v 6))
   (.rq (.nz (.v 6))
   (.join 3
    (.next 0 [(.op2 .sub .u64 (.op2 .add .u64 (.op2 .mul .u64 (.v 8) (.k (.int .u64 (4294967296)))) (.v 9)) (.op2 .mul .u64 (.v 13) (.v 4))), (.op2 .quo .u64 (.op2 .sub .u64 (.op2 .add .u64 (.op2 .mul .u64 (.v 8) (.k (.int .u64 (4294967296)))) (.v 9)) (.op2 .mul .u64 (.v 13) (.v 4))) (.v 6)), (.op2 .sub .u64 (.op2 .sub .u64 (.op2 .add .u64 (.op2 .mul .u64 (.v 8) (.k (.int .u64 (4294967296)))) (.v 9)) (.op2 .mul .u64 (.v 13) (.v 4))) (.op2 .mul .u64 (.op2 .quo .u64 (.op2 .sub .u64 (.op2 .add .u64 (.op2 .mul .u64 (.v 8) (.k (.int .u64 (4294967296)))) (.v 9)) (.op2 .mul .u64 (.v 13) (.v 4))) (.v 6)) (.v 6)))])
    (.join 1
     (.loop [(.v 15), (.v 16)]
      (.rq (.int .u64 (.v 17))
      (.br (.op2 .geq .u64 (.v 17) (.k (.int .u64 (4294967296))))
       (.rq (.int .u64 (.v 18))
       (.br (.op2 .geq .u64 (.op2 .add .u64 (.v 18) (.v 6)) (.k (.int .u64 (4294967296))))
        (.next 0 [(.op2 .sub .u64 (.v 17) (.k (.int .u64 (1))))])
        (.next 1 [(.op2 .sub .u64 (.v 17) (.k (.int .u64 (1)))), (.op2 .add .u64 (.v 18) (.v 6))])))
       (.rq (.int .u64 (.v 7))
       (.rq (.int .u64 (.v 18))
       (.rq (.int .u64 (.v 10))
       (.br (.op2 .gtr .u64 (.op2 .mul .u64 (.v 17) (.v 7)) (.op2 .add .u64 (.op2 .mul .u64 (.k (.int .u64 (4294967296))) (.v 18)) (.v 10)))
        (.br (.op2 .geq .u64 (.op2 .add .u64 (.v 18) (.v 6)) (.k (.int .u64 (4294967296))))
         (.next 0 [(.op2 .sub .u64 (.v 17) (.k (.int .u64 (1))))])
         (.next 1 [(.op2 .sub .u64 (.v 17) (.k (.int .u64 (1)))), (.op2 .add .u64 (.v 18) (.v 6))]))
        (.next 0 [(.v 17)]))))))))
     (.rq (.int .u64 (.v 17))
     (.rq (.int .u64 (.v 14))
     (.rq (.int .u64 (.v 10))
     (.rq (.num (.v 5))
     (.rq (.nn (.v 5))
     (.ret [(.op2 .add .u64 (.op2 .mul .u64 (.v 13) (.k (.int .u64 (4294967296)))) (.v 17)), (.op2 .shr .u64 (.op2 .sub .u64 (.op2 .add .u64 (.op2 .mul .u64 (.v 14) (.k (.int .u64 (4294967296)))) (.v 10)) (.op2 .mul .u64 (.v 17) (.v 4))) (.v 5))]))))))))))))))))))))))))))) := by kernel_rfl
theorem np_div64 : (Try.prog.funcs[68]?).map (fun fn => fn.params.size + fn.nfree) = some 3 := by kernel_rfl
theorem tr_len64 : tree Try.prog [] [] [⟨2, 4, [0, 2], []⟩, ⟨2, 8, [0, 2], []⟩, ⟨2, 14, [0, 2], []⟩] [] 90 = some (.rq (.int .u64 (.v 0))
(.join 2
 (.br (.op2 .geq .u64 (.v 0) (.k (.int .u64 (4294967296))))
  (.next 0 [(.op2 .shr .u64 (.v 0) (.k (.int .u64 (32)))), (.k (.int .i64 (32)))])
  (.next 0 [(.v 0), (.k (.int .i64 (0)))]))
 (.rq (.int .u64 (.v 1))
 (.join 2
  (.br (.op2 .geq .u64 (.v 1) (.k (.int .u64 (65536))))
   (.rq (.int .i64 (.v 2))
   (.next 0 [(.op2 .shr .u64 (.v 1) (.k (.int .u64 (16)))), (.op2 .add .i64 (.v 2) (.k (.int .i64 (16))))]))
   (.next 0 [(.v 1), (.v 2)]))
  (.rq (.int .u64 (.v 3))
  (.join 2
   (.br (.op2 .geq .u64 (.v 3) (.k (.int .u64 (256))))
    (.rq (.int .i64 (.v 4))
    (.next 0 [(.op2 .shr .u64 (.v 3) (.k (.int .u64 (8)))), (.op2 .add .i64 (.v 4) (.k (.int .i64 (8))))]))
    (.next 0 [(.v 3), (.v 4)]))
   (.rq (.int .u64 (.v 5))
   (.prim 10 3 (opr Try.f90 10 3) [(.k (.string ⟨#[0, 1, 2, 2, 3, 3, 3, 3, 4, 4, 4, 4, 4, 4, 4, 4, 5, 5, 5, 5, 5, 5, 5, 5, 5, 5, 5, 5, 5, 5, 5, 5, 6, 6, 6, 6, 6, 6, 6, 6, 6, 6, 6, 6, 6, 6, 6, 6, 6, 6, 6, 6, 6, 6, 6, 6, 6, 6, 6, 6, 6, 6, 6, 6, 7, 7, 7, 7, 7, 7, 7, 7, 7, 7, 7, 7, 7, 7, 7, 7, 7, 7, 7, 7, 7, 7, 7, 7, 7, 7, 7, 7, 7, 7, 7, 7, 7, 7, 7, 7, 7, 7, 7, 7, 7, 7, 7, 7, 7, 7, 7, 7, 7, 7, 7, 7, 7, 7, 7, 7, 7, 7, 7, 7, 7, 7, 7, 7, 8, 8, 8, 8, 8, 8, 8, 8, 8, 8, 8, 8, 8, 8, 8, 8, 8, 8, 8, 8, 8, 8, 8, 8, 8, 8, 8, 8, 8, 8, 8, 8, 8, 8, 8, 8, 8, 8, 8, 8, 8, 8, 8, 8, 8, 8, 8, 8, 8, 8, 8, 8, 8, 8, 8, 8, 8, 8, 8, 8, 8, 8, 8, 8, 8, 8, 8, 8, 8, 8, 8, 8, 8, 8, 8, 8, 8, 8, 8, 8, 8, 8, 8, 8, 8, 8, 8, 8, 8, 8, 8, 8, 8, 8, 8, 8, 8, 8, 8, 8, 8, 8, 8, 8, 8, 8, 8, 8, 8, 8, 8, 8, 8, 8, 8, 8, 8, 8, 8, 8, 8, 8, 8, 8, 8, 8, 8, 8]⟩)), (.cv .u8 (.v 5))]
   (.rq (.int .u8 (.v 7))
   (.rq (.int .i64 (.v 6))
   (.ret [(.op2 .add .i64 (.v 6) (.cv .i64 (.v 7)))]))))))))))) := by kernel_rfl
theorem np_len64 : (Try.prog.funcs[90]?).map (fun fn => fn.params.size + fn.nfree) = some 1 := by kernel_rfl
theorem op_len64_10_3 : (opr Try.f90 10 3).op = .index 9 (.const (.string ⟨#[0, 1, 2, 2, 3, 3, 3, 3, 4, 4, 4, 4, 4, 4, 4, 4, 5, 5, 5, 5, 5, 5, 5, 5, 5, 5, 5, 5, 5, 5, 5, 5, 6, 6, 6, 6, 6, 6, 6, 6, 6, 6, 6, 6, 6, 6, 6, 6, 6, 6, 6, 6, 6, 6, 6, 6, 6, 6, 6, 6, 6, 6, 6, 6, 7, 7, 7, 7, 7, 7, 7, 7, 7, 7, 7, 7, 7, 7, 7, 7, 7, 7, 7, 7, 7, 7, 7, 7, 7, 7, 7, 7, 7, 7, 7, 7, 7, 7, 7, 7, 7, 7, 7, 7, 7, 7, 7, 7, 7, 7, 7, 7, 7, 7, 7, 7, 7, 7, 7, 7, 7, 7, 7, 7, 7, 7, 7, 7, 8, 8, 8, 8, 8, 8, 8, 8, 8, 8, 8, 8, 8, 8, 8, 8, 8, 8, 8, 8, 8, 8, 8, 8, 8, 8, 8, 8, 8, 8, 8, 8, 8, 8, 8, 8, 8, 8, 8, 8, 8, 8, 8, 8, 8, 8, 8, 8, 8, 8, 8, 8, 8, 8, 8, 8, 8, 8, 8, 8, 8, 8, 8, 8, 8, 8, 8, 8, 8, 8, 8, 8, 8, 8, 8, 8, 8, 8, 8, 8, 8, 8, 8, 8, 8, 8, 8, 8, 8, 8, 8, 8, 8, 8, 8, 8, 8, 8, 8, 8, 8, 8, 8, 8, 8, 8, 8, 8, 8, 8, 8, 8, 8, 8, 8, 8, 8, 8, 8, 8, 8, 8, 8, 8, 8, 8, 8, 8]⟩)) (.tmp 21) := by kernel_rfl
theorem tr_lz64 : tree Try.prog [] [] [] [] 83 = some (.call false 90 [(.v 0)]
(.rq (.int .i64 (.v 1))
(.ret [(.op2 .sub .i64 (.k (.int .i64 (64))) (.v 1))]))) := by kernel_rfl
theorem np_lz64 : (Try.prog.funcs[83]?).map (fun fn => fn.params.size + fn.nfree) = some 1 := by kernel_rfl
theorem tr_trimP : tree Try.prog [] [] [] [] 38 = some (.call false 70 [(.v 0), (.v 1)]
(.ret [(.v 2)])) := by kernel_rfl
theorem np_trimP : (Try.prog.funcs[38]?).map (fun fn => fn.params.size + fn.nfree) = some 2 := by kernel_rfl
theorem tr_trimPi : tree Try.prog [] [] [] [] 70 = some (.call false 85 [(.v 0), (.v 1)]
(.rq (.bool (.v 2))
(.br (.v 2)
 (.prim 2 2 (opr Try.f70 2 2) [(.v 1)]
 (.prim 2 3 (opr Try.f70 2 3) [(.v 0), (.v 3)]
 (.ret [(.v 4)])))
 (.ret [(.v 0)])))) := by kernel_rfl
theorem np_trimPi : (Try.prog.funcs[70]?).map (fun fn => fn.params.size + fn.nfree) = some 2 := by kernel_rfl
theorem op_trimPi_2_2 : (opr Try.f70 2 2).op = .call ⟨.builtin .len, #[(.tmp 9)], #[9]⟩ := by kernel_rfl
theorem op_trimPi_2_3 : (opr Try.f70 2 3).op = .slice 9 (.tmp 8) (some (.tmp 10)) none none := by kernel_rfl
theorem tr_hasP : tree Try.prog [] [] [] [] 85 = some (.prim 1 1 (opr Try.f85 1 1) [(.v 0)]
(.prim 1 3 (opr Try.f85 1 3) [(.v 1)]
(.rq (.int .i64 (.v 2))
(.rq (.int .i64 (.v 3))
(.br (.op2 .geq .i64 (.v 2) (.v 3))
 (.prim 1 8 (opr Try.f85 1 8) [(.v 1)]
 (.prim 1 9 (opr Try.f85 1 9) [(.v 0), (.v 4)]
 (.prim 1 11 (opr Try.f85 1 11) [(.v 5), (.v 1)]
 (.ret [(.v 6)]))))
 (.ret [(.k (.bool false))])))))) := by kernel_rfl
theorem np_hasP : (Try.prog.funcs[85]?).map (fun fn => fn.params.size + fn.nfree) = some 2 := by kernel_rfl
theorem op_hasP_1_1 : (opr Try.f85 1 1).op = .call ⟨.builtin .len, #[(.tmp 5)], #[9]⟩ := by kernel_rfl
theorem op_hasP_1_3 : (opr Try.f85 1 3).op = .call ⟨.builtin .len, #[(.tmp 7)], #[9]⟩ := by kernel_rfl
theorem op_hasP_1_8 : (opr Try.f85 1 8).op = .call ⟨.builtin .len, #[(.tmp 12)], #[9]⟩ := by kernel_rfl
theorem op_hasP_1_9 : (opr Try.f85 1 9).op = .slice 9 (.tmp 11) none (some (.tmp 13)) none := by kernel_rfl
theorem op_hasP_1_11 : (opr Try.f85 1 11).op = .binOp .eql 9 (.tmp 14) (.tmp 15) 9 := by kernel_rfl
end Go.Proofs.Ytimnofpofbnjbaa

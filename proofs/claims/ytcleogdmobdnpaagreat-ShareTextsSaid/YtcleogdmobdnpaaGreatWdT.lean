/- MADE BY rxgen.py: the trees of package wide. -/
import Derived.Test.YtcleogdmobdnpaaGreatRows
import Derived.Test.YtcleogdmobdnpaaGreatRxH
import Derived.KernelRfl
namespace Go.Proofs.YtcleogdmobdnpaaGreat
open Go.RowKit Go.RX
theorem mixed : Tryz.prog.follows .mixedOrders = true := by kernel_rfl
theorem tr_zero : tree Tryz.prog [] [] [] [] 118 = some (.rq (.cells 8 (.v 0))
(.prim 1 2 (opr Tryz.f118 1 2) [(.ag (.v 0)), (.z 133)]
(.ret [(.v 1)]))) := by kernel_rfl
theorem np_zero : (Tryz.prog.funcs[118]?).map (fun fn => fn.params.size + fn.nfree) = some 1 := by kernel_rfl
theorem op_zero_1_2 : (opr Tryz.f118 1 2).op = .binOp .eql 133 (.tmp 3) (.tmp 4) 133 := by kernel_rfl
theorem tr_plus : tree Tryz.prog [] [] [⟨0, 3, [], [0]⟩] [⟨5, [0, 0, 2, 6, 0, 16, 48, 0, 254, 510, 1022, 1022, 2047, 6143, 16383], [0, 0, 1, 1, 0, 1, 1, 0, 2, 0, 0, 0, 1, 4, 0], [0, 0, 0, 0, 0, 0, 0, 0, 0, 0, 0, 0, 0, 0, 0], [0, 1, 2, 3, 4, 5, 6, 7, 8, 9, 10, 11, 12], [13, 14]⟩] 125 = some (.rq (.cells 8 (.v 0))
(.rq (.cells 8 (.v 1))
(.loop [(.k (.int .u64 (0))), (.k (.int .i64 (0))), (.v 0)]
 (.rq (.int .i64 (.v 3))
 (.br (.op2 .lss .i64 (.v 3) (.k (.int .i64 (8))))
  (.rq (.num (.v 3))
  (.rq (.lt 8 (.v 3))
  (.ext 151 [(.cell (.v 4) 0 1 (.v 3)), (.cell (.v 1) 0 1 (.v 3)), (.v 2)]
  (.rq (.tup 0 (.v 5))
  (.rq (.tup 1 (.v 5))
  (.rq (.cells 1 (.proj (.v 5) 0))
  (.next 0 [(.proj (.v 5) 1), (.op2 .add .i64 (.v 3) (.k (.int .i64 (1)))), (.put (.v 4) 0 1 (.proj (.v 5) 0) 1 (.v 3))])))))))
  (.ret [(.ag (.v 4)), (.v 2)])))))) := by kernel_rfl
theorem np_plus : (Tryz.prog.funcs[125]?).map (fun fn => fn.params.size + fn.nfree) = some 2 := by kernel_rfl
theorem tr_minus : tree Tryz.prog [] [] [⟨0, 3, [], [0]⟩] [⟨5, [0, 0, 2, 6, 0, 16, 48, 0, 254, 510, 1022, 1022, 2047, 6143, 16383], [0, 0, 1, 1, 0, 1, 1, 0, 2, 0, 0, 0, 1, 4, 0], [0, 0, 0, 0, 0, 0, 0, 0, 0, 0, 0, 0, 0, 0, 0], [0, 1, 2, 3, 4, 5, 6, 7, 8, 9, 10, 11, 12], [13, 14]⟩] 139 = some (.rq (.cells 8 (.v 0))
(.rq (.cells 8 (.v 1))
(.loop [(.k (.int .u64 (0))), (.k (.int .i64 (0))), (.v 0)]
 (.rq (.int .i64 (.v 3))
 (.br (.op2 .lss .i64 (.v 3) (.k (.int .i64 (8))))
  (.rq (.num (.v 3))
  (.rq (.lt 8 (.v 3))
  (.ext 157 [(.cell (.v 4) 0 1 (.v 3)), (.cell (.v 1) 0 1 (.v 3)), (.v 2)]
  (.rq (.tup 0 (.v 5))
  (.rq (.tup 1 (.v 5))
  (.rq (.cells 1 (.proj (.v 5) 0))
  (.next 0 [(.proj (.v 5) 1), (.op2 .add .i64 (.v 3) (.k (.int .i64 (1)))), (.put (.v 4) 0 1 (.proj (.v 5) 0) 1 (.v 3))])))))))
  (.ret [(.ag (.v 4)), (.v 2)])))))) := by kernel_rfl
theorem np_minus : (Tryz.prog.funcs[139]?).map (fun fn => fn.params.size + fn.nfree) = some 2 := by kernel_rfl
theorem tr_order : tree Tryz.prog [] [] [⟨0, 2, [], []⟩] [⟨4, [0, 1, 3, 0, 8, 24, 63], [0, 1, 1, 0, 1, 1, 0], [0, 0, 0, 0, 0, 0, 0], [0, 1, 2, 3, 4, 5, 6], []⟩, ⟨5, [0, 1, 3, 0, 8, 24, 63], [0, 1, 1, 0, 1, 1, 0], [0, 0, 0, 0, 0, 0, 0], [0, 1, 2, 3, 4, 5, 6], []⟩] 152 = some (.rq (.cells 8 (.v 0))
(.rq (.cells 8 (.v 1))
(.loop [(.k (.int .i64 (0))), (.k (.int .i64 (7)))]
 (.rq (.int .i64 (.v 3))
 (.br (.op2 .geq .i64 (.v 3) (.k (.int .i64 (0))))
  (.rq (.num (.v 3))
  (.rq (.lt 8 (.v 3))
  (.rq (.int .u64 (.cell (.v 0) 0 1 (.v 3)))
  (.rq (.int .u64 (.cell (.v 1) 0 1 (.v 3)))
  (.br (.op2 .neq .u64 (.cell (.v 0) 0 1 (.v 3)) (.cell (.v 1) 0 1 (.v 3)))
   (.br (.op2 .lss .u64 (.cell (.v 0) 0 1 (.v 3)) (.cell (.v 1) 0 1 (.v 3)))
    (.ret [(.k (.int .i64 (-1)))])
    (.ret [(.k (.int .i64 (1)))]))
   (.next 0 [(.v 2), (.op2 .sub .i64 (.v 3) (.k (.int .i64 (1))))]))))))
  (.ret [(.k (.int .i64 (0)))])))))) := by kernel_rfl
theorem np_order : (Tryz.prog.funcs[152]?).map (fun fn => fn.params.size + fn.nfree) = some 2 := by kernel_rfl
theorem tr_short : tree Tryz.prog [] [] [⟨0, 3, [], [0]⟩] [] 119 = some (.rq (.cells 8 (.v 0))
(.loop [(.k (.int .u64 (0))), (.k (.int .i64 (7))), (.v 0)]
 (.rq (.int .i64 (.v 3))
 (.br (.op2 .geq .i64 (.v 3) (.k (.int .i64 (0))))
  (.rq (.num (.v 3))
  (.rq (.lt 8 (.v 3))
  (.call false 140 [(.v 2), (.cell (.v 4) 0 1 (.v 3)), (.v 1)]
  (.rq (.tup 0 (.v 5))
  (.rq (.tup 1 (.v 5))
  (.rq (.cells 1 (.proj (.v 5) 0))
  (.next 0 [(.proj (.v 5) 1), (.op2 .sub .i64 (.v 3) (.k (.int .i64 (1)))), (.put (.v 4) 0 1 (.proj (.v 5) 0) 1 (.v 3))])))))))
  (.ret [(.ag (.v 4)), (.v 2)]))))) := by kernel_rfl
theorem np_short : (Tryz.prog.funcs[119]?).map (fun fn => fn.params.size + fn.nfree) = some 2 := by kernel_rfl
theorem tr_read : tree Tryz.prog [] [] [] [] 105 = some (.rq (.cells 8 (.v 0))
(.rq (.int .u64 (.cell (.v 0) 7 0 noI))
(.br (.op2 .eql .u64 (.op2 .shr .u64 (.cell (.v 0) 7 0 noI) (.k (.int .u64 (63)))) (.k (.int .u64 (1))))
 (.call false 139 [(.z 133), (.ag (.v 0))]
 (.rq (.tup 0 (.v 1))
 (.rq (.tup 1 (.v 1))
 (.rq (.cells 8 (.proj (.v 1) 0))
 (.ret [(.cat (.op2 .eql .u64 (.op2 .shr .u64 (.cell (.v 0) 7 0 noI) (.k (.int .u64 (63)))) (.k (.int .u64 (1)))) 1 (.proj (.v 1) 0))])))))
 (.ret [(.cat (.op2 .eql .u64 (.op2 .shr .u64 (.cell (.v 0) 7 0 noI) (.k (.int .u64 (63)))) (.k (.int .u64 (1)))) 1 (.ag (.v 0)))])))) := by kernel_rfl
theorem np_read : (Tryz.prog.funcs[105]?).map (fun fn => fn.params.size + fn.nfree) = some 1 := by kernel_rfl
theorem tr_told : tree Tryz.prog [] [] [] [] 127 = some (.rq (.cells 9 (.v 0))
(.call false 152 [(.sub (.v 0) 1 8 0 noI), (.put (.z 133) 7 1 (.k (.int .u64 (9223372036854775808))) 0 noI)]
(.rq (.int .i64 (.v 1))
(.br (.op2 .gtr .i64 (.v 1) (.k (.int .i64 (0))))
 (.ret [(.z 24), (.k (.int .i64 (6)))])
 (.br (.op2 .eql .i64 (.v 1) (.k (.int .i64 (0))))
  (.rq (.bool (.cell (.v 0) 0 0 noI))
  (.br (.nt (.cell (.v 0) 0 0 noI))
   (.ret [(.z 24), (.k (.int .i64 (6)))])
   (.call false 139 [(.z 133), (.sub (.v 0) 1 8 0 noI)]
   (.rq (.tup 0 (.v 2))
   (.rq (.tup 1 (.v 2))
   (.rq (.cells 8 (.proj (.v 2) 0))
   (.ret [(.ag (.proj (.v 2) 0)), (.k (.int .i64 (0)))])))))))
  (.rq (.bool (.cell (.v 0) 0 0 noI))
  (.br (.cell (.v 0) 0 0 noI)
   (.call false 139 [(.z 133), (.sub (.v 0) 1 8 0 noI)]
   (.rq (.tup 0 (.v 2))
   (.rq (.tup 1 (.v 2))
   (.rq (.cells 8 (.proj (.v 2) 0))
   (.ret [(.ag (.proj (.v 2) 0)), (.k (.int .i64 (0)))])))))
   (.ret [(.sub (.v 0) 1 8 0 noI), (.k (.int .i64 (0)))])))))))) := by kernel_rfl
theorem np_told : (Tryz.prog.funcs[127]?).map (fun fn => fn.params.size + fn.nfree) = some 1 := by kernel_rfl
theorem tr_of : tree Tryz.prog [] [] [] [⟨1, [0, 1, 3, 7, 15, 31, 0, 127, 255], [0, 0, 5, 2, 0, 0, 5, 0, 6], [0, 0, 0, 0, 0, 0, 0, 0, 1], [0, 1, 2, 6, 3, 4, 5, 7], [8]⟩] 126 = some (.rq (.cells 8 (.v 1))
(.rq (.bool (.v 0))
(.br (.v 0)
 (.call true 118 [(.ag (.v 1))]
 (.rq (.bool (.v 2))
 (.ret [(.cat (.nt (.v 2)) 1 (.ag (.v 1)))])))
 (.ret [(.cat (.k (.bool false)) 1 (.ag (.v 1)))])))) := by kernel_rfl
theorem np_of : (Tryz.prog.funcs[126]?).map (fun fn => fn.params.size + fn.nfree) = some 2 := by kernel_rfl
theorem tr_times : tree Tryz.prog [6] [] [⟨0, 4, [], []⟩, ⟨0, 7, [], []⟩, ⟨0, 15, [], []⟩] [] 124 = some (.rq (.cells 8 (.v 0))
(.rq (.cells 8 (.v 1))
(.pub 176 (.z 176)
(.eff false 2 0 (opr Tryz.f124 2 0) [(.v 2)]
(.loop [(.k (.int .i64 (0)))]
 (.rq (.int .i64 (.v 4))
 (.br (.op2 .lss .i64 (.v 4) (.k (.int .i64 (8))))
  (.rq (.num (.v 4))
  (.rq (.lt 8 (.v 4))
  (.loop [(.k (.int .i64 (0)))]
   (.rq (.int .i64 (.v 5))
   (.br (.op2 .lss .i64 (.v 5) (.k (.int .i64 (8))))
    (.rq (.num (.v 5))
    (.rq (.lt 8 (.v 5))
    (.rq (.int .u64 (.cell (.ag (.v 0)) 0 1 (.v 4)))
    (.br (.op2 .neq .u64 (.cell (.ag (.v 0)) 0 1 (.v 4)) (.k (.int .u64 (0))))
     (.rq (.int .u64 (.cell (.ag (.v 1)) 0 1 (.v 5)))
     (.br (.op2 .neq .u64 (.cell (.ag (.v 1)) 0 1 (.v 5)) (.k (.int .u64 (0))))
      (.eff false 10 6 (opr Tryz.f124 10 6) [(.v 3), (.cell (.ag (.v 0)) 0 1 (.v 4)), (.cell (.ag (.v 1)) 0 1 (.v 5)), (.op2 .add .i64 (.v 4) (.v 5))]
      (.next 1 [(.op2 .add .i64 (.v 5) (.k (.int .i64 (1))))]))
      (.next 1 [(.op2 .add .i64 (.v 5) (.k (.int .i64 (1))))])))
     (.next 1 [(.op2 .add .i64 (.v 5) (.k (.int .i64 (1))))])))))
    (.next 0 [(.op2 .add .i64 (.v 4) (.k (.int .i64 (1))))]))))))
  (.prim 14 0 (opr Tryz.f124 14 0) [(.v 2), (.k (.int .i64 (8)))]
  (.prim 14 1 (opr Tryz.f124 14 1) [(.v 5)]
  (.loop [(.k (.int .u64 (0))), (.k (.int .i64 (0)))]
   (.rq (.int .i64 (.v 8))
   (.rq (.int .i64 (.v 6))
   (.br (.op2 .lss .i64 (.v 8) (.v 6))
    (.prim 16 0 (opr Tryz.f124 16 0) [(.v 5), (.v 8)]
    (.prim 16 1 (opr Tryz.f124 16 1) [(.v 9)]
    (.rq (.int .u64 (.v 7))
    (.rq (.int .u64 (.v 10))
    (.next 1 [(.op2 .or .u64 (.v 7) (.v 10)), (.op2 .add .i64 (.v 8) (.k (.int .i64 (1))))])))))
    (.prim 19 0 (opr Tryz.f124 19 0) [(.v 2), (.k (.int .i64 (8)))]
    (.prim 19 1 (opr Tryz.f124 19 1) [(.v 9)]
    (.prim 19 2 (opr Tryz.f124 19 2) [(.v 10)]
    (.rq (.cells 8 (.v 11))
    (.ret [(.ag (.v 11)), (.v 7)])))))))))))))))))) := by kernel_rfl
theorem np_times : (Tryz.prog.funcs[124]?).map (fun fn => fn.params.size + fn.nfree) = some 2 := by kernel_rfl
theorem op_times_2_0 : (opr Tryz.f124 2 0).op = .makeFunc (.func 149) #[] #[(.tmp 6)] := by kernel_rfl
theorem op_times_10_6 : (opr Tryz.f124 10 6).op = .call ⟨.value (.tmp 32), #[(.tmp 33), (.tmp 34), (.tmp 37)], #[22, 22, 3]⟩ := by kernel_rfl
theorem op_times_14_0 : (opr Tryz.f124 14 0).op = .slice 176 (.tmp 6) (some (.const (.int .i64 (8)))) none none := by kernel_rfl
theorem op_times_14_1 : (opr Tryz.f124 14 1).op = .call ⟨.builtin .len, #[(.tmp 41)], #[74]⟩ := by kernel_rfl
theorem op_times_16_0 : (opr Tryz.f124 16 0).op = .indexAddr 74 (.tmp 41) (.tmp 43) := by kernel_rfl
theorem op_times_16_1 : (opr Tryz.f124 16 1).op = .load 22 (.tmp 45) := by kernel_rfl
theorem op_times_19_0 : (opr Tryz.f124 19 0).op = .slice 176 (.tmp 6) none (some (.const (.int .i64 (8)))) none := by kernel_rfl
theorem op_times_19_1 : (opr Tryz.f124 19 1).op = .sliceToArrayPointer 133 (.tmp 51) := by kernel_rfl
theorem op_times_19_2 : (opr Tryz.f124 19 2).op = .load 133 (.tmp 52) := by kernel_rfl
theorem tr_times1 : tree Tryz.prog [] [] [⟨0, 5, [], []⟩] [] 149 = some (.call false 150 [(.v 0), (.v 1)]
(.rq (.tup 0 (.v 4))
(.rq (.tup 1 (.v 4))
(.prim 1 1 (opr Tryz.f149 1 1) [(.v 3), (.v 2)]
(.prim 1 2 (opr Tryz.f149 1 2) [(.v 5)]
(.ext 151 [(.v 6), (.proj (.v 4) 1), (.k (.int .u64 (0)))]
(.rq (.tup 0 (.v 7))
(.rq (.tup 1 (.v 7))
(.prim 2 2 (opr Tryz.f149 2 2) [(.v 3), (.v 2)]
(.eff false 2 3 (opr Tryz.f149 2 3) [(.v 8), (.proj (.v 7) 0)]
(.rq (.int .i64 (.v 2))
(.prim 3 4 (opr Tryz.f149 3 4) [(.v 3), (.op2 .add .i64 (.v 2) (.k (.int .i64 (1))))]
(.prim 3 5 (opr Tryz.f149 3 5) [(.v 10)]
(.ext 151 [(.v 11), (.proj (.v 4) 0), (.proj (.v 7) 1)]
(.rq (.tup 0 (.v 12))
(.rq (.tup 1 (.v 12))
(.prim 3 12 (opr Tryz.f149 3 12) [(.v 3), (.op2 .add .i64 (.v 2) (.k (.int .i64 (1))))]
(.eff false 3 13 (opr Tryz.f149 3 13) [(.v 13), (.proj (.v 12) 0)]
(.loop [(.proj (.v 12) 1), (.op2 .add .i64 (.v 2) (.k (.int .i64 (2))))]
 (.rq (.int .u64 (.v 15))
 (.br (.op2 .gtr .u64 (.v 15) (.k (.int .u64 (0))))
  (.rq (.int .i64 (.v 16))
  (.br (.op2 .eql .i64 (.v 16) (.k (.int .i64 (16))))
   (.ret [])
   (.prim 8 2 (opr Tryz.f149 8 2) [(.v 3), (.v 16)]
   (.prim 8 3 (opr Tryz.f149 8 3) [(.v 17)]
   (.ext 151 [(.v 18), (.k (.int .u64 (0))), (.v 15)]
   (.rq (.tup 0 (.v 19))
   (.rq (.tup 1 (.v 19))
   (.prim 8 9 (opr Tryz.f149 8 9) [(.v 3), (.v 16)]
   (.eff false 8 10 (opr Tryz.f149 8 10) [(.v 20), (.proj (.v 19) 0)]
   (.next 0 [(.proj (.v 19) 1), (.op2 .add .i64 (.v 16) (.k (.int .i64 (1))))]))))))))))
  (.ret [])))))))))))))))))))))) := by kernel_rfl
theorem np_times1 : (Tryz.prog.funcs[149]?).map (fun fn => fn.params.size + fn.nfree) = some 4 := by kernel_rfl
theorem op_times1_1_1 : (opr Tryz.f149 1 1).op = .indexAddr 176 (.tmp 3) (.tmp 19) := by kernel_rfl
theorem op_times1_1_2 : (opr Tryz.f149 1 2).op = .load 22 (.tmp 20) := by kernel_rfl
theorem op_times1_2_2 : (opr Tryz.f149 2 2).op = .indexAddr 176 (.tmp 3) (.tmp 26) := by kernel_rfl
theorem op_times1_2_3 : (opr Tryz.f149 2 3).op = .store 22 (.tmp 28) (.tmp 27) := by kernel_rfl
theorem op_times1_3_4 : (opr Tryz.f149 3 4).op = .indexAddr 176 (.tmp 3) (.tmp 33) := by kernel_rfl
theorem op_times1_3_5 : (opr Tryz.f149 3 5).op = .load 22 (.tmp 34) := by kernel_rfl
theorem op_times1_3_12 : (opr Tryz.f149 3 12).op = .indexAddr 176 (.tmp 3) (.tmp 31) := by kernel_rfl
theorem op_times1_3_13 : (opr Tryz.f149 3 13).op = .store 22 (.tmp 41) (.tmp 39) := by kernel_rfl
theorem op_times1_8_2 : (opr Tryz.f149 8 2).op = .indexAddr 176 (.tmp 3) (.tmp 52) := by kernel_rfl
theorem op_times1_8_3 : (opr Tryz.f149 8 3).op = .load 22 (.tmp 53) := by kernel_rfl
theorem op_times1_8_9 : (opr Tryz.f149 8 9).op = .indexAddr 176 (.tmp 3) (.tmp 51) := by kernel_rfl
theorem op_times1_8_10 : (opr Tryz.f149 8 10).op = .store 22 (.tmp 59) (.tmp 57) := by kernel_rfl
theorem tr_Of : tree Tryz.prog [] [] [⟨0, 4, [], [1]⟩] [] 39 = some (.rq (.int .i64 (.v 0))
(.br (.op2 .lss .i64 (.v 0) (.k (.int .i64 (0))))
 (.loop [(.k (.int .i64 (1))), (.put (.z 24) 0 1 (.cv .u64 (.v 0)) 0 noI)]
  (.rq (.int .i64 (.v 1))
  (.br (.op2 .lss .i64 (.v 1) (.k (.int .i64 (8))))
   (.rq (.num (.v 1))
   (.rq (.lt 8 (.v 1))
   (.next 0 [(.op2 .add .i64 (.v 1) (.k (.int .i64 (1)))), (.put (.v 2) 0 1 (.k (.int .u64 (18446744073709551615))) 1 (.v 1))])))
   (.ret [(.ag (.v 2))]))))
 (.ret [(.put (.z 24) 0 1 (.cv .u64 (.v 0)) 0 noI)]))) := by kernel_rfl
theorem np_Of : (Tryz.prog.funcs[39]?).map (fun fn => fn.params.size + fn.nfree) = some 1 := by kernel_rfl
theorem tr_Parse : tree Tryz.prog [] [] [⟨3, 2, [26], []⟩, ⟨0, 6, [], [1]⟩] [⟨13, [0, 1, 3, 0, 15, 0, 0, 96, 224, 31, 1023], [0, 1, 0, 5, 2, 0, 0, 0, 0, 6, 0], [0, 0, 0, 3, 0, 0, 0, 0, 0, 1, 0], [0, 1, 2, 3, 5, 6, 7, 8, 4], [9, 10]⟩] 64 = some (.call false 123 [(.v 0), (.k (.string ⟨#[45]⟩))]
(.join 1
 (.prim 2 1 (opr Tryz.f64 2 1) [(.v 1), (.k (.string ⟨#[]⟩))]
 (.rq (.bool (.v 2))
 (.br (.v 2)
  (.next 0 [(.k (.bool true))])
  (.prim 2 4 (opr Tryz.f64 2 4) [(.v 1), (.k (.int .i64 (0)))]
  (.rq (.int .u8 (.v 3))
  (.br (.op2 .eql .u8 (.v 3) (.k (.int .u8 (48))))
   (.prim 2 8 (opr Tryz.f64 2 8) [(.v 0)]
   (.rq (.int .i64 (.v 4))
   (.next 0 [(.op2 .gtr .i64 (.v 4) (.k (.int .i64 (1))))])))
   (.next 0 [(.k (.bool false))])))))))
 (.rq (.bool (.v 2))
 (.br (.v 2)
  (.ret [(.z 24), (.k (.int .i64 (5)))])
  (.eff false 5 1 (opr Tryz.f64 5 1) [(.v 1)]
  (.loop [(.k (.int .i64 (0))), (.k (.bool false)), (.cat (.z 4) 1 (.z 133))]
   (.eff false 6 0 (opr Tryz.f64 6 0) [(.v 3)]
   (.rq (.tup 0 (.v 7))
   (.rq (.bool (.proj (.v 7) 0))
   (.br (.proj (.v 7) 0)
    (.rq (.tup 2 (.v 7))
    (.rq (.int .i32 (.proj (.v 7) 2))
    (.br (.op2 .lss .i32 (.proj (.v 7) 2) (.k (.int .i32 (48))))
     (.ret [(.z 24), (.k (.int .i64 (5)))])
     (.br (.op2 .gtr .i32 (.proj (.v 7) 2) (.k (.int .i32 (57))))
      (.ret [(.z 24), (.k (.int .i64 (5)))])
      (.rq (.bool (.v 5))
      (.br (.v 5)
       (.next 0 [(.v 4), (.v 5), (.v 6)])
       (.call false 124 [(.sub (.v 6) 1 8 0 noI), (.put (.z 133) 0 1 (.k (.int .u64 (10))) 0 noI)]
       (.rq (.tup 0 (.v 8))
       (.rq (.tup 1 (.v 8))
       (.rq (.cells 8 (.proj (.v 8) 0))
       (.call false 125 [(.ag (.proj (.v 8) 0)), (.put (.z 133) 0 1 (.cv .u64 (.op2 .sub .i32 (.proj (.v 7) 2) (.k (.int .i32 (48))))) 0 noI)]
       (.rq (.tup 0 (.v 9))
       (.rq (.tup 1 (.v 9))
       (.rq (.cells 8 (.proj (.v 9) 0))
       (.prim 13 1 (opr Tryz.f64 13 1) [(.v 0), (.k (.int .i64 (0)))]
       (.rq (.int .u8 (.v 10))
       (.rq (.int .u64 (.proj (.v 8) 1))
       (.rq (.int .u64 (.proj (.v 9) 1))
       (.call true 126 [(.op2 .eql .u8 (.v 10) (.k (.int .u8 (45)))), (.ag (.proj (.v 9) 0))]
       (.rq (.cells 9 (.v 11))
       (.next 0 [(.v 4), (.op2 .gtr .u64 (.op2 .add .u64 (.proj (.v 8) 1) (.proj (.v 9) 1)) (.k (.int .u64 (0)))), (.v 11)])))))))))))))))))))))
    (.rq (.bool (.v 5))
    (.br (.v 5)
     (.ret [(.z 24), (.k (.int .i64 (6)))])
     (.call false 127 [(.ag (.v 6))]
     (.rq (.tup 0 (.v 8))
     (.rq (.tup 1 (.v 8))
     (.rq (.cells 8 (.proj (.v 8) 0))
     (.ret [(.ag (.proj (.v 8) 0)), (.proj (.v 8) 1)]))))))))))))))))) := by kernel_rfl
theorem np_Parse : (Tryz.prog.funcs[64]?).map (fun fn => fn.params.size + fn.nfree) = some 1 := by kernel_rfl
theorem op_Parse_2_1 : (opr Tryz.f64 2 1).op = .binOp .eql 9 (.tmp 15) (.const (.string ⟨#[]⟩)) 9 := by kernel_rfl
theorem op_Parse_2_4 : (opr Tryz.f64 2 4).op = .index 9 (.tmp 18) (.const (.int .i64 (0))) := by kernel_rfl
theorem op_Parse_2_8 : (opr Tryz.f64 2 8).op = .call ⟨.builtin .len, #[(.tmp 22)], #[9]⟩ := by kernel_rfl
theorem op_Parse_5_1 : (opr Tryz.f64 5 1).op = .range 9 (.tmp 29) := by kernel_rfl
theorem op_Parse_6_0 : (opr Tryz.f64 6 0).op = .next (.tmp 30) true := by kernel_rfl
theorem op_Parse_13_1 : (opr Tryz.f64 13 1).op = .index 9 (.tmp 58) (.const (.int .i64 (0))) := by kernel_rfl
theorem tr_mul64 : tree Tryz.prog [] [] [] [] 150 = some (.rq (.int .u64 (.v 0))
(.rq (.int .u64 (.v 1))
(.ret [(.op2 .add .u64 (.op2 .add .u64 (.op2 .mul .u64 (.op2 .shr .u64 (.v 0) (.k (.int .u64 (32)))) (.op2 .shr .u64 (.v 1) (.k (.int .u64 (32))))) (.op2 .shr .u64 (.op2 .add .u64 (.op2 .mul .u64 (.op2 .shr .u64 (.v 0) (.k (.int .u64 (32)))) (.op2 .and .u64 (.v 1) (.k (.int .u64 (4294967295))))) (.op2 .shr .u64 (.op2 .mul .u64 (.op2 .and .u64 (.v 0) (.k (.int .u64 (4294967295)))) (.op2 .and .u64 (.v 1) (.k (.int .u64 (4294967295))))) (.k (.int .u64 (32))))) (.k (.int .u64 (32))))) (.op2 .shr .u64 (.op2 .add .u64 (.op2 .and .u64 (.op2 .add .u64 (.op2 .mul .u64 (.op2 .shr .u64 (.v 0) (.k (.int .u64 (32)))) (.op2 .and .u64 (.v 1) (.k (.int .u64 (4294967295))))) (.op2 .shr .u64 (.op2 .mul .u64 (.op2 .and .u64 (.v 0) (.k (.int .u64 (4294967295)))) (.op2 .and .u64 (.v 1) (.k (.int .u64 (4294967295))))) (.k (.int .u64 (32))))) (.k (.int .u64 (4294967295)))) (.op2 .mul .u64 (.op2 .and .u64 (.v 0) (.k (.int .u64 (4294967295)))) (.op2 .shr .u64 (.v 1) (.k (.int .u64 (32)))))) (.k (.int .u64 (32))))), (.op2 .mul .u64 (.v 0) (.v 1))]))) := by kernel_rfl
theorem np_mul64 : (Tryz.prog.funcs[150]?).map (fun fn => fn.params.size + fn.nfree) = some 2 := by kernel_rfl
theorem tr_div64 : tree Tryz.prog [] [(20, false), (24, false)] [⟨3, 16, [2, 8, 9, 10, 11, 13, 14, 15, 16], []⟩, ⟨1, 0, [15], []⟩, ⟨3, 23, [17, 18, 16], []⟩, ⟨1, 2, [18], []⟩, ⟨0, 17, [], []⟩, ⟨0, 24, [], []⟩] [⟨6, [0, 0, 3, 0, 0, 24, 7, 127], [0, 0, 0, 0, 0, 0, 0, 0], [0, 0, 0, 0, 0, 0, 0, 0], [0, 1, 2, 3, 4, 5, 6, 7], []⟩] 140 = some (.rq (.int .u64 (.v 2))
(.rq (.isb false (.op2 .eql .u64 (.v 2) (.k (.int .u64 (0)))))
(.rq (.int .u64 (.v 0))
(.rq (.isb false (.op2 .leq .u64 (.v 2) (.v 0)))
(.br (.op2 .eql .u64 (.v 0) (.k (.int .u64 (0))))
 (.rq (.int .u64 (.v 1))
 (.rq (.nz (.v 2))
 (.ret [(.op2 .quo .u64 (.v 1) (.v 2)), (.op2 .rem .u64 (.v 1) (.v 2))])))
 (.call false 158 [(.v 2)]
 (.rq (.int .i64 (.v 3))
 (.rq (.nn (.cv .u64 (.v 3)))
 (.rq (.int .u64 (.v 1))
 (.rq (.nn (.op2 .sub .u64 (.k (.int .u64 (64))) (.cv .u64 (.v 3))))
 (.rq (.nz (.op2 .shr .u64 (.op2 .shl .u64 (.v 2) (.cv .u64 (.v 3))) (.k (.int .u64 (32)))))
 (.join 9
  (.next 0 [(.op2 .shl .u64 (.v 2) (.cv .u64 (.v 3))), (.cv .u64 (.v 3)), (.op2 .shr .u64 (.op2 .shl .u64 (.v 2) (.cv .u64 (.v 3))) (.k (.int .u64 (32)))), (.op2 .and .u64 (.op2 .shl .u64 (.v 2) (.cv .u64 (.v 3))) (.k (.int .u64 (4294967295)))), (.op2 .or .u64 (.op2 .shl .u64 (.v 0) (.cv .u64 (.v 3))) (.op2 .shr .u64 (.v 1) (.op2 .sub .u64 (.k (.int .u64 (64))) (.cv .u64 (.v 3))))), (.op2 .shr .u64 (.op2 .shl .u64 (.v 1) (.cv .u64 (.v 3))) (.k (.int .u64 (32)))), (.op2 .and .u64 (.op2 .shl .u64 (.v 1) (.cv .u64 (.v 3))) (.k (.int .u64 (4294967295)))), (.op2 .quo .u64 (.op2 .or .u64 (.op2 .shl .u64 (.v 0) (.cv .u64 (.v 3))) (.op2 .shr .u64 (.v 1) (.op2 .sub .u64 (.k (.int .u64 (64))) (.cv .u64 (.v 3))))) (.op2 .shr .u64 (.op2 .shl .u64 (.v 2) (.cv .u64 (.v 3))) (.k (.int .u64 (32))))), (.op2 .sub .u64 (.op2 .or .u64 (.op2 .shl .u64 (.v 0) (.cv .u64 (.v 3))) (.op2 .shr .u64 (.v 1) (.op2 .sub .u64 (.k (.int .u64 (64))) (.cv .u64 (.v 3))))) (.op2 .mul .u64 (.op2 .quo .u64 (.op2 .or .u64 (.op2 .shl .u64 (.v 0) (.cv .u64 (.v 3))) (.op2 .shr .u64 (.v 1) (.op2 .sub .u64 (.k (.int .u64 (64))) (.cv .u64 (.v 3))))) (.op2 .shr .u64 (.op2 .shl .u64 (.v 2) (.cv .u64 (.v 3))) (.k (.int .u64 (32))))) (.op2 .shr .u64 (.op2 .shl .u64 (.v 2) (.cv .u64 (.v 3))) (.k (.int .u64 (32))))))])
  (.join 1
   (.loop [(.v 11), (.v 12)]
    (.rq (.int .u64 (.v 13))
    (.br (.op2 .geq .u64 (.v 13) (.k (.int .u64 (4294967296))))
     (.rq (.int .u64 (.v 14))
     (.rq (.int .u64 (.v 6))
     (.br (.op2 .geq .u64 (.op2 .add .u64 (.v 14) (.v 6)) (.k (.int .u64 (4294967296))))
      (.next 0 [(.op2 .sub .u64 (.v 13) (.k (.int .u64 (1))))])
      (.next 1 [(.op2 .sub .u64 (.v 13) (.k (.int .u64 (1)))), (.op2 .add .u64 (.v 14) (.v 6))]))))
     (.rq (.int .u64 (.v 7))
     (.rq (.int .u64 (.v 14))
     (.rq (.int .u64 (.v 9))
     (.br (.op2 .gtr .u64 (.op2 .mul .u64 (.v 13) (.v 7)) (.op2 .add .u64 (.op2 .mul .u64 (.k (.int .u64 (4294967296))) (.v 14)) (.v 9)))
      (.rq (.int .u64 (.v 6))
      (.br (.op2 .geq .u64 (.op2 .add .u64 (.v 14) (.v 6)) (.k (.int .u64 (4294967296))))
       (.next 0 [(.op2 .sub .u64 (.v 13) (.k (.int .u64 (1))))])
       (.next 1 [(.op2 .sub .u64 (.v 13) (.k (.int .u64 (1)))), (.op2 .add .u64 (.v 14) (.v 6))])))
      (.next 0 [(.v 13)]))))))))
   (.rq (.int .u64 (.v 8))
   (.rq (.int .u64 (.v 9))
   (.rq (.int .u64 (.v 13))
   (.rq (.int .u64 (.v 4))
   (.rq (.int .u64 (.v 6))
   (.rq (.nz (.v 6))
   (.join 3
    (.next 0 [(.op2 .sub .u64 (.op2 .add .u64 (.op2 .mul .u64 (.v 8) (.k (.int .u64 (4294967296)))) (.v 9)) (.op2 .mul .u64 (.v 13) (.v 4))), (.op2 .quo .u64 (.op2 .sub .u64 (.op2 .add .u64 (.op2 .mul .u64 (.v 8) (.k (.int .u64 (4294967296)))) (.v 9)) (.op2 .mul .u64 (.v 13) (.v 4))) (.v 6)), (.op2 .sub .u64 (.op2 .sub .u64 (.op2 .add .u64 (.op2 .mul .u64 (.v 8) (.k (.int .u64 (4294967296)))) (.v 9)) (.op2 .mul .u64 (.v 13) (.v 4))) (.op2 .mul .u64 (.op2 .quo .u64 (.op2 .sub .u64 (.op2 .add .u64 (.op2 .mul .u64 (.v 8) (.k (.int .u64 (4294967296)))) (.v 9)) (.op2 .mul .u64 (.v 13) (.v 4))) (.v 6)) (.v 6)))])
    (.join 1
     (.loop [(.v 15), (.v 16)]
      (.rq (.int .u64 (.v 17))
      (.br (.op2 .geq .u64 (.v 17) (.k (.int .u64 (4294967296))))
       (.rq (.int .u64 (.v 18))
       (.br (.op2 .geq .u64 (.op2 .add .u64 (.v 18) (.v 6)) (.k (.int .u64 (4294967296))))
        (.next 0 [(.op2 .sub .u64 (.v 17) (.k (.int .u64 (1))))])
        (.next 1 [(.op2 .sub .u64 (.v 17) (.k (.int .u64 (1)))), (.op2 .add .u64 (.v 18) (.v 6))])))
       (.rq (.int .u64 (.v 7))
       (.rq (.int .u64 (.v 18))
       (.rq (.int .u64 (.v 10))
       (.br (.op2 .gtr .u64 (.op2 .mul .u64 (.v 17) (.v 7)) (.op2 .add .u64 (.op2 .mul .u64 (.k (.int .u64 (4294967296))) (.v 18)) (.v 10)))
        (.br (.op2 .geq .u64 (.op2 .add .u64 (.v 18) (.v 6)) (.k (.int .u64 (4294967296))))
         (.next 0 [(.op2 .sub .u64 (.v 17) (.k (.int .u64 (1))))])
         (.next 1 [(.op2 .sub .u64 (.v 17) (.k (.int .u64 (1)))), (.op2 .add .u64 (.v 18) (.v 6))]))
        (.next 0 [(.v 17)]))))))))
     (.rq (.int .u64 (.v 17))
     (.rq (.int .u64 (.v 14))
     (.rq (.int .u64 (.v 10))
     (.rq (.num (.v 5))
     (.rq (.nn (.v 5))
     (.ret [(.op2 .add .u64 (.op2 .mul .u64 (.v 13) (.k (.int .u64 (4294967296)))) (.v 17)), (.op2 .shr .u64 (.op2 .sub .u64 (.op2 .add .u64 (.op2 .mul .u64 (.v 14) (.k (.int .u64 (4294967296)))) (.v 10)) (.op2 .mul .u64 (.v 17) (.v 4))) (.v 5))]))))))))))))))))))))))))))) := by kernel_rfl
theorem np_div64 : (Tryz.prog.funcs[140]?).map (fun fn => fn.params.size + fn.nfree) = some 3 := by kernel_rfl
theorem tr_len64 : tree Tryz.prog [] [] [⟨2, 4, [0, 2], []⟩, ⟨2, 8, [0, 2], []⟩, ⟨2, 14, [0, 2], []⟩] [] 165 = some (.rq (.int .u64 (.v 0))
(.join 2
 (.br (.op2 .geq .u64 (.v 0) (.k (.int .u64 (4294967296))))
  (.next 0 [(.op2 .shr .u64 (.v 0) (.k (.int .u64 (32)))), (.k (.int .i64 (32)))])
  (.next 0 [(.v 0), (.k (.int .i64 (0)))]))
 (.rq (.int .u64 (.v 1))
 (.join 2
  (.br (.op2 .geq .u64 (.v 1) (.k (.int .u64 (65536))))
   (.rq (.int .i64 (.v 2))
   (.next 0 [(.op2 .shr .u64 (.v 1) (.k (.int .u64 (16)))), (.op2 .add .i64 (.v 2) (.k (.int .i64 (16))))]))
   (.next 0 [(.v 1), (.v 2)]))
  (.rq (.int .u64 (.v 3))
  (.join 2
   (.br (.op2 .geq .u64 (.v 3) (.k (.int .u64 (256))))
    (.rq (.int .i64 (.v 4))
    (.next 0 [(.op2 .shr .u64 (.v 3) (.k (.int .u64 (8)))), (.op2 .add .i64 (.v 4) (.k (.int .i64 (8))))]))
    (.next 0 [(.v 3), (.v 4)]))
   (.rq (.int .u64 (.v 5))
   (.prim 10 3 (opr Tryz.f165 10 3) [(.k (.string ⟨#[0, 1, 2, 2, 3, 3, 3, 3, 4, 4, 4, 4, 4, 4, 4, 4, 5, 5, 5, 5, 5, 5, 5, 5, 5, 5, 5, 5, 5, 5, 5, 5, 6, 6, 6, 6, 6, 6, 6, 6, 6, 6, 6, 6, 6, 6, 6, 6, 6, 6, 6, 6, 6, 6, 6, 6, 6, 6, 6, 6, 6, 6, 6, 6, 7, 7, 7, 7, 7, 7, 7, 7, 7, 7, 7, 7, 7, 7, 7, 7, 7, 7, 7, 7, 7, 7, 7, 7, 7, 7, 7, 7, 7, 7, 7, 7, 7, 7, 7, 7, 7, 7, 7, 7, 7, 7, 7, 7, 7, 7, 7, 7, 7, 7, 7, 7, 7, 7, 7, 7, 7, 7, 7, 7, 7, 7, 7, 7, 8, 8, 8, 8, 8, 8, 8, 8, 8, 8, 8, 8, 8, 8, 8, 8, 8, 8, 8, 8, 8, 8, 8, 8, 8, 8, 8, 8, 8, 8, 8, 8, 8, 8, 8, 8, 8, 8, 8, 8, 8, 8, 8, 8, 8, 8, 8, 8, 8, 8, 8, 8, 8, 8, 8, 8, 8, 8, 8, 8, 8, 8, 8, 8, 8, 8, 8, 8, 8, 8, 8, 8, 8, 8, 8, 8, 8, 8, 8, 8, 8, 8, 8, 8, 8, 8, 8, 8, 8, 8, 8, 8, 8, 8, 8, 8, 8, 8, 8, 8, 8, 8, 8, 8, 8, 8, 8, 8, 8, 8, 8, 8, 8, 8, 8, 8, 8, 8, 8, 8, 8, 8, 8, 8, 8, 8, 8, 8]⟩)), (.cv .u8 (.v 5))]
   (.rq (.int .u8 (.v 7))
   (.rq (.int .i64 (.v 6))
   (.ret [(.op2 .add .i64 (.v 6) (.cv .i64 (.v 7)))]))))))))))) := by kernel_rfl
theorem np_len64 : (Tryz.prog.funcs[165]?).map (fun fn => fn.params.size + fn.nfree) = some 1 := by kernel_rfl
theorem op_len64_10_3 : (opr Tryz.f165 10 3).op = .index 9 (.const (.string ⟨#[0, 1, 2, 2, 3, 3, 3, 3, 4, 4, 4, 4, 4, 4, 4, 4, 5, 5, 5, 5, 5, 5, 5, 5, 5, 5, 5, 5, 5, 5, 5, 5, 6, 6, 6, 6, 6, 6, 6, 6, 6, 6, 6, 6, 6, 6, 6, 6, 6, 6, 6, 6, 6, 6, 6, 6, 6, 6, 6, 6, 6, 6, 6, 6, 7, 7, 7, 7, 7, 7, 7, 7, 7, 7, 7, 7, 7, 7, 7, 7, 7, 7, 7, 7, 7, 7, 7, 7, 7, 7, 7, 7, 7, 7, 7, 7, 7, 7, 7, 7, 7, 7, 7, 7, 7, 7, 7, 7, 7, 7, 7, 7, 7, 7, 7, 7, 7, 7, 7, 7, 7, 7, 7, 7, 7, 7, 7, 7, 8, 8, 8, 8, 8, 8, 8, 8, 8, 8, 8, 8, 8, 8, 8, 8, 8, 8, 8, 8, 8, 8, 8, 8, 8, 8, 8, 8, 8, 8, 8, 8, 8, 8, 8, 8, 8, 8, 8, 8, 8, 8, 8, 8, 8, 8, 8, 8, 8, 8, 8, 8, 8, 8, 8, 8, 8, 8, 8, 8, 8, 8, 8, 8, 8, 8, 8, 8, 8, 8, 8, 8, 8, 8, 8, 8, 8, 8, 8, 8, 8, 8, 8, 8, 8, 8, 8, 8, 8, 8, 8, 8, 8, 8, 8, 8, 8, 8, 8, 8, 8, 8, 8, 8, 8, 8, 8, 8, 8, 8, 8, 8, 8, 8, 8, 8, 8, 8, 8, 8, 8, 8, 8, 8, 8, 8, 8, 8]⟩)) (.tmp 21) := by kernel_rfl
theorem tr_lz64 : tree Tryz.prog [] [] [] [] 158 = some (.call false 165 [(.v 0)]
(.rq (.int .i64 (.v 1))
(.ret [(.op2 .sub .i64 (.k (.int .i64 (64))) (.v 1))]))) := by kernel_rfl
theorem np_lz64 : (Tryz.prog.funcs[158]?).map (fun fn => fn.params.size + fn.nfree) = some 1 := by kernel_rfl
theorem tr_trimP : tree Tryz.prog [] [] [] [] 123 = some (.call false 148 [(.v 0), (.v 1)]
(.ret [(.v 2)])) := by kernel_rfl
theorem np_trimP : (Tryz.prog.funcs[123]?).map (fun fn => fn.params.size + fn.nfree) = some 2 := by kernel_rfl
theorem tr_trimPi : tree Tryz.prog [] [] [] [] 148 = some (.call false 164 [(.v 0), (.v 1)]
(.rq (.bool (.v 2))
(.br (.v 2)
 (.prim 2 2 (opr Tryz.f148 2 2) [(.v 1)]
 (.prim 2 3 (opr Tryz.f148 2 3) [(.v 0), (.v 3)]
 (.ret [(.v 4)])))
 (.ret [(.v 0)])))) := by kernel_rfl
theorem np_trimPi : (Tryz.prog.funcs[148]?).map (fun fn => fn.params.size + fn.nfree) = some 2 := by kernel_rfl
theorem op_trimPi_2_2 : (opr Tryz.f148 2 2).op = .call ⟨.builtin .len, #[(.tmp 9)], #[9]⟩ := by kernel_rfl
theorem op_trimPi_2_3 : (opr Tryz.f148 2 3).op = .slice 9 (.tmp 8) (some (.tmp 10)) none none := by kernel_rfl
theorem tr_hasP : tree Tryz.prog [] [] [] [] 164 = some (.prim 1 1 (opr Tryz.f164 1 1) [(.v 0)]
(.prim 1 3 (opr Tryz.f164 1 3) [(.v 1)]
(.rq (.int .i64 (.v 2))
(.rq (.int .i64 (.v 3))
(.br (.op2 .geq .i64 (.v 2) (.v 3))
 (.prim 1 8 (opr Tryz.f164 1 8) [(.v 1)]
 (.prim 1 9 (opr Tryz.f164 1 9) [(.v 0), (.v 4)]
 (.prim 1 11 (opr Tryz.f164 1 11) [(.v 5), (.v 1)]
 (.ret [(.v 6)]))))
 (.ret [(.k (.bool false))])))))) := by kernel_rfl
theorem np_hasP : (Tryz.prog.funcs[164]?).map (fun fn => fn.params.size + fn.nfree) = some 2 := by kernel_rfl
theorem op_hasP_1_1 : (opr Tryz.f164 1 1).op = .call ⟨.builtin .len, #[(.tmp 5)], #[9]⟩ := by kernel_rfl
theorem op_hasP_1_3 : (opr Tryz.f164 1 3).op = .call ⟨.builtin .len, #[(.tmp 7)], #[9]⟩ := by kernel_rfl
theorem op_hasP_1_8 : (opr Tryz.f164 1 8).op = .call ⟨.builtin .len, #[(.tmp 12)], #[9]⟩ := by kernel_rfl
theorem op_hasP_1_9 : (opr Tryz.f164 1 9).op = .slice 9 (.tmp 11) none (some (.tmp 13)) none := by kernel_rfl
theorem op_hasP_1_11 : (opr Tryz.f164 1 11).op = .binOp .eql 9 (.tmp 14) (.tmp 15) 9 := by kernel_rfl
end Go.Proofs.YtcleogdmobdnpaaGreat

/- MADE BY rxgen.py: the trees of package wide. -/
import Derived.Test.YtcleogdmobdnpacGreatRDoorRows
import Derived.Test.YtcleogdmobdnpacGreatRDoorRxH
import Derived.KernelRfl
namespace Go.Proofs.YtcleogdmobdnpacGreatRDoor
open Go.RowKit Go.RX
theorem mixed : Tryz.prog.follows .mixedOrders = true := by kernel_rfl
theorem tr_zero : tree Tryz.prog [] [] [] [] 91 = some (.rq (.cells 8 (.v 0))
(.prim 1 2 (opr Tryz.f91 1 2) [(.ag (.v 0)), (.z 87)]
(.ret [(.v 1)]))) := by kernel_rfl
theorem np_zero : (Tryz.prog.funcs[91]?).map (fun fn => fn.params.size + fn.nfree) = some 1 := by kernel_rfl
theorem op_zero_1_2 : (opr Tryz.f91 1 2).op = .binOp .eql 87 (.tmp 3) (.tmp 4) 87 := by kernel_rfl
theorem tr_plus : tree Tryz.prog [] [] [⟨0, 3, [], [0]⟩] [⟨5, [0, 0, 2, 6, 0, 16, 48, 0, 254, 510, 1022, 1022, 2047, 6143, 16383], [0, 0, 1, 1, 0, 1, 1, 0, 2, 0, 0, 0, 1, 4, 0], [0, 0, 0, 0, 0, 0, 0, 0, 0, 0, 0, 0, 0, 0, 0], [0, 1, 2, 3, 4, 5, 6, 7, 8, 9, 10, 11, 12], [13, 14]⟩] 52 = some (.rq (.cells 8 (.v 0))
(.rq (.cells 8 (.v 1))
(.loop [(.k (.int .u64 (0))), (.k (.int .i64 (0))), (.v 0)]
 (.rq (.int .i64 (.v 3))
 (.br (.op2 .lss .i64 (.v 3) (.k (.int .i64 (8))))
  (.rq (.num (.v 3))
  (.rq (.lt 8 (.v 3))
  (.ext 103 [(.cell (.v 4) 0 1 (.v 3)), (.cell (.v 1) 0 1 (.v 3)), (.v 2)]
  (.rq (.tup 0 (.v 5))
  (.rq (.tup 1 (.v 5))
  (.rq (.cells 1 (.proj (.v 5) 0))
  (.next 0 [(.proj (.v 5) 1), (.op2 .add .i64 (.v 3) (.k (.int .i64 (1)))), (.put (.v 4) 0 1 (.proj (.v 5) 0) 1 (.v 3))])))))))
  (.ret [(.ag (.v 4)), (.v 2)])))))) := by kernel_rfl
theorem np_plus : (Tryz.prog.funcs[52]?).map (fun fn => fn.params.size + fn.nfree) = some 2 := by kernel_rfl
theorem tr_minus : tree Tryz.prog [] [] [⟨0, 3, [], [0]⟩] [⟨5, [0, 0, 2, 6, 0, 16, 48, 0, 254, 510, 1022, 1022, 2047, 6143, 16383], [0, 0, 1, 1, 0, 1, 1, 0, 2, 0, 0, 0, 1, 4, 0], [0, 0, 0, 0, 0, 0, 0, 0, 0, 0, 0, 0, 0, 0, 0], [0, 1, 2, 3, 4, 5, 6, 7, 8, 9, 10, 11, 12], [13, 14]⟩] 105 = some (.rq (.cells 8 (.v 0))
(.rq (.cells 8 (.v 1))
(.loop [(.k (.int .u64 (0))), (.k (.int .i64 (0))), (.v 0)]
 (.rq (.int .i64 (.v 3))
 (.br (.op2 .lss .i64 (.v 3) (.k (.int .i64 (8))))
  (.rq (.num (.v 3))
  (.rq (.lt 8 (.v 3))
  (.ext 132 [(.cell (.v 4) 0 1 (.v 3)), (.cell (.v 1) 0 1 (.v 3)), (.v 2)]
  (.rq (.tup 0 (.v 5))
  (.rq (.tup 1 (.v 5))
  (.rq (.cells 1 (.proj (.v 5) 0))
  (.next 0 [(.proj (.v 5) 1), (.op2 .add .i64 (.v 3) (.k (.int .i64 (1)))), (.put (.v 4) 0 1 (.proj (.v 5) 0) 1 (.v 3))])))))))
  (.ret [(.ag (.v 4)), (.v 2)])))))) := by kernel_rfl
theorem np_minus : (Tryz.prog.funcs[105]?).map (fun fn => fn.params.size + fn.nfree) = some 2 := by kernel_rfl
theorem tr_order : tree Tryz.prog [] [] [⟨0, 2, [], []⟩] [⟨4, [0, 1, 3, 0, 8, 24, 63], [0, 1, 1, 0, 1, 1, 0], [0, 0, 0, 0, 0, 0, 0], [0, 1, 2, 3, 4, 5, 6], []⟩, ⟨5, [0, 1, 3, 0, 8, 24, 63], [0, 1, 1, 0, 1, 1, 0], [0, 0, 0, 0, 0, 0, 0], [0, 1, 2, 3, 4, 5, 6], []⟩] 104 = some (.rq (.cells 8 (.v 0))
(.rq (.cells 8 (.v 1))
(.loop [(.k (.int .i64 (0))), (.k (.int .i64 (7)))]
 (.rq (.int .i64 (.v 3))
 (.br (.op2 .geq .i64 (.v 3) (.k (.int .i64 (0))))
  (.rq (.num (.v 3))
  (.rq (.lt 8 (.v 3))
  (.rq (.int .u64 (.cell (.v 0) 0 1 (.v 3)))
  (.rq (.int .u64 (.cell (.v 1) 0 1 (.v 3)))
  (.br (.op2 .neq .u64 (.cell (.v 0) 0 1 (.v 3)) (.cell (.v 1) 0 1 (.v 3)))
   (.br (.op2 .lss .u64 (.cell (.v 0) 0 1 (.v 3)) (.cell (.v 1) 0 1 (.v 3)))
    (.ret [(.k (.int .i64 (-1)))])
    (.ret [(.k (.int .i64 (1)))]))
   (.next 0 [(.v 2), (.op2 .sub .i64 (.v 3) (.k (.int .i64 (1))))]))))))
  (.ret [(.k (.int .i64 (0)))])))))) := by kernel_rfl
theorem np_order : (Tryz.prog.funcs[104]?).map (fun fn => fn.params.size + fn.nfree) = some 2 := by kernel_rfl
theorem tr_short : tree Tryz.prog [] [] [⟨0, 3, [], [0]⟩] [] 92 = some (.rq (.cells 8 (.v 0))
(.loop [(.k (.int .u64 (0))), (.k (.int .i64 (7))), (.v 0)]
 (.rq (.int .i64 (.v 3))
 (.br (.op2 .geq .i64 (.v 3) (.k (.int .i64 (0))))
  (.rq (.num (.v 3))
  (.rq (.lt 8 (.v 3))
  (.call false 123 [(.v 2), (.cell (.v 4) 0 1 (.v 3)), (.v 1)]
  (.rq (.tup 0 (.v 5))
  (.rq (.tup 1 (.v 5))
  (.rq (.cells 1 (.proj (.v 5) 0))
  (.next 0 [(.proj (.v 5) 1), (.op2 .sub .i64 (.v 3) (.k (.int .i64 (1)))), (.put (.v 4) 0 1 (.proj (.v 5) 0) 1 (.v 3))])))))))
  (.ret [(.ag (.v 4)), (.v 2)]))))) := by kernel_rfl
theorem np_short : (Tryz.prog.funcs[92]?).map (fun fn => fn.params.size + fn.nfree) = some 2 := by kernel_rfl
theorem tr_read : tree Tryz.prog [] [] [] [] 90 = some (.rq (.cells 8 (.v 0))
(.rq (.int .u64 (.cell (.v 0) 7 0 noI))
(.br (.op2 .eql .u64 (.op2 .shr .u64 (.cell (.v 0) 7 0 noI) (.k (.int .u64 (63)))) (.k (.int .u64 (1))))
 (.call false 105 [(.z 87), (.ag (.v 0))]
 (.rq (.tup 0 (.v 1))
 (.rq (.tup 1 (.v 1))
 (.rq (.cells 8 (.proj (.v 1) 0))
 (.ret [(.cat (.op2 .eql .u64 (.op2 .shr .u64 (.cell (.v 0) 7 0 noI) (.k (.int .u64 (63)))) (.k (.int .u64 (1)))) 1 (.proj (.v 1) 0))])))))
 (.ret [(.cat (.op2 .eql .u64 (.op2 .shr .u64 (.cell (.v 0) 7 0 noI) (.k (.int .u64 (63)))) (.k (.int .u64 (1)))) 1 (.ag (.v 0)))])))) := by kernel_rfl
theorem np_read : (Tryz.prog.funcs[90]?).map (fun fn => fn.params.size + fn.nfree) = some 1 := by kernel_rfl
theorem tr_told : tree Tryz.prog [] [] [] [] 54 = some (.rq (.cells 9 (.v 0))
(.call false 104 [(.sub (.v 0) 1 8 0 noI), (.put (.z 87) 7 1 (.k (.int .u64 (9223372036854775808))) 0 noI)]
(.rq (.int .i64 (.v 1))
(.br (.op2 .gtr .i64 (.v 1) (.k (.int .i64 (0))))
 (.ret [(.z 31), (.k (.int .i64 (6)))])
 (.br (.op2 .eql .i64 (.v 1) (.k (.int .i64 (0))))
  (.rq (.bool (.cell (.v 0) 0 0 noI))
  (.br (.nt (.cell (.v 0) 0 0 noI))
   (.ret [(.z 31), (.k (.int .i64 (6)))])
   (.call false 105 [(.z 87), (.sub (.v 0) 1 8 0 noI)]
   (.rq (.tup 0 (.v 2))
   (.rq (.tup 1 (.v 2))
   (.rq (.cells 8 (.proj (.v 2) 0))
   (.ret [(.ag (.proj (.v 2) 0)), (.k (.int .i64 (0)))])))))))
  (.rq (.bool (.cell (.v 0) 0 0 noI))
  (.br (.cell (.v 0) 0 0 noI)
   (.call false 105 [(.z 87), (.sub (.v 0) 1 8 0 noI)]
   (.rq (.tup 0 (.v 2))
   (.rq (.tup 1 (.v 2))
   (.rq (.cells 8 (.proj (.v 2) 0))
   (.ret [(.ag (.proj (.v 2) 0)), (.k (.int .i64 (0)))])))))
   (.ret [(.sub (.v 0) 1 8 0 noI), (.k (.int .i64 (0)))])))))))) := by kernel_rfl
theorem np_told : (Tryz.prog.funcs[54]?).map (fun fn => fn.params.size + fn.nfree) = some 1 := by kernel_rfl
theorem tr_of : tree Tryz.prog [] [] [] [⟨1, [0, 1, 3, 7, 15, 31, 0, 127, 255], [0, 0, 5, 2, 0, 0, 5, 0, 6], [0, 0, 0, 0, 0, 0, 0, 0, 1], [0, 1, 2, 6, 3, 4, 5, 7], [8]⟩] 53 = some (.rq (.cells 8 (.v 1))
(.rq (.bool (.v 0))
(.br (.v 0)
 (.call true 91 [(.ag (.v 1))]
 (.rq (.bool (.v 2))
 (.ret [(.cat (.nt (.v 2)) 1 (.ag (.v 1)))])))
 (.ret [(.cat (.k (.bool false)) 1 (.ag (.v 1)))])))) := by kernel_rfl
theorem np_of : (Tryz.prog.funcs[53]?).map (fun fn => fn.params.size + fn.nfree) = some 2 := by kernel_rfl
theorem tr_sum : tree Tryz.prog [] [] [] [] 140 = some (.rq (.cells 9 (.v 0))
(.rq (.cells 9 (.v 1))
(.rq (.bool (.cell (.v 0) 0 0 noI))
(.rq (.bool (.cell (.v 1) 0 0 noI))
(.br (.eqb false (.cell (.v 0) 0 0 noI) (.cell (.v 1) 0 0 noI))
 (.call false 52 [(.sub (.v 0) 1 8 0 noI), (.sub (.v 1) 1 8 0 noI)]
 (.rq (.tup 0 (.v 2))
 (.rq (.tup 1 (.v 2))
 (.rq (.cells 8 (.proj (.v 2) 0))
 (.call false 53 [(.cell (.v 0) 0 0 noI), (.ag (.proj (.v 2) 0))]
 (.rq (.int .u64 (.proj (.v 2) 1))
 (.rq (.cells 9 (.v 3))
 (.ret [(.ag (.v 3)), (.op2 .gtr .u64 (.proj (.v 2) 1) (.k (.int .u64 (0))))]))))))))
 (.call false 104 [(.sub (.v 0) 1 8 0 noI), (.sub (.v 1) 1 8 0 noI)]
 (.rq (.int .i64 (.v 2))
 (.br (.op2 .geq .i64 (.v 2) (.k (.int .i64 (0))))
  (.call false 105 [(.sub (.v 0) 1 8 0 noI), (.sub (.v 1) 1 8 0 noI)]
  (.rq (.tup 0 (.v 3))
  (.rq (.tup 1 (.v 3))
  (.rq (.cells 8 (.proj (.v 3) 0))
  (.call false 53 [(.cell (.v 0) 0 0 noI), (.ag (.proj (.v 3) 0))]
  (.rq (.cells 9 (.v 4))
  (.ret [(.ag (.v 4)), (.k (.bool false))])))))))
  (.call false 105 [(.sub (.v 1) 1 8 0 noI), (.sub (.v 0) 1 8 0 noI)]
  (.rq (.tup 0 (.v 3))
  (.rq (.tup 1 (.v 3))
  (.rq (.cells 8 (.proj (.v 3) 0))
  (.call false 53 [(.cell (.v 1) 0 0 noI), (.ag (.proj (.v 3) 0))]
  (.rq (.cells 9 (.v 4))
  (.ret [(.ag (.v 4)), (.k (.bool false))]))))))))))))))) := by kernel_rfl
theorem np_sum : (Tryz.prog.funcs[140]?).map (fun fn => fn.params.size + fn.nfree) = some 2 := by kernel_rfl
theorem tr_turned : tree Tryz.prog [] [] [] [] 159 = some (.rq (.cells 9 (.v 0))
(.rq (.bool (.cell (.v 0) 0 0 noI))
(.call false 53 [(.nt (.cell (.v 0) 0 0 noI)), (.sub (.v 0) 1 8 0 noI)]
(.rq (.cells 9 (.v 1))
(.ret [(.ag (.v 1))]))))) := by kernel_rfl
theorem np_turned : (Tryz.prog.funcs[159]?).map (fun fn => fn.params.size + fn.nfree) = some 1 := by kernel_rfl
theorem tr_diff : tree Tryz.prog [] [] [] [⟨1, [0, 0, 2, 7, 15, 15, 63, 127], [5, 5, 2, 2, 0, 0, 6, 0], [0, 1, 0, 0, 0, 0, 2, 0], [0, 1, 2, 3, 4, 5], [6, 7]⟩] 141 = some (.rq (.cells 9 (.v 0))
(.rq (.cells 9 (.v 1))
(.call true 159 [(.ag (.v 1))]
(.call true 140 [(.ag (.v 0)), (.v 2)]
(.rq (.tup 0 (.v 3))
(.rq (.tup 1 (.v 3))
(.rq (.cells 9 (.proj (.v 3) 0))
(.ret [(.ag (.proj (.v 3) 0)), (.proj (.v 3) 1)])))))))) := by kernel_rfl
theorem np_diff : (Tryz.prog.funcs[141]?).map (fun fn => fn.params.size + fn.nfree) = some 2 := by kernel_rfl
theorem tr_prod : tree Tryz.prog [] [] [] [] 142 = some (.rq (.cells 9 (.v 0))
(.rq (.cells 9 (.v 1))
(.call false 51 [(.sub (.v 0) 1 8 0 noI), (.sub (.v 1) 1 8 0 noI)]
(.rq (.tup 0 (.v 2))
(.rq (.tup 1 (.v 2))
(.rq (.cells 8 (.proj (.v 2) 0))
(.rq (.bool (.cell (.v 0) 0 0 noI))
(.rq (.bool (.cell (.v 1) 0 0 noI))
(.call false 53 [(.eqb true (.cell (.v 0) 0 0 noI) (.cell (.v 1) 0 0 noI)), (.ag (.proj (.v 2) 0))]
(.rq (.int .u64 (.proj (.v 2) 1))
(.rq (.cells 9 (.v 3))
(.ret [(.ag (.v 3)), (.op2 .gtr .u64 (.proj (.v 2) 1) (.k (.int .u64 (0))))])))))))))))) := by kernel_rfl
theorem np_prod : (Tryz.prog.funcs[142]?).map (fun fn => fn.params.size + fn.nfree) = some 2 := by kernel_rfl
theorem tr_oper : tree Tryz.prog [] [] [] [] 113 = some (.eff false 1 0 (opr Tryz.f113 1 0) []
(.eff false 1 1 (opr Tryz.f113 1 1) [(.v 0), (.k (.int .u8 (43))), (.k (.func (.func 140) #[] #[]))]
(.eff false 1 2 (opr Tryz.f113 1 2) [(.v 0), (.k (.int .u8 (45))), (.k (.func (.func 141) #[] #[]))]
(.eff false 1 3 (opr Tryz.f113 1 3) [(.v 0), (.k (.int .u8 (42))), (.k (.func (.func 142) #[] #[]))]
(.ret [(.v 0)]))))) := by kernel_rfl
theorem np_oper : (Tryz.prog.funcs[113]?).map (fun fn => fn.params.size + fn.nfree) = some 0 := by kernel_rfl
theorem op_oper_1_0 : (opr Tryz.f113 1 0).op = .makeMap 152 none := by kernel_rfl
theorem op_oper_1_1 : (opr Tryz.f113 1 1).op = .insert 152 (.tmp 1) (.const (.int .u8 (43))) (.func 140) := by kernel_rfl
theorem op_oper_1_2 : (opr Tryz.f113 1 2).op = .insert 152 (.tmp 1) (.const (.int .u8 (45))) (.func 141) := by kernel_rfl
theorem op_oper_1_3 : (opr Tryz.f113 1 3).op = .insert 152 (.tmp 1) (.const (.int .u8 (42))) (.func 142) := by kernel_rfl
theorem tr_both : tree Tryz.prog [] [] [] [⟨1, [0, 0, 3, 0, 9, 0, 57, 127, 255, 511, 511, 0, 3071, 8191], [2, 0, 1, 5, 2, 5, 2, 2, 0, 0, 0, 3, 4, 0], [0, 0, 0, 0, 0, 1, 0, 0, 0, 0, 0, 0, 0, 0], [1, 3, 5, 0, 2, 4, 6, 7, 8, 9, 10, 11], [12, 13]⟩] 67 = some (.rq (.cells 8 (.v 0))
(.rq (.cells 8 (.v 1))
(.call true 113 []
(.prim 1 2 (opr Tryz.f67 1 2) [(.v 3), (.v 2)]
(.call true 90 [(.ag (.v 0))]
(.call true 90 [(.ag (.v 1))]
(.eff true 1 7 (opr Tryz.f67 1 7) [(.v 4), (.v 5), (.v 6)]
(.rq (.tup 0 (.v 7))
(.rq (.tup 1 (.v 7))
(.rq (.cells 9 (.proj (.v 7) 0))
(.rq (.bool (.proj (.v 7) 1))
(.br (.proj (.v 7) 1)
 (.ret [(.z 31), (.k (.int .i64 (6)))])
 (.call false 54 [(.ag (.proj (.v 7) 0))]
 (.rq (.tup 0 (.v 8))
 (.rq (.tup 1 (.v 8))
 (.rq (.cells 8 (.proj (.v 8) 0))
 (.ret [(.ag (.proj (.v 8) 0)), (.proj (.v 8) 1)]))))))))))))))))) := by kernel_rfl
theorem np_both : (Tryz.prog.funcs[67]?).map (fun fn => fn.params.size + fn.nfree) = some 3 := by kernel_rfl
theorem op_both_1_2 : (opr Tryz.f67 1 2).op = .lookup 152 (.tmp 11) (.tmp 12) false := by kernel_rfl
theorem op_both_1_7 : (opr Tryz.f67 1 7).op = .call ⟨.value (.tmp 13), #[(.tmp 15), (.tmp 17)], #[89, 89]⟩ := by kernel_rfl
theorem tr_times : tree Tryz.prog [6] [] [⟨0, 4, [], []⟩, ⟨0, 7, [], []⟩, ⟨0, 15, [], []⟩] [] 51 = some (.rq (.cells 8 (.v 0))
(.rq (.cells 8 (.v 1))
(.pub 136 (.z 136)
(.eff false 2 0 (opr Tryz.f51 2 0) [(.v 2)]
(.loop [(.k (.int .i64 (0)))]
 (.rq (.int .i64 (.v 4))
 (.br (.op2 .lss .i64 (.v 4) (.k (.int .i64 (8))))
  (.rq (.num (.v 4))
  (.rq (.lt 8 (.v 4))
  (.loop [(.k (.int .i64 (0)))]
   (.rq (.int .i64 (.v 5))
   (.br (.op2 .lss .i64 (.v 5) (.k (.int .i64 (8))))
    (.rq (.num (.v 5))
    (.rq (.lt 8 (.v 5))
    (.rq (.int .u64 (.cell (.ag (.v 0)) 0 1 (.v 4)))
    (.br (.op2 .neq .u64 (.cell (.ag (.v 0)) 0 1 (.v 4)) (.k (.int .u64 (0))))
     (.rq (.int .u64 (.cell (.ag (.v 1)) 0 1 (.v 5)))
     (.br (.op2 .neq .u64 (.cell (.ag (.v 1)) 0 1 (.v 5)) (.k (.int .u64 (0))))
      (.eff false 10 6 (opr Tryz.f51 10 6) [(.v 3), (.cell (.ag (.v 0)) 0 1 (.v 4)), (.cell (.ag (.v 1)) 0 1 (.v 5)), (.op2 .add .i64 (.v 4) (.v 5))]
      (.next 1 [(.op2 .add .i64 (.v 5) (.k (.int .i64 (1))))]))
      (.next 1 [(.op2 .add .i64 (.v 5) (.k (.int .i64 (1))))])))
     (.next 1 [(.op2 .add .i64 (.v 5) (.k (.int .i64 (1))))])))))
    (.next 0 [(.op2 .add .i64 (.v 4) (.k (.int .i64 (1))))]))))))
  (.prim 14 0 (opr Tryz.f51 14 0) [(.v 2), (.k (.int .i64 (8)))]
  (.prim 14 1 (opr Tryz.f51 14 1) [(.v 5)]
  (.loop [(.k (.int .u64 (0))), (.k (.int .i64 (0)))]
   (.rq (.int .i64 (.v 8))
   (.rq (.int .i64 (.v 6))
   (.br (.op2 .lss .i64 (.v 8) (.v 6))
    (.prim 16 0 (opr Tryz.f51 16 0) [(.v 5), (.v 8)]
    (.prim 16 1 (opr Tryz.f51 16 1) [(.v 9)]
    (.rq (.int .u64 (.v 7))
    (.rq (.int .u64 (.v 10))
    (.next 1 [(.op2 .or .u64 (.v 7) (.v 10)), (.op2 .add .i64 (.v 8) (.k (.int .i64 (1))))])))))
    (.prim 19 0 (opr Tryz.f51 19 0) [(.v 2), (.k (.int .i64 (8)))]
    (.prim 19 1 (opr Tryz.f51 19 1) [(.v 9)]
    (.prim 19 2 (opr Tryz.f51 19 2) [(.v 10)]
    (.rq (.cells 8 (.v 11))
    (.ret [(.ag (.v 11)), (.v 7)])))))))))))))))))) := by kernel_rfl
theorem np_times : (Tryz.prog.funcs[51]?).map (fun fn => fn.params.size + fn.nfree) = some 2 := by kernel_rfl
theorem op_times_2_0 : (opr Tryz.f51 2 0).op = .makeFunc (.func 101) #[] #[(.tmp 6)] := by kernel_rfl
theorem op_times_10_6 : (opr Tryz.f51 10 6).op = .call ⟨.value (.tmp 32), #[(.tmp 33), (.tmp 34), (.tmp 37)], #[29, 29, 3]⟩ := by kernel_rfl
theorem op_times_14_0 : (opr Tryz.f51 14 0).op = .slice 136 (.tmp 6) (some (.const (.int .i64 (8)))) none none := by kernel_rfl
theorem op_times_14_1 : (opr Tryz.f51 14 1).op = .call ⟨.builtin .len, #[(.tmp 41)], #[73]⟩ := by kernel_rfl
theorem op_times_16_0 : (opr Tryz.f51 16 0).op = .indexAddr 73 (.tmp 41) (.tmp 43) := by kernel_rfl
theorem op_times_16_1 : (opr Tryz.f51 16 1).op = .load 29 (.tmp 45) := by kernel_rfl
theorem op_times_19_0 : (opr Tryz.f51 19 0).op = .slice 136 (.tmp 6) none (some (.const (.int .i64 (8)))) none := by kernel_rfl
theorem op_times_19_1 : (opr Tryz.f51 19 1).op = .sliceToArrayPointer 87 (.tmp 51) := by kernel_rfl
theorem op_times_19_2 : (opr Tryz.f51 19 2).op = .load 87 (.tmp 52) := by kernel_rfl
theorem tr_times1 : tree Tryz.prog [] [] [⟨0, 5, [], []⟩] [] 101 = some (.call false 102 [(.v 0), (.v 1)]
(.rq (.tup 0 (.v 4))
(.rq (.tup 1 (.v 4))
(.prim 1 1 (opr Tryz.f101 1 1) [(.v 3), (.v 2)]
(.prim 1 2 (opr Tryz.f101 1 2) [(.v 5)]
(.ext 103 [(.v 6), (.proj (.v 4) 1), (.k (.int .u64 (0)))]
(.rq (.tup 0 (.v 7))
(.rq (.tup 1 (.v 7))
(.prim 2 2 (opr Tryz.f101 2 2) [(.v 3), (.v 2)]
(.eff false 2 3 (opr Tryz.f101 2 3) [(.v 8), (.proj (.v 7) 0)]
(.rq (.int .i64 (.v 2))
(.prim 3 4 (opr Tryz.f101 3 4) [(.v 3), (.op2 .add .i64 (.v 2) (.k (.int .i64 (1))))]
(.prim 3 5 (opr Tryz.f101 3 5) [(.v 10)]
(.ext 103 [(.v 11), (.proj (.v 4) 0), (.proj (.v 7) 1)]
(.rq (.tup 0 (.v 12))
(.rq (.tup 1 (.v 12))
(.prim 3 12 (opr Tryz.f101 3 12) [(.v 3), (.op2 .add .i64 (.v 2) (.k (.int .i64 (1))))]
(.eff false 3 13 (opr Tryz.f101 3 13) [(.v 13), (.proj (.v 12) 0)]
(.loop [(.proj (.v 12) 1), (.op2 .add .i64 (.v 2) (.k (.int .i64 (2))))]
 (.rq (.int .u64 (.v 15))
 (.br (.op2 .gtr .u64 (.v 15) (.k (.int .u64 (0))))
  (.rq (.int .i64 (.v 16))
  (.br (.op2 .eql .i64 (.v 16) (.k (.int .i64 (16))))
   (.ret [])
   (.prim 8 2 (opr Tryz.f101 8 2) [(.v 3), (.v 16)]
   (.prim 8 3 (opr Tryz.f101 8 3) [(.v 17)]
   (.ext 103 [(.v 18), (.k (.int .u64 (0))), (.v 15)]
   (.rq (.tup 0 (.v 19))
   (.rq (.tup 1 (.v 19))
   (.prim 8 9 (opr Tryz.f101 8 9) [(.v 3), (.v 16)]
   (.eff false 8 10 (opr Tryz.f101 8 10) [(.v 20), (.proj (.v 19) 0)]
   (.next 0 [(.proj (.v 19) 1), (.op2 .add .i64 (.v 16) (.k (.int .i64 (1))))]))))))))))
  (.ret [])))))))))))))))))))))) := by kernel_rfl
theorem np_times1 : (Tryz.prog.funcs[101]?).map (fun fn => fn.params.size + fn.nfree) = some 4 := by kernel_rfl
theorem op_times1_1_1 : (opr Tryz.f101 1 1).op = .indexAddr 136 (.tmp 3) (.tmp 19) := by kernel_rfl
theorem op_times1_1_2 : (opr Tryz.f101 1 2).op = .load 29 (.tmp 20) := by kernel_rfl
theorem op_times1_2_2 : (opr Tryz.f101 2 2).op = .indexAddr 136 (.tmp 3) (.tmp 26) := by kernel_rfl
theorem op_times1_2_3 : (opr Tryz.f101 2 3).op = .store 29 (.tmp 28) (.tmp 27) := by kernel_rfl
theorem op_times1_3_4 : (opr Tryz.f101 3 4).op = .indexAddr 136 (.tmp 3) (.tmp 33) := by kernel_rfl
theorem op_times1_3_5 : (opr Tryz.f101 3 5).op = .load 29 (.tmp 34) := by kernel_rfl
theorem op_times1_3_12 : (opr Tryz.f101 3 12).op = .indexAddr 136 (.tmp 3) (.tmp 31) := by kernel_rfl
theorem op_times1_3_13 : (opr Tryz.f101 3 13).op = .store 29 (.tmp 41) (.tmp 39) := by kernel_rfl
theorem op_times1_8_2 : (opr Tryz.f101 8 2).op = .indexAddr 136 (.tmp 3) (.tmp 52) := by kernel_rfl
theorem op_times1_8_3 : (opr Tryz.f101 8 3).op = .load 29 (.tmp 53) := by kernel_rfl
theorem op_times1_8_9 : (opr Tryz.f101 8 9).op = .indexAddr 136 (.tmp 3) (.tmp 51) := by kernel_rfl
theorem op_times1_8_10 : (opr Tryz.f101 8 10).op = .store 29 (.tmp 59) (.tmp 57) := by kernel_rfl
theorem tr_Of : tree Tryz.prog [] [] [⟨0, 4, [], [1]⟩] [] 14 = some (.rq (.int .i64 (.v 0))
(.br (.op2 .lss .i64 (.v 0) (.k (.int .i64 (0))))
 (.loop [(.k (.int .i64 (1))), (.put (.z 31) 0 1 (.cv .u64 (.v 0)) 0 noI)]
  (.rq (.int .i64 (.v 1))
  (.br (.op2 .lss .i64 (.v 1) (.k (.int .i64 (8))))
   (.rq (.num (.v 1))
   (.rq (.lt 8 (.v 1))
   (.next 0 [(.op2 .add .i64 (.v 1) (.k (.int .i64 (1)))), (.put (.v 2) 0 1 (.k (.int .u64 (18446744073709551615))) 1 (.v 1))])))
   (.ret [(.ag (.v 2))]))))
 (.ret [(.put (.z 31) 0 1 (.cv .u64 (.v 0)) 0 noI)]))) := by kernel_rfl
theorem np_Of : (Tryz.prog.funcs[14]?).map (fun fn => fn.params.size + fn.nfree) = some 1 := by kernel_rfl
theorem tr_Mul : tree Tryz.prog [] [] [] [] 18 = some (.rq (.cells 8 (.v 0))
(.rq (.cells 8 (.v 1))
(.call false 67 [(.ag (.v 0)), (.ag (.v 1)), (.k (.int .u8 (42)))]
(.rq (.tup 0 (.v 2))
(.rq (.tup 1 (.v 2))
(.rq (.cells 8 (.proj (.v 2) 0))
(.ret [(.ag (.proj (.v 2) 0)), (.proj (.v 2) 1)]))))))) := by kernel_rfl
theorem np_Mul : (Tryz.prog.funcs[18]?).map (fun fn => fn.params.size + fn.nfree) = some 2 := by kernel_rfl
theorem tr_Pow : tree Tryz.prog [] [] [⟨0, 5, [], [2]⟩] [⟨10, [0, 0, 3, 7, 15, 15, 63, 127, 255, 255, 1023, 2047, 4095], [5, 0, 1, 0, 5, 2, 1, 0, 5, 2, 1, 0, 0], [2, 0, 0, 0, 2, 0, 0, 0, 0, 0, 0, 0, 0], [0, 1, 2, 3, 4, 5, 6, 7, 8, 9, 10, 11, 12], []⟩] 13 = some (.rq (.cells 8 (.v 0))
(.rq (.int .i64 (.v 1))
(.br (.op2 .lss .i64 (.v 1) (.k (.int .i64 (0))))
 (.ret [(.z 31), (.k (.int .i64 (2)))])
 (.br (.op2 .gtr .i64 (.v 1) (.k (.int .i64 (600))))
  (.ret [(.z 31), (.k (.int .i64 (2)))])
  (.call false 14 [(.k (.int .i64 (1)))]
  (.rq (.cells 8 (.v 2))
  (.loop [(.k (.int .i64 (0))), (.k (.int .i64 (0))), (.v 2)]
   (.rq (.int .i64 (.v 4))
   (.br (.op2 .lss .i64 (.v 4) (.v 1))
    (.call false 18 [(.ag (.v 5)), (.ag (.v 0))]
    (.rq (.tup 0 (.v 6))
    (.rq (.tup 1 (.v 6))
    (.rq (.cells 8 (.proj (.v 6) 0))
    (.rq (.int .i64 (.proj (.v 6) 1))
    (.br (.op2 .neq .i64 (.proj (.v 6) 1) (.k (.int .i64 (0))))
     (.ret [(.z 31), (.proj (.v 6) 1)])
     (.prim 10 2 (opr Tryz.f13 10 2) [(.ag (.proj (.v 6) 0)), (.z 31)]
     (.rq (.bool (.v 7))
     (.br (.v 7)
      (.ret [(.ag (.proj (.v 6) 0)), (.k (.int .i64 (0)))])
      (.call true 14 [(.k (.int .i64 (1)))]
      (.prim 10 6 (opr Tryz.f13 10 6) [(.ag (.proj (.v 6) 0)), (.v 8)]
      (.rq (.bool (.v 9))
      (.br (.v 9)
       (.call true 14 [(.k (.int .i64 (1)))]
       (.prim 10 10 (opr Tryz.f13 10 10) [(.ag (.v 0)), (.v 10)]
       (.rq (.bool (.v 11))
       (.br (.v 11)
        (.ret [(.ag (.proj (.v 6) 0)), (.k (.int .i64 (0)))])
        (.next 0 [(.v 3), (.op2 .add .i64 (.v 4) (.k (.int .i64 (1)))), (.proj (.v 6) 0)])))))
       (.next 0 [(.v 3), (.op2 .add .i64 (.v 4) (.k (.int .i64 (1)))), (.proj (.v 6) 0)]))))))))))))))
    (.ret [(.ag (.v 5)), (.k (.int .i64 (0)))])))))))))) := by kernel_rfl
theorem np_Pow : (Tryz.prog.funcs[13]?).map (fun fn => fn.params.size + fn.nfree) = some 2 := by kernel_rfl
theorem op_Pow_10_2 : (opr Tryz.f13 10 2).op = .binOp .eql 31 (.tmp 29) (.tmp 30) 31 := by kernel_rfl
theorem op_Pow_10_6 : (opr Tryz.f13 10 6).op = .binOp .eql 31 (.tmp 33) (.tmp 34) 31 := by kernel_rfl
theorem op_Pow_10_10 : (opr Tryz.f13 10 10).op = .binOp .eql 31 (.tmp 37) (.tmp 38) 31 := by kernel_rfl
theorem tr_Parse : tree Tryz.prog [] [] [⟨3, 2, [26], []⟩, ⟨0, 6, [], [1]⟩] [⟨13, [0, 1, 3, 0, 15, 0, 0, 96, 224, 31, 1023], [0, 1, 0, 5, 2, 0, 0, 0, 0, 6, 0], [0, 0, 0, 3, 0, 0, 0, 0, 0, 1, 0], [0, 1, 2, 3, 5, 6, 7, 8, 4], [9, 10]⟩] 11 = some (.call false 50 [(.v 0), (.k (.string ⟨#[45]⟩))]
(.join 1
 (.prim 2 1 (opr Tryz.f11 2 1) [(.v 1), (.k (.string ⟨#[]⟩))]
 (.rq (.bool (.v 2))
 (.br (.v 2)
  (.next 0 [(.k (.bool true))])
  (.prim 2 4 (opr Tryz.f11 2 4) [(.v 1), (.k (.int .i64 (0)))]
  (.rq (.int .u8 (.v 3))
  (.br (.op2 .eql .u8 (.v 3) (.k (.int .u8 (48))))
   (.prim 2 8 (opr Tryz.f11 2 8) [(.v 0)]
   (.rq (.int .i64 (.v 4))
   (.next 0 [(.op2 .gtr .i64 (.v 4) (.k (.int .i64 (1))))])))
   (.next 0 [(.k (.bool false))])))))))
 (.rq (.bool (.v 2))
 (.br (.v 2)
  (.ret [(.z 31), (.k (.int .i64 (5)))])
  (.eff false 5 1 (opr Tryz.f11 5 1) [(.v 1)]
  (.loop [(.k (.int .i64 (0))), (.k (.bool false)), (.cat (.z 4) 1 (.z 87))]
   (.eff false 6 0 (opr Tryz.f11 6 0) [(.v 3)]
   (.rq (.tup 0 (.v 7))
   (.rq (.bool (.proj (.v 7) 0))
   (.br (.proj (.v 7) 0)
    (.rq (.tup 2 (.v 7))
    (.rq (.int .i32 (.proj (.v 7) 2))
    (.br (.op2 .lss .i32 (.proj (.v 7) 2) (.k (.int .i32 (48))))
     (.ret [(.z 31), (.k (.int .i64 (5)))])
     (.br (.op2 .gtr .i32 (.proj (.v 7) 2) (.k (.int .i32 (57))))
      (.ret [(.z 31), (.k (.int .i64 (5)))])
      (.rq (.bool (.v 5))
      (.br (.v 5)
       (.next 0 [(.v 4), (.v 5), (.v 6)])
       (.call false 51 [(.sub (.v 6) 1 8 0 noI), (.put (.z 87) 0 1 (.k (.int .u64 (10))) 0 noI)]
       (.rq (.tup 0 (.v 8))
       (.rq (.tup 1 (.v 8))
       (.rq (.cells 8 (.proj (.v 8) 0))
       (.call false 52 [(.ag (.proj (.v 8) 0)), (.put (.z 87) 0 1 (.cv .u64 (.op2 .sub .i32 (.proj (.v 7) 2) (.k (.int .i32 (48))))) 0 noI)]
       (.rq (.tup 0 (.v 9))
       (.rq (.tup 1 (.v 9))
       (.rq (.cells 8 (.proj (.v 9) 0))
       (.prim 13 1 (opr Tryz.f11 13 1) [(.v 0), (.k (.int .i64 (0)))]
       (.rq (.int .u8 (.v 10))
       (.rq (.int .u64 (.proj (.v 8) 1))
       (.rq (.int .u64 (.proj (.v 9) 1))
       (.call true 53 [(.op2 .eql .u8 (.v 10) (.k (.int .u8 (45)))), (.ag (.proj (.v 9) 0))]
       (.rq (.cells 9 (.v 11))
       (.next 0 [(.v 4), (.op2 .gtr .u64 (.op2 .add .u64 (.proj (.v 8) 1) (.proj (.v 9) 1)) (.k (.int .u64 (0)))), (.v 11)])))))))))))))))))))))
    (.rq (.bool (.v 5))
    (.br (.v 5)
     (.ret [(.z 31), (.k (.int .i64 (6)))])
     (.call false 54 [(.ag (.v 6))]
     (.rq (.tup 0 (.v 8))
     (.rq (.tup 1 (.v 8))
     (.rq (.cells 8 (.proj (.v 8) 0))
     (.ret [(.ag (.proj (.v 8) 0)), (.proj (.v 8) 1)]))))))))))))))))) := by kernel_rfl
theorem np_Parse : (Tryz.prog.funcs[11]?).map (fun fn => fn.params.size + fn.nfree) = some 1 := by kernel_rfl
theorem op_Parse_2_1 : (opr Tryz.f11 2 1).op = .binOp .eql 9 (.tmp 15) (.const (.string ⟨#[]⟩)) 9 := by kernel_rfl
theorem op_Parse_2_4 : (opr Tryz.f11 2 4).op = .index 9 (.tmp 18) (.const (.int .i64 (0))) := by kernel_rfl
theorem op_Parse_2_8 : (opr Tryz.f11 2 8).op = .call ⟨.builtin .len, #[(.tmp 22)], #[9]⟩ := by kernel_rfl
theorem op_Parse_5_1 : (opr Tryz.f11 5 1).op = .range 9 (.tmp 29) := by kernel_rfl
theorem op_Parse_6_0 : (opr Tryz.f11 6 0).op = .next (.tmp 30) true := by kernel_rfl
theorem op_Parse_13_1 : (opr Tryz.f11 13 1).op = .index 9 (.tmp 58) (.const (.int .i64 (0))) := by kernel_rfl
theorem tr_mul64 : tree Tryz.prog [] [] [] [] 102 = some (.rq (.int .u64 (.v 0))
(.rq (.int .u64 (.v 1))
(.ret [(.op2 .add .u64 (.op2 .add .u64 (.op2 .mul .u64 (.op2 .shr .u64 (.v 0) (.k (.int .u64 (32)))) (.op2 .shr .u64 (.v 1) (.k (.int .u64 (32))))) (.op2 .shr .u64 (.op2 .add .u64 (.op2 .mul .u64 (.op2 .shr .u64 (.v 0) (.k (.int .u64 (32)))) (.op2 .and .u64 (.v 1) (.k (.int .u64 (4294967295))))) (.op2 .shr .u64 (.op2 .mul .u64 (.op2 .and .u64 (.v 0) (.k (.int .u64 (4294967295)))) (.op2 .and .u64 (.v 1) (.k (.int .u64 (4294967295))))) (.k (.int .u64 (32))))) (.k (.int .u64 (32))))) (.op2 .shr .u64 (.op2 .add .u64 (.op2 .and .u64 (.op2 .add .u64 (.op2 .mul .u64 (.op2 .shr .u64 (.v 0) (.k (.int .u64 (32)))) (.op2 .and .u64 (.v 1) (.k (.int .u64 (4294967295))))) (.op2 .shr .u64 (.op2 .mul .u64 (.op2 .and .u64 (.v 0) (.k (.int .u64 (4294967295)))) (.op2 .and .u64 (.v 1) (.k (.int .u64 (4294967295))))) (.k (.int .u64 (32))))) (.k (.int .u64 (4294967295)))) (.op2 .mul .u64 (.op2 .and .u64 (.v 0) (.k (.int .u64 (4294967295)))) (.op2 .shr .u64 (.v 1) (.k (.int .u64 (32)))))) (.k (.int .u64 (32))))), (.op2 .mul .u64 (.v 0) (.v 1))]))) := by kernel_rfl
theorem np_mul64 : (Tryz.prog.funcs[102]?).map (fun fn => fn.params.size + fn.nfree) = some 2 := by kernel_rfl
theorem tr_div64 : tree Tryz.prog [] [(20, false), (24, false)] [⟨3, 16, [2, 8, 9, 10, 11, 13, 14, 15, 16], []⟩, ⟨1, 0, [15], []⟩, ⟨3, 23, [17, 18, 16], []⟩, ⟨1, 2, [18], []⟩, ⟨0, 17, [], []⟩, ⟨0, 24, [], []⟩] [⟨6, [0, 0, 3, 0, 0, 24, 7, 127], [0, 0, 0, 0, 0, 0, 0, 0], [0, 0, 0, 0, 0, 0, 0, 0], [0, 1, 2, 3, 4, 5, 6, 7], []⟩] 123 = some (.rq (.int .u64 (.v 2))
(.rq (.isb false (.op2 .eql .u64 (.v 2) (.k (.int .u64 (0)))))
(.rq (.int .u64 (.v 0))
(.rq (.isb false (.op2 .leq .u64 (.v 2) (.v 0)))
(.br (.op2 .eql .u64 (.v 0) (.k (.int .u64 (0))))
 (.rq (.int .u64 (.v 1))
 (.rq (.nz (.v 2))
 (.ret [(.op2 .quo .u64 (.v 1) (.v 2)), (.op2 .rem .u64 (.v 1) (.v 2))])))
 (.call false 148 [(.v 2)]
 (.rq (.int .i64 (.v 3))
 (.rq (.nn (.cv .u64 (.v 3)))
 (.rq (.int .u64 (.v 1))
 (.rq (.nn (.op2 .sub .u64 (.k (.int .u64 (64))) (.cv .u64 (.v 3))))
 (.rq (.nz (.op2 .shr .u64 (.op2 .shl .u64 (.v 2) (.cv .u64 (.v 3))) (.k (.int .u64 (32)))))
 (.join 9
  (.next 0 [(.op2 .shl .u64 (.v 2) (.cv .u64 (.v 3))), (.cv .u64 (.v 3)), (.op2 .shr .u64 (.op2 .shl .u64 (.v 2) (.cv .u64 (.v 3))) (.k (.int .u64 (32)))), (.op2 .and .u64 (.op2 .shl .u64 (.v 2) (.cv .u64 (.v 3))) (.k (.int .u64 (4294967295)))), (.op2 .or .u64 (.op2 .shl .u64 (.v 0) (.cv .u64 (.v 3))) (.op2 .shr .u64 (.v 1) (.op2 .sub .u64 (.k (.int .u64 (64))) (.cv .u64 (.v 3))))), (.op2 .shr .u64 (.op2 .shl .u64 (.v 1) (.cv .u64 (.v 3))) (.k (.int .u64 (32)))), (.op2 .and .u64 (.op2 .shl .u64 (.v 1) (.cv .u64 (.v 3))) (.k (.int .u64 (4294967295)))), (.op2 .quo .u64 (.op2 .or .u64 (.op2 .shl .u64 (.v 0) (.cv .u64 (.v 3))) (.op2 .shr .u64 (.v 1) (.op2 .sub .u64 (.k (.int .u64 (64))) (.cv .u64 (.v 3))))) (.op2 .shr .u64 (.op2 .shl .u64 (.v 2) (.cv .u64 (.v 3))) (.k (.int .u64 (32))))), (.op2 .sub .u64 (.op2 .or .u64 (.op2 .shl .u64 (.v 0) (.cv .u64 (.v 3))) (.op2 .shr .u64 (.v 1) (.op2 .sub .u64 (.k (.int .u64 (64))) (.cv .u64 (.v 3))))) (.op2 .mul .u64 (.op2 .quo .u64 (.op2 .or .u64 (.op2 .shl .u64 (.v 0) (.cv .u64 (.v 3))) (.op2 .shr .u64 (.v 1) (.op2 .sub .u64 (.k (.int .u64 (64))) (.cv .u64 (.v 3))))) (.op2 .shr .u64 (.op2 .shl .u64 (.v 2) (.cv .u64 (.v 3))) (.k (.int .u64 (32))))) (.op2 .shr .u64 (.op2 .shl .u64 (.v 2) (.cv .u64 (.v 3))) (.k (.int .u64 (32))))))])
  (.join 1
   (.loop [(.v 11), (.v 12)]
    (.rq (.int .u64 (.v 13))
    (.br (.op2 .geq .u64 (.v 13) (.k (.int .u64 (4294967296))))
     (.rq (.int .u64 (.v 14))
     (.rq (.int .u64 (.v 6))
     (.br (.op2 .geq .u64 (.op2 .add .u64 (.v 14) (.v 6)) (.k (.int .u64 (4294967296))))
      (.next 0 [(.op2 .sub .u64 (.v 13) (.k (.int .u64 (1))))])
      (.next 1 [(.op2 .sub .u64 (.v 13) (.k (.int .u64 (1)))), (.op2 .add .u64 (.v 14) (.v 6))]))))
     (.rq (.int .u64 (.v 7))
     (.rq (.int .u64 (.v 14))
     (.rq (.int .u64 (.v 9))
     (.br (.op2 .gtr .u64 (.op2 .mul .u64 (.v 13) (.v 7)) (.op2 .add .u64 (.op2 .mul .u64 (.k (.int .u64 (4294967296))) (.v 14)) (.v 9)))
      (.rq (.int .u64 (.v 6))
      (.br (.op2 .geq .u64 (.op2 .add .u64 (.v 14) (.v 6)) (.k (.int .u64 (4294967296))))
       (.next 0 [(.op2 .sub .u64 (.v 13) (.k (.int .u64 (1))))])
       (.next 1 [(.op2 .sub .u64 (.v 13) (.k (.int .u64 (1)))), (.op2 .add .u64 (.v 14) (.v 6))])))
      (.next 0 [(.v 13)]))))))))
   (.rq (.int .u64 (.v 8))
   (.rq (.int .u64 (.v 9))
   (.rq (.int .u64 (.v 13))
   (.rq (.int .u64 (.v 4))
   (.rq (.int .u64 (.v 6))
   (.rq (.nz (.v 6))
   (.join 3
    (.next 0 [(.op2 .sub .u64 (.op2 .add .u64 (.op2 .mul .u64 (.v 8) (.k (.int .u64 (4294967296)))) (.v 9)) (.op2 .mul .u64 (.v 13) (.v 4))), (.op2 .quo .u64 (.op2 .sub .u64 (.op2 .add .u64 (.op2 .mul .u64 (.v 8) (.k (.int .u64 (4294967296)))) (.v 9)) (.op2 .mul .u64 (.v 13) (.v 4))) (.v 6)), (.op2 .sub .u64 (.op2 .sub .u64 (.op2 .add .u64 (.op2 .mul .u64 (.v 8) (.k (.int .u64 (4294967296)))) (.v 9)) (.op2 .mul .u64 (.v 13) (.v 4))) (.op2 .mul .u64 (.op2 .quo .u64 (.op2 .sub .u64 (.op2 .add .u64 (.op2 .mul .u64 (.v 8) (.k (.int .u64 (4294967296)))) (.v 9)) (.op2 .mul .u64 (.v 13) (.v 4))) (.v 6)) (.v 6)))])
    (.join 1
     (.loop [(.v 15), (.v 16)]
      (.rq (.int .u64 (.v 17))
      (.br (.op2 .geq .u64 (.v 17) (.k (.int .u64 (4294967296))))
       (.rq (.int .u64 (.v 18))
       (.br (.op2 .geq .u64 (.op2 .add .u64 (.v 18) (.v 6)) (.k (.int .u64 (4294967296))))
        (.next 0 [(.op2 .sub .u64 (.v 17) (.k (.int .u64 (1))))])
        (.next 1 [(.op2 .sub .u64 (.v 17) (.k (.int .u64 (1)))), (.op2 .add .u64 (.v 18) (.v 6))])))
       (.rq (.int .u64 (.v 7))
       (.rq (.int .u64 (.v 18))
       (.rq (.int .u64 (.v 10))
       (.br (.op2 .gtr .u64 (.op2 .mul .u64 (.v 17) (.v 7)) (.op2 .add .u64 (.op2 .mul .u64 (.k (.int .u64 (4294967296))) (.v 18)) (.v 10)))
        (.br (.op2 .geq .u64 (.op2 .add .u64 (.v 18) (.v 6)) (.k (.int .u64 (4294967296))))
         (.next 0 [(.op2 .sub .u64 (.v 17) (.k (.int .u64 (1))))])
         (.next 1 [(.op2 .sub .u64 (.v 17) (.k (.int .u64 (1)))), (.op2 .add .u64 (.v 18) (.v 6))]))
        (.next 0 [(.v 17)]))))))))
     (.rq (.int .u64 (.v 17))
     (.rq (.int .u64 (.v 14))
     (.rq (.int .u64 (.v 10))
     (.rq (.num (.v 5))
     (.rq (.nn (.v 5))
     (.ret [(.op2 .add .u64 (.op2 .mul .u64 (.v 13) (.k (.int .u64 (4294967296)))) (.v 17)), (.op2 .shr .u64 (.op2 .sub .u64 (.op2 .add .u64 (.op2 .mul .u64 (.v 14) (.k (.int .u64 (4294967296)))) (.v 10)) (.op2 .mul .u64 (.v 17) (.v 4))) (.v 5))]))))))))))))))))))))))))))) := by kernel_rfl
theorem np_div64 : (Tryz.prog.funcs[123]?).map (fun fn => fn.params.size + fn.nfree) = some 3 := by kernel_rfl
theorem tr_len64 : tree Tryz.prog [] [] [⟨2, 4, [0, 2], []⟩, ⟨2, 8, [0, 2], []⟩, ⟨2, 14, [0, 2], []⟩] [] 161 = some (.rq (.int .u64 (.v 0))
(.join 2
 (.br (.op2 .geq .u64 (.v 0) (.k (.int .u64 (4294967296))))
  (.next 0 [(.op2 .shr .u64 (.v 0) (.k (.int .u64 (32)))), (.k (.int .i64 (32)))])
  (.next 0 [(.v 0), (.k (.int .i64 (0)))]))
 (.rq (.int .u64 (.v 1))
 (.join 2
  (.br (.op2 .geq .u64 (.v 1) (.k (.int .u64 (65536))))
   (.rq (.int .i64 (.v 2))
   (.next 0 [(.op2 .shr .u64 (.v 1) (.k (.int .u64 (16)))), (.op2 .add .i64 (.v 2) (.k (.int .i64 (16))))]))
   (.next 0 [(.v 1), (.v 2)]))
  (.rq (.int .u64 (.v 3))
  (.join 2
   (.br (.op2 .geq .u64 (.v 3) (.k (.int .u64 (256))))
    (.rq (.int .i64 (.v 4))
    (.next 0 [(.op2 .shr .u64 (.v 3) (.k (.int .u64 (8)))), (.op2 .add .i64 (.v 4) (.k (.int .i64 (8))))]))
    (.next 0 [(.v 3), (.v 4)]))
   (.rq (.int .u64 (.v 5))
   (.prim 10 3 (opr Tryz.f161 10 3) [(.k (.string ⟨#[0, 1, 2, 2, 3, 3, 3, 3, 4, 4, 4, 4, 4, 4, 4, 4, 5, 5, 5, 5, 5, 5, 5, 5, 5, 5, 5, 5, 5, 5, 5, 5, 6, 6, 6, 6, 6, 6, 6, 6, 6, 6, 6, 6, 6, 6, 6, 6, 6, 6, 6, 6, 6, 6, 6, 6, 6, 6, 6, 6, 6, 6, 6, 6, 7, 7, 7, 7, 7, 7, 7, 7, 7, 7, 7, 7, 7, 7, 7, 7, 7, 7, 7, 7, 7, 7, 7, 7, 7, 7, 7, 7, 7, 7, 7, 7, 7, 7, 7, 7, 7, 7, 7, 7, 7, 7, 7, 7, 7, 7, 7, 7, 7, 7, 7, 7, 7, 7, 7, 7, 7, 7, 7, 7, 7, 7, 7, 7, 8, 8, 8, 8, 8, 8, 8, 8, 8, 8, 8, 8, 8, 8, 8, 8, 8, 8, 8, 8, 8, 8, 8, 8, 8, 8, 8, 8, 8, 8, 8, 8, 8, 8, 8, 8, 8, 8, 8, 8, 8, 8, 8, 8, 8, 8, 8, 8, 8, 8, 8, 8, 8, 8, 8, 8, 8, 8, 8, 8, 8, 8, 8, 8, 8, 8, 8, 8, 8, 8, 8, 8, 8, 8, 8, 8, 8, 8, 8, 8, 8, 8, 8, 8, 8, 8, 8, 8, 8, 8, 8, 8, 8, 8, 8, 8, 8, 8, 8, 8, 8, 8, 8, 8, 8, 8, 8, 8, 8, 8, 8, 8, 8, 8, 8, 8, 8, 8, 8, 8, 8, 8, 8, 8, 8, 8, 8, 8]⟩)), (.cv .u8 (.v 5))]
   (.rq (.int .u8 (.v 7))
   (.rq (.int .i64 (.v 6))
   (.ret [(.op2 .add .i64 (.v 6) (.cv .i64 (.v 7)))]))))))))))) := by kernel_rfl
theorem np_len64 : (Tryz.prog.funcs[161]?).map (fun fn => fn.params.size + fn.nfree) = some 1 := by kernel_rfl
theorem op_len64_10_3 : (opr Tryz.f161 10 3).op = .index 9 (.const (.string ⟨#[0, 1, 2, 2, 3, 3, 3, 3, 4, 4, 4, 4, 4, 4, 4, 4, 5, 5, 5, 5, 5, 5, 5, 5, 5, 5, 5, 5, 5, 5, 5, 5, 6, 6, 6, 6, 6, 6, 6, 6, 6, 6, 6, 6, 6, 6, 6, 6, 6, 6, 6, 6, 6, 6, 6, 6, 6, 6, 6, 6, 6, 6, 6, 6, 7, 7, 7, 7, 7, 7, 7, 7, 7, 7, 7, 7, 7, 7, 7, 7, 7, 7, 7, 7, 7, 7, 7, 7, 7, 7, 7, 7, 7, 7, 7, 7, 7, 7, 7, 7, 7, 7, 7, 7, 7, 7, 7, 7, 7, 7, 7, 7, 7, 7, 7, 7, 7, 7, 7, 7, 7, 7, 7, 7, 7, 7, 7, 7, 8, 8, 8, 8, 8, 8, 8, 8, 8, 8, 8, 8, 8, 8, 8, 8, 8, 8, 8, 8, 8, 8, 8, 8, 8, 8, 8, 8, 8, 8, 8, 8, 8, 8, 8, 8, 8, 8, 8, 8, 8, 8, 8, 8, 8, 8, 8, 8, 8, 8, 8, 8, 8, 8, 8, 8, 8, 8, 8, 8, 8, 8, 8, 8, 8, 8, 8, 8, 8, 8, 8, 8, 8, 8, 8, 8, 8, 8, 8, 8, 8, 8, 8, 8, 8, 8, 8, 8, 8, 8, 8, 8, 8, 8, 8, 8, 8, 8, 8, 8, 8, 8, 8, 8, 8, 8, 8, 8, 8, 8, 8, 8, 8, 8, 8, 8, 8, 8, 8, 8, 8, 8, 8, 8, 8, 8, 8, 8]⟩)) (.tmp 21) := by kernel_rfl
theorem tr_lz64 : tree Tryz.prog [] [] [] [] 148 = some (.call false 161 [(.v 0)]
(.rq (.int .i64 (.v 1))
(.ret [(.op2 .sub .i64 (.k (.int .i64 (64))) (.v 1))]))) := by kernel_rfl
theorem np_lz64 : (Tryz.prog.funcs[148]?).map (fun fn => fn.params.size + fn.nfree) = some 1 := by kernel_rfl
theorem tr_trimP : tree Tryz.prog [] [] [] [] 50 = some (.call false 100 [(.v 0), (.v 1)]
(.ret [(.v 2)])) := by kernel_rfl
theorem np_trimP : (Tryz.prog.funcs[50]?).map (fun fn => fn.params.size + fn.nfree) = some 2 := by kernel_rfl
theorem tr_trimPi : tree Tryz.prog [] [] [] [] 100 = some (.call false 106 [(.v 0), (.v 1)]
(.rq (.bool (.v 2))
(.br (.v 2)
 (.prim 2 2 (opr Tryz.f100 2 2) [(.v 1)]
 (.prim 2 3 (opr Tryz.f100 2 3) [(.v 0), (.v 3)]
 (.ret [(.v 4)])))
 (.ret [(.v 0)])))) := by kernel_rfl
theorem np_trimPi : (Tryz.prog.funcs[100]?).map (fun fn => fn.params.size + fn.nfree) = some 2 := by kernel_rfl
theorem op_trimPi_2_2 : (opr Tryz.f100 2 2).op = .call ⟨.builtin .len, #[(.tmp 9)], #[9]⟩ := by kernel_rfl
theorem op_trimPi_2_3 : (opr Tryz.f100 2 3).op = .slice 9 (.tmp 8) (some (.tmp 10)) none none := by kernel_rfl
theorem tr_hasP : tree Tryz.prog [] [] [] [] 106 = some (.prim 1 1 (opr Tryz.f106 1 1) [(.v 0)]
(.prim 1 3 (opr Tryz.f106 1 3) [(.v 1)]
(.rq (.int .i64 (.v 2))
(.rq (.int .i64 (.v 3))
(.br (.op2 .geq .i64 (.v 2) (.v 3))
 (.prim 1 8 (opr Tryz.f106 1 8) [(.v 1)]
 (.prim 1 9 (opr Tryz.f106 1 9) [(.v 0), (.v 4)]
 (.prim 1 11 (opr Tryz.f106 1 11) [(.v 5), (.v 1)]
 (.ret [(.v 6)]))))
 (.ret [(.k (.bool false))])))))) := by kernel_rfl
theorem np_hasP : (Tryz.prog.funcs[106]?).map (fun fn => fn.params.size + fn.nfree) = some 2 := by kernel_rfl
theorem op_hasP_1_1 : (opr Tryz.f106 1 1).op = .call ⟨.builtin .len, #[(.tmp 5)], #[9]⟩ := by kernel_rfl
theorem op_hasP_1_3 : (opr Tryz.f106 1 3).op = .call ⟨.builtin .len, #[(.tmp 7)], #[9]⟩ := by kernel_rfl
theorem op_hasP_1_8 : (opr Tryz.f106 1 8).op = .call ⟨.builtin .len, #[(.tmp 12)], #[9]⟩ := by kernel_rfl
theorem op_hasP_1_9 : (opr Tryz.f106 1 9).op = .slice 9 (.tmp 11) none (some (.tmp 13)) none := by kernel_rfl
theorem op_hasP_1_11 : (opr Tryz.f106 1 11).op = .binOp .eql 9 (.tmp 14) (.tmp 15) 9 := by kernel_rfl
end Go.Proofs.YtcleogdmobdnpacGreatRDoor

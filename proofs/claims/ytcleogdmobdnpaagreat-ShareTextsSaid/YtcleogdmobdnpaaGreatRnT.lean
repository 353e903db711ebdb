/- MADE BY rxgen.py: the trees of the texts of the reference of chapter 01, and of the law WideTexts. -/
import Derived.Test.YtcleogdmobdnpaaGreatWdT
namespace Go.Proofs.YtcleogdmobdnpaaGreat
open Go.RowKit Go.RX
theorem tr_rDigits : tree Tryz.prog [] [] [⟨2, 23, [8], []⟩, ⟨0, 4, [], []⟩] [] 60 = some (.rq (.cells 2 (.v 0))
(.eff false 3 0 (opr Tryz.f60 3 0) [(.k (.int .i64 (10)))]
(.loop [(.k (.string ⟨#[]⟩)), (.cell (.v 0) 1 0 noI)]
 (.prim 4 1 (opr Tryz.f60 4 1) [(.v 3)]
 (.rq (.int .i64 (.v 4))
 (.br (.op2 .gtr .i64 (.v 4) (.k (.int .i64 (0))))
  (.call false 115 [(.v 3), (.v 1)]
  (.rq (.tup 0 (.v 5))
  (.rq (.tup 1 (.v 5))
  (.prim 7 1 (opr Tryz.f60 7 1) [(.proj (.v 5) 1)]
  (.rq (.int .i64 (.v 6))
  (.join 1
   (.br (.op2 .gtr .i64 (.v 6) (.k (.int .i64 (0))))
    (.prim 8 1 (opr Tryz.f60 8 1) [(.proj (.v 5) 1), (.k (.int .i64 (0)))]
    (.prim 8 2 (opr Tryz.f60 8 2) [(.v 7)]
    (.rq (.int .i64 (.v 8))
    (.next 1 [(.cv .u8 (.op2 .add .i64 (.k (.int .i64 (48))) (.v 8)))]))))
    (.next 1 [(.k (.int .u8 (48)))]))
   (.eff false 9 1 (opr Tryz.f60 9 1) [(.v 7)]
   (.prim 9 2 (opr Tryz.f60 9 2) [(.v 8)]
   (.prim 9 4 (opr Tryz.f60 9 4) [(.v 9), (.v 2)]
   (.next 0 [(.v 10), (.proj (.v 5) 0)]))))))))))
  (.prim 11 1 (opr Tryz.f60 11 1) [(.v 2), (.k (.string ⟨#[]⟩))]
  (.rq (.bool (.v 5))
  (.br (.v 5)
   (.ret [(.k (.string ⟨#[48]⟩))])
   (.rq (.bool (.cell (.v 0) 0 0 noI))
   (.br (.cell (.v 0) 0 0 noI)
    (.prim 14 1 (opr Tryz.f60 14 1) [(.k (.string ⟨#[45]⟩)), (.v 2)]
    (.ret [(.v 6)]))
    (.ret [(.v 2)])))))))))))) := by kernel_rfl
theorem np_rDigits : (Tryz.prog.funcs[60]?).map (fun fn => fn.params.size + fn.nfree) = some 1 := by kernel_rfl
theorem op_rDigits_3_0 : (opr Tryz.f60 3 0).op = .buildSlice 83 1 #[(0, (.const (.int .i64 (10))))] := by kernel_rfl
theorem op_rDigits_4_1 : (opr Tryz.f60 4 1).op = .call ⟨.builtin .len, #[(.tmp 12)], #[83]⟩ := by kernel_rfl
theorem op_rDigits_7_1 : (opr Tryz.f60 7 1).op = .call ⟨.builtin .len, #[(.tmp 21)], #[83]⟩ := by kernel_rfl
theorem op_rDigits_8_1 : (opr Tryz.f60 8 1).op = .indexAddr 83 (.tmp 24) (.const (.int .i64 (0))) := by kernel_rfl
theorem op_rDigits_8_2 : (opr Tryz.f60 8 2).op = .load 3 (.tmp 25) := by kernel_rfl
theorem op_rDigits_9_1 : (opr Tryz.f60 9 1).op = .buildSlice 49 1 #[(0, (.tmp 29))] := by kernel_rfl
theorem op_rDigits_9_2 : (opr Tryz.f60 9 2).op = .convert 49 9 (.tmp 30) := by kernel_rfl
theorem op_rDigits_9_4 : (opr Tryz.f60 9 4).op = .binOp .add 9 (.tmp 31) (.tmp 32) 9 := by kernel_rfl
theorem op_rDigits_11_1 : (opr Tryz.f60 11 1).op = .binOp .eql 9 (.tmp 35) (.const (.string ⟨#[]⟩)) 9 := by kernel_rfl
theorem op_rDigits_14_1 : (opr Tryz.f60 14 1).op = .binOp .add 9 (.const (.string ⟨#[45]⟩)) (.tmp 39) 9 := by kernel_rfl
theorem tr_rRight : tree Tryz.prog [] [] [⟨3, 2, [12], []⟩, ⟨2, 12, [3], []⟩, ⟨3, 4, [27], []⟩, ⟨3, 9, [44], []⟩, ⟨0, 7, [], []⟩] [] 65 = some (.join 1
 (.prim 2 1 (opr Tryz.f65 2 1) [(.v 0)]
 (.rq (.int .i64 (.v 1))
 (.br (.op2 .gtr .i64 (.v 1) (.k (.int .i64 (0))))
  (.prim 2 5 (opr Tryz.f65 2 5) [(.v 0), (.k (.int .i64 (0)))]
  (.rq (.int .u8 (.v 2))
  (.next 0 [(.op2 .eql .u8 (.v 2) (.k (.int .u8 (45))))])))
  (.next 0 [(.k (.bool false))]))))
 (.join 1
  (.rq (.bool (.v 1))
  (.br (.v 1)
   (.next 0 [(.k (.int .i64 (1)))])
   (.next 0 [(.k (.int .i64 (0)))])))
  (.join 1
   (.prim 4 1 (opr Tryz.f65 4 1) [(.v 0)]
   (.rq (.int .i64 (.v 3))
   (.rq (.int .i64 (.v 2))
   (.br (.op2 .eql .i64 (.v 3) (.v 2))
    (.next 0 [(.k (.bool true))])
    (.prim 4 7 (opr Tryz.f65 4 7) [(.v 0), (.v 2)]
    (.rq (.int .u8 (.v 4))
    (.br (.op2 .eql .u8 (.v 4) (.k (.int .u8 (48))))
     (.prim 4 11 (opr Tryz.f65 4 11) [(.v 0)]
     (.rq (.int .i64 (.v 5))
     (.next 0 [(.op2 .gtr .i64 (.v 5) (.k (.int .i64 (1))))])))
     (.next 0 [(.k (.bool false))]))))))))
   (.rq (.bool (.v 3))
   (.br (.v 3)
    (.ret [(.k (.bool false))])
    (.loop [(.k (.bool false)), (.v 2)]
     (.prim 7 2 (opr Tryz.f65 7 2) [(.v 0)]
     (.rq (.int .i64 (.v 5))
     (.rq (.int .i64 (.v 6))
     (.br (.op2 .lss .i64 (.v 5) (.v 6))
      (.join 1
       (.prim 9 2 (opr Tryz.f65 9 2) [(.v 0), (.v 5)]
       (.rq (.int .u8 (.v 7))
       (.br (.op2 .lss .u8 (.v 7) (.k (.int .u8 (48))))
        (.next 1 [(.k (.bool true))])
        (.prim 9 7 (opr Tryz.f65 9 7) [(.v 0), (.v 5)]
        (.rq (.int .u8 (.v 8))
        (.next 1 [(.op2 .gtr .u8 (.v 8) (.k (.int .u8 (57))))]))))))
       (.rq (.bool (.v 7))
       (.br (.v 7)
        (.ret [(.k (.bool false))])
        (.next 0 [(.v 4), (.op2 .add .i64 (.v 5) (.k (.int .i64 (1))))]))))
      (.ret [(.k (.bool true))]))))))))))) := by kernel_rfl
theorem np_rRight : (Tryz.prog.funcs[65]?).map (fun fn => fn.params.size + fn.nfree) = some 1 := by kernel_rfl
theorem op_rRight_2_1 : (opr Tryz.f65 2 1).op = .call ⟨.builtin .len, #[(.tmp 5)], #[9]⟩ := by kernel_rfl
theorem op_rRight_2_5 : (opr Tryz.f65 2 5).op = .index 9 (.tmp 9) (.const (.int .i64 (0))) := by kernel_rfl
theorem op_rRight_4_1 : (opr Tryz.f65 4 1).op = .call ⟨.builtin .len, #[(.tmp 13)], #[9]⟩ := by kernel_rfl
theorem op_rRight_4_7 : (opr Tryz.f65 4 7).op = .index 9 (.tmp 18) (.tmp 19) := by kernel_rfl
theorem op_rRight_4_11 : (opr Tryz.f65 4 11).op = .call ⟨.builtin .len, #[(.tmp 23)], #[9]⟩ := by kernel_rfl
theorem op_rRight_7_2 : (opr Tryz.f65 7 2).op = .call ⟨.builtin .len, #[(.tmp 30)], #[9]⟩ := by kernel_rfl
theorem op_rRight_9_2 : (opr Tryz.f65 9 2).op = .index 9 (.tmp 35) (.tmp 36) := by kernel_rfl
theorem op_rRight_9_7 : (opr Tryz.f65 9 7).op = .index 9 (.tmp 40) (.tmp 41) := by kernel_rfl
theorem tr_rValue : tree Tryz.prog [] [] [⟨0, 3, [], [1]⟩] [⟨6, [0, 0, 3, 0, 0, 24, 56, 120, 255, 511, 1023], [5, 2, 2, 0, 0, 1, 0, 0, 2, 2, 6], [1, 0, 0, 0, 0, 0, 0, 0, 0, 0, 1], [0, 3, 4, 5, 6, 7, 1, 2, 8, 9], [10]⟩, ⟨7, [0, 1, 3, 0, 8, 31, 63], [0, 1, 0, 1, 1, 2, 6], [0, 0, 0, 0, 0, 0, 0], [0, 1, 2, 3, 4, 5], [6]⟩] 128 = some (.loop [(.k (.int .i64 (0))), (.cat (.z 4) 1 (.z 83))]
 (.prim 3 2 (opr Tryz.f128 3 2) [(.v 0)]
 (.rq (.int .i64 (.v 1))
 (.rq (.int .i64 (.v 3))
 (.br (.op2 .lss .i64 (.v 1) (.v 3))
  (.prim 5 2 (opr Tryz.f128 5 2) [(.v 0), (.v 1)]
  (.rq (.int .u8 (.v 4))
  (.br (.op2 .neq .u8 (.v 4) (.k (.int .u8 (45))))
   (.prim 6 5 (opr Tryz.f128 6 5) [(.v 0), (.v 1)]
   (.rq (.int .u8 (.v 5))
   (.call true 77 [(.k (.int .i64 (10)))]
   (.call true 132 [(.ag (.v 2)), (.v 6)]
   (.call true 77 [(.cv .i64 (.op2 .sub .u8 (.v 5) (.k (.int .u8 (48)))))]
   (.call true 136 [(.v 7), (.v 8)]
   (.rq (.cells 2 (.v 9))
   (.next 0 [(.op2 .add .i64 (.v 1) (.k (.int .i64 (1)))), (.v 9)]))))))))
   (.next 0 [(.op2 .add .i64 (.v 1) (.k (.int .i64 (1)))), (.v 2)]))))
  (.prim 7 1 (opr Tryz.f128 7 1) [(.v 0), (.k (.int .i64 (0)))]
  (.rq (.int .u8 (.v 4))
  (.call true 110 [(.op2 .eql .u8 (.v 4) (.k (.int .u8 (45)))), (.cell (.v 2) 1 0 noI)]
  (.rq (.cells 2 (.v 5))
  (.ret [(.ag (.v 5))])))))))))) := by kernel_rfl
theorem np_rValue : (Tryz.prog.funcs[128]?).map (fun fn => fn.params.size + fn.nfree) = some 1 := by kernel_rfl
theorem op_rValue_3_2 : (opr Tryz.f128 3 2).op = .call ⟨.builtin .len, #[(.tmp 7)], #[9]⟩ := by kernel_rfl
theorem op_rValue_5_2 : (opr Tryz.f128 5 2).op = .index 9 (.tmp 12) (.tmp 13) := by kernel_rfl
theorem op_rValue_6_5 : (opr Tryz.f128 6 5).op = .index 9 (.tmp 19) (.tmp 20) := by kernel_rfl
theorem op_rValue_7_1 : (opr Tryz.f128 7 1).op = .index 9 (.tmp 26) (.const (.int .i64 (0))) := by kernel_rfl
theorem tr_rParse : tree Tryz.prog [] [] [] [] 66 = some (.call false 65 [(.v 0)]
(.rq (.bool (.v 1))
(.br (.nt (.v 1))
 (.ret [(.z 24), (.k (.int .i64 (5)))])
 (.prim 3 1 (opr Tryz.f66 3 1) [(.v 0)]
 (.rq (.int .i64 (.v 2))
 (.br (.op2 .gtr .i64 (.v 2) (.k (.int .i64 (200))))
  (.ret [(.z 24), (.k (.int .i64 (6)))])
  (.call false 128 [(.v 0)]
  (.call false 87 [(.v 3)]
  (.rq (.tup 0 (.v 4))
  (.rq (.tup 1 (.v 4))
  (.rq (.cells 8 (.proj (.v 4) 0))
  (.ret [(.ag (.proj (.v 4) 0)), (.proj (.v 4) 1)])))))))))))) := by kernel_rfl
theorem np_rParse : (Tryz.prog.funcs[66]?).map (fun fn => fn.params.size + fn.nfree) = some 1 := by kernel_rfl
theorem op_rParse_3_1 : (opr Tryz.f66 3 1).op = .call ⟨.builtin .len, #[(.tmp 8)], #[9]⟩ := by kernel_rfl
end Go.Proofs.YtcleogdmobdnpaaGreat

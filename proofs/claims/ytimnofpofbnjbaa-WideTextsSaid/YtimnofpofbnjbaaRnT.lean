/- MADE BY rxgen.py: the trees of the texts of the reference of chapter 01, and of the law WideTexts. -/
import Derived.Test.YtimnofpofbnjbaaWdT
namespace Go.Proofs.Ytimnofpofbnjbaa
open Go.RowKit Go.RX
theorem tr_rDigits : tree Try.prog [] [] [⟨2, 23, [8], []⟩, ⟨0, 4, [], []⟩] [] 31 = some (.rq (.cells 2 (.v 0))
(.eff false 3 0 (opr Try.f31 3 0) [(.k (.int .i64 (10)))]
(.loop [(.k (.string ⟨#[]⟩)), (.cell (.v 0) 1 0 noI)]
 (.prim 4 1 (opr Try.f31 4 1) [(.v 3)]
 (.rq (.int .i64 (.v 4))
 (.br (.op2 .gtr .i64 (.v 4) (.k (.int .i64 (0))))
  (.call false 63 [(.v 3), (.v 1)]
  (.rq (.tup 0 (.v 5))
  (.rq (.tup 1 (.v 5))
  (.prim 7 1 (opr Try.f31 7 1) [(.proj (.v 5) 1)]
  (.rq (.int .i64 (.v 6))
  (.join 1
   (.br (.op2 .gtr .i64 (.v 6) (.k (.int .i64 (0))))
    (.prim 8 1 (opr Try.f31 8 1) [(.proj (.v 5) 1), (.k (.int .i64 (0)))]
    (.prim 8 2 (opr Try.f31 8 2) [(.v 7)]
    (.rq (.int .i64 (.v 8))
    (.next 1 [(.cv .u8 (.op2 .add .i64 (.k (.int .i64 (48))) (.v 8)))]))))
    (.next 1 [(.k (.int .u8 (48)))]))
   (.eff false 9 1 (opr Try.f31 9 1) [(.v 7)]
   (.prim 9 2 (opr Try.f31 9 2) [(.v 8)]
   (.prim 9 4 (opr Try.f31 9 4) [(.v 9), (.v 2)]
   (.next 0 [(.v 10), (.proj (.v 5) 0)]))))))))))
  (.prim 11 1 (opr Try.f31 11 1) [(.v 2), (.k (.string ⟨#[]⟩))]
  (.rq (.bool (.v 5))
  (.br (.v 5)
   (.ret [(.k (.string ⟨#[48]⟩))])
   (.rq (.bool (.cell (.v 0) 0 0 noI))
   (.br (.cell (.v 0) 0 0 noI)
    (.prim 14 1 (opr Try.f31 14 1) [(.k (.string ⟨#[45]⟩)), (.v 2)]
    (.ret [(.v 6)]))
    (.ret [(.v 2)])))))))))))) := by kernel_rfl
theorem np_rDigits : (Try.prog.funcs[31]?).map (fun fn => fn.params.size + fn.nfree) = some 1 := by kernel_rfl
theorem op_rDigits_3_0 : (opr Try.f31 3 0).op = .buildSlice 63 1 #[(0, (.const (.int .i64 (10))))] := by kernel_rfl
theorem op_rDigits_4_1 : (opr Try.f31 4 1).op = .call ⟨.builtin .len, #[(.tmp 12)], #[63]⟩ := by kernel_rfl
theorem op_rDigits_7_1 : (opr Try.f31 7 1).op = .call ⟨.builtin .len, #[(.tmp 21)], #[63]⟩ := by kernel_rfl
theorem op_rDigits_8_1 : (opr Try.f31 8 1).op = .indexAddr 63 (.tmp 24) (.const (.int .i64 (0))) := by kernel_rfl
theorem op_rDigits_8_2 : (opr Try.f31 8 2).op = .load 3 (.tmp 25) := by kernel_rfl
theorem op_rDigits_9_1 : (opr Try.f31 9 1).op = .buildSlice 36 1 #[(0, (.tmp 29))] := by kernel_rfl
theorem op_rDigits_9_2 : (opr Try.f31 9 2).op = .convert 36 9 (.tmp 30) := by kernel_rfl
theorem op_rDigits_9_4 : (opr Try.f31 9 4).op = .binOp .add 9 (.tmp 31) (.tmp 32) 9 := by kernel_rfl
theorem op_rDigits_11_1 : (opr Try.f31 11 1).op = .binOp .eql 9 (.tmp 35) (.const (.string ⟨#[]⟩)) 9 := by kernel_rfl
theorem op_rDigits_14_1 : (opr Try.f31 14 1).op = .binOp .add 9 (.const (.string ⟨#[45]⟩)) (.tmp 39) 9 := by kernel_rfl
theorem tr_rRight : tree Try.prog [] [] [⟨3, 2, [12], []⟩, ⟨2, 12, [3], []⟩, ⟨3, 4, [27], []⟩, ⟨3, 9, [44], []⟩, ⟨0, 7, [], []⟩] [] 43 = some (.join 1
 (.prim 2 1 (opr Try.f43 2 1) [(.v 0)]
 (.rq (.int .i64 (.v 1))
 (.br (.op2 .gtr .i64 (.v 1) (.k (.int .i64 (0))))
  (.prim 2 5 (opr Try.f43 2 5) [(.v 0), (.k (.int .i64 (0)))]
  (.rq (.int .u8 (.v 2))
  (.next 0 [(.op2 .eql .u8 (.v 2) (.k (.int .u8 (45))))])))
  (.next 0 [(.k (.bool false))]))))
 (.join 1
  (.rq (.bool (.v 1))
  (.br (.v 1)
   (.next 0 [(.k (.int .i64 (1)))])
   (.next 0 [(.k (.int .i64 (0)))])))
  (.join 1
   (.prim 4 1 (opr Try.f43 4 1) [(.v 0)]
   (.rq (.int .i64 (.v 3))
   (.rq (.int .i64 (.v 2))
   (.br (.op2 .eql .i64 (.v 3) (.v 2))
    (.next 0 [(.k (.bool true))])
    (.prim 4 7 (opr Try.f43 4 7) [(.v 0), (.v 2)]
    (.rq (.int .u8 (.v 4))
    (.br (.op2 .eql .u8 (.v 4) (.k (.int .u8 (48))))
     (.prim 4 11 (opr Try.f43 4 11) [(.v 0)]
     (.rq (.int .i64 (.v 5))
     (.next 0 [(.op2 .gtr .i64 (.v 5) (.k (.int .i64 (1))))])))
     (.next 0 [(.k (.bool false))]))))))))
   (.rq (.bool (.v 3))
   (.br (.v 3)
    (.ret [(.k (.bool false))])
    (.loop [(.k (.bool false)), (.v 2)]
     (.prim 7 2 (opr Try.f43 7 2) [(.v 0)]
     (.rq (.int .i64 (.v 5))
     (.rq (.int .i64 (.v 6))
     (.br (.op2 .lss .i64 (.v 5) (.v 6))
      (.join 1
       (.prim 9 2 (opr Try.f43 9 2) [(.v 0), (.v 5)]
       (.rq (.int .u8 (.v 7))
       (.br (.op2 .lss .u8 (.v 7) (.k (.int .u8 (48))))
        (.next 1 [(.k (.bool true))])
        (.prim 9 7 (opr Try.f43 9 7) [(.v 0), (.v 5)]
        (.rq (.int .u8 (.v 8))
        (.next 1 [(.op2 .gtr .u8 (.v 8) (.k (.int .u8 (57))))]))))))
       (.rq (.bool (.v 7))
       (.br (.v 7)
        (.ret [(.k (.bool false))])
        (.next 0 [(.v 4), (.op2 .add .i64 (.v 5) (.k (.int .i64 (1))))]))))
      (.ret [(.k (.bool true))]))))))))))) := by kernel_rfl
theorem np_rRight : (Try.prog.funcs[43]?).map (fun fn => fn.params.size + fn.nfree) = some 1 := by kernel_rfl
theorem op_rRight_2_1 : (opr Try.f43 2 1).op = .call ⟨.builtin .len, #[(.tmp 5)], #[9]⟩ := by kernel_rfl
theorem op_rRight_2_5 : (opr Try.f43 2 5).op = .index 9 (.tmp 9) (.const (.int .i64 (0))) := by kernel_rfl
theorem op_rRight_4_1 : (opr Try.f43 4 1).op = .call ⟨.builtin .len, #[(.tmp 13)], #[9]⟩ := by kernel_rfl
theorem op_rRight_4_7 : (opr Try.f43 4 7).op = .index 9 (.tmp 18) (.tmp 19) := by kernel_rfl
theorem op_rRight_4_11 : (opr Try.f43 4 11).op = .call ⟨.builtin .len, #[(.tmp 23)], #[9]⟩ := by kernel_rfl
theorem op_rRight_7_2 : (opr Try.f43 7 2).op = .call ⟨.builtin .len, #[(.tmp 30)], #[9]⟩ := by kernel_rfl
theorem op_rRight_9_2 : (opr Try.f43 9 2).op = .index 9 (.tmp 35) (.tmp 36) := by kernel_rfl
theorem op_rRight_9_7 : (opr Try.f43 9 7).op = .index 9 (.tmp 40) (.tmp 41) := by kernel_rfl
theorem tr_rValue : tree Try.prog [] [] [⟨0, 3, [], [1]⟩] [⟨6, [0, 0, 3, 0, 0, 24, 56, 120, 255, 511, 1023], [5, 2, 2, 0, 0, 1, 0, 0, 2, 2, 6], [1, 0, 0, 0, 0, 0, 0, 0, 0, 0, 1], [0, 3, 4, 5, 6, 7, 1, 2, 8, 9], [10]⟩, ⟨7, [0, 1, 3, 0, 8, 31, 63], [0, 1, 0, 1, 1, 2, 6], [0, 0, 0, 0, 0, 0, 0], [0, 1, 2, 3, 4, 5], [6]⟩] 45 = some (.loop [(.k (.int .i64 (0))), (.cat (.z 4) 1 (.z 63))]
 (.prim 3 2 (opr Try.f45 3 2) [(.v 0)]
 (.rq (.int .i64 (.v 1))
 (.rq (.int .i64 (.v 3))
 (.br (.op2 .lss .i64 (.v 1) (.v 3))
  (.prim 5 2 (opr Try.f45 5 2) [(.v 0), (.v 1)]
  (.rq (.int .u8 (.v 4))
  (.br (.op2 .neq .u8 (.v 4) (.k (.int .u8 (45))))
   (.prim 6 5 (opr Try.f45 6 5) [(.v 0), (.v 1)]
   (.rq (.int .u8 (.v 5))
   (.call true 58 [(.k (.int .i64 (10)))]
   (.call true 76 [(.ag (.v 2)), (.v 6)]
   (.call true 58 [(.cv .i64 (.op2 .sub .u8 (.v 5) (.k (.int .u8 (48)))))]
   (.call true 59 [(.v 7), (.v 8)]
   (.rq (.cells 2 (.v 9))
   (.next 0 [(.op2 .add .i64 (.v 1) (.k (.int .i64 (1)))), (.v 9)]))))))))
   (.next 0 [(.op2 .add .i64 (.v 1) (.k (.int .i64 (1)))), (.v 2)]))))
  (.prim 7 1 (opr Try.f45 7 1) [(.v 0), (.k (.int .i64 (0)))]
  (.rq (.int .u8 (.v 4))
  (.call true 65 [(.op2 .eql .u8 (.v 4) (.k (.int .u8 (45)))), (.cell (.v 2) 1 0 noI)]
  (.rq (.cells 2 (.v 5))
  (.ret [(.ag (.v 5))])))))))))) := by kernel_rfl
theorem np_rValue : (Try.prog.funcs[45]?).map (fun fn => fn.params.size + fn.nfree) = some 1 := by kernel_rfl
theorem op_rValue_3_2 : (opr Try.f45 3 2).op = .call ⟨.builtin .len, #[(.tmp 7)], #[9]⟩ := by kernel_rfl
theorem op_rValue_5_2 : (opr Try.f45 5 2).op = .index 9 (.tmp 12) (.tmp 13) := by kernel_rfl
theorem op_rValue_6_5 : (opr Try.f45 6 5).op = .index 9 (.tmp 19) (.tmp 20) := by kernel_rfl
theorem op_rValue_7_1 : (opr Try.f45 7 1).op = .index 9 (.tmp 26) (.const (.int .i64 (0))) := by kernel_rfl
theorem tr_rText : tree Try.prog [] [] [] [] 6 = some (.rq (.cells 8 (.v 0))
(.call false 32 [(.ag (.v 0))]
(.call false 31 [(.v 1)]
(.ret [(.v 2)])))) := by kernel_rfl
theorem np_rText : (Try.prog.funcs[6]?).map (fun fn => fn.params.size + fn.nfree) = some 1 := by kernel_rfl
theorem tr_rParse : tree Try.prog [] [] [] [] 9 = some (.call false 43 [(.v 0)]
(.rq (.bool (.v 1))
(.br (.nt (.v 1))
 (.ret [(.z 24), (.k (.int .i64 (5)))])
 (.prim 3 1 (opr Try.f9 3 1) [(.v 0)]
 (.rq (.int .i64 (.v 2))
 (.br (.op2 .gtr .i64 (.v 2) (.k (.int .i64 (200))))
  (.ret [(.z 24), (.k (.int .i64 (6)))])
  (.call false 45 [(.v 0)]
  (.call false 44 [(.v 3)]
  (.rq (.tup 0 (.v 4))
  (.rq (.tup 1 (.v 4))
  (.rq (.cells 8 (.proj (.v 4) 0))
  (.ret [(.ag (.proj (.v 4) 0)), (.proj (.v 4) 1)])))))))))))) := by kernel_rfl
theorem np_rParse : (Try.prog.funcs[9]?).map (fun fn => fn.params.size + fn.nfree) = some 1 := by kernel_rfl
theorem op_rParse_3_1 : (opr Try.f9 3 1).op = .call ⟨.builtin .len, #[(.tmp 8)], #[9]⟩ := by kernel_rfl
theorem tr_WideTexts : tree Try.prog [] [(20, false), (35, false), (79, false), (83, false)] [⟨0, 4, [], [0]⟩, ⟨0, 11, [], []⟩] [⟨10, [0, 0, 0, 6, 0, 16, 48, 126, 0, 0, 768, 2046, 0, 0, 12288, 0, 0, 65536, 196608, 491520, 1048575, 0], [0, 0, 0, 1, 0, 2, 1, 1, 0, 0, 1, 1, 0, 0, 1, 0, 0, 1, 1, 1, 0, 0], [0, 0, 0, 0, 0, 0, 0, 0, 0, 0, 0, 0, 0, 0, 0, 0, 0, 0, 0, 0, 0, 0], [0, 1, 2, 3, 4, 8, 9, 10, 12, 13, 14, 15, 16, 17, 18, 19, 21, 5, 6, 7, 11, 20], []⟩] 3 = some (.rq (.cells 22 (.v 0))
(.call false 4 []
(.rq (.bool (.v 4))
(.rq (.isb false (.nt (.v 4)))
(.call false 5 [(.ag (.v 0))]
(.prim 3 2 (opr Try.f3 3 2) [(.v 5)]
(.loop [(.k (.bool false)), (.k (.int .i64 (0))), (.v 0)]
 (.rq (.int .i64 (.v 8))
 (.rq (.int .i64 (.v 6))
 (.br (.op2 .lss .i64 (.v 8) (.v 6))
  (.prim 5 0 (opr Try.f3 5 0) [(.v 5), (.v 8)]
  (.prim 5 1 (opr Try.f3 5 1) [(.v 10)]
  (.rq (.cells 16 (.v 11))
  (.call false 6 [(.sub (.v 11) 0 8 0 noI)]
  (.call false 7 [(.sub (.v 11) 0 8 0 noI)]
  (.prim 7 4 (opr Try.f3 7 4) [(.v 13), (.v 12)]
  (.rq (.isb false (.v 14))
  (.rq (.int .u8 (.v 2))
  (.prim 9 3 (opr Try.f3 9 3) [(.v 12)]
  (.rq (.int .i64 (.v 15))
  (.rq (.nz (.op2 .add .i64 (.v 15) (.k (.int .i64 (1)))))
  (.prim 10 3 (opr Try.f3 10 3) [(.v 12), (.op2 .rem .i64 (.cv .i64 (.v 2)) (.op2 .add .i64 (.v 15) (.k (.int .i64 (1)))))]
  (.prim 10 10 (opr Try.f3 10 10) [(.v 12), (.op2 .rem .i64 (.cv .i64 (.v 2)) (.op2 .add .i64 (.v 15) (.k (.int .i64 (1)))))]
  (.prim 10 14 (opr Try.f3 10 14) [(.v 12), (.op2 .rem .i64 (.cv .i64 (.v 2)) (.op2 .add .i64 (.v 15) (.k (.int .i64 (1)))))]
  (.prim 10 17 (opr Try.f3 10 17) [(.v 1)]
  (.prim 10 18 (opr Try.f3 10 18) [(.v 19), (.k (.int .i64 (220)))]
  (.prim 10 19 (opr Try.f3 10 19) [(.v 1), (.v 20)]
  (.eff true 10 5 (opr Try.f3 10 5) [(.v 3)]
  (.prim 10 6 (opr Try.f3 10 6) [(.v 22)]
  (.prim 10 7 (opr Try.f3 10 7) [(.v 16), (.v 23)]
  (.prim 10 11 (opr Try.f3 10 11) [(.v 24), (.v 17)]
  (.rq (.cells 1 (.v 12))
  (.rq (.cells 1 (.v 25))
  (.rq (.cells 1 (.v 18))
  (.rq (.cells 1 (.v 21))
  (.loop [(.v 7), (.k (.int .i64 (0)))]
   (.rq (.int .i64 (.v 27))
   (.br (.op2 .lss .i64 (.v 27) (.k (.int .i64 (4))))
    (.rq (.num (.v 27))
    (.rq (.lt 4 (.v 27))
    (.call false 8 [(.cell (.put (.put (.put (.put (.z 37) 0 1 (.v 12) 0 noI) 1 1 (.v 25) 0 noI) 2 1 (.v 18) 0 noI) 3 1 (.v 21) 0 noI) 0 1 (.v 27))]
    (.rq (.tup 0 (.v 28))
    (.rq (.tup 1 (.v 28))
    (.rq (.cells 8 (.proj (.v 28) 0))
    (.call false 9 [(.cell (.put (.put (.put (.put (.z 37) 0 1 (.v 12) 0 noI) 1 1 (.v 25) 0 noI) 2 1 (.v 18) 0 noI) 3 1 (.v 21) 0 noI) 0 1 (.v 27))]
    (.rq (.tup 0 (.v 29))
    (.rq (.tup 1 (.v 29))
    (.rq (.cells 8 (.proj (.v 29) 0))
    (.prim 15 2 (opr Try.f3 15 2) [(.ag (.proj (.v 28) 0)), (.ag (.proj (.v 29) 0))]
    (.rq (.isb false (.v 30))
    (.rq (.int .i64 (.proj (.v 28) 1))
    (.rq (.int .i64 (.proj (.v 29) 1))
    (.rq (.isb false (.op2 .neq .i64 (.proj (.v 28) 1) (.proj (.v 29) 1)))
    (.next 1 [(.v 26), (.op2 .add .i64 (.v 27) (.k (.int .i64 (1))))]))))))))))))))))
    (.next 0 [(.v 26), (.op2 .add .i64 (.v 8) (.k (.int .i64 (1)))), (.v 9)])))))))))))))))))))))))))))))
  (.ret [(.k (.bool true))]))))))))))) := by kernel_rfl
theorem np_WideTexts : (Try.prog.funcs[3]?).map (fun fn => fn.params.size + fn.nfree) = some 4 := by kernel_rfl
theorem op_WideTexts_3_2 : (opr Try.f3 3 2).op = .call ⟨.builtin .len, #[(.tmp 22)], #[32]⟩ := by kernel_rfl
theorem op_WideTexts_5_0 : (opr Try.f3 5 0).op = .indexAddr 32 (.tmp 22) (.tmp 24) := by kernel_rfl
theorem op_WideTexts_5_1 : (opr Try.f3 5 1).op = .load 34 (.tmp 26) := by kernel_rfl
theorem op_WideTexts_7_4 : (opr Try.f3 7 4).op = .binOp .neq 9 (.tmp 33) (.tmp 34) 9 := by kernel_rfl
theorem op_WideTexts_9_3 : (opr Try.f3 9 3).op = .call ⟨.builtin .len, #[(.tmp 38)], #[9]⟩ := by kernel_rfl
theorem op_WideTexts_10_3 : (opr Try.f3 10 3).op = .slice 9 (.tmp 43) none (some (.tmp 44)) none := by kernel_rfl
theorem op_WideTexts_10_10 : (opr Try.f3 10 10).op = .slice 9 (.tmp 50) (some (.tmp 51)) none none := by kernel_rfl
theorem op_WideTexts_10_14 : (opr Try.f3 10 14).op = .slice 9 (.tmp 54) (some (.tmp 55)) none none := by kernel_rfl
theorem op_WideTexts_10_17 : (opr Try.f3 10 17).op = .call ⟨.builtin .len, #[(.tmp 58)], #[9]⟩ := by kernel_rfl
theorem op_WideTexts_10_18 : (opr Try.f3 10 18).op = .call ⟨.builtin .min, #[(.tmp 59), (.const (.int .i64 (220)))], #[3, 3]⟩ := by kernel_rfl
theorem op_WideTexts_10_19 : (opr Try.f3 10 19).op = .slice 9 (.tmp 57) none (some (.tmp 60)) none := by kernel_rfl
theorem op_WideTexts_10_5 : (opr Try.f3 10 5).op = .buildSlice 36 1 #[(0, (.tmp 46))] := by kernel_rfl
theorem op_WideTexts_10_6 : (opr Try.f3 10 6).op = .convert 36 9 (.tmp 47) := by kernel_rfl
theorem op_WideTexts_10_7 : (opr Try.f3 10 7).op = .binOp .add 9 (.tmp 45) (.tmp 48) 9 := by kernel_rfl
theorem op_WideTexts_10_11 : (opr Try.f3 10 11).op = .binOp .add 9 (.tmp 49) (.tmp 52) 9 := by kernel_rfl
theorem op_WideTexts_15_2 : (opr Try.f3 15 2).op = .binOp .neq 24 (.tmp 76) (.tmp 77) 24 := by kernel_rfl
end Go.Proofs.Ytimnofpofbnjbaa

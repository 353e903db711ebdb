/- MADE BY rxgen.py: the trees of laws of chapter 01 with pairs. -/
import Derived.Test.YtmndieeelnicpaaRRWdT
namespace Go.Proofs.YtmndieeelnicpaaRR
open Go.RowKit Go.RX
theorem tr_pairs : tree Try.prog [] [] [] [⟨1, [0, 1, 3, 7, 0, 16, 63, 127, 255, 0, 1023], [1, 1, 2, 2, 1, 1, 2, 2, 0, 3, 4], [0, 0, 0, 0, 0, 0, 0, 0, 0, 0, 0], [0, 1, 4, 5, 2, 3, 6, 7, 8, 9], [10]⟩, ⟨2, [0, 1, 0, 4, 15, 0, 32, 96, 0, 256, 992, 2016, 0, 4096, 14304, 0, 32768, 128992, 260064, 0, 524288, 0, 2097152, 6551520, 16512992, 0, 33554432, 115603424, 0, 268435456, 1055127520, 0, 4294967295, 8589934591], [1, 1, 1, 1, 0, 1, 1, 2, 1, 1, 2, 0, 1, 1, 2, 1, 1, 2, 0, 1, 1, 1, 1, 2, 0, 1, 1, 2, 1, 1, 0, 5, 2, 0], [0, 0, 0, 0, 0, 0, 0, 0, 0, 0, 0, 0, 0, 0, 0, 0, 0, 0, 0, 0, 0, 0, 0, 0, 0, 0, 0, 0, 0, 0, 0, 1, 0, 0], [0, 1, 2, 3, 4, 5, 6, 8, 9, 12, 13, 15, 16, 19, 20, 21, 22, 25, 26, 28, 29, 31, 7, 10, 11, 14, 17, 18, 23, 24, 27, 30, 32, 33], []⟩] 13 = some (.rq (.cells 22 (.v 0))
(.call true 38 [(.sub (.v 0) 16 3 0 noI)]
(.call true 40 [(.v 1)]
(.call true 38 [(.sub (.v 0) 19 3 0 noI)]
(.call true 40 [(.v 3)]
(.rq (.cells 8 (.v 2))
(.rq (.cells 8 (.v 4))
(.call true 52 [(.sub (.v 0) 16 3 0 noI)]
(.call true 52 [(.sub (.v 0) 19 3 0 noI)]
(.rq (.cells 8 (.v 5))
(.rq (.cells 8 (.v 6))
(.call true 37 [(.sub (.v 0) 16 3 0 noI), (.k (.int .i64 (256)))]
(.call true 37 [(.sub (.v 0) 19 3 0 noI), (.k (.int .i64 (256)))]
(.rq (.cells 8 (.v 7))
(.rq (.cells 8 (.v 8))
(.call true 37 [(.sub (.v 0) 19 3 0 noI), (.k (.int .i64 (130)))]
(.rq (.cells 8 (.v 9))
(.call true 52 [(.sub (.v 0) 16 3 0 noI)]
(.rq (.cells 8 (.v 10))
(.rq (.cells 8 (.sub (.put (.put (.z 34) 0 8 (.v 2) 0 noI) 8 8 (.v 4) 0 noI) 8 8 0 noI))
(.eff true 2 32 (opr Try.f13 2 32) [(.put (.put (.z 34) 0 8 (.sub (.v 0) 0 8 0 noI) 0 noI) 8 8 (.sub (.v 0) 8 8 0 noI) 0 noI), (.put (.put (.z 34) 0 8 (.v 5) 0 noI) 8 8 (.v 6) 0 noI), (.put (.put (.z 34) 0 8 (.v 7) 0 noI) 8 8 (.v 8) 0 noI), (.put (.put (.z 34) 0 8 (.sub (.v 0) 0 8 0 noI) 0 noI) 8 8 (.v 9) 0 noI), (.put (.put (.z 34) 0 8 (.v 10) 0 noI) 8 8 (.sub (.put (.put (.z 34) 0 8 (.v 2) 0 noI) 8 8 (.v 4) 0 noI) 8 8 0 noI) 0 noI), (.put (.put (.z 34) 0 8 (.v 2) 0 noI) 8 8 (.v 4) 0 noI)]
(.ret [(.v 11)])))))))))))))))))))))) := by kernel_rfl
theorem np_pairs : (Try.prog.funcs[13]?).map (fun fn => fn.params.size + fn.nfree) = some 1 := by kernel_rfl
theorem op_pairs_2_32 : (opr Try.f13 2 32).op = .buildSlice 32 6 #[(0, (.tmp 17)), (1, (.tmp 24)), (2, (.tmp 31)), (3, (.tmp 37)), (4, (.tmp 43)), (5, (.tmp 44))] := by kernel_rfl
theorem tr_WideSums : tree Try.prog [] [] [⟨0, 4, [], []⟩] [] 5 = some (.rq (.cells 22 (.v 0))
(.call false 12 []
(.rq (.bool (.v 1))
(.br (.nt (.v 1))
 (.ret [(.k (.bool false))])
 (.call false 13 [(.ag (.v 0))]
 (.prim 3 2 (opr Try.f5 3 2) [(.v 2)]
 (.loop [(.k (.bool false)), (.k (.int .i64 (0)))]
  (.rq (.int .i64 (.v 5))
  (.rq (.int .i64 (.v 3))
  (.br (.op2 .lss .i64 (.v 5) (.v 3))
   (.prim 5 0 (opr Try.f5 5 0) [(.v 2), (.v 5)]
   (.prim 5 1 (opr Try.f5 5 1) [(.v 6)]
   (.rq (.cells 16 (.v 7))
   (.call false 22 [(.sub (.v 7) 0 8 0 noI)]
   (.rq (.tup 0 (.v 8))
   (.rq (.tup 1 (.v 8))
   (.rq (.cells 8 (.proj (.v 8) 0))
   (.call false 23 [(.sub (.v 7) 0 8 0 noI)]
   (.rq (.tup 0 (.v 9))
   (.rq (.tup 1 (.v 9))
   (.rq (.cells 8 (.proj (.v 9) 0))
   (.call false 24 [(.sub (.v 7) 0 8 0 noI)]
   (.rq (.tup 0 (.v 10))
   (.rq (.tup 1 (.v 10))
   (.rq (.cells 8 (.proj (.v 10) 0))
   (.call false 25 [(.sub (.v 7) 0 8 0 noI)]
   (.rq (.tup 0 (.v 11))
   (.rq (.tup 1 (.v 11))
   (.rq (.cells 8 (.proj (.v 11) 0))
   (.call false 26 [(.sub (.v 7) 0 8 0 noI), (.sub (.v 7) 8 8 0 noI)]
   (.rq (.tup 0 (.v 12))
   (.rq (.tup 1 (.v 12))
   (.rq (.cells 8 (.proj (.v 12) 0))
   (.call false 27 [(.sub (.v 7) 0 8 0 noI), (.sub (.v 7) 8 8 0 noI)]
   (.rq (.tup 0 (.v 13))
   (.rq (.tup 1 (.v 13))
   (.rq (.cells 8 (.proj (.v 13) 0))
   (.call false 28 [(.sub (.v 7) 0 8 0 noI), (.sub (.v 7) 8 8 0 noI)]
   (.rq (.tup 0 (.v 14))
   (.rq (.tup 1 (.v 14))
   (.rq (.cells 8 (.proj (.v 14) 0))
   (.call false 29 [(.sub (.v 7) 0 8 0 noI), (.sub (.v 7) 8 8 0 noI)]
   (.rq (.tup 0 (.v 15))
   (.rq (.tup 1 (.v 15))
   (.rq (.cells 8 (.proj (.v 15) 0))
   (.call false 30 [(.sub (.v 7) 0 8 0 noI), (.sub (.v 7) 8 8 0 noI)]
   (.rq (.tup 0 (.v 16))
   (.rq (.tup 1 (.v 16))
   (.rq (.cells 8 (.proj (.v 16) 0))
   (.call false 31 [(.sub (.v 7) 0 8 0 noI), (.sub (.v 7) 8 8 0 noI)]
   (.rq (.tup 0 (.v 17))
   (.rq (.tup 1 (.v 17))
   (.rq (.cells 8 (.proj (.v 17) 0))
   (.prim 16 2 (opr Try.f5 16 2) [(.ag (.proj (.v 8) 0)), (.ag (.proj (.v 9) 0))]
   (.rq (.bool (.v 18))
   (.br (.v 18)
    (.ret [(.k (.bool false))])
    (.rq (.int .i64 (.proj (.v 8) 1))
    (.rq (.int .i64 (.proj (.v 9) 1))
    (.br (.op2 .neq .i64 (.proj (.v 8) 1) (.proj (.v 9) 1))
     (.ret [(.k (.bool false))])
     (.prim 16 11 (opr Try.f5 16 11) [(.ag (.proj (.v 10) 0)), (.ag (.proj (.v 11) 0))]
     (.rq (.bool (.v 19))
     (.br (.v 19)
      (.ret [(.k (.bool false))])
      (.rq (.int .i64 (.proj (.v 10) 1))
      (.rq (.int .i64 (.proj (.v 11) 1))
      (.br (.op2 .neq .i64 (.proj (.v 10) 1) (.proj (.v 11) 1))
       (.ret [(.k (.bool false))])
       (.prim 16 21 (opr Try.f5 16 21) [(.ag (.proj (.v 12) 0)), (.ag (.proj (.v 13) 0))]
       (.rq (.bool (.v 20))
       (.br (.v 20)
        (.ret [(.k (.bool false))])
        (.rq (.int .i64 (.proj (.v 12) 1))
        (.rq (.int .i64 (.proj (.v 13) 1))
        (.br (.op2 .neq .i64 (.proj (.v 12) 1) (.proj (.v 13) 1))
         (.ret [(.k (.bool false))])
         (.prim 16 31 (opr Try.f5 16 31) [(.ag (.proj (.v 14) 0)), (.ag (.proj (.v 15) 0))]
         (.rq (.bool (.v 21))
         (.br (.v 21)
          (.ret [(.k (.bool false))])
          (.rq (.int .i64 (.proj (.v 14) 1))
          (.rq (.int .i64 (.proj (.v 15) 1))
          (.br (.op2 .neq .i64 (.proj (.v 14) 1) (.proj (.v 15) 1))
           (.ret [(.k (.bool false))])
           (.prim 16 41 (opr Try.f5 16 41) [(.ag (.proj (.v 16) 0)), (.ag (.proj (.v 17) 0))]
           (.rq (.bool (.v 22))
           (.br (.v 22)
            (.ret [(.k (.bool false))])
            (.rq (.int .i64 (.proj (.v 16) 1))
            (.rq (.int .i64 (.proj (.v 17) 1))
            (.br (.op2 .neq .i64 (.proj (.v 16) 1) (.proj (.v 17) 1))
             (.ret [(.k (.bool false))])
             (.next 0 [(.v 4), (.op2 .add .i64 (.v 5) (.k (.int .i64 (1))))]))))))))))))))))))))))))))))))))))))))))))))))))))))))))))))))))))))))))))
   (.ret [(.k (.bool true))]))))))))))) := by kernel_rfl
theorem np_WideSums : (Try.prog.funcs[5]?).map (fun fn => fn.params.size + fn.nfree) = some 1 := by kernel_rfl
theorem op_WideSums_3_2 : (opr Try.f5 3 2).op = .call ⟨.builtin .len, #[(.tmp 28)], #[32]⟩ := by kernel_rfl
theorem op_WideSums_5_0 : (opr Try.f5 5 0).op = .indexAddr 32 (.tmp 28) (.tmp 30) := by kernel_rfl
theorem op_WideSums_5_1 : (opr Try.f5 5 1).op = .load 34 (.tmp 32) := by kernel_rfl
theorem op_WideSums_16_2 : (opr Try.f5 16 2).op = .binOp .neq 24 (.tmp 106) (.tmp 107) 24 := by kernel_rfl
theorem op_WideSums_16_11 : (opr Try.f5 16 11).op = .binOp .neq 24 (.tmp 115) (.tmp 116) 24 := by kernel_rfl
theorem op_WideSums_16_21 : (opr Try.f5 16 21).op = .binOp .neq 24 (.tmp 125) (.tmp 126) 24 := by kernel_rfl
theorem op_WideSums_16_31 : (opr Try.f5 16 31).op = .binOp .neq 24 (.tmp 135) (.tmp 136) 24 := by kernel_rfl
theorem op_WideSums_16_41 : (opr Try.f5 16 41).op = .binOp .neq 24 (.tmp 145) (.tmp 146) 24 := by kernel_rfl
theorem tr_WideParts : tree Try.prog [] [] [⟨0, 4, [], []⟩, ⟨0, 12, [], []⟩] [] 3 = some (.rq (.cells 22 (.v 0))
(.call false 12 []
(.rq (.bool (.v 1))
(.br (.nt (.v 1))
 (.ret [(.k (.bool false))])
 (.call false 13 [(.ag (.v 0))]
 (.prim 3 2 (opr Try.f3 3 2) [(.v 2)]
 (.loop [(.k (.bool false)), (.k (.int .i64 (0)))]
  (.rq (.int .i64 (.v 5))
  (.rq (.int .i64 (.v 3))
  (.br (.op2 .lss .i64 (.v 5) (.v 3))
   (.prim 5 0 (opr Try.f3 5 0) [(.v 2), (.v 5)]
   (.prim 5 1 (opr Try.f3 5 1) [(.v 6)]
   (.rq (.cells 16 (.v 7))
   (.call false 14 [(.sub (.v 7) 0 8 0 noI), (.sub (.v 7) 8 8 0 noI)]
   (.rq (.tup 0 (.v 8))
   (.rq (.tup 1 (.v 8))
   (.rq (.tup 2 (.v 8))
   (.rq (.cells 8 (.proj (.v 8) 0))
   (.rq (.cells 8 (.proj (.v 8) 1))
   (.call false 15 [(.sub (.v 7) 0 8 0 noI), (.sub (.v 7) 8 8 0 noI)]
   (.rq (.tup 0 (.v 9))
   (.rq (.tup 1 (.v 9))
   (.rq (.tup 2 (.v 9))
   (.rq (.cells 8 (.proj (.v 9) 0))
   (.rq (.cells 8 (.proj (.v 9) 1))
   (.prim 8 2 (opr Try.f3 8 2) [(.ag (.proj (.v 8) 0)), (.ag (.proj (.v 9) 0))]
   (.rq (.bool (.v 10))
   (.br (.v 10)
    (.ret [(.k (.bool false))])
    (.prim 8 6 (opr Try.f3 8 6) [(.ag (.proj (.v 8) 1)), (.ag (.proj (.v 9) 1))]
    (.rq (.bool (.v 11))
    (.br (.v 11)
     (.ret [(.k (.bool false))])
     (.rq (.int .i64 (.proj (.v 8) 2))
     (.rq (.int .i64 (.proj (.v 9) 2))
     (.br (.op2 .neq .i64 (.proj (.v 8) 2) (.proj (.v 9) 2))
      (.ret [(.k (.bool false))])
      (.next 0 [(.v 4), (.op2 .add .i64 (.v 5) (.k (.int .i64 (1))))])))))))))))))))))))))))))
   (.call false 13 [(.ag (.v 0))]
   (.prim 11 2 (opr Try.f3 11 2) [(.v 6), (.k (.int .i64 (2)))]
   (.prim 11 3 (opr Try.f3 11 3) [(.v 7)]
   (.loop [(.v 4), (.k (.int .i64 (0)))]
    (.rq (.int .i64 (.v 10))
    (.rq (.int .i64 (.v 8))
    (.br (.op2 .lss .i64 (.v 10) (.v 8))
     (.prim 13 0 (opr Try.f3 13 0) [(.v 7), (.v 10)]
     (.prim 13 1 (opr Try.f3 13 1) [(.v 11)]
     (.rq (.cells 16 (.v 12))
     (.call false 16 [(.sub (.v 12) 0 8 0 noI), (.sub (.v 12) 8 8 0 noI)]
     (.rq (.tup 0 (.v 13))
     (.rq (.tup 1 (.v 13))
     (.rq (.cells 8 (.proj (.v 13) 0))
     (.call false 17 [(.sub (.v 12) 0 8 0 noI), (.sub (.v 12) 8 8 0 noI)]
     (.rq (.tup 0 (.v 14))
     (.rq (.tup 1 (.v 14))
     (.rq (.cells 8 (.proj (.v 14) 0))
     (.prim 16 2 (opr Try.f3 16 2) [(.ag (.proj (.v 13) 0)), (.ag (.proj (.v 14) 0))]
     (.rq (.bool (.v 15))
     (.br (.v 15)
      (.ret [(.k (.bool false))])
      (.rq (.int .i64 (.proj (.v 13) 1))
      (.rq (.int .i64 (.proj (.v 14) 1))
      (.br (.op2 .neq .i64 (.proj (.v 13) 1) (.proj (.v 14) 1))
       (.ret [(.k (.bool false))])
       (.next 1 [(.v 9), (.op2 .add .i64 (.v 10) (.k (.int .i64 (1))))]))))))))))))))))))
     (.ret [(.k (.bool true))])))))))))))))))))) := by kernel_rfl
theorem np_WideParts : (Try.prog.funcs[3]?).map (fun fn => fn.params.size + fn.nfree) = some 1 := by kernel_rfl
theorem op_WideParts_3_2 : (opr Try.f3 3 2).op = .call ⟨.builtin .len, #[(.tmp 20)], #[32]⟩ := by kernel_rfl
theorem op_WideParts_5_0 : (opr Try.f3 5 0).op = .indexAddr 32 (.tmp 20) (.tmp 22) := by kernel_rfl
theorem op_WideParts_5_1 : (opr Try.f3 5 1).op = .load 34 (.tmp 24) := by kernel_rfl
theorem op_WideParts_8_2 : (opr Try.f3 8 2).op = .binOp .neq 24 (.tmp 44) (.tmp 45) 24 := by kernel_rfl
theorem op_WideParts_8_6 : (opr Try.f3 8 6).op = .binOp .neq 24 (.tmp 48) (.tmp 49) 24 := by kernel_rfl
theorem op_WideParts_11_2 : (opr Try.f3 11 2).op = .slice 32 (.tmp 59) (some (.const (.int .i64 (2)))) none none := by kernel_rfl
theorem op_WideParts_11_3 : (opr Try.f3 11 3).op = .call ⟨.builtin .len, #[(.tmp 60)], #[32]⟩ := by kernel_rfl
theorem op_WideParts_13_0 : (opr Try.f3 13 0).op = .indexAddr 32 (.tmp 60) (.tmp 62) := by kernel_rfl
theorem op_WideParts_13_1 : (opr Try.f3 13 1).op = .load 34 (.tmp 64) := by kernel_rfl
theorem op_WideParts_16_2 : (opr Try.f3 16 2).op = .binOp .neq 24 (.tmp 82) (.tmp 83) 24 := by kernel_rfl
theorem tr_WideTells : tree Try.prog [] [] [⟨0, 7, [], []⟩] [⟨4, [0, 0, 2, 7], [5, 0, 2, 1], [1, 0, 0, 0], [0, 1, 2, 3], []⟩, ⟨6, [0, 1, 0, 0, 8, 27, 63, 127, 255, 511, 0], [5, 2, 5, 0, 0, 2, 0, 2, 4, 4, 0], [0, 0, 1, 0, 0, 0, 0, 0, 0, 0, 0], [0, 2, 3, 4, 10, 1, 5, 6, 7], [8, 9]⟩, ⟨11, [0, 0, 3, 7, 15, 15, 63, 127, 255, 511, 1023, 2047, 511, 4607, 16383, 32767, 65535, 131071, 262143, 524287, 262143, 1310719, 4194303, 262143, 8650751, 262143, 33816575, 134217727, 268435455, 536870911], [0, 0, 0, 0, 0, 0, 0, 0, 0, 1, 1, 2, 1, 1, 2, 0, 0, 0, 1, 1, 1, 1, 2, 1, 1, 1, 1, 2, 0, 0], [0, 0, 0, 0, 0, 0, 0, 0, 0, 0, 0, 0, 0, 0, 0, 0, 0, 0, 0, 0, 0, 0, 0, 0, 0, 0, 0, 0, 0, 0], [0, 1, 2, 3, 4, 5, 6, 7, 8, 9, 10, 12, 13, 11, 14, 15, 16, 17, 18, 19, 20, 21, 23, 24, 25, 26, 22, 27, 28, 29], []⟩] 9 = some (.rq (.cells 22 (.v 0))
(.call false 12 []
(.rq (.bool (.v 2))
(.br (.nt (.v 2))
 (.ret [(.k (.bool false))])
 (.call false 32 [(.v 1)]
 (.rq (.cells 8 (.v 3))
 (.call true 40 [(.v 1)]
 (.prim 4 3 (opr Try.f9 4 3) [(.ag (.v 3)), (.v 4)]
 (.rq (.bool (.v 5))
 (.br (.v 5)
  (.ret [(.k (.bool false))])
  (.rq (.int .i64 (.v 1))
  (.call true 13 [(.ag (.v 0))]
  (.call true 40 [(.op1 .neg .i64 (.v 1))]
  (.rq (.cells 8 (.v 7))
  (.eff true 6 7 (opr Try.f9 6 7) [(.put (.put (.z 34) 0 8 (.ag (.v 3)) 0 noI) 8 8 (.v 7) 0 noI)]
  (.eff false 6 8 (opr Try.f9 6 8) [(.v 6), (.v 8)]
  (.prim 6 9 (opr Try.f9 6 9) [(.v 9)]
  (.loop [(.k (.bool false)), (.k (.int .i64 (0)))]
   (.rq (.int .i64 (.v 12))
   (.rq (.int .i64 (.v 10))
   (.br (.op2 .lss .i64 (.v 12) (.v 10))
    (.prim 8 0 (opr Try.f9 8 0) [(.v 9), (.v 12)]
    (.prim 8 1 (opr Try.f9 8 1) [(.v 13)]
    (.rq (.cells 16 (.v 14))
    (.call false 41 [(.sub (.v 14) 0 8 0 noI)]
    (.rq (.tup 0 (.v 15))
    (.rq (.tup 1 (.v 15))
    (.call false 42 [(.sub (.v 14) 0 8 0 noI)]
    (.rq (.tup 0 (.v 16))
    (.rq (.tup 1 (.v 16))
    (.rq (.int .i64 (.proj (.v 15) 0))
    (.rq (.int .i64 (.proj (.v 16) 0))
    (.br (.op2 .neq .i64 (.proj (.v 15) 0) (.proj (.v 16) 0))
     (.ret [(.k (.bool false))])
     (.rq (.int .i64 (.proj (.v 15) 1))
     (.rq (.int .i64 (.proj (.v 16) 1))
     (.br (.op2 .neq .i64 (.proj (.v 15) 1) (.proj (.v 16) 1))
      (.ret [(.k (.bool false))])
      (.call true 39 [(.sub (.v 14) 0 8 0 noI)]
      (.call true 43 [(.sub (.v 14) 0 8 0 noI)]
      (.rq (.int .i64 (.v 17))
      (.rq (.int .i64 (.v 18))
      (.br (.op2 .neq .i64 (.v 17) (.v 18))
       (.ret [(.k (.bool false))])
       (.call true 33 [(.sub (.v 14) 0 8 0 noI), (.sub (.v 14) 8 8 0 noI)]
       (.call true 44 [(.sub (.v 14) 0 8 0 noI), (.sub (.v 14) 8 8 0 noI)]
       (.rq (.int .i64 (.v 19))
       (.rq (.int .i64 (.v 20))
       (.br (.op2 .neq .i64 (.v 19) (.v 20))
        (.ret [(.k (.bool false))])
        (.next 0 [(.v 11), (.op2 .add .i64 (.v 12) (.k (.int .i64 (1))))]))))))))))))))))))))))))))
    (.ret [(.k (.bool true))])))))))))))))))))))))) := by kernel_rfl
theorem np_WideTells : (Try.prog.funcs[9]?).map (fun fn => fn.params.size + fn.nfree) = some 2 := by kernel_rfl
theorem op_WideTells_4_3 : (opr Try.f9 4 3).op = .binOp .neq 24 (.tmp 16) (.tmp 18) 24 := by kernel_rfl
theorem op_WideTells_6_7 : (opr Try.f9 6 7).op = .buildSlice 32 1 #[(0, (.tmp 26))] := by kernel_rfl
theorem op_WideTells_6_8 : (opr Try.f9 6 8).op = .call ⟨.builtin .append, #[(.tmp 21), (.tmp 27)], #[32, 32]⟩ := by kernel_rfl
theorem op_WideTells_6_9 : (opr Try.f9 6 9).op = .call ⟨.builtin .len, #[(.tmp 28)], #[32]⟩ := by kernel_rfl
theorem op_WideTells_8_0 : (opr Try.f9 8 0).op = .indexAddr 32 (.tmp 28) (.tmp 30) := by kernel_rfl
theorem op_WideTells_8_1 : (opr Try.f9 8 1).op = .load 34 (.tmp 32) := by kernel_rfl
theorem tr_WidePowers : tree Try.prog [] [] [⟨0, 4, [], [0]⟩, ⟨0, 7, [], []⟩] [] 4 = some (.rq (.cells 22 (.v 0))
(.call false 12 []
(.rq (.bool (.v 2))
(.br (.nt (.v 2))
 (.ret [(.k (.bool false))])
 (.call false 13 [(.ag (.v 0))]
 (.prim 3 2 (opr Try.f4 3 2) [(.v 3)]
 (.loop [(.k (.bool false)), (.k (.int .i64 (0))), (.v 0)]
  (.rq (.int .i64 (.v 6))
  (.rq (.int .i64 (.v 4))
  (.br (.op2 .lss .i64 (.v 6) (.v 4))
   (.prim 5 0 (opr Try.f4 5 0) [(.v 3), (.v 6)]
   (.prim 5 1 (opr Try.f4 5 1) [(.v 8)]
   (.rq (.cells 16 (.v 9))
   (.rq (.int .i64 (.v 1))
   (.rq (.cells 1 (.v 1))
   (.loop [(.v 5), (.k (.int .i64 (0)))]
    (.rq (.int .i64 (.v 11))
    (.br (.op2 .lss .i64 (.v 11) (.k (.int .i64 (2))))
     (.rq (.num (.v 11))
     (.rq (.lt 2 (.v 11))
     (.call false 18 [(.sub (.v 9) 0 8 0 noI), (.cell (.put (.put (.z 42) 0 1 (.v 1) 0 noI) 1 1 (.cv .i64 (.op2 .rem .u64 (.cv .u64 (.v 1)) (.k (.int .u64 (20))))) 0 noI) 0 1 (.v 11))]
     (.rq (.tup 0 (.v 12))
     (.rq (.tup 1 (.v 12))
     (.rq (.cells 8 (.proj (.v 12) 0))
     (.call false 19 [(.sub (.v 9) 0 8 0 noI), (.cell (.put (.put (.z 42) 0 1 (.v 1) 0 noI) 1 1 (.cv .i64 (.op2 .rem .u64 (.cv .u64 (.v 1)) (.k (.int .u64 (20))))) 0 noI) 0 1 (.v 11))]
     (.rq (.tup 0 (.v 13))
     (.rq (.tup 1 (.v 13))
     (.rq (.cells 8 (.proj (.v 13) 0))
     (.prim 11 2 (opr Try.f4 11 2) [(.ag (.proj (.v 12) 0)), (.ag (.proj (.v 13) 0))]
     (.rq (.bool (.v 14))
     (.br (.v 14)
      (.ret [(.k (.bool false))])
      (.rq (.int .i64 (.proj (.v 12) 1))
      (.rq (.int .i64 (.proj (.v 13) 1))
      (.br (.op2 .neq .i64 (.proj (.v 12) 1) (.proj (.v 13) 1))
       (.ret [(.k (.bool false))])
       (.next 1 [(.v 10), (.op2 .add .i64 (.v 11) (.k (.int .i64 (1))))])))))))))))))))))
     (.call false 20 [(.sub (.v 9) 0 8 0 noI)]
     (.rq (.tup 0 (.v 12))
     (.rq (.tup 1 (.v 12))
     (.rq (.cells 8 (.proj (.v 12) 0))
     (.call false 21 [(.sub (.v 9) 0 8 0 noI)]
     (.rq (.tup 0 (.v 13))
     (.rq (.tup 1 (.v 13))
     (.rq (.cells 8 (.proj (.v 13) 0))
     (.prim 16 2 (opr Try.f4 16 2) [(.ag (.proj (.v 12) 0)), (.ag (.proj (.v 13) 0))]
     (.rq (.bool (.v 14))
     (.br (.v 14)
      (.ret [(.k (.bool false))])
      (.rq (.int .i64 (.proj (.v 12) 1))
      (.rq (.int .i64 (.proj (.v 13) 1))
      (.br (.op2 .neq .i64 (.proj (.v 12) 1) (.proj (.v 13) 1))
       (.ret [(.k (.bool false))])
       (.next 0 [(.v 10), (.op2 .add .i64 (.v 6) (.k (.int .i64 (1)))), (.v 7)])))))))))))))))))))))))
   (.ret [(.k (.bool true))]))))))))))) := by kernel_rfl
theorem np_WidePowers : (Try.prog.funcs[4]?).map (fun fn => fn.params.size + fn.nfree) = some 2 := by kernel_rfl
theorem op_WidePowers_3_2 : (opr Try.f4 3 2).op = .call ⟨.builtin .len, #[(.tmp 20)], #[32]⟩ := by kernel_rfl
theorem op_WidePowers_5_0 : (opr Try.f4 5 0).op = .indexAddr 32 (.tmp 20) (.tmp 22) := by kernel_rfl
theorem op_WidePowers_5_1 : (opr Try.f4 5 1).op = .load 34 (.tmp 24) := by kernel_rfl
theorem op_WidePowers_11_2 : (opr Try.f4 11 2).op = .binOp .neq 24 (.tmp 49) (.tmp 50) 24 := by kernel_rfl
theorem op_WidePowers_16_2 : (opr Try.f4 16 2).op = .binOp .neq 24 (.tmp 70) (.tmp 71) 24 := by kernel_rfl
end Go.Proofs.YtmndieeelnicpaaRR

/- MADE BY rxgen.py: the trees of the reference of chapter 01. -/
import Derived.Test.YtcleogdmobdnpacGreatRDoorWdT
namespace Go.Proofs.YtcleogdmobdnpacGreatRDoor
open Go.RowKit Go.RX
theorem tr_rcut : tree Tryz.prog [] [] [⟨3, 2, [15], []⟩, ⟨0, 2, [], []⟩] [] 146 = some (.prim 1 1 (opr Tryz.f146 1 1) [(.v 0)]
(.loop [(.v 1)]
 (.join 1
  (.rq (.int .i64 (.v 2))
  (.br (.op2 .gtr .i64 (.v 2) (.k (.int .i64 (0))))
   (.prim 2 6 (opr Tryz.f146 2 6) [(.v 0), (.op2 .sub .i64 (.v 2) (.k (.int .i64 (1))))]
   (.prim 2 7 (opr Tryz.f146 2 7) [(.v 3)]
   (.rq (.int .i64 (.v 4))
   (.next 1 [(.op2 .eql .i64 (.v 4) (.k (.int .i64 (0))))]))))
   (.next 1 [(.k (.bool false))])))
  (.rq (.bool (.v 3))
  (.br (.v 3)
   (.rq (.int .i64 (.v 2))
   (.next 0 [(.op2 .sub .i64 (.v 2) (.k (.int .i64 (1))))]))
   (.prim 4 2 (opr Tryz.f146 4 2) [(.v 0), (.v 2)]
   (.ret [(.v 4)]))))))) := by kernel_rfl
theorem np_rcut : (Tryz.prog.funcs[146]?).map (fun fn => fn.params.size + fn.nfree) = some 1 := by kernel_rfl
theorem op_rcut_1_1 : (opr Tryz.f146 1 1).op = .call ⟨.builtin .len, #[(.tmp 4)], #[111]⟩ := by kernel_rfl
theorem op_rcut_2_6 : (opr Tryz.f146 2 6).op = .indexAddr 111 (.tmp 9) (.tmp 11) := by kernel_rfl
theorem op_rcut_2_7 : (opr Tryz.f146 2 7).op = .load 3 (.tmp 12) := by kernel_rfl
theorem op_rcut_4_2 : (opr Tryz.f146 4 2).op = .slice 111 (.tmp 18) none (some (.tmp 19)) none := by kernel_rfl
theorem tr_rmade : tree Tryz.prog [] [] [] [] 118 = some (.call false 146 [(.v 1)]
(.rq (.bool (.v 0))
(.br (.v 0)
 (.prim 2 3 (opr Tryz.f118 2 3) [(.v 2)]
 (.rq (.int .i64 (.v 3))
 (.rq (.cells 1 (.v 2))
 (.ret [(.cat (.op2 .gtr .i64 (.v 3) (.k (.int .i64 (0)))) 1 (.v 2))]))))
 (.rq (.cells 1 (.v 2))
 (.ret [(.cat (.k (.bool false)) 1 (.v 2))]))))) := by kernel_rfl
theorem np_rmade : (Tryz.prog.funcs[118]?).map (fun fn => fn.params.size + fn.nfree) = some 2 := by kernel_rfl
theorem op_rmade_2_3 : (opr Tryz.f118 2 3).op = .call ⟨.builtin .len, #[(.tmp 9)], #[111]⟩ := by kernel_rfl
theorem tr_rhalves : tree Tryz.prog [] [] [⟨0, 3, [], []⟩] [⟨5, [0, 0, 2, 6, 14, 30, 0, 64, 192, 448, 960, 2046, 4095, 8191], [0, 0, 1, 1, 0, 0, 0, 1, 1, 0, 0, 2, 4, 0], [0, 0, 0, 0, 0, 0, 0, 0, 0, 0, 0, 0, 0, 0], [0, 1, 2, 3, 4, 5, 6, 7, 8, 9, 10, 11], [12, 13]⟩] 145 = some (.rq (.cells 8 (.v 0))
(.loop [(.k (.slice none 0 0)), (.k (.int .i64 (0)))]
 (.rq (.int .i64 (.v 2))
 (.br (.op2 .lss .i64 (.v 2) (.k (.int .i64 (8))))
  (.rq (.num (.v 2))
  (.rq (.lt 8 (.v 2))
  (.rq (.int .u64 (.cell (.v 0) 0 1 (.v 2)))
  (.eff true 5 11 (opr Tryz.f145 5 11) [(.cv .i64 (.op2 .rem .u64 (.cell (.v 0) 0 1 (.v 2)) (.k (.int .u64 (4294967296))))), (.cv .i64 (.op2 .quo .u64 (.cell (.v 0) 0 1 (.v 2)) (.k (.int .u64 (4294967296)))))]
  (.eff false 5 12 (opr Tryz.f145 5 12) [(.v 1), (.v 3)]
  (.next 0 [(.v 4), (.op2 .add .i64 (.v 2) (.k (.int .i64 (1))))]))))))
  (.ret [(.v 1)]))))) := by kernel_rfl
theorem np_rhalves : (Tryz.prog.funcs[145]?).map (fun fn => fn.params.size + fn.nfree) = some 1 := by kernel_rfl
theorem op_rhalves_5_11 : (opr Tryz.f145 5 11).op = .buildSlice 111 2 #[(0, (.tmp 14)), (1, (.tmp 19))] := by kernel_rfl
theorem op_rhalves_5_12 : (opr Tryz.f145 5 12).op = .call ⟨.builtin .append, #[(.tmp 9), (.tmp 20)], #[111, 111]⟩ := by kernel_rfl
theorem tr_rIn : tree Tryz.prog [] [] [] [] 117 = some (.rq (.cells 8 (.v 0))
(.call false 145 [(.ag (.v 0))]
(.rq (.int .u64 (.cell (.v 0) 7 0 noI))
(.br (.op2 .lss .u64 (.cell (.v 0) 7 0 noI) (.k (.int .u64 (9223372036854775808))))
 (.call false 118 [(.k (.bool false)), (.v 1)]
 (.rq (.cells 2 (.v 2))
 (.ret [(.ag (.v 2))])))
 (.eff false 4 0 (opr Tryz.f117 4 0) [(.k (.int .i64 (17))), (.k (.int .i64 (17)))]
 (.prim 5 1 (opr Tryz.f117 5 1) [(.v 2), (.k (.int .i64 (16)))]
 (.eff false 5 2 (opr Tryz.f117 5 2) [(.v 3), (.k (.int .i64 (1)))]
 (.call false 146 [(.v 1)]
 (.call false 121 [(.v 2), (.v 5)]
 (.call false 118 [(.k (.bool true)), (.v 6)]
 (.rq (.cells 2 (.v 7))
 (.ret [(.ag (.v 7))])))))))))))) := by kernel_rfl
theorem np_rIn : (Tryz.prog.funcs[117]?).map (fun fn => fn.params.size + fn.nfree) = some 1 := by kernel_rfl
theorem op_rIn_4_0 : (opr Tryz.f117 4 0).op = .makeSlice 111 (.const (.int .i64 (17))) (.const (.int .i64 (17))) := by kernel_rfl
theorem op_rIn_5_1 : (opr Tryz.f117 5 1).op = .indexAddr 111 (.tmp 13) (.const (.int .i64 (16))) := by kernel_rfl
theorem op_rIn_5_2 : (opr Tryz.f117 5 2).op = .store 3 (.tmp 14) (.const (.int .i64 (1))) := by kernel_rfl
theorem tr_rOut : tree Tryz.prog [] [] [⟨3, 4, [27], []⟩, ⟨2, 32, [6], []⟩, ⟨0, 13, [], [2]⟩] [⟨15, [0, 1, 0, 4, 12, 28, 0, 0, 192, 448, 960, 0, 2048, 6144, 16320, 32764, 65535, 131071], [0, 0, 0, 0, 1, 1, 0, 0, 1, 1, 0, 0, 0, 0, 0, 0, 1, 4], [0, 0, 0, 0, 0, 0, 0, 0, 0, 0, 0, 0, 0, 0, 0, 0, 0, 0], [0, 1, 2, 3, 4, 5, 6, 7, 8, 9, 10, 11, 12, 13, 14, 15, 16], [17]⟩] 87 = some (.rq (.cells 2 (.v 0))
(.eff false 1 0 (opr Tryz.f87 1 0) [(.k (.int .i64 (16))), (.k (.int .i64 (16)))]
(.prim 2 1 (opr Tryz.f87 2 1) [(.v 1), (.k (.int .i64 (15)))]
(.eff false 2 2 (opr Tryz.f87 2 2) [(.v 2), (.k (.int .i64 (2147483648)))]
(.call false 120 [(.cell (.v 0) 1 0 noI), (.v 1)]
(.join 1
 (.rq (.int .i64 (.v 4))
 (.br (.op2 .gtr .i64 (.v 4) (.k (.int .i64 (0))))
  (.next 0 [(.k (.bool true))])
  (.br (.op2 .eql .i64 (.v 4) (.k (.int .i64 (0))))
   (.rq (.bool (.cell (.v 0) 0 0 noI))
   (.next 0 [(.nt (.cell (.v 0) 0 0 noI))]))
   (.next 0 [(.k (.bool false))]))))
 (.rq (.bool (.v 5))
 (.br (.v 5)
  (.ret [(.z 31), (.k (.int .i64 (6)))])
  (.join 1
   (.rq (.bool (.cell (.v 0) 0 0 noI))
   (.br (.cell (.v 0) 0 0 noI)
    (.eff false 8 0 (opr Tryz.f87 8 0) [(.k (.int .i64 (17))), (.k (.int .i64 (17)))]
    (.prim 9 1 (opr Tryz.f87 9 1) [(.v 6), (.k (.int .i64 (16)))]
    (.eff false 9 2 (opr Tryz.f87 9 2) [(.v 7), (.k (.int .i64 (1)))]
    (.call false 121 [(.v 6), (.cell (.v 0) 1 0 noI)]
    (.next 0 [(.v 9)])))))
    (.next 0 [(.cell (.v 0) 1 0 noI)])))
   (.loop [(.k (.int .i64 (0))), (.z 31)]
    (.prim 13 2 (opr Tryz.f87 13 2) [(.v 6)]
    (.rq (.int .i64 (.v 7))
    (.rq (.int .i64 (.v 9))
    (.br (.op2 .lss .i64 (.v 7) (.v 9))
     (.rq (.lt 8 (.op2 .quo .i64 (.v 7) (.k (.int .i64 (2)))))
     (.prim 15 8 (opr Tryz.f87 15 8) [(.v 6), (.v 7)]
     (.prim 15 9 (opr Tryz.f87 15 9) [(.v 10)]
     (.rq (.int .i64 (.v 11))
     (.rq (.nn (.op2 .mul .i64 (.k (.int .i64 (32))) (.op2 .rem .i64 (.v 7) (.k (.int .i64 (2))))))
     (.rq (.int .u64 (.cell (.v 8) 0 1 (.op2 .quo .i64 (.v 7) (.k (.int .i64 (2))))))
     (.next 0 [(.op2 .add .i64 (.v 7) (.k (.int .i64 (1)))), (.put (.v 8) 0 1 (.op2 .add .u64 (.cell (.v 8) 0 1 (.op2 .quo .i64 (.v 7) (.k (.int .i64 (2))))) (.op2 .shl .u64 (.cv .u64 (.v 11)) (.op2 .mul .i64 (.k (.int .i64 (32))) (.op2 .rem .i64 (.v 7) (.k (.int .i64 (2))))))) 1 (.op2 .quo .i64 (.v 7) (.k (.int .i64 (2)))))])))))))
     (.ret [(.ag (.v 8)), (.k (.int .i64 (0)))]))))))))))))))) := by kernel_rfl
theorem np_rOut : (Tryz.prog.funcs[87]?).map (fun fn => fn.params.size + fn.nfree) = some 1 := by kernel_rfl
theorem op_rOut_1_0 : (opr Tryz.f87 1 0).op = .makeSlice 111 (.const (.int .i64 (16))) (.const (.int .i64 (16))) := by kernel_rfl
theorem op_rOut_2_1 : (opr Tryz.f87 2 1).op = .indexAddr 111 (.tmp 11) (.const (.int .i64 (15))) := by kernel_rfl
theorem op_rOut_2_2 : (opr Tryz.f87 2 2).op = .store 3 (.tmp 12) (.const (.int .i64 (2147483648))) := by kernel_rfl
theorem op_rOut_8_0 : (opr Tryz.f87 8 0).op = .makeSlice 111 (.const (.int .i64 (17))) (.const (.int .i64 (17))) := by kernel_rfl
theorem op_rOut_9_1 : (opr Tryz.f87 9 1).op = .indexAddr 111 (.tmp 34) (.const (.int .i64 (16))) := by kernel_rfl
theorem op_rOut_9_2 : (opr Tryz.f87 9 2).op = .store 3 (.tmp 35) (.const (.int .i64 (1))) := by kernel_rfl
theorem op_rOut_13_2 : (opr Tryz.f87 13 2).op = .call ⟨.builtin .len, #[(.tmp 40)], #[111]⟩ := by kernel_rfl
theorem op_rOut_15_8 : (opr Tryz.f87 15 8).op = .indexAddr 111 (.tmp 51) (.tmp 52) := by kernel_rfl
theorem op_rOut_15_9 : (opr Tryz.f87 15 9).op = .load 3 (.tmp 53) := by kernel_rfl
theorem tr_rLong1 : tree Tryz.prog [] [] [⟨2, 9, [4], []⟩] [] 84 = some (.rq (.int .i64 (.v 0))
(.join 1
 (.br (.op2 .lss .i64 (.v 0) (.k (.int .i64 (0))))
  (.next 0 [(.op1 .neg .u64 (.cv .u64 (.v 0)))])
  (.next 0 [(.cv .u64 (.v 0))]))
 (.rq (.int .u64 (.v 1))
 (.eff false 5 7 (opr Tryz.f84 5 7) [(.cv .i64 (.op2 .rem .u64 (.v 1) (.k (.int .u64 (4294967296))))), (.cv .i64 (.op2 .quo .u64 (.v 1) (.k (.int .u64 (4294967296)))))]
 (.call false 118 [(.op2 .lss .i64 (.v 0) (.k (.int .i64 (0)))), (.v 2)]
 (.rq (.cells 2 (.v 3))
 (.ret [(.ag (.v 3))]))))))) := by kernel_rfl
theorem np_rLong1 : (Tryz.prog.funcs[84]?).map (fun fn => fn.params.size + fn.nfree) = some 1 := by kernel_rfl
theorem op_rLong1_5_7 : (opr Tryz.f84 5 7).op = .buildSlice 111 2 #[(0, (.tmp 15)), (1, (.tmp 18))] := by kernel_rfl
theorem tr_rorder : tree Tryz.prog [] [] [⟨0, 4, [], []⟩] [⟨6, [0, 0, 3, 7, 0, 0, 48, 112, 255], [0, 0, 1, 1, 0, 0, 1, 1, 0], [0, 0, 0, 0, 0, 0, 0, 0, 0], [0, 1, 2, 3, 4, 5, 6, 7, 8], []⟩, ⟨7, [0, 0, 3, 7, 0, 0, 48, 112, 255, 511], [0, 0, 1, 1, 0, 0, 1, 1, 0, 0], [0, 0, 0, 0, 0, 0, 0, 0, 0, 0], [0, 1, 2, 3, 4, 5, 6, 7, 8, 9], []⟩] 120 = some (.prim 1 1 (opr Tryz.f120 1 1) [(.v 0)]
(.prim 1 3 (opr Tryz.f120 1 3) [(.v 1)]
(.rq (.int .i64 (.v 2))
(.rq (.int .i64 (.v 3))
(.br (.op2 .neq .i64 (.v 2) (.v 3))
 (.prim 2 1 (opr Tryz.f120 2 1) [(.v 0)]
 (.prim 2 3 (opr Tryz.f120 2 3) [(.v 1)]
 (.rq (.int .i64 (.v 4))
 (.rq (.int .i64 (.v 5))
 (.ret [(.op2 .sub .i64 (.v 4) (.v 5))])))))
 (.prim 3 1 (opr Tryz.f120 3 1) [(.v 0)]
 (.rq (.int .i64 (.v 4))
 (.loop [(.k (.int .i64 (0))), (.op2 .sub .i64 (.v 4) (.k (.int .i64 (1))))]
  (.rq (.int .i64 (.v 6))
  (.br (.op2 .geq .i64 (.v 6) (.k (.int .i64 (0))))
   (.prim 6 2 (opr Tryz.f120 6 2) [(.v 0), (.v 6)]
   (.prim 6 3 (opr Tryz.f120 6 3) [(.v 7)]
   (.prim 6 6 (opr Tryz.f120 6 6) [(.v 1), (.v 6)]
   (.prim 6 7 (opr Tryz.f120 6 7) [(.v 9)]
   (.rq (.int .i64 (.v 8))
   (.rq (.int .i64 (.v 10))
   (.br (.op2 .neq .i64 (.v 8) (.v 10))
    (.prim 7 2 (opr Tryz.f120 7 2) [(.v 0), (.v 6)]
    (.prim 7 3 (opr Tryz.f120 7 3) [(.v 11)]
    (.prim 7 6 (opr Tryz.f120 7 6) [(.v 1), (.v 6)]
    (.prim 7 7 (opr Tryz.f120 7 7) [(.v 13)]
    (.rq (.int .i64 (.v 12))
    (.rq (.int .i64 (.v 14))
    (.ret [(.op2 .sub .i64 (.v 12) (.v 14))])))))))
    (.next 0 [(.v 5), (.op2 .sub .i64 (.v 6) (.k (.int .i64 (1))))]))))))))
   (.ret [(.k (.int .i64 (0)))]))))))))))) := by kernel_rfl
theorem np_rorder : (Tryz.prog.funcs[120]?).map (fun fn => fn.params.size + fn.nfree) = some 2 := by kernel_rfl
theorem op_rorder_1_1 : (opr Tryz.f120 1 1).op = .call ⟨.builtin .len, #[(.tmp 6)], #[111]⟩ := by kernel_rfl
theorem op_rorder_1_3 : (opr Tryz.f120 1 3).op = .call ⟨.builtin .len, #[(.tmp 8)], #[111]⟩ := by kernel_rfl
theorem op_rorder_2_1 : (opr Tryz.f120 2 1).op = .call ⟨.builtin .len, #[(.tmp 11)], #[111]⟩ := by kernel_rfl
theorem op_rorder_2_3 : (opr Tryz.f120 2 3).op = .call ⟨.builtin .len, #[(.tmp 13)], #[111]⟩ := by kernel_rfl
theorem op_rorder_3_1 : (opr Tryz.f120 3 1).op = .call ⟨.builtin .len, #[(.tmp 16)], #[111]⟩ := by kernel_rfl
theorem op_rorder_6_2 : (opr Tryz.f120 6 2).op = .indexAddr 111 (.tmp 23) (.tmp 24) := by kernel_rfl
theorem op_rorder_6_3 : (opr Tryz.f120 6 3).op = .load 3 (.tmp 25) := by kernel_rfl
theorem op_rorder_6_6 : (opr Tryz.f120 6 6).op = .indexAddr 111 (.tmp 27) (.tmp 28) := by kernel_rfl
theorem op_rorder_6_7 : (opr Tryz.f120 6 7).op = .load 3 (.tmp 29) := by kernel_rfl
theorem op_rorder_7_2 : (opr Tryz.f120 7 2).op = .indexAddr 111 (.tmp 32) (.tmp 33) := by kernel_rfl
theorem op_rorder_7_3 : (opr Tryz.f120 7 3).op = .load 3 (.tmp 34) := by kernel_rfl
theorem op_rorder_7_6 : (opr Tryz.f120 7 6).op = .indexAddr 111 (.tmp 36) (.tmp 37) := by kernel_rfl
theorem op_rorder_7_7 : (opr Tryz.f120 7 7).op = .load 3 (.tmp 38) := by kernel_rfl
theorem tr_rmore : tree Tryz.prog [] [] [⟨3, 4, [21], []⟩, ⟨2, 27, [6], []⟩, ⟨2, 37, [6], []⟩, ⟨0, 4, [], []⟩] [] 119 = some (.loop [(.k (.slice none 0 0)), (.k (.int .i64 (0))), (.k (.int .i64 (0)))]
 (.join 1
  (.prim 4 2 (opr Tryz.f119 4 2) [(.v 0)]
  (.rq (.int .i64 (.v 4))
  (.rq (.int .i64 (.v 5))
  (.br (.op2 .lss .i64 (.v 4) (.v 5))
   (.next 1 [(.k (.bool true))])
   (.prim 4 7 (opr Tryz.f119 4 7) [(.v 1)]
   (.rq (.int .i64 (.v 6))
   (.br (.op2 .lss .i64 (.v 4) (.v 6))
    (.next 1 [(.k (.bool true))])
    (.rq (.int .i64 (.v 3))
    (.next 1 [(.op2 .gtr .i64 (.v 3) (.k (.int .i64 (0))))])))))))))
  (.rq (.bool (.v 5))
  (.br (.v 5)
   (.prim 6 2 (opr Tryz.f119 6 2) [(.v 0)]
   (.rq (.int .i64 (.v 4))
   (.rq (.int .i64 (.v 6))
   (.join 1
    (.br (.op2 .lss .i64 (.v 4) (.v 6))
     (.prim 7 3 (opr Tryz.f119 7 3) [(.v 0), (.v 4)]
     (.prim 7 4 (opr Tryz.f119 7 4) [(.v 7)]
     (.rq (.int .i64 (.v 3))
     (.rq (.int .i64 (.v 8))
     (.next 1 [(.op2 .add .i64 (.v 3) (.v 8))])))))
     (.next 1 [(.v 3)]))
    (.prim 8 2 (opr Tryz.f119 8 2) [(.v 1)]
    (.rq (.int .i64 (.v 8))
    (.join 1
     (.br (.op2 .lss .i64 (.v 4) (.v 8))
      (.prim 9 3 (opr Tryz.f119 9 3) [(.v 1), (.v 4)]
      (.prim 9 4 (opr Tryz.f119 9 4) [(.v 9)]
      (.rq (.int .i64 (.v 7))
      (.rq (.int .i64 (.v 10))
      (.next 1 [(.op2 .add .i64 (.v 7) (.v 10))])))))
      (.next 1 [(.v 7)]))
     (.rq (.int .i64 (.v 9))
     (.eff false 10 3 (opr Tryz.f119 10 3) [(.op2 .rem .i64 (.v 9) (.k (.int .i64 (4294967296))))]
     (.eff false 10 4 (opr Tryz.f119 10 4) [(.v 2), (.v 10)]
     (.next 0 [(.v 11), (.op2 .quo .i64 (.v 9) (.k (.int .i64 (4294967296)))), (.op2 .add .i64 (.v 4) (.k (.int .i64 (1))))])))))))))))
   (.ret [(.v 2)]))))) := by kernel_rfl
theorem np_rmore : (Tryz.prog.funcs[119]?).map (fun fn => fn.params.size + fn.nfree) = some 2 := by kernel_rfl
theorem op_rmore_4_2 : (opr Tryz.f119 4 2).op = .call ⟨.builtin .len, #[(.tmp 9)], #[111]⟩ := by kernel_rfl
theorem op_rmore_4_7 : (opr Tryz.f119 4 7).op = .call ⟨.builtin .len, #[(.tmp 14)], #[111]⟩ := by kernel_rfl
theorem op_rmore_6_2 : (opr Tryz.f119 6 2).op = .call ⟨.builtin .len, #[(.tmp 25)], #[111]⟩ := by kernel_rfl
theorem op_rmore_7_3 : (opr Tryz.f119 7 3).op = .indexAddr 111 (.tmp 29) (.tmp 30) := by kernel_rfl
theorem op_rmore_7_4 : (opr Tryz.f119 7 4).op = .load 3 (.tmp 31) := by kernel_rfl
theorem op_rmore_8_2 : (opr Tryz.f119 8 2).op = .call ⟨.builtin .len, #[(.tmp 35)], #[111]⟩ := by kernel_rfl
theorem op_rmore_9_3 : (opr Tryz.f119 9 3).op = .indexAddr 111 (.tmp 39) (.tmp 40) := by kernel_rfl
theorem op_rmore_9_4 : (opr Tryz.f119 9 4).op = .load 3 (.tmp 41) := by kernel_rfl
theorem op_rmore_10_3 : (opr Tryz.f119 10 3).op = .buildSlice 111 1 #[(0, (.tmp 46))] := by kernel_rfl
theorem op_rmore_10_4 : (opr Tryz.f119 10 4).op = .call ⟨.builtin .append, #[(.tmp 44), (.tmp 47)], #[111, 111]⟩ := by kernel_rfl
theorem tr_rless : tree Tryz.prog [] [] [⟨2, 24, [8], []⟩, ⟨2, 32, [8, 6], []⟩, ⟨0, 4, [], []⟩] [] 121 = some (.loop [(.k (.int .i64 (0))), (.k (.slice none 0 0)), (.k (.int .i64 (0)))]
 (.prim 4 2 (opr Tryz.f121 4 2) [(.v 0)]
 (.rq (.int .i64 (.v 4))
 (.rq (.int .i64 (.v 5))
 (.br (.op2 .lss .i64 (.v 4) (.v 5))
  (.prim 6 2 (opr Tryz.f121 6 2) [(.v 0), (.v 4)]
  (.prim 6 3 (opr Tryz.f121 6 3) [(.v 6)]
  (.rq (.int .i64 (.v 7))
  (.rq (.int .i64 (.v 2))
  (.prim 7 2 (opr Tryz.f121 7 2) [(.v 1)]
  (.rq (.int .i64 (.v 8))
  (.join 1
   (.br (.op2 .lss .i64 (.v 4) (.v 8))
    (.prim 8 3 (opr Tryz.f121 8 3) [(.v 1), (.v 4)]
    (.prim 8 4 (opr Tryz.f121 8 4) [(.v 9)]
    (.rq (.int .i64 (.v 10))
    (.next 1 [(.op2 .sub .i64 (.op2 .sub .i64 (.v 7) (.v 2)) (.v 10))]))))
    (.next 1 [(.op2 .sub .i64 (.v 7) (.v 2))]))
   (.rq (.int .i64 (.v 9))
   (.join 2
    (.br (.op2 .lss .i64 (.v 9) (.k (.int .i64 (0))))
     (.next 1 [(.op2 .add .i64 (.v 9) (.k (.int .i64 (4294967296)))), (.k (.int .i64 (1)))])
     (.next 1 [(.v 9), (.k (.int .i64 (0)))]))
    (.eff false 13 2 (opr Tryz.f121 13 2) [(.v 10)]
    (.eff false 13 3 (opr Tryz.f121 13 3) [(.v 3), (.v 12)]
    (.next 0 [(.v 11), (.v 13), (.op2 .add .i64 (.v 4) (.k (.int .i64 (1))))]))))))))))))
  (.call false 146 [(.v 3)]
  (.ret [(.v 6)]))))))) := by kernel_rfl
theorem np_rless : (Tryz.prog.funcs[121]?).map (fun fn => fn.params.size + fn.nfree) = some 2 := by kernel_rfl
theorem op_rless_4_2 : (opr Tryz.f121 4 2).op = .call ⟨.builtin .len, #[(.tmp 10)], #[111]⟩ := by kernel_rfl
theorem op_rless_6_2 : (opr Tryz.f121 6 2).op = .indexAddr 111 (.tmp 15) (.tmp 16) := by kernel_rfl
theorem op_rless_6_3 : (opr Tryz.f121 6 3).op = .load 3 (.tmp 17) := by kernel_rfl
theorem op_rless_7_2 : (opr Tryz.f121 7 2).op = .call ⟨.builtin .len, #[(.tmp 22)], #[111]⟩ := by kernel_rfl
theorem op_rless_8_3 : (opr Tryz.f121 8 3).op = .indexAddr 111 (.tmp 26) (.tmp 27) := by kernel_rfl
theorem op_rless_8_4 : (opr Tryz.f121 8 4).op = .load 3 (.tmp 28) := by kernel_rfl
theorem op_rless_13_2 : (opr Tryz.f121 13 2).op = .buildSlice 111 1 #[(0, (.tmp 36))] := by kernel_rfl
theorem op_rless_13_3 : (opr Tryz.f121 13 3).op = .call ⟨.builtin .append, #[(.tmp 35), (.tmp 37)], #[111, 111]⟩ := by kernel_rfl
theorem tr_rproduct : tree Tryz.prog [] [] [⟨0, 3, [], []⟩, ⟨0, 7, [], []⟩] [⟨9, [0, 0, 0, 0, 12, 30, 62, 126, 255, 0, 0, 1536, 3584, 7680, 0, 0, 49152, 114688, 245760, 523776, 1048575, 2097151], [0, 0, 0, 0, 0, 1, 1, 0, 0, 0, 0, 1, 1, 0, 0, 0, 1, 1, 0, 0, 0, 0], [0, 0, 0, 0, 0, 0, 0, 0, 0, 0, 0, 0, 0, 0, 0, 0, 0, 0, 0, 0, 0, 0], [0, 1, 2, 3, 4, 5, 6, 7, 8, 9, 10, 11, 12, 13, 14, 15, 16, 17, 18, 19, 20, 21], []⟩] 147 = some (.prim 1 1 (opr Tryz.f147 1 1) [(.v 0)]
(.prim 1 3 (opr Tryz.f147 1 3) [(.v 1)]
(.rq (.int .i64 (.v 2))
(.rq (.int .i64 (.v 3))
(.eff false 1 5 (opr Tryz.f147 1 5) [(.op2 .add .i64 (.v 2) (.v 3)), (.op2 .add .i64 (.v 2) (.v 3))]
(.loop [(.k (.int .i64 (0)))]
 (.prim 3 2 (opr Tryz.f147 3 2) [(.v 0)]
 (.rq (.int .i64 (.v 5))
 (.rq (.int .i64 (.v 6))
 (.br (.op2 .lss .i64 (.v 5) (.v 6))
  (.loop [(.k (.int .u64 (0))), (.k (.int .i64 (0)))]
   (.prim 7 2 (opr Tryz.f147 7 2) [(.v 1)]
   (.rq (.int .i64 (.v 8))
   (.rq (.int .i64 (.v 9))
   (.br (.op2 .lss .i64 (.v 8) (.v 9))
    (.prim 9 5 (opr Tryz.f147 9 5) [(.v 4), (.op2 .add .i64 (.v 5) (.v 8))]
    (.prim 9 6 (opr Tryz.f147 9 6) [(.v 10)]
    (.rq (.int .i64 (.v 11))
    (.rq (.int .u64 (.v 7))
    (.prim 9 11 (opr Tryz.f147 9 11) [(.v 0), (.v 5)]
    (.prim 9 12 (opr Tryz.f147 9 12) [(.v 12)]
    (.rq (.int .i64 (.v 13))
    (.prim 9 16 (opr Tryz.f147 9 16) [(.v 1), (.v 8)]
    (.prim 9 17 (opr Tryz.f147 9 17) [(.v 14)]
    (.rq (.int .i64 (.v 15))
    (.prim 10 7 (opr Tryz.f147 10 7) [(.v 4), (.op2 .add .i64 (.v 5) (.v 8))]
    (.eff false 10 8 (opr Tryz.f147 10 8) [(.v 16), (.cv .i64 (.op2 .rem .u64 (.op2 .add .u64 (.op2 .add .u64 (.v 7) (.cv .u64 (.v 11))) (.op2 .mul .u64 (.cv .u64 (.v 13)) (.cv .u64 (.v 15)))) (.k (.int .u64 (4294967296)))))]
    (.next 1 [(.op2 .quo .u64 (.op2 .add .u64 (.op2 .add .u64 (.v 7) (.cv .u64 (.v 11))) (.op2 .mul .u64 (.cv .u64 (.v 13)) (.cv .u64 (.v 15)))) (.k (.int .u64 (4294967296)))), (.op2 .add .i64 (.v 8) (.k (.int .i64 (1))))])))))))))))))
    (.prim 12 3 (opr Tryz.f147 12 3) [(.v 1)]
    (.rq (.int .i64 (.v 10))
    (.rq (.int .u64 (.v 7))
    (.prim 12 7 (opr Tryz.f147 12 7) [(.v 4), (.op2 .add .i64 (.v 5) (.v 10))]
    (.eff false 12 8 (opr Tryz.f147 12 8) [(.v 11), (.cv .i64 (.v 7))]
    (.next 0 [(.op2 .add .i64 (.v 5) (.k (.int .i64 (1))))])))))))))))
  (.call false 146 [(.v 4)]
  (.ret [(.v 7)])))))))))))) := by kernel_rfl
theorem np_rproduct : (Tryz.prog.funcs[147]?).map (fun fn => fn.params.size + fn.nfree) = some 2 := by kernel_rfl
theorem op_rproduct_1_1 : (opr Tryz.f147 1 1).op = .call ⟨.builtin .len, #[(.tmp 9)], #[111]⟩ := by kernel_rfl
theorem op_rproduct_1_3 : (opr Tryz.f147 1 3).op = .call ⟨.builtin .len, #[(.tmp 11)], #[111]⟩ := by kernel_rfl
theorem op_rproduct_1_5 : (opr Tryz.f147 1 5).op = .makeSlice 111 (.tmp 13) (.tmp 13) := by kernel_rfl
theorem op_rproduct_3_2 : (opr Tryz.f147 3 2).op = .call ⟨.builtin .len, #[(.tmp 16)], #[111]⟩ := by kernel_rfl
theorem op_rproduct_7_2 : (opr Tryz.f147 7 2).op = .call ⟨.builtin .len, #[(.tmp 22)], #[111]⟩ := by kernel_rfl
theorem op_rproduct_9_5 : (opr Tryz.f147 9 5).op = .indexAddr 111 (.tmp 28) (.tmp 31) := by kernel_rfl
theorem op_rproduct_9_6 : (opr Tryz.f147 9 6).op = .load 3 (.tmp 32) := by kernel_rfl
theorem op_rproduct_9_11 : (opr Tryz.f147 9 11).op = .indexAddr 111 (.tmp 36) (.tmp 37) := by kernel_rfl
theorem op_rproduct_9_12 : (opr Tryz.f147 9 12).op = .load 3 (.tmp 38) := by kernel_rfl
theorem op_rproduct_9_16 : (opr Tryz.f147 9 16).op = .indexAddr 111 (.tmp 41) (.tmp 42) := by kernel_rfl
theorem op_rproduct_9_17 : (opr Tryz.f147 9 17).op = .load 3 (.tmp 43) := by kernel_rfl
theorem op_rproduct_10_7 : (opr Tryz.f147 10 7).op = .indexAddr 111 (.tmp 48) (.tmp 51) := by kernel_rfl
theorem op_rproduct_10_8 : (opr Tryz.f147 10 8).op = .store 3 (.tmp 55) (.tmp 54) := by kernel_rfl
theorem op_rproduct_12_3 : (opr Tryz.f147 12 3).op = .call ⟨.builtin .len, #[(.tmp 60)], #[111]⟩ := by kernel_rfl
theorem op_rproduct_12_7 : (opr Tryz.f147 12 7).op = .indexAddr 111 (.tmp 58) (.tmp 62) := by kernel_rfl
theorem op_rproduct_12_8 : (opr Tryz.f147 12 8).op = .store 3 (.tmp 65) (.tmp 64) := by kernel_rfl
theorem tr_rtwice : tree Tryz.prog [] [] [⟨0, 3, [], []⟩] [] 167 = some (.loop [(.k (.slice none 0 0)), (.v 1), (.k (.int .i64 (0)))]
 (.prim 3 2 (opr Tryz.f167 3 2) [(.v 0)]
 (.rq (.int .i64 (.v 4))
 (.rq (.int .i64 (.v 5))
 (.br (.op2 .lss .i64 (.v 4) (.v 5))
  (.prim 5 2 (opr Tryz.f167 5 2) [(.v 0), (.v 4)]
  (.prim 5 3 (opr Tryz.f167 5 3) [(.v 6)]
  (.rq (.int .i64 (.v 7))
  (.rq (.int .i64 (.v 3))
  (.eff false 6 3 (opr Tryz.f167 6 3) [(.op2 .rem .i64 (.op2 .add .i64 (.op2 .mul .i64 (.k (.int .i64 (2))) (.v 7)) (.v 3)) (.k (.int .i64 (4294967296))))]
  (.eff false 6 4 (opr Tryz.f167 6 4) [(.v 2), (.v 8)]
  (.next 0 [(.v 9), (.op2 .quo .i64 (.op2 .add .i64 (.op2 .mul .i64 (.k (.int .i64 (2))) (.v 7)) (.v 3)) (.k (.int .i64 (4294967296)))), (.op2 .add .i64 (.v 4) (.k (.int .i64 (1))))])))))))
  (.eff false 8 2 (opr Tryz.f167 8 2) [(.v 3)]
  (.eff false 8 3 (opr Tryz.f167 8 3) [(.v 2), (.v 6)]
  (.call false 146 [(.v 7)]
  (.ret [(.v 8)]))))))))) := by kernel_rfl
theorem np_rtwice : (Tryz.prog.funcs[167]?).map (fun fn => fn.params.size + fn.nfree) = some 2 := by kernel_rfl
theorem op_rtwice_3_2 : (opr Tryz.f167 3 2).op = .call ⟨.builtin .len, #[(.tmp 9)], #[111]⟩ := by kernel_rfl
theorem op_rtwice_5_2 : (opr Tryz.f167 5 2).op = .indexAddr 111 (.tmp 14) (.tmp 15) := by kernel_rfl
theorem op_rtwice_5_3 : (opr Tryz.f167 5 3).op = .load 3 (.tmp 16) := by kernel_rfl
theorem op_rtwice_6_3 : (opr Tryz.f167 6 3).op = .buildSlice 111 1 #[(0, (.tmp 23))] := by kernel_rfl
theorem op_rtwice_6_4 : (opr Tryz.f167 6 4).op = .call ⟨.builtin .append, #[(.tmp 21), (.tmp 24)], #[111, 111]⟩ := by kernel_rfl
theorem op_rtwice_8_2 : (opr Tryz.f167 8 2).op = .buildSlice 111 1 #[(0, (.tmp 29))] := by kernel_rfl
theorem op_rtwice_8_3 : (opr Tryz.f167 8 3).op = .call ⟨.builtin .append, #[(.tmp 28), (.tmp 30)], #[111, 111]⟩ := by kernel_rfl
theorem tr_rparts : tree Tryz.prog [] [] [⟨0, 7, [], []⟩, ⟨0, 10, [], []⟩] [⟨15, [0, 0, 0, 0, 12, 28, 0, 64, 252, 511, 1023], [0, 0, 0, 0, 1, 1, 0, 0, 0, 1, 4], [0, 0, 0, 0, 0, 0, 0, 0, 0, 0, 0], [0, 1, 2, 3, 4, 5, 6, 7, 8, 9], [10]⟩] 160 = some (.prim 1 1 (opr Tryz.f160 1 1) [(.v 1)]
(.rq (.int .i64 (.v 2))
(.prim 2 1 (opr Tryz.f160 2 1) [(.v 0)]
(.rq (.int .i64 (.v 3))
(.br (.op2 .leq .i64 (.v 3) (.op2 .sub .i64 (.v 2) (.k (.int .i64 (1)))))
 (.eff false 3 0 (opr Tryz.f160 3 0) []
 (.eff false 3 2 (opr Tryz.f160 3 2) [(.v 4), (.v 0)]
 (.ret [(.k (.slice none 0 0)), (.v 5)])))
 (.prim 4 1 (opr Tryz.f160 4 1) [(.v 0)]
 (.rq (.int .i64 (.v 4))
 (.eff false 4 4 (opr Tryz.f160 4 4) [(.op2 .sub .i64 (.v 4) (.op2 .sub .i64 (.v 2) (.k (.int .i64 (1))))), (.op2 .sub .i64 (.v 4) (.op2 .sub .i64 (.v 2) (.k (.int .i64 (1)))))]
 (.eff false 5 0 (opr Tryz.f160 5 0) []
 (.prim 5 3 (opr Tryz.f160 5 3) [(.v 0)]
 (.rq (.int .i64 (.v 7))
 (.prim 5 6 (opr Tryz.f160 5 6) [(.v 0), (.op2 .sub .i64 (.v 7) (.op2 .sub .i64 (.v 2) (.k (.int .i64 (1)))))]
 (.eff false 5 7 (opr Tryz.f160 5 7) [(.v 6), (.v 8)]
 (.prim 6 1 (opr Tryz.f160 6 1) [(.v 5)]
 (.rq (.int .i64 (.v 10))
 (.loop [(.v 9), (.op2 .sub .i64 (.v 10) (.k (.int .i64 (1))))]
  (.rq (.int .i64 (.v 12))
  (.br (.op2 .geq .i64 (.v 12) (.k (.int .i64 (0))))
   (.loop [(.v 11), (.k (.int .i64 (31)))]
    (.rq (.int .i64 (.v 14))
    (.br (.op2 .geq .i64 (.v 14) (.k (.int .i64 (0))))
     (.prim 12 3 (opr Tryz.f160 12 3) [(.v 0), (.v 12)]
     (.prim 12 4 (opr Tryz.f160 12 4) [(.v 15)]
     (.rq (.int .i64 (.v 16))
     (.rq (.num (.v 14))
     (.rq (.nn (.v 14))
     (.call false 167 [(.v 13), (.op2 .rem .i64 (.op2 .shr .i64 (.v 16) (.v 14)) (.k (.int .i64 (2))))]
     (.call false 120 [(.v 17), (.v 1)]
     (.rq (.int .i64 (.v 18))
     (.br (.op2 .geq .i64 (.v 18) (.k (.int .i64 (0))))
      (.call false 121 [(.v 17), (.v 1)]
      (.prim 15 4 (opr Tryz.f160 15 4) [(.v 5), (.v 12)]
      (.prim 15 5 (opr Tryz.f160 15 5) [(.v 20)]
      (.rq (.int .i64 (.v 21))
      (.prim 15 9 (opr Tryz.f160 15 9) [(.v 5), (.v 12)]
      (.eff false 15 10 (opr Tryz.f160 15 10) [(.v 22), (.op2 .add .i64 (.v 21) (.op2 .shl .i64 (.k (.int .i64 (1))) (.v 14)))]
      (.next 1 [(.v 19), (.op2 .sub .i64 (.v 14) (.k (.int .i64 (1))))])))))))
      (.next 1 [(.v 17), (.op2 .sub .i64 (.v 14) (.k (.int .i64 (1))))]))))))))))
     (.next 0 [(.v 13), (.op2 .sub .i64 (.v 12) (.k (.int .i64 (1))))]))))
   (.call false 146 [(.v 5)]
   (.ret [(.v 13), (.v 11)])))))))))))))))))))) := by kernel_rfl
theorem np_rparts : (Tryz.prog.funcs[160]?).map (fun fn => fn.params.size + fn.nfree) = some 2 := by kernel_rfl
theorem op_rparts_1_1 : (opr Tryz.f160 1 1).op = .call ⟨.builtin .len, #[(.tmp 11)], #[111]⟩ := by kernel_rfl
theorem op_rparts_2_1 : (opr Tryz.f160 2 1).op = .call ⟨.builtin .len, #[(.tmp 14)], #[111]⟩ := by kernel_rfl
theorem op_rparts_3_0 : (opr Tryz.f160 3 0).op = .buildSlice 111 0 #[] := by kernel_rfl
theorem op_rparts_3_2 : (opr Tryz.f160 3 2).op = .call ⟨.builtin .append, #[(.tmp 18), (.tmp 19)], #[111, 111]⟩ := by kernel_rfl
theorem op_rparts_4_1 : (opr Tryz.f160 4 1).op = .call ⟨.builtin .len, #[(.tmp 21)], #[111]⟩ := by kernel_rfl
theorem op_rparts_4_4 : (opr Tryz.f160 4 4).op = .makeSlice 111 (.tmp 24) (.tmp 24) := by kernel_rfl
theorem op_rparts_5_0 : (opr Tryz.f160 5 0).op = .buildSlice 111 0 #[] := by kernel_rfl
theorem op_rparts_5_3 : (opr Tryz.f160 5 3).op = .call ⟨.builtin .len, #[(.tmp 28)], #[111]⟩ := by kernel_rfl
theorem op_rparts_5_6 : (opr Tryz.f160 5 6).op = .slice 111 (.tmp 27) (some (.tmp 31)) none none := by kernel_rfl
theorem op_rparts_5_7 : (opr Tryz.f160 5 7).op = .call ⟨.builtin .append, #[(.tmp 26), (.tmp 32)], #[111, 111]⟩ := by kernel_rfl
theorem op_rparts_6_1 : (opr Tryz.f160 6 1).op = .call ⟨.builtin .len, #[(.tmp 34)], #[111]⟩ := by kernel_rfl
theorem op_rparts_12_3 : (opr Tryz.f160 12 3).op = .indexAddr 111 (.tmp 46) (.tmp 47) := by kernel_rfl
theorem op_rparts_12_4 : (opr Tryz.f160 12 4).op = .load 3 (.tmp 48) := by kernel_rfl
theorem op_rparts_15_4 : (opr Tryz.f160 15 4).op = .indexAddr 111 (.tmp 63) (.tmp 64) := by kernel_rfl
theorem op_rparts_15_5 : (opr Tryz.f160 15 5).op = .load 3 (.tmp 65) := by kernel_rfl
theorem op_rparts_15_9 : (opr Tryz.f160 15 9).op = .indexAddr 111 (.tmp 61) (.tmp 62) := by kernel_rfl
theorem op_rparts_15_10 : (opr Tryz.f160 15 10).op = .store 3 (.tmp 70) (.tmp 69) := by kernel_rfl
theorem tr_rTurn : tree Tryz.prog [] [] [] [] 86 = some (.rq (.cells 2 (.v 0))
(.rq (.bool (.cell (.v 0) 0 0 noI))
(.call false 118 [(.nt (.cell (.v 0) 0 0 noI)), (.cell (.v 0) 1 0 noI)]
(.rq (.cells 2 (.v 1))
(.ret [(.ag (.v 1))]))))) := by kernel_rfl
theorem np_rTurn : (Tryz.prog.funcs[86]?).map (fun fn => fn.params.size + fn.nfree) = some 1 := by kernel_rfl
theorem tr_rPlus : tree Tryz.prog [] [] [] [⟨2, [0, 1, 0, 4, 0, 16, 60, 127, 255], [1, 1, 1, 1, 1, 1, 2, 2, 6], [0, 0, 0, 0, 0, 0, 0, 0, 2], [0, 1, 2, 3, 4, 5, 6, 7], [8]⟩, ⟨4, [0, 1, 0, 4, 0, 16, 60, 127, 255], [1, 1, 1, 1, 1, 1, 2, 2, 6], [0, 0, 0, 0, 0, 0, 0, 0, 2], [0, 1, 2, 3, 4, 5, 6, 7], [8]⟩, ⟨5, [0, 1, 0, 4, 0, 16, 60, 127, 255], [1, 1, 1, 1, 1, 1, 2, 2, 6], [0, 0, 0, 0, 0, 0, 0, 0, 2], [0, 1, 2, 3, 4, 5, 6, 7], [8]⟩] 82 = some (.rq (.cells 2 (.v 0))
(.rq (.cells 2 (.v 1))
(.rq (.bool (.cell (.v 0) 0 0 noI))
(.rq (.bool (.cell (.v 1) 0 0 noI))
(.br (.eqb false (.cell (.v 0) 0 0 noI) (.cell (.v 1) 0 0 noI))
 (.call true 119 [(.cell (.v 0) 1 0 noI), (.cell (.v 1) 1 0 noI)]
 (.call true 118 [(.cell (.v 0) 0 0 noI), (.v 2)]
 (.rq (.cells 2 (.v 3))
 (.ret [(.ag (.v 3))]))))
 (.call false 120 [(.cell (.v 0) 1 0 noI), (.cell (.v 1) 1 0 noI)]
 (.rq (.int .i64 (.v 2))
 (.br (.op2 .geq .i64 (.v 2) (.k (.int .i64 (0))))
  (.call true 121 [(.cell (.v 0) 1 0 noI), (.cell (.v 1) 1 0 noI)]
  (.call true 118 [(.cell (.v 0) 0 0 noI), (.v 3)]
  (.rq (.cells 2 (.v 4))
  (.ret [(.ag (.v 4))]))))
  (.call true 121 [(.cell (.v 1) 1 0 noI), (.cell (.v 0) 1 0 noI)]
  (.call true 118 [(.cell (.v 1) 0 0 noI), (.v 3)]
  (.rq (.cells 2 (.v 4))
  (.ret [(.ag (.v 4))])))))))))))) := by kernel_rfl
theorem np_rPlus : (Tryz.prog.funcs[82]?).map (fun fn => fn.params.size + fn.nfree) = some 2 := by kernel_rfl
theorem tr_rMinus : tree Tryz.prog [] [] [] [⟨1, [0, 0, 2, 7, 15], [5, 5, 2, 2, 6], [0, 1, 0, 0, 2], [0, 1, 2, 3], [4]⟩] 85 = some (.rq (.cells 2 (.v 0))
(.rq (.cells 2 (.v 1))
(.call true 86 [(.ag (.v 1))]
(.call true 82 [(.ag (.v 0)), (.v 2)]
(.rq (.cells 2 (.v 3))
(.ret [(.ag (.v 3))])))))) := by kernel_rfl
theorem np_rMinus : (Tryz.prog.funcs[85]?).map (fun fn => fn.params.size + fn.nfree) = some 2 := by kernel_rfl
theorem tr_rTimes : tree Tryz.prog [] [] [] [⟨1, [0, 1, 0, 4, 15, 0, 32, 0, 128, 480, 1023, 2047], [1, 1, 1, 1, 0, 1, 1, 1, 1, 2, 2, 6], [0, 0, 0, 0, 0, 0, 0, 0, 0, 0, 0, 2], [0, 1, 2, 3, 4, 5, 6, 7, 8, 9, 10], [11]⟩] 122 = some (.rq (.cells 2 (.v 0))
(.rq (.cells 2 (.v 1))
(.rq (.bool (.cell (.v 0) 0 0 noI))
(.rq (.bool (.cell (.v 1) 0 0 noI))
(.call true 147 [(.cell (.v 0) 1 0 noI), (.cell (.v 1) 1 0 noI)]
(.call true 118 [(.eqb true (.cell (.v 0) 0 0 noI) (.cell (.v 1) 0 0 noI)), (.v 2)]
(.rq (.cells 2 (.v 3))
(.ret [(.ag (.v 3))])))))))) := by kernel_rfl
theorem np_rTimes : (Tryz.prog.funcs[122]?).map (fun fn => fn.params.size + fn.nfree) = some 2 := by kernel_rfl
theorem tr_rParts : tree Tryz.prog [] [] [] [⟨2, [0, 1, 0, 4, 15, 0, 63, 0, 128, 0, 1023, 0, 0, 8191, 16383], [1, 1, 1, 1, 0, 0, 2, 1, 1, 0, 2, 3, 3, 4, 4], [0, 0, 0, 0, 0, 0, 0, 0, 0, 0, 0, 0, 0, 0, 0], [0, 1, 2, 3, 4, 5, 7, 8, 9, 6, 10, 11, 12], [13, 14]⟩, ⟨6, [0, 0, 3, 7], [5, 2, 2, 6], [4, 0, 0, 4], [0, 1, 2], [3]⟩, ⟨7, [0, 0, 3, 7], [5, 2, 2, 6], [4, 0, 0, 4], [0, 1, 2], [3]⟩, ⟨8, [0, 0, 1, 7], [5, 5, 6, 6], [4, 5, 2, 3], [0, 1], [2, 3]⟩] 144 = some (.rq (.cells 2 (.v 0))
(.rq (.cells 2 (.v 1))
(.call false 160 [(.cell (.v 0) 1 0 noI), (.cell (.v 1) 1 0 noI)]
(.rq (.tup 0 (.v 2))
(.rq (.tup 1 (.v 2))
(.rq (.bool (.cell (.v 0) 0 0 noI))
(.rq (.bool (.cell (.v 1) 0 0 noI))
(.call true 118 [(.eqb true (.cell (.v 0) 0 0 noI) (.cell (.v 1) 0 0 noI)), (.proj (.v 2) 0)]
(.call true 118 [(.cell (.v 0) 0 0 noI), (.proj (.v 2) 1)]
(.rq (.cells 2 (.v 3))
(.rq (.cells 2 (.v 4))
(.rq (.bool (.cell (.v 4) 0 0 noI))
(.br (.cell (.v 4) 0 0 noI)
 (.rq (.cells 1 (.cell (.v 1) 1 0 noI))
 (.call false 82 [(.ag (.v 4)), (.cat (.z 4) 1 (.cell (.v 1) 1 0 noI))]
 (.rq (.cells 2 (.v 5))
 (.br (.cell (.v 1) 0 0 noI)
  (.call true 84 [(.k (.int .i64 (1)))]
  (.call true 82 [(.ag (.v 3)), (.v 6)]
  (.rq (.cells 2 (.v 7))
  (.ret [(.ag (.v 7)), (.ag (.v 5))]))))
  (.call true 84 [(.k (.int .i64 (1)))]
  (.call true 85 [(.ag (.v 3)), (.v 6)]
  (.rq (.cells 2 (.v 7))
  (.ret [(.ag (.v 7)), (.ag (.v 5))]))))))))
 (.ret [(.ag (.v 3)), (.ag (.v 4))])))))))))))))) := by kernel_rfl
theorem np_rParts : (Tryz.prog.funcs[144]?).map (fun fn => fn.params.size + fn.nfree) = some 2 := by kernel_rfl
theorem tr_rDivisor : tree Tryz.prog [] [] [⟨0, 2, [], []⟩] [⟨1, [0, 1, 0, 4, 3, 31], [1, 1, 1, 1, 0, 0], [0, 0, 0, 0, 0, 0], [0, 1, 2, 3, 4, 5], []⟩] 143 = some (.rq (.cells 2 (.v 0))
(.rq (.cells 2 (.v 1))
(.loop [(.cell (.v 0) 1 0 noI), (.cell (.v 1) 1 0 noI)]
 (.prim 2 1 (opr Tryz.f143 2 1) [(.v 3)]
 (.rq (.int .i64 (.v 4))
 (.br (.op2 .gtr .i64 (.v 4) (.k (.int .i64 (0))))
  (.call false 160 [(.v 2), (.v 3)]
  (.rq (.tup 0 (.v 5))
  (.rq (.tup 1 (.v 5))
  (.next 0 [(.v 3), (.proj (.v 5) 1)]))))
  (.rq (.cells 1 (.v 2))
  (.ret [(.cat (.z 4) 1 (.v 2))])))))))) := by kernel_rfl
theorem np_rDivisor : (Tryz.prog.funcs[143]?).map (fun fn => fn.params.size + fn.nfree) = some 2 := by kernel_rfl
theorem op_rDivisor_2_1 : (opr Tryz.f143 2 1).op = .call ⟨.builtin .len, #[(.tmp 13)], #[111]⟩ := by kernel_rfl
theorem tr_rRaised : tree Tryz.prog [] [] [⟨0, 3, [], [2]⟩] [] 83 = some (.rq (.cells 2 (.v 0))
(.call false 84 [(.k (.int .i64 (1)))]
(.rq (.cells 2 (.v 2))
(.loop [(.k (.int .i64 (0))), (.v 2)]
 (.rq (.int .i64 (.v 3))
 (.rq (.int .i64 (.v 1))
 (.br (.op2 .lss .i64 (.v 3) (.v 1))
  (.call false 122 [(.ag (.v 4)), (.ag (.v 0))]
  (.rq (.cells 2 (.v 5))
  (.next 0 [(.op2 .add .i64 (.v 3) (.k (.int .i64 (1)))), (.v 5)])))
  (.ret [(.ag (.v 4))])))))))) := by kernel_rfl
theorem np_rRaised : (Tryz.prog.funcs[83]?).map (fun fn => fn.params.size + fn.nfree) = some 2 := by kernel_rfl
theorem tr_rOf : tree Tryz.prog [] [] [] [] 36 = some (.call false 84 [(.v 0)]
(.call false 87 [(.v 1)]
(.rq (.tup 0 (.v 2))
(.rq (.tup 1 (.v 2))
(.rq (.cells 8 (.proj (.v 2) 0))
(.ret [(.ag (.proj (.v 2) 0))])))))) := by kernel_rfl
theorem np_rOf : (Tryz.prog.funcs[36]?).map (fun fn => fn.params.size + fn.nfree) = some 1 := by kernel_rfl
theorem tr_rWithin : tree Tryz.prog [] [] [⟨3, 4, [22], []⟩, ⟨3, 11, [9], []⟩, ⟨0, 4, [], [2]⟩, ⟨0, 9, [], []⟩] [⟨13, [0, 0, 0, 6, 15, 31], [5, 2, 0, 2, 2, 6], [2, 0, 0, 0, 0, 2], [0, 2, 1, 3, 4], [5]⟩, ⟨15, [0, 0, 2, 6, 14, 30, 63, 127], [5, 1, 1, 0, 0, 2, 2, 6], [2, 0, 0, 0, 0, 0, 0, 2], [0, 1, 2, 3, 4, 5, 6], [7]⟩] 34 = some (.rq (.cells 3 (.v 0))
(.loop [(.k (.slice none 0 0)), (.k (.int .i64 (0))), (.cat (.z 4) 1 (.z 111))]
 (.join 1
  (.prim 4 3 (opr Tryz.f34 4 3) [(.cell (.v 0) 1 0 noI)]
  (.rq (.int .i64 (.v 3))
  (.rq (.int .i64 (.v 5))
  (.br (.op2 .lss .i64 (.v 3) (.v 5))
   (.next 1 [(.op2 .lss .i64 (.v 3) (.k (.int .i64 (6))))])
   (.next 1 [(.k (.bool false))])))))
  (.rq (.bool (.v 5))
  (.br (.v 5)
   (.prim 6 3 (opr Tryz.f34 6 3) [(.cell (.v 0) 1 0 noI), (.v 3)]
   (.prim 6 4 (opr Tryz.f34 6 4) [(.v 6)]
   (.rq (.int .u16 (.v 7))
   (.rq (.int .i64 (.v 1))
   (.rq (.nz (.v 1))
   (.loop [(.k (.bool false)), (.k (.int .i64 (0)))]
    (.prim 9 2 (opr Tryz.f34 9 2) [(.v 2)]
    (.rq (.int .i64 (.v 9))
    (.rq (.int .i64 (.v 10))
    (.br (.op2 .lss .i64 (.v 9) (.v 10))
     (.join 1
      (.rq (.bool (.v 8))
      (.br (.v 8)
       (.next 2 [(.k (.bool true))])
       (.prim 11 4 (opr Tryz.f34 11 4) [(.v 2), (.v 9)]
       (.prim 11 5 (opr Tryz.f34 11 5) [(.v 11)]
       (.rq (.int .i64 (.v 12))
       (.next 2 [(.op2 .eql .i64 (.v 12) (.op2 .rem .i64 (.cv .i64 (.v 7)) (.v 1)))]))))))
      (.next 1 [(.v 11), (.op2 .add .i64 (.v 9) (.k (.int .i64 (1))))]))
     (.rq (.bool (.v 8))
     (.br (.nt (.v 8))
      (.call true 84 [(.k (.int .i64 (2)))]
      (.call true 83 [(.v 11), (.op2 .rem .i64 (.cv .i64 (.v 7)) (.v 1))]
      (.call true 82 [(.ag (.v 4)), (.v 12)]
      (.rq (.cells 2 (.v 13))
      (.eff false 14 2 (opr Tryz.f34 14 2) [(.op2 .rem .i64 (.cv .i64 (.v 7)) (.v 1))]
      (.eff false 14 3 (opr Tryz.f34 14 3) [(.v 2), (.v 14)]
      (.rq (.int .i64 (.v 3))
      (.next 0 [(.v 15), (.op2 .add .i64 (.v 3) (.k (.int .i64 (1)))), (.v 13)]))))))))
      (.rq (.int .i64 (.v 3))
      (.next 0 [(.v 2), (.op2 .add .i64 (.v 3) (.k (.int .i64 (1)))), (.v 4)]))))))))))))))
   (.rq (.int .u32 (.cell (.v 0) 2 0 noI))
   (.call true 84 [(.cv .i64 (.op2 .rem .u32 (.cell (.v 0) 2 0 noI) (.k (.int .u32 (4)))))]
   (.call true 85 [(.ag (.v 4)), (.v 6)]
   (.rq (.cells 2 (.v 7))
   (.rq (.bool (.cell (.v 0) 0 0 noI))
   (.br (.cell (.v 0) 0 0 noI)
    (.call false 86 [(.ag (.v 7))]
    (.rq (.cells 2 (.v 8))
    (.call false 87 [(.ag (.v 8))]
    (.rq (.tup 0 (.v 9))
    (.rq (.tup 1 (.v 9))
    (.rq (.cells 8 (.proj (.v 9) 0))
    (.ret [(.ag (.proj (.v 9) 0))])))))))
    (.call false 87 [(.ag (.v 7))]
    (.rq (.tup 0 (.v 8))
    (.rq (.tup 1 (.v 8))
    (.rq (.cells 8 (.proj (.v 8) 0))
    (.ret [(.ag (.proj (.v 8) 0))])))))))))))))))) := by kernel_rfl
theorem np_rWithin : (Tryz.prog.funcs[34]?).map (fun fn => fn.params.size + fn.nfree) = some 2 := by kernel_rfl
theorem op_rWithin_4_3 : (opr Tryz.f34 4 3).op = .call ⟨.builtin .len, #[(.tmp 16)], #[22]⟩ := by kernel_rfl
theorem op_rWithin_6_3 : (opr Tryz.f34 6 3).op = .indexAddr 22 (.tmp 26) (.tmp 27) := by kernel_rfl
theorem op_rWithin_6_4 : (opr Tryz.f34 6 4).op = .load 114 (.tmp 28) := by kernel_rfl
theorem op_rWithin_9_2 : (opr Tryz.f34 9 2).op = .call ⟨.builtin .len, #[(.tmp 34)], #[111]⟩ := by kernel_rfl
theorem op_rWithin_11_4 : (opr Tryz.f34 11 4).op = .indexAddr 111 (.tmp 41) (.tmp 42) := by kernel_rfl
theorem op_rWithin_11_5 : (opr Tryz.f34 11 5).op = .load 3 (.tmp 43) := by kernel_rfl
theorem op_rWithin_14_2 : (opr Tryz.f34 14 2).op = .buildSlice 111 1 #[(0, (.tmp 56))] := by kernel_rfl
theorem op_rWithin_14_3 : (opr Tryz.f34 14 3).op = .call ⟨.builtin .append, #[(.tmp 55), (.tmp 57)], #[111, 111]⟩ := by kernel_rfl
theorem tr_rSmall : tree Tryz.prog [] [] [] [] 35 = some (.rq (.cells 3 (.v 0))
(.rq (.int .u32 (.cell (.v 0) 2 0 noI))
(.rq (.bool (.cell (.v 0) 0 0 noI))
(.br (.cell (.v 0) 0 0 noI)
 (.ret [(.op1 .neg .i64 (.cv .i64 (.op2 .rem .u32 (.cell (.v 0) 2 0 noI) (.k (.int .u32 (1000001))))))])
 (.ret [(.cv .i64 (.op2 .rem .u32 (.cell (.v 0) 2 0 noI) (.k (.int .u32 (1000001)))))]))))) := by kernel_rfl
theorem np_rSmall : (Tryz.prog.funcs[35]?).map (fun fn => fn.params.size + fn.nfree) = some 1 := by kernel_rfl
end Go.Proofs.YtcleogdmobdnpacGreatRDoor

/- MADE BY rxgen.py: the trees of the reference of chapter 01. -/
import Derived.Test.YtmndieeelnicpaaRRWdT
namespace Go.Proofs.YtmndieeelnicpaaRR
open Go.RowKit Go.RX
theorem tr_rcut : tree Try.prog [] [] [⟨3, 2, [15], []⟩, ⟨0, 2, [], []⟩] [] 97 = some (.prim 1 1 (opr Try.f97 1 1) [(.v 0)]
(.loop [(.v 1)]
 (.join 1
  (.rq (.int .i64 (.v 2))
  (.br (.op2 .gtr .i64 (.v 2) (.k (.int .i64 (0))))
   (.prim 2 6 (opr Try.f97 2 6) [(.v 0), (.op2 .sub .i64 (.v 2) (.k (.int .i64 (1))))]
   (.prim 2 7 (opr Try.f97 2 7) [(.v 3)]
   (.rq (.int .i64 (.v 4))
   (.next 1 [(.op2 .eql .i64 (.v 4) (.k (.int .i64 (0))))]))))
   (.next 1 [(.k (.bool false))])))
  (.rq (.bool (.v 3))
  (.br (.v 3)
   (.rq (.int .i64 (.v 2))
   (.next 0 [(.op2 .sub .i64 (.v 2) (.k (.int .i64 (1))))]))
   (.prim 4 2 (opr Try.f97 4 2) [(.v 0), (.v 2)]
   (.ret [(.v 4)]))))))) := by kernel_rfl
theorem np_rcut : (Try.prog.funcs[97]?).map (fun fn => fn.params.size + fn.nfree) = some 1 := by kernel_rfl
theorem op_rcut_1_1 : (opr Try.f97 1 1).op = .call ⟨.builtin .len, #[(.tmp 4)], #[79]⟩ := by kernel_rfl
theorem op_rcut_2_6 : (opr Try.f97 2 6).op = .indexAddr 79 (.tmp 9) (.tmp 11) := by kernel_rfl
theorem op_rcut_2_7 : (opr Try.f97 2 7).op = .load 3 (.tmp 12) := by kernel_rfl
theorem op_rcut_4_2 : (opr Try.f97 4 2).op = .slice 79 (.tmp 18) none (some (.tmp 19)) none := by kernel_rfl
theorem tr_rmade : tree Try.prog [] [] [] [] 94 = some (.call false 97 [(.v 1)]
(.rq (.bool (.v 0))
(.br (.v 0)
 (.prim 2 3 (opr Try.f94 2 3) [(.v 2)]
 (.rq (.int .i64 (.v 3))
 (.rq (.cells 1 (.v 2))
 (.ret [(.cat (.op2 .gtr .i64 (.v 3) (.k (.int .i64 (0)))) 1 (.v 2))]))))
 (.rq (.cells 1 (.v 2))
 (.ret [(.cat (.k (.bool false)) 1 (.v 2))]))))) := by kernel_rfl
theorem np_rmade : (Try.prog.funcs[94]?).map (fun fn => fn.params.size + fn.nfree) = some 2 := by kernel_rfl
theorem op_rmade_2_3 : (opr Try.f94 2 3).op = .call ⟨.builtin .len, #[(.tmp 9)], #[79]⟩ := by kernel_rfl
theorem tr_rhalves : tree Try.prog [] [] [⟨0, 3, [], []⟩] [⟨5, [0, 0, 2, 6, 14, 30, 0, 64, 192, 448, 960, 2046, 4095, 8191], [0, 0, 1, 1, 0, 0, 0, 1, 1, 0, 0, 2, 4, 0], [0, 0, 0, 0, 0, 0, 0, 0, 0, 0, 0, 0, 0, 0], [0, 1, 2, 3, 4, 5, 6, 7, 8, 9, 10, 11], [12, 13]⟩] 95 = some (.rq (.cells 8 (.v 0))
(.loop [(.k (.slice none 0 0)), (.k (.int .i64 (0)))]
 (.rq (.int .i64 (.v 2))
 (.br (.op2 .lss .i64 (.v 2) (.k (.int .i64 (8))))
  (.rq (.num (.v 2))
  (.rq (.lt 8 (.v 2))
  (.rq (.int .u64 (.cell (.v 0) 0 1 (.v 2)))
  (.eff true 5 11 (opr Try.f95 5 11) [(.cv .i64 (.op2 .rem .u64 (.cell (.v 0) 0 1 (.v 2)) (.k (.int .u64 (4294967296))))), (.cv .i64 (.op2 .quo .u64 (.cell (.v 0) 0 1 (.v 2)) (.k (.int .u64 (4294967296)))))]
  (.eff false 5 12 (opr Try.f95 5 12) [(.v 1), (.v 3)]
  (.next 0 [(.v 4), (.op2 .add .i64 (.v 2) (.k (.int .i64 (1))))]))))))
  (.ret [(.v 1)]))))) := by kernel_rfl
theorem np_rhalves : (Try.prog.funcs[95]?).map (fun fn => fn.params.size + fn.nfree) = some 1 := by kernel_rfl
theorem op_rhalves_5_11 : (opr Try.f95 5 11).op = .buildSlice 79 2 #[(0, (.tmp 14)), (1, (.tmp 19))] := by kernel_rfl
theorem op_rhalves_5_12 : (opr Try.f95 5 12).op = .call ⟨.builtin .append, #[(.tmp 9), (.tmp 20)], #[79, 79]⟩ := by kernel_rfl
theorem tr_rIn : tree Try.prog [] [] [] [] 61 = some (.rq (.cells 8 (.v 0))
(.call false 95 [(.ag (.v 0))]
(.rq (.int .u64 (.cell (.v 0) 7 0 noI))
(.br (.op2 .lss .u64 (.cell (.v 0) 7 0 noI) (.k (.int .u64 (9223372036854775808))))
 (.call false 94 [(.k (.bool false)), (.v 1)]
 (.rq (.cells 2 (.v 2))
 (.ret [(.ag (.v 2))])))
 (.eff false 4 0 (opr Try.f61 4 0) [(.k (.int .i64 (17))), (.k (.int .i64 (17)))]
 (.prim 5 1 (opr Try.f61 5 1) [(.v 2), (.k (.int .i64 (16)))]
 (.eff false 5 2 (opr Try.f61 5 2) [(.v 3), (.k (.int .i64 (1)))]
 (.call false 97 [(.v 1)]
 (.call false 96 [(.v 2), (.v 5)]
 (.call false 94 [(.k (.bool true)), (.v 6)]
 (.rq (.cells 2 (.v 7))
 (.ret [(.ag (.v 7))])))))))))))) := by kernel_rfl
theorem np_rIn : (Try.prog.funcs[61]?).map (fun fn => fn.params.size + fn.nfree) = some 1 := by kernel_rfl
theorem op_rIn_4_0 : (opr Try.f61 4 0).op = .makeSlice 79 (.const (.int .i64 (17))) (.const (.int .i64 (17))) := by kernel_rfl
theorem op_rIn_5_1 : (opr Try.f61 5 1).op = .indexAddr 79 (.tmp 13) (.const (.int .i64 (16))) := by kernel_rfl
theorem op_rIn_5_2 : (opr Try.f61 5 2).op = .store 3 (.tmp 14) (.const (.int .i64 (1))) := by kernel_rfl
theorem tr_rOut : tree Try.prog [] [] [⟨3, 4, [27], []⟩, ⟨2, 32, [6], []⟩, ⟨0, 13, [], [2]⟩] [⟨15, [0, 1, 0, 4, 12, 28, 0, 0, 192, 448, 960, 0, 2048, 6144, 16320, 32764, 65535, 131071], [0, 0, 0, 0, 1, 1, 0, 0, 1, 1, 0, 0, 0, 0, 0, 0, 1, 4], [0, 0, 0, 0, 0, 0, 0, 0, 0, 0, 0, 0, 0, 0, 0, 0, 0, 0], [0, 1, 2, 3, 4, 5, 6, 7, 8, 9, 10, 11, 12, 13, 14, 15, 16], [17]⟩] 62 = some (.rq (.cells 2 (.v 0))
(.eff false 1 0 (opr Try.f62 1 0) [(.k (.int .i64 (16))), (.k (.int .i64 (16)))]
(.prim 2 1 (opr Try.f62 2 1) [(.v 1), (.k (.int .i64 (15)))]
(.eff false 2 2 (opr Try.f62 2 2) [(.v 2), (.k (.int .i64 (2147483648)))]
(.call false 98 [(.cell (.v 0) 1 0 noI), (.v 1)]
(.join 1
 (.rq (.int .i64 (.v 4))
 (.br (.op2 .gtr .i64 (.v 4) (.k (.int .i64 (0))))
  (.next 0 [(.k (.bool true))])
  (.br (.op2 .eql .i64 (.v 4) (.k (.int .i64 (0))))
   (.rq (.bool (.cell (.v 0) 0 0 noI))
   (.next 0 [(.nt (.cell (.v 0) 0 0 noI))]))
   (.next 0 [(.k (.bool false))]))))
 (.rq (.bool (.v 5))
 (.br (.v 5)
  (.ret [(.z 24), (.k (.int .i64 (6)))])
  (.join 1
   (.rq (.bool (.cell (.v 0) 0 0 noI))
   (.br (.cell (.v 0) 0 0 noI)
    (.eff false 8 0 (opr Try.f62 8 0) [(.k (.int .i64 (17))), (.k (.int .i64 (17)))]
    (.prim 9 1 (opr Try.f62 9 1) [(.v 6), (.k (.int .i64 (16)))]
    (.eff false 9 2 (opr Try.f62 9 2) [(.v 7), (.k (.int .i64 (1)))]
    (.call false 96 [(.v 6), (.cell (.v 0) 1 0 noI)]
    (.next 0 [(.v 9)])))))
    (.next 0 [(.cell (.v 0) 1 0 noI)])))
   (.loop [(.k (.int .i64 (0))), (.z 24)]
    (.prim 13 2 (opr Try.f62 13 2) [(.v 6)]
    (.rq (.int .i64 (.v 7))
    (.rq (.int .i64 (.v 9))
    (.br (.op2 .lss .i64 (.v 7) (.v 9))
     (.rq (.lt 8 (.op2 .quo .i64 (.v 7) (.k (.int .i64 (2)))))
     (.prim 15 8 (opr Try.f62 15 8) [(.v 6), (.v 7)]
     (.prim 15 9 (opr Try.f62 15 9) [(.v 10)]
     (.rq (.int .i64 (.v 11))
     (.rq (.nn (.op2 .mul .i64 (.k (.int .i64 (32))) (.op2 .rem .i64 (.v 7) (.k (.int .i64 (2))))))
     (.rq (.int .u64 (.cell (.v 8) 0 1 (.op2 .quo .i64 (.v 7) (.k (.int .i64 (2))))))
     (.next 0 [(.op2 .add .i64 (.v 7) (.k (.int .i64 (1)))), (.put (.v 8) 0 1 (.op2 .add .u64 (.cell (.v 8) 0 1 (.op2 .quo .i64 (.v 7) (.k (.int .i64 (2))))) (.op2 .shl .u64 (.cv .u64 (.v 11)) (.op2 .mul .i64 (.k (.int .i64 (32))) (.op2 .rem .i64 (.v 7) (.k (.int .i64 (2))))))) 1 (.op2 .quo .i64 (.v 7) (.k (.int .i64 (2)))))])))))))
     (.ret [(.ag (.v 8)), (.k (.int .i64 (0)))]))))))))))))))) := by kernel_rfl
theorem np_rOut : (Try.prog.funcs[62]?).map (fun fn => fn.params.size + fn.nfree) = some 1 := by kernel_rfl
theorem op_rOut_1_0 : (opr Try.f62 1 0).op = .makeSlice 79 (.const (.int .i64 (16))) (.const (.int .i64 (16))) := by kernel_rfl
theorem op_rOut_2_1 : (opr Try.f62 2 1).op = .indexAddr 79 (.tmp 11) (.const (.int .i64 (15))) := by kernel_rfl
theorem op_rOut_2_2 : (opr Try.f62 2 2).op = .store 3 (.tmp 12) (.const (.int .i64 (2147483648))) := by kernel_rfl
theorem op_rOut_8_0 : (opr Try.f62 8 0).op = .makeSlice 79 (.const (.int .i64 (17))) (.const (.int .i64 (17))) := by kernel_rfl
theorem op_rOut_9_1 : (opr Try.f62 9 1).op = .indexAddr 79 (.tmp 34) (.const (.int .i64 (16))) := by kernel_rfl
theorem op_rOut_9_2 : (opr Try.f62 9 2).op = .store 3 (.tmp 35) (.const (.int .i64 (1))) := by kernel_rfl
theorem op_rOut_13_2 : (opr Try.f62 13 2).op = .call ⟨.builtin .len, #[(.tmp 40)], #[79]⟩ := by kernel_rfl
theorem op_rOut_15_8 : (opr Try.f62 15 8).op = .indexAddr 79 (.tmp 51) (.tmp 52) := by kernel_rfl
theorem op_rOut_15_9 : (opr Try.f62 15 9).op = .load 3 (.tmp 53) := by kernel_rfl
theorem tr_rLong1 : tree Try.prog [] [] [⟨2, 9, [4], []⟩] [] 65 = some (.rq (.int .i64 (.v 0))
(.join 1
 (.br (.op2 .lss .i64 (.v 0) (.k (.int .i64 (0))))
  (.next 0 [(.op1 .neg .u64 (.cv .u64 (.v 0)))])
  (.next 0 [(.cv .u64 (.v 0))]))
 (.rq (.int .u64 (.v 1))
 (.eff false 5 7 (opr Try.f65 5 7) [(.cv .i64 (.op2 .rem .u64 (.v 1) (.k (.int .u64 (4294967296))))), (.cv .i64 (.op2 .quo .u64 (.v 1) (.k (.int .u64 (4294967296)))))]
 (.call false 94 [(.op2 .lss .i64 (.v 0) (.k (.int .i64 (0)))), (.v 2)]
 (.rq (.cells 2 (.v 3))
 (.ret [(.ag (.v 3))]))))))) := by kernel_rfl
theorem np_rLong1 : (Try.prog.funcs[65]?).map (fun fn => fn.params.size + fn.nfree) = some 1 := by kernel_rfl
theorem op_rLong1_5_7 : (opr Try.f65 5 7).op = .buildSlice 79 2 #[(0, (.tmp 15)), (1, (.tmp 18))] := by kernel_rfl
theorem tr_rorder : tree Try.prog [] [] [⟨0, 4, [], []⟩] [⟨6, [0, 0, 3, 7, 0, 0, 48, 112, 255], [0, 0, 1, 1, 0, 0, 1, 1, 0], [0, 0, 0, 0, 0, 0, 0, 0, 0], [0, 1, 2, 3, 4, 5, 6, 7, 8], []⟩, ⟨7, [0, 0, 3, 7, 0, 0, 48, 112, 255, 511], [0, 0, 1, 1, 0, 0, 1, 1, 0, 0], [0, 0, 0, 0, 0, 0, 0, 0, 0, 0], [0, 1, 2, 3, 4, 5, 6, 7, 8, 9], []⟩] 98 = some (.prim 1 1 (opr Try.f98 1 1) [(.v 0)]
(.prim 1 3 (opr Try.f98 1 3) [(.v 1)]
(.rq (.int .i64 (.v 2))
(.rq (.int .i64 (.v 3))
(.br (.op2 .neq .i64 (.v 2) (.v 3))
 (.prim 2 1 (opr Try.f98 2 1) [(.v 0)]
 (.prim 2 3 (opr Try.f98 2 3) [(.v 1)]
 (.rq (.int .i64 (.v 4))
 (.rq (.int .i64 (.v 5))
 (.ret [(.op2 .sub .i64 (.v 4) (.v 5))])))))
 (.prim 3 1 (opr Try.f98 3 1) [(.v 0)]
 (.rq (.int .i64 (.v 4))
 (.loop [(.k (.int .i64 (0))), (.op2 .sub .i64 (.v 4) (.k (.int .i64 (1))))]
  (.rq (.int .i64 (.v 6))
  (.br (.op2 .geq .i64 (.v 6) (.k (.int .i64 (0))))
   (.prim 6 2 (opr Try.f98 6 2) [(.v 0), (.v 6)]
   (.prim 6 3 (opr Try.f98 6 3) [(.v 7)]
   (.prim 6 6 (opr Try.f98 6 6) [(.v 1), (.v 6)]
   (.prim 6 7 (opr Try.f98 6 7) [(.v 9)]
   (.rq (.int .i64 (.v 8))
   (.rq (.int .i64 (.v 10))
   (.br (.op2 .neq .i64 (.v 8) (.v 10))
    (.prim 7 2 (opr Try.f98 7 2) [(.v 0), (.v 6)]
    (.prim 7 3 (opr Try.f98 7 3) [(.v 11)]
    (.prim 7 6 (opr Try.f98 7 6) [(.v 1), (.v 6)]
    (.prim 7 7 (opr Try.f98 7 7) [(.v 13)]
    (.rq (.int .i64 (.v 12))
    (.rq (.int .i64 (.v 14))
    (.ret [(.op2 .sub .i64 (.v 12) (.v 14))])))))))
    (.next 0 [(.v 5), (.op2 .sub .i64 (.v 6) (.k (.int .i64 (1))))]))))))))
   (.ret [(.k (.int .i64 (0)))]))))))))))) := by kernel_rfl
theorem np_rorder : (Try.prog.funcs[98]?).map (fun fn => fn.params.size + fn.nfree) = some 2 := by kernel_rfl
theorem op_rorder_1_1 : (opr Try.f98 1 1).op = .call ⟨.builtin .len, #[(.tmp 6)], #[79]⟩ := by kernel_rfl
theorem op_rorder_1_3 : (opr Try.f98 1 3).op = .call ⟨.builtin .len, #[(.tmp 8)], #[79]⟩ := by kernel_rfl
theorem op_rorder_2_1 : (opr Try.f98 2 1).op = .call ⟨.builtin .len, #[(.tmp 11)], #[79]⟩ := by kernel_rfl
theorem op_rorder_2_3 : (opr Try.f98 2 3).op = .call ⟨.builtin .len, #[(.tmp 13)], #[79]⟩ := by kernel_rfl
theorem op_rorder_3_1 : (opr Try.f98 3 1).op = .call ⟨.builtin .len, #[(.tmp 16)], #[79]⟩ := by kernel_rfl
theorem op_rorder_6_2 : (opr Try.f98 6 2).op = .indexAddr 79 (.tmp 23) (.tmp 24) := by kernel_rfl
theorem op_rorder_6_3 : (opr Try.f98 6 3).op = .load 3 (.tmp 25) := by kernel_rfl
theorem op_rorder_6_6 : (opr Try.f98 6 6).op = .indexAddr 79 (.tmp 27) (.tmp 28) := by kernel_rfl
theorem op_rorder_6_7 : (opr Try.f98 6 7).op = .load 3 (.tmp 29) := by kernel_rfl
theorem op_rorder_7_2 : (opr Try.f98 7 2).op = .indexAddr 79 (.tmp 32) (.tmp 33) := by kernel_rfl
theorem op_rorder_7_3 : (opr Try.f98 7 3).op = .load 3 (.tmp 34) := by kernel_rfl
theorem op_rorder_7_6 : (opr Try.f98 7 6).op = .indexAddr 79 (.tmp 36) (.tmp 37) := by kernel_rfl
theorem op_rorder_7_7 : (opr Try.f98 7 7).op = .load 3 (.tmp 38) := by kernel_rfl
theorem tr_rmore : tree Try.prog [] [] [⟨3, 4, [21], []⟩, ⟨2, 27, [6], []⟩, ⟨2, 37, [6], []⟩, ⟨0, 4, [], []⟩] [] 101 = some (.loop [(.k (.slice none 0 0)), (.k (.int .i64 (0))), (.k (.int .i64 (0)))]
 (.join 1
  (.prim 4 2 (opr Try.f101 4 2) [(.v 0)]
  (.rq (.int .i64 (.v 4))
  (.rq (.int .i64 (.v 5))
  (.br (.op2 .lss .i64 (.v 4) (.v 5))
   (.next 1 [(.k (.bool true))])
   (.prim 4 7 (opr Try.f101 4 7) [(.v 1)]
   (.rq (.int .i64 (.v 6))
   (.br (.op2 .lss .i64 (.v 4) (.v 6))
    (.next 1 [(.k (.bool true))])
    (.rq (.int .i64 (.v 3))
    (.next 1 [(.op2 .gtr .i64 (.v 3) (.k (.int .i64 (0))))])))))))))
  (.rq (.bool (.v 5))
  (.br (.v 5)
   (.prim 6 2 (opr Try.f101 6 2) [(.v 0)]
   (.rq (.int .i64 (.v 4))
   (.rq (.int .i64 (.v 6))
   (.join 1
    (.br (.op2 .lss .i64 (.v 4) (.v 6))
     (.prim 7 3 (opr Try.f101 7 3) [(.v 0), (.v 4)]
     (.prim 7 4 (opr Try.f101 7 4) [(.v 7)]
     (.rq (.int .i64 (.v 3))
     (.rq (.int .i64 (.v 8))
     (.next 1 [(.op2 .add .i64 (.v 3) (.v 8))])))))
     (.next 1 [(.v 3)]))
    (.prim 8 2 (opr Try.f101 8 2) [(.v 1)]
    (.rq (.int .i64 (.v 8))
    (.join 1
     (.br (.op2 .lss .i64 (.v 4) (.v 8))
      (.prim 9 3 (opr Try.f101 9 3) [(.v 1), (.v 4)]
      (.prim 9 4 (opr Try.f101 9 4) [(.v 9)]
      (.rq (.int .i64 (.v 7))
      (.rq (.int .i64 (.v 10))
      (.next 1 [(.op2 .add .i64 (.v 7) (.v 10))])))))
      (.next 1 [(.v 7)]))
     (.rq (.int .i64 (.v 9))
     (.eff false 10 3 (opr Try.f101 10 3) [(.op2 .rem .i64 (.v 9) (.k (.int .i64 (4294967296))))]
     (.eff false 10 4 (opr Try.f101 10 4) [(.v 2), (.v 10)]
     (.next 0 [(.v 11), (.op2 .quo .i64 (.v 9) (.k (.int .i64 (4294967296)))), (.op2 .add .i64 (.v 4) (.k (.int .i64 (1))))])))))))))))
   (.ret [(.v 2)]))))) := by kernel_rfl
theorem np_rmore : (Try.prog.funcs[101]?).map (fun fn => fn.params.size + fn.nfree) = some 2 := by kernel_rfl
theorem op_rmore_4_2 : (opr Try.f101 4 2).op = .call ⟨.builtin .len, #[(.tmp 9)], #[79]⟩ := by kernel_rfl
theorem op_rmore_4_7 : (opr Try.f101 4 7).op = .call ⟨.builtin .len, #[(.tmp 14)], #[79]⟩ := by kernel_rfl
theorem op_rmore_6_2 : (opr Try.f101 6 2).op = .call ⟨.builtin .len, #[(.tmp 25)], #[79]⟩ := by kernel_rfl
theorem op_rmore_7_3 : (opr Try.f101 7 3).op = .indexAddr 79 (.tmp 29) (.tmp 30) := by kernel_rfl
theorem op_rmore_7_4 : (opr Try.f101 7 4).op = .load 3 (.tmp 31) := by kernel_rfl
theorem op_rmore_8_2 : (opr Try.f101 8 2).op = .call ⟨.builtin .len, #[(.tmp 35)], #[79]⟩ := by kernel_rfl
theorem op_rmore_9_3 : (opr Try.f101 9 3).op = .indexAddr 79 (.tmp 39) (.tmp 40) := by kernel_rfl
theorem op_rmore_9_4 : (opr Try.f101 9 4).op = .load 3 (.tmp 41) := by kernel_rfl
theorem op_rmore_10_3 : (opr Try.f101 10 3).op = .buildSlice 79 1 #[(0, (.tmp 46))] := by kernel_rfl
theorem op_rmore_10_4 : (opr Try.f101 10 4).op = .call ⟨.builtin .append, #[(.tmp 44), (.tmp 47)], #[79, 79]⟩ := by kernel_rfl
theorem tr_rless : tree Try.prog [] [] [⟨2, 24, [8], []⟩, ⟨2, 32, [8, 6], []⟩, ⟨0, 4, [], []⟩] [] 96 = some (.loop [(.k (.int .i64 (0))), (.k (.slice none 0 0)), (.k (.int .i64 (0)))]
 (.prim 4 2 (opr Try.f96 4 2) [(.v 0)]
 (.rq (.int .i64 (.v 4))
 (.rq (.int .i64 (.v 5))
 (.br (.op2 .lss .i64 (.v 4) (.v 5))
  (.prim 6 2 (opr Try.f96 6 2) [(.v 0), (.v 4)]
  (.prim 6 3 (opr Try.f96 6 3) [(.v 6)]
  (.rq (.int .i64 (.v 7))
  (.rq (.int .i64 (.v 2))
  (.prim 7 2 (opr Try.f96 7 2) [(.v 1)]
  (.rq (.int .i64 (.v 8))
  (.join 1
   (.br (.op2 .lss .i64 (.v 4) (.v 8))
    (.prim 8 3 (opr Try.f96 8 3) [(.v 1), (.v 4)]
    (.prim 8 4 (opr Try.f96 8 4) [(.v 9)]
    (.rq (.int .i64 (.v 10))
    (.next 1 [(.op2 .sub .i64 (.op2 .sub .i64 (.v 7) (.v 2)) (.v 10))]))))
    (.next 1 [(.op2 .sub .i64 (.v 7) (.v 2))]))
   (.rq (.int .i64 (.v 9))
   (.join 2
    (.br (.op2 .lss .i64 (.v 9) (.k (.int .i64 (0))))
     (.next 1 [(.op2 .add .i64 (.v 9) (.k (.int .i64 (4294967296)))), (.k (.int .i64 (1)))])
     (.next 1 [(.v 9), (.k (.int .i64 (0)))]))
    (.eff false 13 2 (opr Try.f96 13 2) [(.v 10)]
    (.eff false 13 3 (opr Try.f96 13 3) [(.v 3), (.v 12)]
    (.next 0 [(.v 11), (.v 13), (.op2 .add .i64 (.v 4) (.k (.int .i64 (1))))]))))))))))))
  (.call false 97 [(.v 3)]
  (.ret [(.v 6)]))))))) := by kernel_rfl
theorem np_rless : (Try.prog.funcs[96]?).map (fun fn => fn.params.size + fn.nfree) = some 2 := by kernel_rfl
theorem op_rless_4_2 : (opr Try.f96 4 2).op = .call ⟨.builtin .len, #[(.tmp 10)], #[79]⟩ := by kernel_rfl
theorem op_rless_6_2 : (opr Try.f96 6 2).op = .indexAddr 79 (.tmp 15) (.tmp 16) := by kernel_rfl
theorem op_rless_6_3 : (opr Try.f96 6 3).op = .load 3 (.tmp 17) := by kernel_rfl
theorem op_rless_7_2 : (opr Try.f96 7 2).op = .call ⟨.builtin .len, #[(.tmp 22)], #[79]⟩ := by kernel_rfl
theorem op_rless_8_3 : (opr Try.f96 8 3).op = .indexAddr 79 (.tmp 26) (.tmp 27) := by kernel_rfl
theorem op_rless_8_4 : (opr Try.f96 8 4).op = .load 3 (.tmp 28) := by kernel_rfl
theorem op_rless_13_2 : (opr Try.f96 13 2).op = .buildSlice 79 1 #[(0, (.tmp 36))] := by kernel_rfl
theorem op_rless_13_3 : (opr Try.f96 13 3).op = .call ⟨.builtin .append, #[(.tmp 35), (.tmp 37)], #[79, 79]⟩ := by kernel_rfl
theorem tr_rproduct : tree Try.prog [] [] [⟨0, 3, [], []⟩, ⟨0, 7, [], []⟩] [⟨9, [0, 0, 0, 0, 12, 30, 62, 126, 255, 0, 0, 1536, 3584, 7680, 0, 0, 49152, 114688, 245760, 523776, 1048575, 2097151], [0, 0, 0, 0, 0, 1, 1, 0, 0, 0, 0, 1, 1, 0, 0, 0, 1, 1, 0, 0, 0, 0], [0, 0, 0, 0, 0, 0, 0, 0, 0, 0, 0, 0, 0, 0, 0, 0, 0, 0, 0, 0, 0, 0], [0, 1, 2, 3, 4, 5, 6, 7, 8, 9, 10, 11, 12, 13, 14, 15, 16, 17, 18, 19, 20, 21], []⟩] 99 = some (.prim 1 1 (opr Try.f99 1 1) [(.v 0)]
(.prim 1 3 (opr Try.f99 1 3) [(.v 1)]
(.rq (.int .i64 (.v 2))
(.rq (.int .i64 (.v 3))
(.eff false 1 5 (opr Try.f99 1 5) [(.op2 .add .i64 (.v 2) (.v 3)), (.op2 .add .i64 (.v 2) (.v 3))]
(.loop [(.k (.int .i64 (0)))]
 (.prim 3 2 (opr Try.f99 3 2) [(.v 0)]
 (.rq (.int .i64 (.v 5))
 (.rq (.int .i64 (.v 6))
 (.br (.op2 .lss .i64 (.v 5) (.v 6))
  (.loop [(.k (.int .u64 (0))), (.k (.int .i64 (0)))]
   (.prim 7 2 (opr Try.f99 7 2) [(.v 1)]
   (.rq (.int .i64 (.v 8))
   (.rq (.int .i64 (.v 9))
   (.br (.op2 .lss .i64 (.v 8) (.v 9))
    (.prim 9 5 (opr Try.f99 9 5) [(.v 4), (.op2 .add .i64 (.v 5) (.v 8))]
    (.prim 9 6 (opr Try.f99 9 6) [(.v 10)]
    (.rq (.int .i64 (.v 11))
    (.rq (.int .u64 (.v 7))
    (.prim 9 11 (opr Try.f99 9 11) [(.v 0), (.v 5)]
    (.prim 9 12 (opr Try.f99 9 12) [(.v 12)]
    (.rq (.int .i64 (.v 13))
    (.prim 9 16 (opr Try.f99 9 16) [(.v 1), (.v 8)]
    (.prim 9 17 (opr Try.f99 9 17) [(.v 14)]
    (.rq (.int .i64 (.v 15))
    (.prim 10 7 (opr Try.f99 10 7) [(.v 4), (.op2 .add .i64 (.v 5) (.v 8))]
    (.eff false 10 8 (opr Try.f99 10 8) [(.v 16), (.cv .i64 (.op2 .rem .u64 (.op2 .add .u64 (.op2 .add .u64 (.v 7) (.cv .u64 (.v 11))) (.op2 .mul .u64 (.cv .u64 (.v 13)) (.cv .u64 (.v 15)))) (.k (.int .u64 (4294967296)))))]
    (.next 1 [(.op2 .quo .u64 (.op2 .add .u64 (.op2 .add .u64 (.v 7) (.cv .u64 (.v 11))) (.op2 .mul .u64 (.cv .u64 (.v 13)) (.cv .u64 (.v 15)))) (.k (.int .u64 (4294967296)))), (.op2 .add .i64 (.v 8) (.k (.int .i64 (1))))])))))))))))))
    (.prim 12 3 (opr Try.f99 12 3) [(.v 1)]
    (.rq (.int .i64 (.v 10))
    (.rq (.int .u64 (.v 7))
    (.prim 12 7 (opr Try.f99 12 7) [(.v 4), (.op2 .add .i64 (.v 5) (.v 10))]
    (.eff false 12 8 (opr Try.f99 12 8) [(.v 11), (.cv .i64 (.v 7))]
    (.next 0 [(.op2 .add .i64 (.v 5) (.k (.int .i64 (1))))])))))))))))
  (.call false 97 [(.v 4)]
  (.ret [(.v 7)])))))))))))) := by kernel_rfl
theorem np_rproduct : (Try.prog.funcs[99]?).map (fun fn => fn.params.size + fn.nfree) = some 2 := by kernel_rfl
theorem op_rproduct_1_1 : (opr Try.f99 1 1).op = .call ⟨.builtin .len, #[(.tmp 9)], #[79]⟩ := by kernel_rfl
theorem op_rproduct_1_3 : (opr Try.f99 1 3).op = .call ⟨.builtin .len, #[(.tmp 11)], #[79]⟩ := by kernel_rfl
theorem op_rproduct_1_5 : (opr Try.f99 1 5).op = .makeSlice 79 (.tmp 13) (.tmp 13) := by kernel_rfl
theorem op_rproduct_3_2 : (opr Try.f99 3 2).op = .call ⟨.builtin .len, #[(.tmp 16)], #[79]⟩ := by kernel_rfl
theorem op_rproduct_7_2 : (opr Try.f99 7 2).op = .call ⟨.builtin .len, #[(.tmp 22)], #[79]⟩ := by kernel_rfl
theorem op_rproduct_9_5 : (opr Try.f99 9 5).op = .indexAddr 79 (.tmp 28) (.tmp 31) := by kernel_rfl
theorem op_rproduct_9_6 : (opr Try.f99 9 6).op = .load 3 (.tmp 32) := by kernel_rfl
theorem op_rproduct_9_11 : (opr Try.f99 9 11).op = .indexAddr 79 (.tmp 36) (.tmp 37) := by kernel_rfl
theorem op_rproduct_9_12 : (opr Try.f99 9 12).op = .load 3 (.tmp 38) := by kernel_rfl
theorem op_rproduct_9_16 : (opr Try.f99 9 16).op = .indexAddr 79 (.tmp 41) (.tmp 42) := by kernel_rfl
theorem op_rproduct_9_17 : (opr Try.f99 9 17).op = .load 3 (.tmp 43) := by kernel_rfl
theorem op_rproduct_10_7 : (opr Try.f99 10 7).op = .indexAddr 79 (.tmp 48) (.tmp 51) := by kernel_rfl
theorem op_rproduct_10_8 : (opr Try.f99 10 8).op = .store 3 (.tmp 55) (.tmp 54) := by kernel_rfl
theorem op_rproduct_12_3 : (opr Try.f99 12 3).op = .call ⟨.builtin .len, #[(.tmp 60)], #[79]⟩ := by kernel_rfl
theorem op_rproduct_12_7 : (opr Try.f99 12 7).op = .indexAddr 79 (.tmp 58) (.tmp 62) := by kernel_rfl
theorem op_rproduct_12_8 : (opr Try.f99 12 8).op = .store 3 (.tmp 65) (.tmp 64) := by kernel_rfl
theorem tr_rtwice : tree Try.prog [] [] [⟨0, 3, [], []⟩] [] 108 = some (.loop [(.k (.slice none 0 0)), (.v 1), (.k (.int .i64 (0)))]
 (.prim 3 2 (opr Try.f108 3 2) [(.v 0)]
 (.rq (.int .i64 (.v 4))
 (.rq (.int .i64 (.v 5))
 (.br (.op2 .lss .i64 (.v 4) (.v 5))
  (.prim 5 2 (opr Try.f108 5 2) [(.v 0), (.v 4)]
  (.prim 5 3 (opr Try.f108 5 3) [(.v 6)]
  (.rq (.int .i64 (.v 7))
  (.rq (.int .i64 (.v 3))
  (.eff false 6 3 (opr Try.f108 6 3) [(.op2 .rem .i64 (.op2 .add .i64 (.op2 .mul .i64 (.k (.int .i64 (2))) (.v 7)) (.v 3)) (.k (.int .i64 (4294967296))))]
  (.eff false 6 4 (opr Try.f108 6 4) [(.v 2), (.v 8)]
  (.next 0 [(.v 9), (.op2 .quo .i64 (.op2 .add .i64 (.op2 .mul .i64 (.k (.int .i64 (2))) (.v 7)) (.v 3)) (.k (.int .i64 (4294967296)))), (.op2 .add .i64 (.v 4) (.k (.int .i64 (1))))])))))))
  (.eff false 8 2 (opr Try.f108 8 2) [(.v 3)]
  (.eff false 8 3 (opr Try.f108 8 3) [(.v 2), (.v 6)]
  (.call false 97 [(.v 7)]
  (.ret [(.v 8)]))))))))) := by kernel_rfl
theorem np_rtwice : (Try.prog.funcs[108]?).map (fun fn => fn.params.size + fn.nfree) = some 2 := by kernel_rfl
theorem op_rtwice_3_2 : (opr Try.f108 3 2).op = .call ⟨.builtin .len, #[(.tmp 9)], #[79]⟩ := by kernel_rfl
theorem op_rtwice_5_2 : (opr Try.f108 5 2).op = .indexAddr 79 (.tmp 14) (.tmp 15) := by kernel_rfl
theorem op_rtwice_5_3 : (opr Try.f108 5 3).op = .load 3 (.tmp 16) := by kernel_rfl
theorem op_rtwice_6_3 : (opr Try.f108 6 3).op = .buildSlice 79 1 #[(0, (.tmp 23))] := by kernel_rfl
theorem op_rtwice_6_4 : (opr Try.f108 6 4).op = .call ⟨.builtin .append, #[(.tmp 21), (.tmp 24)], #[79, 79]⟩ := by kernel_rfl
theorem op_rtwice_8_2 : (opr Try.f108 8 2).op = .buildSlice 79 1 #[(0, (.tmp 29))] := by kernel_rfl
theorem op_rtwice_8_3 : (opr Try.f108 8 3).op = .call ⟨.builtin .append, #[(.tmp 28), (.tmp 30)], #[79, 79]⟩ := by kernel_rfl
theorem tr_rparts : tree Try.prog [] [] [⟨0, 7, [], []⟩, ⟨0, 10, [], []⟩] [⟨15, [0, 0, 0, 0, 12, 28, 0, 64, 252, 511, 1023], [0, 0, 0, 0, 1, 1, 0, 0, 0, 1, 4], [0, 0, 0, 0, 0, 0, 0, 0, 0, 0, 0], [0, 1, 2, 3, 4, 5, 6, 7, 8, 9], [10]⟩] 93 = some (.prim 1 1 (opr Try.f93 1 1) [(.v 1)]
(.rq (.int .i64 (.v 2))
(.prim 2 1 (opr Try.f93 2 1) [(.v 0)]
(.rq (.int .i64 (.v 3))
(.br (.op2 .leq .i64 (.v 3) (.op2 .sub .i64 (.v 2) (.k (.int .i64 (1)))))
 (.eff false 3 0 (opr Try.f93 3 0) []
 (.eff false 3 2 (opr Try.f93 3 2) [(.v 4), (.v 0)]
 (.ret [(.k (.slice none 0 0)), (.v 5)])))
 (.prim 4 1 (opr Try.f93 4 1) [(.v 0)]
 (.rq (.int .i64 (.v 4))
 (.eff false 4 4 (opr Try.f93 4 4) [(.op2 .sub .i64 (.v 4) (.op2 .sub .i64 (.v 2) (.k (.int .i64 (1))))), (.op2 .sub .i64 (.v 4) (.op2 .sub .i64 (.v 2) (.k (.int .i64 (1)))))]
 (.eff false 5 0 (opr Try.f93 5 0) []
 (.prim 5 3 (opr Try.f93 5 3) [(.v 0)]
 (.rq (.int .i64 (.v 7))
 (.prim 5 6 (opr Try.f93 5 6) [(.v 0), (.op2 .sub .i64 (.v 7) (.op2 .sub .i64 (.v 2) (.k (.int .i64 (1)))))]
 (.eff false 5 7 (opr Try.f93 5 7) [(.v 6), (.v 8)]
 (.prim 6 1 (opr Try.f93 6 1) [(.v 5)]
 (.rq (.int .i64 (.v 10))
 (.loop [(.v 9), (.op2 .sub .i64 (.v 10) (.k (.int .i64 (1))))]
  (.rq (.int .i64 (.v 12))
  (.br (.op2 .geq .i64 (.v 12) (.k (.int .i64 (0))))
   (.loop [(.v 11), (.k (.int .i64 (31)))]
    (.rq (.int .i64 (.v 14))
    (.br (.op2 .geq .i64 (.v 14) (.k (.int .i64 (0))))
     (.prim 12 3 (opr Try.f93 12 3) [(.v 0), (.v 12)]
     (.prim 12 4 (opr Try.f93 12 4) [(.v 15)]
     (.rq (.int .i64 (.v 16))
     (.rq (.num (.v 14))
     (.rq (.nn (.v 14))
     (.call false 108 [(.v 13), (.op2 .rem .i64 (.op2 .shr .i64 (.v 16) (.v 14)) (.k (.int .i64 (2))))]
     (.call false 98 [(.v 17), (.v 1)]
     (.rq (.int .i64 (.v 18))
     (.br (.op2 .geq .i64 (.v 18) (.k (.int .i64 (0))))
      (.call false 96 [(.v 17), (.v 1)]
      (.prim 15 4 (opr Try.f93 15 4) [(.v 5), (.v 12)]
      (.prim 15 5 (opr Try.f93 15 5) [(.v 20)]
      (.rq (.int .i64 (.v 21))
      (.prim 15 9 (opr Try.f93 15 9) [(.v 5), (.v 12)]
      (.eff false 15 10 (opr Try.f93 15 10) [(.v 22), (.op2 .add .i64 (.v 21) (.op2 .shl .i64 (.k (.int .i64 (1))) (.v 14)))]
      (.next 1 [(.v 19), (.op2 .sub .i64 (.v 14) (.k (.int .i64 (1))))])))))))
      (.next 1 [(.v 17), (.op2 .sub .i64 (.v 14) (.k (.int .i64 (1))))]))))))))))
     (.next 0 [(.v 13), (.op2 .sub .i64 (.v 12) (.k (.int .i64 (1))))]))))
   (.call false 97 [(.v 5)]
   (.ret [(.v 13), (.v 11)])))))))))))))))))))) := by kernel_rfl
theorem np_rparts : (Try.prog.funcs[93]?).map (fun fn => fn.params.size + fn.nfree) = some 2 := by kernel_rfl
theorem op_rparts_1_1 : (opr Try.f93 1 1).op = .call ⟨.builtin .len, #[(.tmp 11)], #[79]⟩ := by kernel_rfl
theorem op_rparts_2_1 : (opr Try.f93 2 1).op = .call ⟨.builtin .len, #[(.tmp 14)], #[79]⟩ := by kernel_rfl
theorem op_rparts_3_0 : (opr Try.f93 3 0).op = .buildSlice 79 0 #[] := by kernel_rfl
theorem op_rparts_3_2 : (opr Try.f93 3 2).op = .call ⟨.builtin .append, #[(.tmp 18), (.tmp 19)], #[79, 79]⟩ := by kernel_rfl
theorem op_rparts_4_1 : (opr Try.f93 4 1).op = .call ⟨.builtin .len, #[(.tmp 21)], #[79]⟩ := by kernel_rfl
theorem op_rparts_4_4 : (opr Try.f93 4 4).op = .makeSlice 79 (.tmp 24) (.tmp 24) := by kernel_rfl
theorem op_rparts_5_0 : (opr Try.f93 5 0).op = .buildSlice 79 0 #[] := by kernel_rfl
theorem op_rparts_5_3 : (opr Try.f93 5 3).op = .call ⟨.builtin .len, #[(.tmp 28)], #[79]⟩ := by kernel_rfl
theorem op_rparts_5_6 : (opr Try.f93 5 6).op = .slice 79 (.tmp 27) (some (.tmp 31)) none none := by kernel_rfl
theorem op_rparts_5_7 : (opr Try.f93 5 7).op = .call ⟨.builtin .append, #[(.tmp 26), (.tmp 32)], #[79, 79]⟩ := by kernel_rfl
theorem op_rparts_6_1 : (opr Try.f93 6 1).op = .call ⟨.builtin .len, #[(.tmp 34)], #[79]⟩ := by kernel_rfl
theorem op_rparts_12_3 : (opr Try.f93 12 3).op = .indexAddr 79 (.tmp 46) (.tmp 47) := by kernel_rfl
theorem op_rparts_12_4 : (opr Try.f93 12 4).op = .load 3 (.tmp 48) := by kernel_rfl
theorem op_rparts_15_4 : (opr Try.f93 15 4).op = .indexAddr 79 (.tmp 63) (.tmp 64) := by kernel_rfl
theorem op_rparts_15_5 : (opr Try.f93 15 5).op = .load 3 (.tmp 65) := by kernel_rfl
theorem op_rparts_15_9 : (opr Try.f93 15 9).op = .indexAddr 79 (.tmp 61) (.tmp 62) := by kernel_rfl
theorem op_rparts_15_10 : (opr Try.f93 15 10).op = .store 3 (.tmp 70) (.tmp 69) := by kernel_rfl
theorem tr_rTurn : tree Try.prog [] [] [] [] 70 = some (.rq (.cells 2 (.v 0))
(.rq (.bool (.cell (.v 0) 0 0 noI))
(.call false 94 [(.nt (.cell (.v 0) 0 0 noI)), (.cell (.v 0) 1 0 noI)]
(.rq (.cells 2 (.v 1))
(.ret [(.ag (.v 1))]))))) := by kernel_rfl
theorem np_rTurn : (Try.prog.funcs[70]?).map (fun fn => fn.params.size + fn.nfree) = some 1 := by kernel_rfl
theorem tr_rPlus : tree Try.prog [] [] [] [⟨2, [0, 1, 0, 4, 0, 16, 60, 127, 255], [1, 1, 1, 1, 1, 1, 2, 2, 6], [0, 0, 0, 0, 0, 0, 0, 0, 2], [0, 1, 2, 3, 4, 5, 6, 7], [8]⟩, ⟨4, [0, 1, 0, 4, 0, 16, 60, 127, 255], [1, 1, 1, 1, 1, 1, 2, 2, 6], [0, 0, 0, 0, 0, 0, 0, 0, 2], [0, 1, 2, 3, 4, 5, 6, 7], [8]⟩, ⟨5, [0, 1, 0, 4, 0, 16, 60, 127, 255], [1, 1, 1, 1, 1, 1, 2, 2, 6], [0, 0, 0, 0, 0, 0, 0, 0, 2], [0, 1, 2, 3, 4, 5, 6, 7], [8]⟩] 72 = some (.rq (.cells 2 (.v 0))
(.rq (.cells 2 (.v 1))
(.rq (.bool (.cell (.v 0) 0 0 noI))
(.rq (.bool (.cell (.v 1) 0 0 noI))
(.br (.eqb false (.cell (.v 0) 0 0 noI) (.cell (.v 1) 0 0 noI))
 (.call true 101 [(.cell (.v 0) 1 0 noI), (.cell (.v 1) 1 0 noI)]
 (.call true 94 [(.cell (.v 0) 0 0 noI), (.v 2)]
 (.rq (.cells 2 (.v 3))
 (.ret [(.ag (.v 3))]))))
 (.call false 98 [(.cell (.v 0) 1 0 noI), (.cell (.v 1) 1 0 noI)]
 (.rq (.int .i64 (.v 2))
 (.br (.op2 .geq .i64 (.v 2) (.k (.int .i64 (0))))
  (.call true 96 [(.cell (.v 0) 1 0 noI), (.cell (.v 1) 1 0 noI)]
  (.call true 94 [(.cell (.v 0) 0 0 noI), (.v 3)]
  (.rq (.cells 2 (.v 4))
  (.ret [(.ag (.v 4))]))))
  (.call true 96 [(.cell (.v 1) 1 0 noI), (.cell (.v 0) 1 0 noI)]
  (.call true 94 [(.cell (.v 1) 0 0 noI), (.v 3)]
  (.rq (.cells 2 (.v 4))
  (.ret [(.ag (.v 4))])))))))))))) := by kernel_rfl
theorem np_rPlus : (Try.prog.funcs[72]?).map (fun fn => fn.params.size + fn.nfree) = some 2 := by kernel_rfl
theorem tr_rMinus : tree Try.prog [] [] [] [⟨1, [0, 0, 2, 7, 15], [5, 5, 2, 2, 6], [0, 1, 0, 0, 2], [0, 1, 2, 3], [4]⟩] 73 = some (.rq (.cells 2 (.v 0))
(.rq (.cells 2 (.v 1))
(.call true 70 [(.ag (.v 1))]
(.call true 72 [(.ag (.v 0)), (.v 2)]
(.rq (.cells 2 (.v 3))
(.ret [(.ag (.v 3))])))))) := by kernel_rfl
theorem np_rMinus : (Try.prog.funcs[73]?).map (fun fn => fn.params.size + fn.nfree) = some 2 := by kernel_rfl
theorem tr_rTimes : tree Try.prog [] [] [] [⟨1, [0, 1, 0, 4, 15, 0, 32, 0, 128, 480, 1023, 2047], [1, 1, 1, 1, 0, 1, 1, 1, 1, 2, 2, 6], [0, 0, 0, 0, 0, 0, 0, 0, 0, 0, 0, 2], [0, 1, 2, 3, 4, 5, 6, 7, 8, 9, 10], [11]⟩] 66 = some (.rq (.cells 2 (.v 0))
(.rq (.cells 2 (.v 1))
(.rq (.bool (.cell (.v 0) 0 0 noI))
(.rq (.bool (.cell (.v 1) 0 0 noI))
(.call true 99 [(.cell (.v 0) 1 0 noI), (.cell (.v 1) 1 0 noI)]
(.call true 94 [(.eqb true (.cell (.v 0) 0 0 noI) (.cell (.v 1) 0 0 noI)), (.v 2)]
(.rq (.cells 2 (.v 3))
(.ret [(.ag (.v 3))])))))))) := by kernel_rfl
theorem np_rTimes : (Try.prog.funcs[66]?).map (fun fn => fn.params.size + fn.nfree) = some 2 := by kernel_rfl
theorem tr_rParts : tree Try.prog [] [] [] [⟨2, [0, 1, 0, 4, 15, 0, 63, 0, 128, 0, 1023, 0, 0, 8191, 16383], [1, 1, 1, 1, 0, 0, 2, 1, 1, 0, 2, 3, 3, 4, 4], [0, 0, 0, 0, 0, 0, 0, 0, 0, 0, 0, 0, 0, 0, 0], [0, 1, 2, 3, 4, 5, 7, 8, 9, 6, 10, 11, 12], [13, 14]⟩, ⟨6, [0, 0, 3, 7], [5, 2, 2, 6], [4, 0, 0, 4], [0, 1, 2], [3]⟩, ⟨7, [0, 0, 3, 7], [5, 2, 2, 6], [4, 0, 0, 4], [0, 1, 2], [3]⟩, ⟨8, [0, 0, 1, 7], [5, 5, 6, 6], [4, 5, 2, 3], [0, 1], [2, 3]⟩] 60 = some (.rq (.cells 2 (.v 0))
(.rq (.cells 2 (.v 1))
(.call false 93 [(.cell (.v 0) 1 0 noI), (.cell (.v 1) 1 0 noI)]
(.rq (.tup 0 (.v 2))
(.rq (.tup 1 (.v 2))
(.rq (.bool (.cell (.v 0) 0 0 noI))
(.rq (.bool (.cell (.v 1) 0 0 noI))
(.call true 94 [(.eqb true (.cell (.v 0) 0 0 noI) (.cell (.v 1) 0 0 noI)), (.proj (.v 2) 0)]
(.call true 94 [(.cell (.v 0) 0 0 noI), (.proj (.v 2) 1)]
(.rq (.cells 2 (.v 3))
(.rq (.cells 2 (.v 4))
(.rq (.bool (.cell (.v 4) 0 0 noI))
(.br (.cell (.v 4) 0 0 noI)
 (.rq (.cells 1 (.cell (.v 1) 1 0 noI))
 (.call false 72 [(.ag (.v 4)), (.cat (.z 4) 1 (.cell (.v 1) 1 0 noI))]
 (.rq (.cells 2 (.v 5))
 (.br (.cell (.v 1) 0 0 noI)
  (.call true 65 [(.k (.int .i64 (1)))]
  (.call true 72 [(.ag (.v 3)), (.v 6)]
  (.rq (.cells 2 (.v 7))
  (.ret [(.ag (.v 7)), (.ag (.v 5))]))))
  (.call true 65 [(.k (.int .i64 (1)))]
  (.call true 73 [(.ag (.v 3)), (.v 6)]
  (.rq (.cells 2 (.v 7))
  (.ret [(.ag (.v 7)), (.ag (.v 5))]))))))))
 (.ret [(.ag (.v 3)), (.ag (.v 4))])))))))))))))) := by kernel_rfl
theorem np_rParts : (Try.prog.funcs[60]?).map (fun fn => fn.params.size + fn.nfree) = some 2 := by kernel_rfl
theorem tr_rOrder : tree Try.prog [] [] [] [] 79 = some (.rq (.cells 2 (.v 0))
(.rq (.cells 2 (.v 1))
(.call false 73 [(.ag (.v 0)), (.ag (.v 1))]
(.rq (.cells 2 (.v 2))
(.rq (.bool (.cell (.v 2) 0 0 noI))
(.br (.cell (.v 2) 0 0 noI)
 (.ret [(.k (.int .i64 (-1)))])
 (.prim 4 2 (opr Try.f79 4 2) [(.cell (.v 2) 1 0 noI)]
 (.rq (.int .i64 (.v 3))
 (.br (.op2 .gtr .i64 (.v 3) (.k (.int .i64 (0))))
  (.ret [(.k (.int .i64 (1)))])
  (.ret [(.k (.int .i64 (0)))])))))))))) := by kernel_rfl
theorem np_rOrder : (Try.prog.funcs[79]?).map (fun fn => fn.params.size + fn.nfree) = some 2 := by kernel_rfl
theorem op_rOrder_4_2 : (opr Try.f79 4 2).op = .call ⟨.builtin .len, #[(.tmp 12)], #[79]⟩ := by kernel_rfl
theorem tr_rDivisor : tree Try.prog [] [] [⟨0, 2, [], []⟩] [⟨1, [0, 1, 0, 4, 3, 31], [1, 1, 1, 1, 0, 0], [0, 0, 0, 0, 0, 0], [0, 1, 2, 3, 4, 5], []⟩] 64 = some (.rq (.cells 2 (.v 0))
(.rq (.cells 2 (.v 1))
(.loop [(.cell (.v 0) 1 0 noI), (.cell (.v 1) 1 0 noI)]
 (.prim 2 1 (opr Try.f64 2 1) [(.v 3)]
 (.rq (.int .i64 (.v 4))
 (.br (.op2 .gtr .i64 (.v 4) (.k (.int .i64 (0))))
  (.call false 93 [(.v 2), (.v 3)]
  (.rq (.tup 0 (.v 5))
  (.rq (.tup 1 (.v 5))
  (.next 0 [(.v 3), (.proj (.v 5) 1)]))))
  (.rq (.cells 1 (.v 2))
  (.ret [(.cat (.z 4) 1 (.v 2))])))))))) := by kernel_rfl
theorem np_rDivisor : (Try.prog.funcs[64]?).map (fun fn => fn.params.size + fn.nfree) = some 2 := by kernel_rfl
theorem op_rDivisor_2_1 : (opr Try.f64 2 1).op = .call ⟨.builtin .len, #[(.tmp 13)], #[79]⟩ := by kernel_rfl
theorem tr_rRaised : tree Try.prog [] [] [⟨0, 3, [], [2]⟩] [] 77 = some (.rq (.cells 2 (.v 0))
(.call false 65 [(.k (.int .i64 (1)))]
(.rq (.cells 2 (.v 2))
(.loop [(.k (.int .i64 (0))), (.v 2)]
 (.rq (.int .i64 (.v 3))
 (.rq (.int .i64 (.v 1))
 (.br (.op2 .lss .i64 (.v 3) (.v 1))
  (.call false 66 [(.ag (.v 4)), (.ag (.v 0))]
  (.rq (.cells 2 (.v 5))
  (.next 0 [(.op2 .add .i64 (.v 3) (.k (.int .i64 (1)))), (.v 5)])))
  (.ret [(.ag (.v 4))])))))))) := by kernel_rfl
theorem np_rRaised : (Try.prog.funcs[77]?).map (fun fn => fn.params.size + fn.nfree) = some 2 := by kernel_rfl
theorem tr_rFloor : tree Try.prog [] [] [⟨0, 4, [], [0, 1]⟩, ⟨0, 7, [], []⟩] [⟨9, [0, 0, 0, 0, 12, 28, 0, 64, 252, 511, 1023], [0, 0, 0, 0, 1, 1, 0, 0, 0, 1, 4], [0, 0, 0, 0, 0, 0, 0, 0, 0, 0, 0], [0, 1, 2, 3, 4, 5, 6, 7, 8, 9], [10]⟩, ⟨11, [0, 0, 3, 0, 8, 31, 63], [0, 0, 2, 1, 1, 2, 0], [0, 0, 0, 0, 0, 0, 0], [0, 1, 3, 4, 2, 5, 6], []⟩, ⟨12, [0, 0, 0, 0, 12, 28, 0, 64, 252, 511, 1023], [0, 0, 0, 0, 1, 1, 0, 0, 0, 1, 4], [0, 0, 0, 0, 0, 0, 0, 0, 0, 0, 0], [0, 1, 2, 3, 4, 5, 6, 7, 8, 9], [10]⟩] 68 = some (.rq (.cells 2 (.v 0))
(.prim 1 2 (opr Try.f68 1 2) [(.cell (.v 0) 1 0 noI)]
(.rq (.int .i64 (.v 1))
(.eff false 2 1 (opr Try.f68 2 1) [(.op2 .quo .i64 (.op2 .add .i64 (.v 1) (.k (.int .i64 (1)))) (.k (.int .i64 (2)))), (.op2 .quo .i64 (.op2 .add .i64 (.v 1) (.k (.int .i64 (1)))) (.k (.int .i64 (2))))]
(.loop [(.op2 .sub .i64 (.op2 .quo .i64 (.op2 .add .i64 (.v 1) (.k (.int .i64 (1)))) (.k (.int .i64 (2)))) (.k (.int .i64 (1)))), (.v 0), (.z 81)]
 (.rq (.int .i64 (.v 3))
 (.br (.op2 .geq .i64 (.v 3) (.k (.int .i64 (0))))
  (.loop [(.k (.int .i64 (31)))]
   (.rq (.int .i64 (.v 6))
   (.br (.op2 .geq .i64 (.v 6) (.k (.int .i64 (0))))
    (.prim 9 4 (opr Try.f68 9 4) [(.v 2), (.v 3)]
    (.prim 9 5 (opr Try.f68 9 5) [(.v 7)]
    (.rq (.num (.v 6))
    (.rq (.nn (.v 6))
    (.rq (.int .i64 (.v 8))
    (.prim 9 9 (opr Try.f68 9 9) [(.v 2), (.v 3)]
    (.eff false 9 10 (opr Try.f68 9 10) [(.v 9), (.op2 .add .i64 (.v 8) (.op2 .shl .i64 (.k (.int .i64 (1))) (.v 6)))]
    (.eff false 10 0 (opr Try.f68 10 0) []
    (.eff false 10 2 (opr Try.f68 10 2) [(.v 11), (.v 2)]
    (.call false 97 [(.v 12)]
    (.call true 99 [(.v 13), (.v 13)]
    (.call true 98 [(.v 14), (.cell (.v 4) 1 0 noI)]
    (.rq (.int .i64 (.v 15))
    (.br (.op2 .gtr .i64 (.v 15) (.k (.int .i64 (0))))
     (.prim 12 4 (opr Try.f68 12 4) [(.v 2), (.v 3)]
     (.prim 12 5 (opr Try.f68 12 5) [(.v 16)]
     (.rq (.int .i64 (.v 17))
     (.prim 12 9 (opr Try.f68 12 9) [(.v 2), (.v 3)]
     (.eff false 12 10 (opr Try.f68 12 10) [(.v 18), (.op2 .sub .i64 (.v 17) (.op2 .shl .i64 (.k (.int .i64 (1))) (.v 6)))]
     (.next 1 [(.op2 .sub .i64 (.v 6) (.k (.int .i64 (1))))]))))))
     (.next 1 [(.op2 .sub .i64 (.v 6) (.k (.int .i64 (1))))])))))))))))))))
    (.next 0 [(.op2 .sub .i64 (.v 3) (.k (.int .i64 (1)))), (.v 4), (.v 5)]))))
  (.call false 94 [(.k (.bool false)), (.v 2)]
  (.rq (.cells 2 (.v 6))
  (.ret [(.ag (.v 6))])))))))))) := by kernel_rfl
theorem np_rFloor : (Try.prog.funcs[68]?).map (fun fn => fn.params.size + fn.nfree) = some 1 := by kernel_rfl
theorem op_rFloor_1_2 : (opr Try.f68 1 2).op = .call ⟨.builtin .len, #[(.tmp 9)], #[79]⟩ := by kernel_rfl
theorem op_rFloor_2_1 : (opr Try.f68 2 1).op = .makeSlice 79 (.tmp 13) (.tmp 13) := by kernel_rfl
theorem op_rFloor_9_4 : (opr Try.f68 9 4).op = .indexAddr 79 (.tmp 27) (.tmp 28) := by kernel_rfl
theorem op_rFloor_9_5 : (opr Try.f68 9 5).op = .load 3 (.tmp 29) := by kernel_rfl
theorem op_rFloor_9_9 : (opr Try.f68 9 9).op = .indexAddr 79 (.tmp 25) (.tmp 26) := by kernel_rfl
theorem op_rFloor_9_10 : (opr Try.f68 9 10).op = .store 3 (.tmp 34) (.tmp 33) := by kernel_rfl
theorem op_rFloor_10_0 : (opr Try.f68 10 0).op = .buildSlice 79 0 #[] := by kernel_rfl
theorem op_rFloor_10_2 : (opr Try.f68 10 2).op = .call ⟨.builtin .append, #[(.tmp 35), (.tmp 36)], #[79, 79]⟩ := by kernel_rfl
theorem op_rFloor_12_4 : (opr Try.f68 12 4).op = .indexAddr 79 (.tmp 48) (.tmp 49) := by kernel_rfl
theorem op_rFloor_12_5 : (opr Try.f68 12 5).op = .load 3 (.tmp 50) := by kernel_rfl
theorem op_rFloor_12_9 : (opr Try.f68 12 9).op = .indexAddr 79 (.tmp 46) (.tmp 47) := by kernel_rfl
theorem op_rFloor_12_10 : (opr Try.f68 12 10).op = .store 3 (.tmp 55) (.tmp 54) := by kernel_rfl
theorem tr_rOf : tree Try.prog [] [] [] [] 40 = some (.call false 65 [(.v 0)]
(.call false 62 [(.v 1)]
(.rq (.tup 0 (.v 2))
(.rq (.tup 1 (.v 2))
(.rq (.cells 8 (.proj (.v 2) 0))
(.ret [(.ag (.proj (.v 2) 0))])))))) := by kernel_rfl
theorem np_rOf : (Try.prog.funcs[40]?).map (fun fn => fn.params.size + fn.nfree) = some 1 := by kernel_rfl
theorem tr_rInteger : tree Try.prog [] [] [⟨3, 1, [15], []⟩, ⟨2, 34, [4], []⟩, ⟨0, 5, [], []⟩] [⟨1, [0, 0, 3, 7, 15, 31, 31, 127, 255, 511], [5, 2, 2, 0, 0, 5, 2, 2, 0, 0], [0, 0, 0, 0, 0, 0, 0, 0, 0, 0], [0, 1, 2, 3, 4, 5, 6, 7, 8, 9], []⟩] 78 = some (.rq (.cells 2 (.v 0))
(.join 1
 (.call true 65 [(.k (.int .i64 (-9223372036854775808)))]
 (.call true 79 [(.ag (.v 0)), (.v 1)]
 (.rq (.int .i64 (.v 2))
 (.br (.op2 .lss .i64 (.v 2) (.k (.int .i64 (0))))
  (.next 0 [(.k (.bool true))])
  (.call true 65 [(.k (.int .i64 (9223372036854775807)))]
  (.call true 79 [(.ag (.v 0)), (.v 3)]
  (.rq (.int .i64 (.v 4))
  (.next 0 [(.op2 .gtr .i64 (.v 4) (.k (.int .i64 (0))))]))))))))
 (.rq (.bool (.v 1))
 (.br (.v 1)
  (.ret [(.k (.int .i64 (0))), (.k (.int .i64 (6)))])
  (.prim 4 2 (opr Try.f78 4 2) [(.cell (.v 0) 1 0 noI)]
  (.rq (.int .i64 (.v 2))
  (.loop [(.k (.int .u64 (0))), (.op2 .sub .i64 (.v 2) (.k (.int .i64 (1))))]
   (.rq (.int .i64 (.v 4))
   (.br (.op2 .geq .i64 (.v 4) (.k (.int .i64 (0))))
    (.rq (.int .u64 (.v 3))
    (.prim 7 5 (opr Try.f78 7 5) [(.cell (.v 0) 1 0 noI), (.v 4)]
    (.prim 7 6 (opr Try.f78 7 6) [(.v 5)]
    (.rq (.int .i64 (.v 6))
    (.next 0 [(.op2 .add .u64 (.op2 .mul .u64 (.v 3) (.k (.int .u64 (4294967296)))) (.cv .u64 (.v 6))), (.op2 .sub .i64 (.v 4) (.k (.int .i64 (1))))])))))
    (.join 1
     (.rq (.bool (.cell (.v 0) 0 0 noI))
     (.br (.cell (.v 0) 0 0 noI)
      (.rq (.int .u64 (.v 3))
      (.next 1 [(.op1 .neg .u64 (.v 3))]))
      (.next 1 [(.v 3)])))
     (.rq (.int .u64 (.v 5))
     (.ret [(.cv .i64 (.v 5)), (.k (.int .i64 (0)))])))))))))))) := by kernel_rfl
theorem np_rInteger : (Try.prog.funcs[78]?).map (fun fn => fn.params.size + fn.nfree) = some 1 := by kernel_rfl
theorem op_rInteger_4_2 : (opr Try.f78 4 2).op = .call ⟨.builtin .len, #[(.tmp 17)], #[79]⟩ := by kernel_rfl
theorem op_rInteger_7_5 : (opr Try.f78 7 5).op = .indexAddr 79 (.tmp 27) (.tmp 28) := by kernel_rfl
theorem op_rInteger_7_6 : (opr Try.f78 7 6).op = .load 3 (.tmp 29) := by kernel_rfl
theorem tr_rInt : tree Try.prog [] [] [] [] 42 = some (.rq (.cells 8 (.v 0))
(.call false 61 [(.ag (.v 0))]
(.call false 78 [(.v 1)]
(.rq (.tup 0 (.v 2))
(.rq (.tup 1 (.v 2))
(.ret [(.proj (.v 2) 0), (.proj (.v 2) 1)])))))) := by kernel_rfl
theorem np_rInt : (Try.prog.funcs[42]?).map (fun fn => fn.params.size + fn.nfree) = some 1 := by kernel_rfl
theorem tr_rSign : tree Try.prog [] [] [] [] 43 = some (.rq (.cells 8 (.v 0))
(.call false 61 [(.ag (.v 0))]
(.call false 79 [(.v 1), (.cat (.z 4) 1 (.z 79))]
(.ret [(.v 2)])))) := by kernel_rfl
theorem np_rSign : (Try.prog.funcs[43]?).map (fun fn => fn.params.size + fn.nfree) = some 1 := by kernel_rfl
theorem tr_rCmp : tree Try.prog [] [] [] [⟨1, [0, 1, 0, 7, 15, 31], [5, 2, 5, 2, 2, 0], [0, 0, 1, 0, 0, 0], [0, 2, 1, 3, 4, 5], []⟩] 44 = some (.rq (.cells 8 (.v 0))
(.rq (.cells 8 (.v 1))
(.call true 61 [(.ag (.v 0))]
(.call true 61 [(.ag (.v 1))]
(.call true 79 [(.v 2), (.v 3)]
(.ret [(.v 4)])))))) := by kernel_rfl
theorem np_rCmp : (Try.prog.funcs[44]?).map (fun fn => fn.params.size + fn.nfree) = some 2 := by kernel_rfl
theorem tr_rNeg : tree Try.prog [] [] [] [] 23 = some (.rq (.cells 8 (.v 0))
(.call false 61 [(.ag (.v 0))]
(.call false 70 [(.v 1)]
(.call false 62 [(.v 2)]
(.rq (.tup 0 (.v 3))
(.rq (.tup 1 (.v 3))
(.rq (.cells 8 (.proj (.v 3) 0))
(.ret [(.ag (.proj (.v 3) 0)), (.proj (.v 3) 1)])))))))) := by kernel_rfl
theorem np_rNeg : (Try.prog.funcs[23]?).map (fun fn => fn.params.size + fn.nfree) = some 1 := by kernel_rfl
theorem tr_rAbs : tree Try.prog [] [] [] [] 25 = some (.rq (.cells 8 (.v 0))
(.call false 61 [(.ag (.v 0))]
(.rq (.agg 2 (.v 1))
(.rq (.cells 1 (.cell (.v 1) 1 0 noI))
(.call false 62 [(.cat (.z 4) 1 (.cell (.v 1) 1 0 noI))]
(.rq (.tup 0 (.v 2))
(.rq (.tup 1 (.v 2))
(.rq (.cells 8 (.proj (.v 2) 0))
(.ret [(.ag (.proj (.v 2) 0)), (.proj (.v 2) 1)]))))))))) := by kernel_rfl
theorem np_rAbs : (Try.prog.funcs[25]?).map (fun fn => fn.params.size + fn.nfree) = some 1 := by kernel_rfl
theorem tr_rAdd : tree Try.prog [] [] [] [⟨1, [0, 1, 0, 7, 15, 31, 63, 63, 255, 511], [5, 2, 5, 2, 2, 2, 0, 0, 6, 0], [0, 0, 1, 0, 0, 0, 0, 0, 2, 0], [0, 2, 1, 3, 4, 5, 6, 7], [8, 9]⟩] 27 = some (.rq (.cells 8 (.v 0))
(.rq (.cells 8 (.v 1))
(.call true 61 [(.ag (.v 0))]
(.call true 61 [(.ag (.v 1))]
(.call true 72 [(.v 2), (.v 3)]
(.call true 62 [(.v 4)]
(.rq (.tup 0 (.v 5))
(.rq (.tup 1 (.v 5))
(.rq (.cells 8 (.proj (.v 5) 0))
(.ret [(.ag (.proj (.v 5) 0)), (.proj (.v 5) 1)])))))))))) := by kernel_rfl
theorem np_rAdd : (Try.prog.funcs[27]?).map (fun fn => fn.params.size + fn.nfree) = some 2 := by kernel_rfl
theorem tr_rSub : tree Try.prog [] [] [] [⟨1, [0, 1, 0, 7, 15, 31, 63, 63, 255, 511], [5, 2, 5, 2, 2, 2, 0, 0, 6, 0], [0, 0, 1, 0, 0, 0, 0, 0, 2, 0], [0, 2, 1, 3, 4, 5, 6, 7], [8, 9]⟩] 29 = some (.rq (.cells 8 (.v 0))
(.rq (.cells 8 (.v 1))
(.call true 61 [(.ag (.v 0))]
(.call true 61 [(.ag (.v 1))]
(.call true 73 [(.v 2), (.v 3)]
(.call true 62 [(.v 4)]
(.rq (.tup 0 (.v 5))
(.rq (.tup 1 (.v 5))
(.rq (.cells 8 (.proj (.v 5) 0))
(.ret [(.ag (.proj (.v 5) 0)), (.proj (.v 5) 1)])))))))))) := by kernel_rfl
theorem np_rSub : (Try.prog.funcs[29]?).map (fun fn => fn.params.size + fn.nfree) = some 2 := by kernel_rfl
theorem tr_rMul : tree Try.prog [] [] [] [⟨1, [0, 1, 0, 7, 15, 31, 63, 63, 255, 511], [5, 2, 5, 2, 2, 2, 0, 0, 6, 0], [0, 0, 1, 0, 0, 0, 0, 0, 2, 0], [0, 2, 1, 3, 4, 5, 6, 7], [8, 9]⟩] 31 = some (.rq (.cells 8 (.v 0))
(.rq (.cells 8 (.v 1))
(.call true 61 [(.ag (.v 0))]
(.call true 61 [(.ag (.v 1))]
(.call true 66 [(.v 2), (.v 3)]
(.call true 62 [(.v 4)]
(.rq (.tup 0 (.v 5))
(.rq (.tup 1 (.v 5))
(.rq (.cells 8 (.proj (.v 5) 0))
(.ret [(.ag (.proj (.v 5) 0)), (.proj (.v 5) 1)])))))))))) := by kernel_rfl
theorem np_rMul : (Try.prog.funcs[31]?).map (fun fn => fn.params.size + fn.nfree) = some 2 := by kernel_rfl
theorem tr_rDiv : tree Try.prog [] [] [] [⟨3, [0, 1, 0, 7, 15, 31, 63, 63, 0, 0, 895, 2047], [5, 2, 5, 2, 2, 0, 0, 0, 3, 3, 4, 4], [0, 0, 1, 0, 0, 0, 0, 0, 0, 0, 0, 0], [0, 2, 1, 3, 4, 5, 6, 7, 8, 9], [10, 11]⟩, ⟨8, [0, 0, 0, 1, 11, 31], [5, 5, 0, 6, 6, 0], [6, 7, 0, 2, 3, 0], [0, 1, 2], [3, 4, 5]⟩] 15 = some (.rq (.cells 8 (.v 0))
(.rq (.cells 8 (.v 1))
(.prim 1 2 (opr Try.f15 1 2) [(.ag (.v 1)), (.z 24)]
(.rq (.bool (.v 2))
(.br (.v 2)
 (.ret [(.z 24), (.z 24), (.k (.int .i64 (7)))])
 (.call true 61 [(.ag (.v 0))]
 (.call true 61 [(.ag (.v 1))]
 (.call true 60 [(.v 3), (.v 4)]
 (.rq (.tup 0 (.v 5))
 (.rq (.tup 1 (.v 5))
 (.rq (.cells 2 (.proj (.v 5) 0))
 (.rq (.cells 2 (.proj (.v 5) 1))
 (.call false 62 [(.ag (.proj (.v 5) 0))]
 (.rq (.tup 0 (.v 6))
 (.rq (.tup 1 (.v 6))
 (.rq (.cells 8 (.proj (.v 6) 0))
 (.rq (.int .i64 (.proj (.v 6) 1))
 (.br (.op2 .neq .i64 (.proj (.v 6) 1) (.k (.int .i64 (0))))
  (.ret [(.z 24), (.z 24), (.proj (.v 6) 1)])
  (.call false 62 [(.ag (.proj (.v 5) 1))]
  (.rq (.tup 0 (.v 7))
  (.rq (.tup 1 (.v 7))
  (.rq (.cells 8 (.proj (.v 7) 0))
  (.ret [(.ag (.proj (.v 6) 0)), (.ag (.proj (.v 7) 0)), (.proj (.v 7) 1)]))))))))))))))))))))))) := by kernel_rfl
theorem np_rDiv : (Try.prog.funcs[15]?).map (fun fn => fn.params.size + fn.nfree) = some 2 := by kernel_rfl
theorem op_rDiv_1_2 : (opr Try.f15 1 2).op = .binOp .eql 24 (.tmp 13) (.tmp 14) 24 := by kernel_rfl
theorem tr_rGcd : tree Try.prog [] [] [] [⟨1, [0, 1, 0, 7, 15, 31, 63, 63, 255, 511], [5, 2, 5, 2, 2, 2, 0, 0, 6, 0], [0, 0, 1, 0, 0, 0, 0, 0, 2, 0], [0, 2, 1, 3, 4, 5, 6, 7], [8, 9]⟩] 17 = some (.rq (.cells 8 (.v 0))
(.rq (.cells 8 (.v 1))
(.call true 61 [(.ag (.v 0))]
(.call true 61 [(.ag (.v 1))]
(.call true 64 [(.v 2), (.v 3)]
(.call true 62 [(.v 4)]
(.rq (.tup 0 (.v 5))
(.rq (.tup 1 (.v 5))
(.rq (.cells 8 (.proj (.v 5) 0))
(.ret [(.ag (.proj (.v 5) 0)), (.proj (.v 5) 1)])))))))))) := by kernel_rfl
theorem np_rGcd : (Try.prog.funcs[17]?).map (fun fn => fn.params.size + fn.nfree) = some 2 := by kernel_rfl
theorem tr_rPow : tree Try.prog [] [] [⟨3, 1, [14], []⟩, ⟨0, 5, [], [3]⟩] [] 19 = some (.rq (.cells 8 (.v 0))
(.join 1
 (.rq (.int .i64 (.v 1))
 (.br (.op2 .lss .i64 (.v 1) (.k (.int .i64 (0))))
  (.next 0 [(.k (.bool true))])
  (.next 0 [(.op2 .gtr .i64 (.v 1) (.k (.int .i64 (600))))])))
 (.rq (.bool (.v 2))
 (.br (.v 2)
  (.ret [(.z 24), (.k (.int .i64 (2)))])
  (.call false 61 [(.ag (.v 0))]
  (.call false 65 [(.k (.int .i64 (1)))]
  (.rq (.cells 2 (.v 3))
  (.rq (.cells 2 (.v 4))
  (.loop [(.k (.int .i64 (0))), (.k (.int .i64 (0))), (.v 4)]
   (.rq (.int .i64 (.v 6))
   (.rq (.int .i64 (.v 1))
   (.br (.op2 .lss .i64 (.v 6) (.v 1))
    (.call false 66 [(.ag (.v 7)), (.ag (.v 3))]
    (.rq (.cells 2 (.v 8))
    (.prim 8 2 (opr Try.f19 8 2) [(.cell (.v 8) 1 0 noI)]
    (.rq (.int .i64 (.v 9))
    (.br (.op2 .gtr .i64 (.v 9) (.k (.int .i64 (17))))
     (.ret [(.z 24), (.k (.int .i64 (6)))])
     (.next 0 [(.v 5), (.op2 .add .i64 (.v 6) (.k (.int .i64 (1)))), (.v 8)]))))))
    (.call false 62 [(.ag (.v 7))]
    (.rq (.tup 0 (.v 8))
    (.rq (.tup 1 (.v 8))
    (.rq (.cells 8 (.proj (.v 8) 0))
    (.ret [(.ag (.proj (.v 8) 0)), (.proj (.v 8) 1)]))))))))))))))))) := by kernel_rfl
theorem np_rPow : (Try.prog.funcs[19]?).map (fun fn => fn.params.size + fn.nfree) = some 2 := by kernel_rfl
theorem op_rPow_8_2 : (opr Try.f19 8 2).op = .call ⟨.builtin .len, #[(.tmp 28)], #[79]⟩ := by kernel_rfl
theorem tr_rRoot : tree Try.prog [] [] [] [] 21 = some (.rq (.cells 8 (.v 0))
(.call false 61 [(.ag (.v 0))]
(.rq (.cells 2 (.v 1))
(.rq (.bool (.cell (.v 1) 0 0 noI))
(.br (.cell (.v 1) 0 0 noI)
 (.ret [(.z 24), (.k (.int .i64 (2)))])
 (.call false 68 [(.ag (.v 1))]
 (.call false 62 [(.v 2)]
 (.rq (.tup 0 (.v 3))
 (.rq (.tup 1 (.v 3))
 (.rq (.cells 8 (.proj (.v 3) 0))
 (.ret [(.ag (.proj (.v 3) 0)), (.proj (.v 3) 1)]))))))))))) := by kernel_rfl
theorem np_rRoot : (Try.prog.funcs[21]?).map (fun fn => fn.params.size + fn.nfree) = some 1 := by kernel_rfl
theorem tr_rWithin : tree Try.prog [] [] [⟨3, 4, [22], []⟩, ⟨3, 11, [9], []⟩, ⟨0, 4, [], [2]⟩, ⟨0, 9, [], []⟩] [⟨13, [0, 0, 0, 6, 15, 31], [5, 2, 0, 2, 2, 6], [2, 0, 0, 0, 0, 2], [0, 2, 1, 3, 4], [5]⟩, ⟨15, [0, 0, 2, 6, 14, 30, 63, 127], [5, 1, 1, 0, 0, 2, 2, 6], [2, 0, 0, 0, 0, 0, 0, 2], [0, 1, 2, 3, 4, 5, 6], [7]⟩] 37 = some (.rq (.cells 3 (.v 0))
(.loop [(.k (.slice none 0 0)), (.k (.int .i64 (0))), (.cat (.z 4) 1 (.z 79))]
 (.join 1
  (.prim 4 3 (opr Try.f37 4 3) [(.cell (.v 0) 1 0 noI)]
  (.rq (.int .i64 (.v 3))
  (.rq (.int .i64 (.v 5))
  (.br (.op2 .lss .i64 (.v 3) (.v 5))
   (.next 1 [(.op2 .lss .i64 (.v 3) (.k (.int .i64 (6))))])
   (.next 1 [(.k (.bool false))])))))
  (.rq (.bool (.v 5))
  (.br (.v 5)
   (.prim 6 3 (opr Try.f37 6 3) [(.cell (.v 0) 1 0 noI), (.v 3)]
   (.prim 6 4 (opr Try.f37 6 4) [(.v 6)]
   (.rq (.int .u16 (.v 7))
   (.rq (.int .i64 (.v 1))
   (.rq (.nz (.v 1))
   (.loop [(.k (.bool false)), (.k (.int .i64 (0)))]
    (.prim 9 2 (opr Try.f37 9 2) [(.v 2)]
    (.rq (.int .i64 (.v 9))
    (.rq (.int .i64 (.v 10))
    (.br (.op2 .lss .i64 (.v 9) (.v 10))
     (.join 1
      (.rq (.bool (.v 8))
      (.br (.v 8)
       (.next 2 [(.k (.bool true))])
       (.prim 11 4 (opr Try.f37 11 4) [(.v 2), (.v 9)]
       (.prim 11 5 (opr Try.f37 11 5) [(.v 11)]
       (.rq (.int .i64 (.v 12))
       (.next 2 [(.op2 .eql .i64 (.v 12) (.op2 .rem .i64 (.cv .i64 (.v 7)) (.v 1)))]))))))
      (.next 1 [(.v 11), (.op2 .add .i64 (.v 9) (.k (.int .i64 (1))))]))
     (.rq (.bool (.v 8))
     (.br (.nt (.v 8))
      (.call true 65 [(.k (.int .i64 (2)))]
      (.call true 77 [(.v 11), (.op2 .rem .i64 (.cv .i64 (.v 7)) (.v 1))]
      (.call true 72 [(.ag (.v 4)), (.v 12)]
      (.rq (.cells 2 (.v 13))
      (.eff false 14 2 (opr Try.f37 14 2) [(.op2 .rem .i64 (.cv .i64 (.v 7)) (.v 1))]
      (.eff false 14 3 (opr Try.f37 14 3) [(.v 2), (.v 14)]
      (.rq (.int .i64 (.v 3))
      (.next 0 [(.v 15), (.op2 .add .i64 (.v 3) (.k (.int .i64 (1)))), (.v 13)]))))))))
      (.rq (.int .i64 (.v 3))
      (.next 0 [(.v 2), (.op2 .add .i64 (.v 3) (.k (.int .i64 (1)))), (.v 4)]))))))))))))))
   (.rq (.int .u32 (.cell (.v 0) 2 0 noI))
   (.call true 65 [(.cv .i64 (.op2 .rem .u32 (.cell (.v 0) 2 0 noI) (.k (.int .u32 (4)))))]
   (.call true 73 [(.ag (.v 4)), (.v 6)]
   (.rq (.cells 2 (.v 7))
   (.rq (.bool (.cell (.v 0) 0 0 noI))
   (.br (.cell (.v 0) 0 0 noI)
    (.call false 70 [(.ag (.v 7))]
    (.rq (.cells 2 (.v 8))
    (.call false 62 [(.ag (.v 8))]
    (.rq (.tup 0 (.v 9))
    (.rq (.tup 1 (.v 9))
    (.rq (.cells 8 (.proj (.v 9) 0))
    (.ret [(.ag (.proj (.v 9) 0))])))))))
    (.call false 62 [(.ag (.v 7))]
    (.rq (.tup 0 (.v 8))
    (.rq (.tup 1 (.v 8))
    (.rq (.cells 8 (.proj (.v 8) 0))
    (.ret [(.ag (.proj (.v 8) 0))])))))))))))))))) := by kernel_rfl
theorem np_rWithin : (Try.prog.funcs[37]?).map (fun fn => fn.params.size + fn.nfree) = some 2 := by kernel_rfl
theorem op_rWithin_4_3 : (opr Try.f37 4 3).op = .call ⟨.builtin .len, #[(.tmp 16)], #[25]⟩ := by kernel_rfl
theorem op_rWithin_6_3 : (opr Try.f37 6 3).op = .indexAddr 25 (.tmp 26) (.tmp 27) := by kernel_rfl
theorem op_rWithin_6_4 : (opr Try.f37 6 4).op = .load 94 (.tmp 28) := by kernel_rfl
theorem op_rWithin_9_2 : (opr Try.f37 9 2).op = .call ⟨.builtin .len, #[(.tmp 34)], #[79]⟩ := by kernel_rfl
theorem op_rWithin_11_4 : (opr Try.f37 11 4).op = .indexAddr 79 (.tmp 41) (.tmp 42) := by kernel_rfl
theorem op_rWithin_11_5 : (opr Try.f37 11 5).op = .load 3 (.tmp 43) := by kernel_rfl
theorem op_rWithin_14_2 : (opr Try.f37 14 2).op = .buildSlice 79 1 #[(0, (.tmp 56))] := by kernel_rfl
theorem op_rWithin_14_3 : (opr Try.f37 14 3).op = .call ⟨.builtin .append, #[(.tmp 55), (.tmp 57)], #[79, 79]⟩ := by kernel_rfl
theorem tr_rSmall : tree Try.prog [] [] [] [] 38 = some (.rq (.cells 3 (.v 0))
(.rq (.int .u32 (.cell (.v 0) 2 0 noI))
(.rq (.bool (.cell (.v 0) 0 0 noI))
(.br (.cell (.v 0) 0 0 noI)
 (.ret [(.op1 .neg .i64 (.cv .i64 (.op2 .rem .u32 (.cell (.v 0) 2 0 noI) (.k (.int .u32 (1000001))))))])
 (.ret [(.cv .i64 (.op2 .rem .u32 (.cell (.v 0) 2 0 noI) (.k (.int .u32 (1000001)))))]))))) := by kernel_rfl
theorem np_rSmall : (Try.prog.funcs[38]?).map (fun fn => fn.params.size + fn.nfree) = some 1 := by kernel_rfl
theorem tr_rWide : tree Try.prog [] [] [] [] 52 = some (.rq (.cells 3 (.v 0))
(.call false 37 [(.ag (.v 0)), (.k (.int .i64 (511)))]
(.rq (.cells 8 (.v 1))
(.ret [(.ag (.v 1))])))) := by kernel_rfl
theorem np_rWide : (Try.prog.funcs[52]?).map (fun fn => fn.params.size + fn.nfree) = some 1 := by kernel_rfl
end Go.Proofs.YtmndieeelnicpaaRR

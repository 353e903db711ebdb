/- MADE BY rxgen.py: the trees of the helpers of the laws of chapter 01. -/
import Derived.Test.YtimnofpofbnjbaaWdT
namespace Go.Proofs.Ytimnofpofbnjbaa
open Go.RowKit Go.RX
theorem tr_is : tree Try.prog [1] [] [] [] 19 = some (.rq (.cells 8 (.v 0))
(.pub 24 (.v 0)
(.eff false 1 0 (opr Try.f19 1 0) [(.v 1)]
(.ret [(.v 2)])))) := by kernel_rfl
theorem np_is : (Try.prog.funcs[19]?).map (fun fn => fn.params.size + fn.nfree) = some 1 := by kernel_rfl
theorem op_is_1_0 : (opr Try.f19 1 0).op = .makeFunc (.func 51) #[] #[(.tmp 1)] := by kernel_rfl
theorem tr_is1 : tree Try.prog [] [] [] [] 51 = some (.rq (.cells 8 (.v 0))
(.prim 1 1 (opr Try.f51 1 1) [(.v 2)]
(.prim 1 2 (opr Try.f51 1 2) [(.ag (.v 0)), (.v 3)]
(.rq (.bool (.v 4))
(.br (.v 4)
 (.rq (.int .i64 (.v 1))
 (.ret [(.op2 .eql .i64 (.v 1) (.k (.int .i64 (0))))]))
 (.ret [(.k (.bool false))])))))) := by kernel_rfl
theorem np_is1 : (Try.prog.funcs[51]?).map (fun fn => fn.params.size + fn.nfree) = some 3 := by kernel_rfl
theorem op_is1_1_1 : (opr Try.f51 1 1).op = .load 24 (.tmp 2) := by kernel_rfl
theorem op_is1_1_2 : (opr Try.f51 1 2).op = .binOp .eql 24 (.tmp 6) (.tmp 7) 24 := by kernel_rfl
theorem tr_fails : tree Try.prog [1] [] [] [] 15 = some (.rq (.cells 1 (.v 0))
(.pub 38 (.v 0)
(.eff false 1 0 (opr Try.f15 1 0) [(.v 1)]
(.ret [(.v 2)])))) := by kernel_rfl
theorem np_fails : (Try.prog.funcs[15]?).map (fun fn => fn.params.size + fn.nfree) = some 1 := by kernel_rfl
theorem op_fails_1_0 : (opr Try.f15 1 0).op = .makeFunc (.func 48) #[] #[(.tmp 1)] := by kernel_rfl
theorem tr_fails1 : tree Try.prog [] [] [] [] 48 = some (.rq (.cells 8 (.v 0))
(.prim 1 2 (opr Try.f48 1 2) [(.ag (.v 0)), (.z 24)]
(.rq (.bool (.v 3))
(.br (.v 3)
 (.prim 1 5 (opr Try.f48 1 5) [(.v 2)]
 (.rq (.int .i64 (.v 1))
 (.rq (.int .i64 (.v 4))
 (.ret [(.op2 .eql .i64 (.v 1) (.v 4))]))))
 (.ret [(.k (.bool false))]))))) := by kernel_rfl
theorem np_fails1 : (Try.prog.funcs[48]?).map (fun fn => fn.params.size + fn.nfree) = some 3 := by kernel_rfl
theorem op_fails1_1_2 : (opr Try.f48 1 2).op = .binOp .eql 24 (.tmp 6) (.tmp 7) 24 := by kernel_rfl
theorem op_fails1_1_5 : (opr Try.f48 1 5).op = .load 38 (.tmp 2) := by kernel_rfl
theorem tr_says : tree Try.prog [1] [] [] [] 11 = some (.rq (.cells 1 (.v 0))
(.pub 3 (.v 0)
(.eff false 1 0 (opr Try.f11 1 0) [(.v 1)]
(.ret [(.v 2)])))) := by kernel_rfl
theorem np_says : (Try.prog.funcs[11]?).map (fun fn => fn.params.size + fn.nfree) = some 1 := by kernel_rfl
theorem op_says_1_0 : (opr Try.f11 1 0).op = .makeFunc (.func 46) #[] #[(.tmp 1)] := by kernel_rfl
theorem tr_says1 : tree Try.prog [] [] [] [] 46 = some (.prim 1 1 (opr Try.f46 1 1) [(.v 2)]
(.rq (.int .i64 (.v 0))
(.rq (.int .i64 (.v 3))
(.br (.op2 .eql .i64 (.v 0) (.v 3))
 (.rq (.int .i64 (.v 1))
 (.ret [(.op2 .eql .i64 (.v 1) (.k (.int .i64 (0))))]))
 (.ret [(.k (.bool false))]))))) := by kernel_rfl
theorem np_says1 : (Try.prog.funcs[46]?).map (fun fn => fn.params.size + fn.nfree) = some 3 := by kernel_rfl
theorem op_says1_1_1 : (opr Try.f46 1 1).op = .load 3 (.tmp 2) := by kernel_rfl
theorem tr_stops : tree Try.prog [1] [] [] [] 13 = some (.rq (.cells 1 (.v 0))
(.pub 38 (.v 0)
(.eff false 1 0 (opr Try.f13 1 0) [(.v 1)]
(.ret [(.v 2)])))) := by kernel_rfl
theorem np_stops : (Try.prog.funcs[13]?).map (fun fn => fn.params.size + fn.nfree) = some 1 := by kernel_rfl
theorem op_stops_1_0 : (opr Try.f13 1 0).op = .makeFunc (.func 47) #[] #[(.tmp 1)] := by kernel_rfl
theorem tr_stops1 : tree Try.prog [] [] [] [] 47 = some (.rq (.int .i64 (.v 0))
(.br (.op2 .eql .i64 (.v 0) (.k (.int .i64 (0))))
 (.prim 1 4 (opr Try.f47 1 4) [(.v 2)]
 (.rq (.int .i64 (.v 1))
 (.rq (.int .i64 (.v 3))
 (.ret [(.op2 .eql .i64 (.v 1) (.v 3))]))))
 (.ret [(.k (.bool false))]))) := by kernel_rfl
theorem np_stops1 : (Try.prog.funcs[47]?).map (fun fn => fn.params.size + fn.nfree) = some 3 := by kernel_rfl
theorem op_stops1_1_4 : (opr Try.f47 1 4).op = .load 38 (.tmp 2) := by kernel_rfl
theorem tr_ends : tree Try.prog [1] [] [] [] 23 = some (.rq (.cells 1 (.v 0))
(.pub 38 (.v 0)
(.eff false 1 0 (opr Try.f23 1 0) [(.v 1)]
(.ret [(.v 2)])))) := by kernel_rfl
theorem np_ends : (Try.prog.funcs[23]?).map (fun fn => fn.params.size + fn.nfree) = some 1 := by kernel_rfl
theorem op_ends_1_0 : (opr Try.f23 1 0).op = .makeFunc (.func 55) #[] #[(.tmp 1)] := by kernel_rfl
theorem tr_ends1 : tree Try.prog [] [] [] [] 55 = some (.rq (.cells 8 (.v 0))
(.rq (.cells 8 (.v 1))
(.prim 1 2 (opr Try.f55 1 2) [(.ag (.v 0)), (.z 24)]
(.rq (.bool (.v 4))
(.br (.v 4)
 (.prim 1 6 (opr Try.f55 1 6) [(.ag (.v 1)), (.z 24)]
 (.rq (.bool (.v 5))
 (.br (.v 5)
  (.prim 1 10 (opr Try.f55 1 10) [(.v 3)]
  (.rq (.int .i64 (.v 2))
  (.rq (.int .i64 (.v 6))
  (.ret [(.op2 .eql .i64 (.v 2) (.v 6))]))))
  (.ret [(.k (.bool false))]))))
 (.ret [(.k (.bool false))])))))) := by kernel_rfl
theorem np_ends1 : (Try.prog.funcs[55]?).map (fun fn => fn.params.size + fn.nfree) = some 4 := by kernel_rfl
theorem op_ends1_1_2 : (opr Try.f55 1 2).op = .binOp .eql 24 (.tmp 8) (.tmp 9) 24 := by kernel_rfl
theorem op_ends1_1_6 : (opr Try.f55 1 6).op = .binOp .eql 24 (.tmp 12) (.tmp 13) 24 := by kernel_rfl
theorem op_ends1_1_10 : (opr Try.f55 1 10).op = .load 38 (.tmp 3) := by kernel_rfl
theorem tr_parts : tree Try.prog [2, 3] [] [] [] 21 = some (.rq (.cells 1 (.v 0))
(.pub 3 (.v 0)
(.rq (.cells 1 (.v 1))
(.pub 3 (.v 1)
(.eff false 1 0 (opr Try.f21 1 0) [(.v 2), (.v 3)]
(.ret [(.v 4)])))))) := by kernel_rfl
theorem np_parts : (Try.prog.funcs[21]?).map (fun fn => fn.params.size + fn.nfree) = some 2 := by kernel_rfl
theorem op_parts_1_0 : (opr Try.f21 1 0).op = .makeFunc (.func 52) #[] #[(.tmp 2), (.tmp 3)] := by kernel_rfl
theorem tr_parts1 : tree Try.prog [] [] [] [⟨1, [0, 0, 2, 7, 15, 31, 31, 95, 255, 511, 1023, 2047, 4095, 8191, 16383], [5, 1, 2, 1, 0, 5, 1, 2, 1, 0, 0, 0, 0, 0, 0], [0, 0, 0, 0, 0, 1, 0, 0, 0, 0, 0, 0, 0, 0, 0], [0, 1, 2, 3, 4, 5, 6, 7, 8, 9, 10, 11, 12, 13, 14], []⟩] 52 = some (.rq (.cells 8 (.v 0))
(.rq (.cells 8 (.v 1))
(.prim 1 1 (opr Try.f52 1 1) [(.v 3)]
(.call true 10 [(.v 5)]
(.prim 1 3 (opr Try.f52 1 3) [(.ag (.v 0)), (.v 6)]
(.rq (.bool (.v 7))
(.br (.v 7)
 (.prim 1 6 (opr Try.f52 1 6) [(.v 4)]
 (.call true 10 [(.v 8)]
 (.prim 1 8 (opr Try.f52 1 8) [(.ag (.v 1)), (.v 9)]
 (.rq (.bool (.v 10))
 (.br (.v 10)
  (.rq (.int .i64 (.v 2))
  (.ret [(.op2 .eql .i64 (.v 2) (.k (.int .i64 (0))))]))
  (.ret [(.k (.bool false))]))))))
 (.ret [(.k (.bool false))])))))))) := by kernel_rfl
theorem np_parts1 : (Try.prog.funcs[52]?).map (fun fn => fn.params.size + fn.nfree) = some 5 := by kernel_rfl
theorem op_parts1_1_1 : (opr Try.f52 1 1).op = .load 3 (.tmp 3) := by kernel_rfl
theorem op_parts1_1_3 : (opr Try.f52 1 3).op = .binOp .eql 24 (.tmp 9) (.tmp 11) 24 := by kernel_rfl
theorem op_parts1_1_6 : (opr Try.f52 1 6).op = .load 3 (.tmp 4) := by kernel_rfl
theorem op_parts1_1_8 : (opr Try.f52 1 8).op = .binOp .eql 24 (.tmp 14) (.tmp 16) 24 := by kernel_rfl
theorem tr_two : tree Try.prog [] [] [⟨2, 18, [], [1]⟩, ⟨0, 7, [], [1]⟩] [] 14 = some (.rq (.int .i64 (.v 0))
(.prim 3 3 (opr Try.f14 3 3) [(.v 0), (.op1 .neg .i64 (.v 0))]
(.rq (.int .i64 (.v 1))
(.rq (.nn (.op2 .rem .i64 (.v 1) (.k (.int .i64 (64)))))
(.rq (.lt 8 (.op2 .quo .i64 (.v 1) (.k (.int .i64 (64)))))
(.join 1
 (.br (.op2 .lss .i64 (.v 0) (.k (.int .i64 (0))))
  (.loop [(.op2 .add .i64 (.op2 .quo .i64 (.v 1) (.k (.int .i64 (64)))) (.k (.int .i64 (1)))), (.put (.z 24) 0 1 (.op2 .shl .u64 (.k (.int .u64 (1))) (.op2 .rem .i64 (.v 1) (.k (.int .i64 (64))))) 1 (.op2 .quo .i64 (.v 1) (.k (.int .i64 (64)))))]
   (.rq (.int .i64 (.v 2))
   (.br (.op2 .lss .i64 (.v 2) (.k (.int .i64 (8))))
    (.rq (.num (.v 2))
    (.rq (.lt 8 (.v 2))
    (.next 1 [(.op2 .add .i64 (.v 2) (.k (.int .i64 (1)))), (.put (.v 3) 0 1 (.k (.int .u64 (18446744073709551615))) 1 (.v 2))])))
    (.next 0 [(.put (.v 3) 0 1 (.op2 .and .u64 (.op1 .neg .u64 (.op2 .shl .u64 (.k (.int .u64 (1))) (.op2 .rem .i64 (.v 1) (.k (.int .i64 (64)))))) (.k (.int .u64 (18446744073709551615)))) 1 (.op2 .quo .i64 (.v 1) (.k (.int .i64 (64)))))]))))
  (.next 0 [(.put (.z 24) 0 1 (.op2 .shl .u64 (.k (.int .u64 (1))) (.op2 .rem .i64 (.v 1) (.k (.int .i64 (64))))) 1 (.op2 .quo .i64 (.v 1) (.k (.int .i64 (64)))))]))
 (.ret [(.ag (.v 2))]))))))) := by kernel_rfl
theorem np_two : (Try.prog.funcs[14]?).map (fun fn => fn.params.size + fn.nfree) = some 1 := by kernel_rfl
theorem op_two_3_3 : (opr Try.f14 3 3).op = .call ⟨.builtin .max, #[(.tmp 8), (.tmp 10)], #[3, 3]⟩ := by kernel_rfl
theorem tr_most : tree Try.prog [] [] [⟨0, 3, [], [1]⟩] [] 17 = some (.loop [(.k (.int .i64 (0))), (.z 24)]
 (.rq (.int .i64 (.v 0))
 (.br (.op2 .lss .i64 (.v 0) (.k (.int .i64 (8))))
  (.rq (.num (.v 0))
  (.rq (.lt 8 (.v 0))
  (.next 0 [(.op2 .add .i64 (.v 0) (.k (.int .i64 (1)))), (.put (.v 1) 0 1 (.k (.int .u64 (18446744073709551615))) 1 (.v 0))])))
  (.rq (.int .u64 (.cell (.v 1) 7 0 noI))
  (.ret [(.put (.v 1) 7 1 (.op2 .shr .u64 (.cell (.v 1) 7 0 noI) (.k (.int .u64 (1)))) 0 noI)]))))) := by kernel_rfl
theorem np_most : (Try.prog.funcs[17]?).map (fun fn => fn.params.size + fn.nfree) = some 0 := by kernel_rfl
theorem tr_works : tree Try.prog [] [(25, true), (33, true), (42, true), (50, true), (60, true), (71, true), (81, true), (91, true), (101, true), (111, true), (122, true), (132, true), (141, true), (150, true), (158, true), (168, true), (177, true), (186, true), (194, true), (17, false), (212, false)] [⟨0, 4, [], []⟩, ⟨0, 14, [], []⟩] [⟨9, [0, 0, 3, 7, 7, 31, 63, 127, 255, 511, 1023, 1023, 4095, 8191, 16383, 32767, 65535, 32767, 262143, 524287, 524287, 2097151, 4194303, 8388607, 16777215, 16777215, 67108863, 134217727, 134217727, 536870911, 1073741823, 2147483647, 4294967295, 8589934591, 17179869183, 34359738367, 68719476735, 137438953471, 137438953471, 549755813887, 1099511627775, 2199023255551, 4398046511103, 8796093022207, 17592186044415, 35184372088831, 70368744177663, 140737488355327, 140737488355327, 562949953421311, 1125899906842623, 2251799813685247], [2, 5, 2, 0, 0, 2, 0, 2, 2, 2, 0, 0, 2, 0, 0, 2, 2, 5, 2, 0, 0, 2, 0, 0, 2, 5, 2, 0, 0, 2, 0, 0, 2, 2, 2, 2, 2, 0, 0, 2, 0, 0, 5, 2, 2, 2, 2, 0, 0, 2, 0, 0], [0, 2, 0, 0, 0, 0, 0, 0, 0, 0, 0, 0, 0, 0, 0, 0, 0, 0, 0, 0, 0, 0, 0, 0, 0, 1, 0, 0, 0, 0, 0, 0, 0, 0, 0, 0, 0, 0, 0, 0, 0, 0, 1, 0, 0, 0, 0, 0, 0, 0, 0, 0], [1, 0, 2, 3, 4, 5, 6, 7, 8, 9, 10, 11, 12, 13, 14, 17, 15, 16, 18, 19, 20, 21, 22, 23, 25, 24, 26, 27, 28, 29, 30, 31, 32, 33, 34, 35, 36, 37, 38, 39, 40, 41, 42, 43, 44, 45, 46, 47, 48, 49, 50, 51], []⟩, ⟨10, [0, 1, 3, 7, 15, 31, 63, 63, 63, 511, 1023, 2047, 4095, 8191, 16383, 32767, 65535, 65535, 65535, 524287, 1048575, 2097151, 4194303, 8388607, 16777215, 33554431, 67108863, 67108863, 67108863, 536870911, 1073741823, 2147483647, 4294967295, 4294967295, 4294967295, 34359738367, 68719476735, 68719476735, 68719476735, 549755813887, 1099511627775, 2199023255551, 4398046511103, 4398046511103, 4398046511103, 35184372088831, 70368744177663, 70368744177663, 70368744177663, 562949953421311, 1125899906842623, 2251799813685247], [0, 0, 2, 2, 2, 2, 0, 0, 0, 2, 0, 0, 2, 2, 2, 2, 0, 0, 0, 2, 0, 0, 2, 2, 2, 2, 0, 0, 0, 2, 0, 0, 2, 5, 5, 2, 0, 0, 0, 2, 0, 0, 2, 5, 0, 2, 0, 0, 0, 2, 0, 0], [0, 0, 0, 0, 0, 0, 0, 0, 0, 0, 0, 0, 0, 0, 0, 0, 0, 0, 0, 0, 0, 0, 0, 0, 0, 0, 0, 0, 0, 0, 0, 0, 0, 1, 2, 0, 0, 0, 0, 0, 0, 0, 0, 0, 0, 0, 0, 0, 0, 0, 0, 0], [0, 1, 2, 3, 4, 5, 6, 7, 8, 9, 10, 11, 12, 13, 14, 15, 16, 17, 18, 19, 20, 21, 22, 23, 24, 25, 26, 27, 28, 29, 30, 31, 33, 34, 32, 35, 36, 37, 38, 39, 40, 41, 43, 44, 42, 45, 46, 47, 48, 49, 50, 51], []⟩, ⟨11, [0, 1, 3, 7, 15, 31, 63, 127, 127, 511, 1023, 2047, 4095, 4095, 4095, 32767, 65535, 65535, 262143, 524287, 1048575, 2097151, 4194303, 8388607, 16777215, 33554431, 33554431, 134217727, 268435455, 536870911, 1073741823, 2147483647, 4294967295, 8589934591, 8589934591, 34359738367, 68719476735, 137438953471, 274877906943, 549755813887, 274877906943, 2199023255551, 4398046511103, 4398046511103, 17592186044415, 35184372088831, 70368744177663], [0, 0, 2, 2, 2, 2, 2, 0, 0, 2, 0, 0, 2, 5, 0, 2, 0, 0, 2, 0, 0, 5, 2, 2, 2, 0, 0, 2, 0, 0, 2, 2, 2, 0, 0, 2, 0, 0, 5, 2, 0, 2, 0, 0, 2, 0, 0], [0, 0, 0, 0, 0, 0, 0, 0, 0, 0, 0, 0, 0, 1, 0, 0, 0, 0, 0, 0, 0, 1, 0, 0, 0, 0, 0, 0, 0, 0, 0, 0, 0, 0, 0, 0, 0, 0, 0, 0, 0, 0, 0, 0, 0, 0, 0], [0, 1, 2, 3, 4, 5, 6, 7, 8, 9, 10, 11, 13, 14, 12, 15, 16, 17, 18, 19, 20, 21, 22, 23, 24, 25, 26, 27, 28, 29, 30, 31, 32, 33, 34, 35, 36, 37, 38, 40, 39, 41, 42, 43, 44, 45, 46], []⟩, ⟨12, [0, 1, 3, 7, 15, 31, 63, 63, 255, 511, 1023, 2047, 4095, 8191, 16383, 32767, 32767, 131071, 262143, 524287, 1048575, 1048575, 4194303, 8388607, 8388607, 33554431, 67108863, 134217727, 268435455, 536870911, 1073741823, 2147483647, 2147483647, 8589934591, 17179869183, 34359738367], [0, 0, 2, 2, 2, 2, 0, 0, 2, 0, 0, 2, 2, 2, 2, 0, 0, 2, 0, 0, 2, 5, 2, 0, 0, 2, 0, 0, 2, 2, 2, 0, 0, 2, 0, 0], [0, 0, 0, 0, 0, 0, 0, 0, 0, 0, 0, 0, 0, 0, 0, 0, 0, 0, 0, 0, 0, 2, 0, 0, 0, 0, 0, 0, 0, 0, 0, 0, 0, 0, 0, 0], [0, 1, 2, 3, 4, 5, 6, 7, 8, 9, 10, 11, 12, 13, 14, 15, 16, 17, 18, 19, 21, 20, 22, 23, 24, 25, 26, 27, 28, 29, 30, 31, 32, 33, 34, 35], []⟩] 4 = some (.call false 10 [(.k (.int .i64 (1)))]
(.rq (.cells 8 (.v 0))
(.call false 10 [(.k (.int .i64 (-1)))]
(.rq (.cells 8 (.v 1))
(.loop [(.k (.bool false)), (.k (.int .i64 (0)))]
 (.rq (.int .i64 (.v 3))
 (.br (.op2 .lss .i64 (.v 3) (.k (.int .i64 (8))))
  (.rq (.num (.v 3))
  (.rq (.lt 8 (.v 3))
  (.rq (.int .u64 (.cell (.ag (.v 1)) 0 1 (.v 3)))
  (.rq (.isb false (.op2 .neq .u64 (.cell (.ag (.v 1)) 0 1 (.v 3)) (.k (.int .u64 (18446744073709551615)))))
  (.next 0 [(.v 2), (.op2 .add .i64 (.v 3) (.k (.int .i64 (1))))])))))
  (.call true 11 [(.k (.int .i64 (-1)))]
  (.call true 12 [(.ag (.v 1))]
  (.rq (.tup 0 (.v 5))
  (.rq (.tup 1 (.v 5))
  (.eff true 9 5 (opr Try.f4 9 5) [(.v 4), (.proj (.v 5) 0), (.proj (.v 5) 1)]
  (.rq (.isb true (.v 6))
  (.call true 13 [(.k (.int .i64 (6)))]
  (.call true 14 [(.k (.int .i64 (63)))]
  (.call true 12 [(.v 8)]
  (.rq (.tup 0 (.v 9))
  (.rq (.tup 1 (.v 9))
  (.eff true 9 12 (opr Try.f4 9 12) [(.v 7), (.proj (.v 9) 0), (.proj (.v 9) 1)]
  (.rq (.isb true (.v 10))
  (.call true 15 [(.k (.int .i64 (6)))]
  (.call true 17 []
  (.call true 16 [(.v 12), (.ag (.v 0))]
  (.rq (.tup 0 (.v 13))
  (.rq (.tup 1 (.v 13))
  (.eff true 9 21 (opr Try.f4 9 21) [(.v 11), (.proj (.v 13) 0), (.proj (.v 13) 1)]
  (.rq (.isb true (.v 14))
  (.call true 15 [(.k (.int .i64 (6)))]
  (.call true 18 [(.put (.z 24) 7 1 (.k (.int .u64 (9223372036854775808))) 0 noI)]
  (.rq (.tup 0 (.v 16))
  (.rq (.tup 1 (.v 16))
  (.eff true 9 29 (opr Try.f4 9 29) [(.v 15), (.proj (.v 16) 0), (.proj (.v 16) 1)]
  (.rq (.isb true (.v 17))
  (.call true 14 [(.k (.int .i64 (510)))]
  (.call true 19 [(.v 18)]
  (.call true 14 [(.k (.int .i64 (255)))]
  (.call true 14 [(.k (.int .i64 (255)))]
  (.call true 20 [(.v 20), (.v 21)]
  (.rq (.tup 0 (.v 22))
  (.rq (.tup 1 (.v 22))
  (.eff true 9 39 (opr Try.f4 9 39) [(.v 19), (.proj (.v 22) 0), (.proj (.v 22) 1)]
  (.rq (.isb true (.v 23))
  (.call true 19 [(.put (.z 24) 7 1 (.k (.int .u64 (9223372036854775808))) 0 noI)]
  (.call true 14 [(.k (.int .i64 (256)))]
  (.call true 14 [(.k (.int .i64 (-255)))]
  (.call true 20 [(.v 25), (.v 26)]
  (.rq (.tup 0 (.v 27))
  (.rq (.tup 1 (.v 27))
  (.eff true 9 49 (opr Try.f4 9 49) [(.v 24), (.proj (.v 27) 0), (.proj (.v 27) 1)]
  (.rq (.isb true (.v 28))
  (.call true 21 [(.k (.int .i64 (-4))), (.k (.int .i64 (1)))]
  (.call true 10 [(.k (.int .i64 (-7)))]
  (.call true 10 [(.k (.int .i64 (2)))]
  (.call true 22 [(.v 30), (.v 31)]
  (.rq (.tup 0 (.v 32))
  (.rq (.tup 1 (.v 32))
  (.rq (.tup 2 (.v 32))
  (.eff true 10 9 (opr Try.f4 10 9) [(.v 29), (.proj (.v 32) 0), (.proj (.v 32) 1), (.proj (.v 32) 2)]
  (.rq (.isb true (.v 33))
  (.call true 21 [(.k (.int .i64 (-3))), (.k (.int .i64 (1)))]
  (.call true 10 [(.k (.int .i64 (7)))]
  (.call true 10 [(.k (.int .i64 (-2)))]
  (.call true 22 [(.v 35), (.v 36)]
  (.rq (.tup 0 (.v 37))
  (.rq (.tup 1 (.v 37))
  (.rq (.tup 2 (.v 37))
  (.eff true 10 19 (opr Try.f4 10 19) [(.v 34), (.proj (.v 37) 0), (.proj (.v 37) 1), (.proj (.v 37) 2)]
  (.rq (.isb true (.v 38))
  (.call true 21 [(.k (.int .i64 (4))), (.k (.int .i64 (1)))]
  (.call true 10 [(.k (.int .i64 (-7)))]
  (.call true 10 [(.k (.int .i64 (-2)))]
  (.call true 22 [(.v 40), (.v 41)]
  (.rq (.tup 0 (.v 42))
  (.rq (.tup 1 (.v 42))
  (.rq (.tup 2 (.v 42))
  (.eff true 10 29 (opr Try.f4 10 29) [(.v 39), (.proj (.v 42) 0), (.proj (.v 42) 1), (.proj (.v 42) 2)]
  (.rq (.isb true (.v 43))
  (.call true 23 [(.k (.int .i64 (6)))]
  (.call true 22 [(.put (.z 24) 7 1 (.k (.int .u64 (9223372036854775808))) 0 noI), (.ag (.v 1))]
  (.rq (.tup 0 (.v 45))
  (.rq (.tup 1 (.v 45))
  (.rq (.tup 2 (.v 45))
  (.eff true 10 39 (opr Try.f4 10 39) [(.v 44), (.proj (.v 45) 0), (.proj (.v 45) 1), (.proj (.v 45) 2)]
  (.rq (.isb true (.v 46))
  (.call true 23 [(.k (.int .i64 (7)))]
  (.call true 22 [(.ag (.v 0)), (.z 24)]
  (.rq (.tup 0 (.v 48))
  (.rq (.tup 1 (.v 48))
  (.rq (.tup 2 (.v 48))
  (.eff true 10 49 (opr Try.f4 10 49) [(.v 47), (.proj (.v 48) 0), (.proj (.v 48) 1), (.proj (.v 48) 2)]
  (.rq (.isb true (.v 49))
  (.call true 10 [(.k (.int .i64 (6)))]
  (.call true 19 [(.v 50)]
  (.call true 10 [(.k (.int .i64 (-12)))]
  (.call true 10 [(.k (.int .i64 (18)))]
  (.call true 24 [(.v 52), (.v 53)]
  (.rq (.tup 0 (.v 54))
  (.rq (.tup 1 (.v 54))
  (.eff true 11 9 (opr Try.f4 11 9) [(.v 51), (.proj (.v 54) 0), (.proj (.v 54) 1)]
  (.rq (.isb true (.v 55))
  (.call true 15 [(.k (.int .i64 (6)))]
  (.call true 24 [(.put (.z 24) 7 1 (.k (.int .u64 (9223372036854775808))) 0 noI), (.z 24)]
  (.rq (.tup 0 (.v 57))
  (.rq (.tup 1 (.v 57))
  (.eff true 11 18 (opr Try.f4 11 18) [(.v 56), (.proj (.v 57) 0), (.proj (.v 57) 1)]
  (.rq (.isb true (.v 58))
  (.call true 19 [(.put (.z 24) 7 1 (.k (.int .u64 (9223372036854775808))) 0 noI)]
  (.call true 10 [(.k (.int .i64 (-2)))]
  (.call true 25 [(.v 60), (.k (.int .i64 (511)))]
  (.rq (.tup 0 (.v 61))
  (.rq (.tup 1 (.v 61))
  (.eff true 11 27 (opr Try.f4 11 27) [(.v 59), (.proj (.v 61) 0), (.proj (.v 61) 1)]
  (.rq (.isb true (.v 62))
  (.call true 15 [(.k (.int .i64 (6)))]
  (.call true 10 [(.k (.int .i64 (2)))]
  (.call true 25 [(.v 64), (.k (.int .i64 (511)))]
  (.rq (.tup 0 (.v 65))
  (.rq (.tup 1 (.v 65))
  (.eff true 11 35 (opr Try.f4 11 35) [(.v 63), (.proj (.v 65) 0), (.proj (.v 65) 1)]
  (.rq (.isb true (.v 66))
  (.call true 19 [(.ag (.v 0))]
  (.call true 25 [(.z 24), (.k (.int .i64 (0)))]
  (.rq (.tup 0 (.v 68))
  (.rq (.tup 1 (.v 68))
  (.eff true 11 44 (opr Try.f4 11 44) [(.v 67), (.proj (.v 68) 0), (.proj (.v 68) 1)]
  (.rq (.isb true (.v 69))
  (.call true 10 [(.k (.int .i64 (8)))]
  (.call true 19 [(.v 70)]
  (.call true 10 [(.k (.int .i64 (80)))]
  (.call true 26 [(.v 72)]
  (.rq (.tup 0 (.v 73))
  (.rq (.tup 1 (.v 73))
  (.eff true 12 8 (opr Try.f4 12 8) [(.v 71), (.proj (.v 73) 0), (.proj (.v 73) 1)]
  (.rq (.isb true (.v 74))
  (.call true 10 [(.k (.int .i64 (9)))]
  (.call true 19 [(.v 75)]
  (.call true 10 [(.k (.int .i64 (81)))]
  (.call true 26 [(.v 77)]
  (.rq (.tup 0 (.v 78))
  (.rq (.tup 1 (.v 78))
  (.eff true 12 17 (opr Try.f4 12 17) [(.v 76), (.proj (.v 78) 0), (.proj (.v 78) 1)]
  (.rq (.isb true (.v 79))
  (.call true 15 [(.k (.int .i64 (2)))]
  (.call true 26 [(.ag (.v 1))]
  (.rq (.tup 0 (.v 81))
  (.rq (.tup 1 (.v 81))
  (.eff true 12 25 (opr Try.f4 12 25) [(.v 80), (.proj (.v 81) 0), (.proj (.v 81) 1)]
  (.rq (.isb true (.v 82))
  (.call true 10 [(.k (.int .i64 (-17)))]
  (.call true 19 [(.v 83)]
  (.call true 8 [(.k (.string ⟨#[45, 49, 55]⟩))]
  (.rq (.tup 0 (.v 85))
  (.rq (.tup 1 (.v 85))
  (.eff true 12 33 (opr Try.f4 12 33) [(.v 84), (.proj (.v 85) 0), (.proj (.v 85) 1)]
  (.loop [(.v 2), (.k (.int .i64 (0)))]
   (.rq (.int .i64 (.v 88))
   (.br (.op2 .lss .i64 (.v 88) (.k (.int .i64 (3))))
    (.rq (.num (.v 88))
    (.rq (.lt 3 (.v 88))
    (.call false 15 [(.k (.int .i64 (5)))]
    (.call false 8 [(.cell (.put (.put (.put (.z 60) 0 1 (.k (.string ⟨#[45, 48]⟩)) 0 noI) 1 1 (.k (.string ⟨#[48, 49, 55]⟩)) 0 noI) 2 1 (.k (.string ⟨#[]⟩)) 0 noI) 0 1 (.v 88))]
    (.rq (.tup 0 (.v 90))
    (.rq (.tup 1 (.v 90))
    (.eff false 16 5 (opr Try.f4 16 5) [(.v 89), (.proj (.v 90) 0), (.proj (.v 90) 1)]
    (.rq (.bool (.v 91))
    (.rq (.isb false (.nt (.v 91)))
    (.next 1 [(.v 87), (.op2 .add .i64 (.v 88) (.k (.int .i64 (1))))]))))))))))
    (.ret [(.v 86)])))))))))))))))))))))))))))))))))))))))))))))))))))))))))))))))))))))))))))))))))))))))))))))))))))))))))))))))))))))))))))))))))))))))))))))))))))))))))))))) := by kernel_rfl
theorem np_works : (Try.prog.funcs[4]?).map (fun fn => fn.params.size + fn.nfree) = some 0 := by kernel_rfl
theorem op_works_9_5 : (opr Try.f4 9 5).op = .call ⟨.value (.tmp 19), #[(.tmp 22), (.tmp 23)], #[3, 38]⟩ := by kernel_rfl
theorem op_works_9_12 : (opr Try.f4 9 12).op = .call ⟨.value (.tmp 26), #[(.tmp 29), (.tmp 30)], #[3, 38]⟩ := by kernel_rfl
theorem op_works_9_21 : (opr Try.f4 9 21).op = .call ⟨.value (.tmp 34), #[(.tmp 38), (.tmp 39)], #[24, 38]⟩ := by kernel_rfl
theorem op_works_9_29 : (opr Try.f4 9 29).op = .call ⟨.value (.tmp 43), #[(.tmp 46), (.tmp 47)], #[24, 38]⟩ := by kernel_rfl
theorem op_works_9_39 : (opr Try.f4 9 39).op = .call ⟨.value (.tmp 52), #[(.tmp 56), (.tmp 57)], #[24, 38]⟩ := by kernel_rfl
theorem op_works_9_49 : (opr Try.f4 9 49).op = .call ⟨.value (.tmp 62), #[(.tmp 66), (.tmp 67)], #[24, 38]⟩ := by kernel_rfl
theorem op_works_10_9 : (opr Try.f4 10 9).op = .call ⟨.value (.tmp 72), #[(.tmp 76), (.tmp 77), (.tmp 78)], #[24, 24, 38]⟩ := by kernel_rfl
theorem op_works_10_19 : (opr Try.f4 10 19).op = .call ⟨.value (.tmp 82), #[(.tmp 86), (.tmp 87), (.tmp 88)], #[24, 24, 38]⟩ := by kernel_rfl
theorem op_works_10_29 : (opr Try.f4 10 29).op = .call ⟨.value (.tmp 92), #[(.tmp 96), (.tmp 97), (.tmp 98)], #[24, 24, 38]⟩ := by kernel_rfl
theorem op_works_10_39 : (opr Try.f4 10 39).op = .call ⟨.value (.tmp 102), #[(.tmp 106), (.tmp 107), (.tmp 108)], #[24, 24, 38]⟩ := by kernel_rfl
theorem op_works_10_49 : (opr Try.f4 10 49).op = .call ⟨.value (.tmp 112), #[(.tmp 116), (.tmp 117), (.tmp 118)], #[24, 24, 38]⟩ := by kernel_rfl
theorem op_works_11_9 : (opr Try.f4 11 9).op = .call ⟨.value (.tmp 124), #[(.tmp 128), (.tmp 129)], #[24, 38]⟩ := by kernel_rfl
theorem op_works_11_18 : (opr Try.f4 11 18).op = .call ⟨.value (.tmp 133), #[(.tmp 137), (.tmp 138)], #[24, 38]⟩ := by kernel_rfl
theorem op_works_11_27 : (opr Try.f4 11 27).op = .call ⟨.value (.tmp 143), #[(.tmp 146), (.tmp 147)], #[24, 38]⟩ := by kernel_rfl
theorem op_works_11_35 : (opr Try.f4 11 35).op = .call ⟨.value (.tmp 151), #[(.tmp 154), (.tmp 155)], #[24, 38]⟩ := by kernel_rfl
theorem op_works_11_44 : (opr Try.f4 11 44).op = .call ⟨.value (.tmp 160), #[(.tmp 163), (.tmp 164)], #[24, 38]⟩ := by kernel_rfl
theorem op_works_12_8 : (opr Try.f4 12 8).op = .call ⟨.value (.tmp 170), #[(.tmp 173), (.tmp 174)], #[24, 38]⟩ := by kernel_rfl
theorem op_works_12_17 : (opr Try.f4 12 17).op = .call ⟨.value (.tmp 179), #[(.tmp 182), (.tmp 183)], #[24, 38]⟩ := by kernel_rfl
theorem op_works_12_25 : (opr Try.f4 12 25).op = .call ⟨.value (.tmp 187), #[(.tmp 190), (.tmp 191)], #[24, 38]⟩ := by kernel_rfl
theorem op_works_12_33 : (opr Try.f4 12 33).op = .call ⟨.value (.tmp 196), #[(.tmp 198), (.tmp 199)], #[24, 38]⟩ := by kernel_rfl
theorem op_works_16_5 : (opr Try.f4 16 5).op = .call ⟨.value (.tmp 206), #[(.tmp 209), (.tmp 210)], #[24, 38]⟩ := by kernel_rfl
end Go.Proofs.Ytimnofpofbnjbaa

/- MADE BY rxgen.py: the trees of laws of chapter 01 with drafts. -/
import Derived.Test.YtmndieeelnicpaaRRWdT
namespace Go.Proofs.YtmndieeelnicpaaRR
open Go.RowKit Go.RX
theorem tr_WideRing : tree Try.prog [] [(30, false), (57, false), (61, false), (65, false), (70, false), (74, false), (107, false), (111, false), (115, false), (119, false), (123, false), (128, false), (132, false), (174, true), (178, true), (182, true), (186, true), (190, true), (195, true), (200, true), (205, true), (210, true)] [] [⟨3, [0, 1, 0, 7, 0, 31, 0, 0, 0, 511, 1023, 2047], [5, 2, 5, 2, 5, 2, 3, 3, 3, 4, 4, 4], [0, 0, 1, 0, 2, 0, 0, 0, 0, 0, 0, 0], [0, 2, 4, 1, 3, 5, 6, 7, 8], [9, 10, 11]⟩, ⟨18, [0, 0, 0, 0, 15, 31], [2, 5, 5, 0, 2, 0], [0, 14, 15, 0, 0, 0], [1, 2, 3, 0, 4, 5], []⟩] 10 = some (.rq (.cells 3 (.v 0))
(.rq (.cells 3 (.v 1))
(.rq (.cells 3 (.v 2))
(.call false 12 []
(.rq (.bool (.v 3))
(.rq (.isb false (.nt (.v 3)))
(.call true 37 [(.ag (.v 0)), (.k (.int .i64 (240)))]
(.call true 37 [(.ag (.v 1)), (.k (.int .i64 (240)))]
(.call true 37 [(.ag (.v 2)), (.k (.int .i64 (250)))]
(.rq (.cells 8 (.v 4))
(.rq (.cells 8 (.v 5))
(.rq (.cells 8 (.v 6))
(.call false 26 [(.ag (.v 4)), (.ag (.v 5))]
(.rq (.tup 0 (.v 7))
(.rq (.tup 1 (.v 7))
(.rq (.cells 8 (.proj (.v 7) 0))
(.call false 26 [(.ag (.v 5)), (.ag (.v 4))]
(.rq (.tup 0 (.v 8))
(.rq (.tup 1 (.v 8))
(.rq (.cells 8 (.proj (.v 8) 0))
(.call false 28 [(.ag (.proj (.v 7) 0)), (.ag (.v 5))]
(.rq (.tup 0 (.v 9))
(.rq (.tup 1 (.v 9))
(.rq (.cells 8 (.proj (.v 9) 0))
(.rq (.int .i64 (.proj (.v 7) 1))
(.rq (.isb false (.op2 .neq .i64 (.proj (.v 7) 1) (.k (.int .i64 (0)))))
(.rq (.int .i64 (.proj (.v 8) 1))
(.rq (.isb false (.op2 .neq .i64 (.proj (.v 8) 1) (.k (.int .i64 (0)))))
(.rq (.int .i64 (.proj (.v 9) 1))
(.rq (.isb false (.op2 .neq .i64 (.proj (.v 9) 1) (.k (.int .i64 (0)))))
(.prim 7 13 (opr Try.f10 7 13) [(.ag (.proj (.v 7) 0)), (.ag (.proj (.v 8) 0))]
(.rq (.isb false (.v 10))
(.prim 7 18 (opr Try.f10 7 18) [(.ag (.proj (.v 9) 0)), (.ag (.v 4))]
(.rq (.isb false (.v 11))
(.call false 30 [(.ag (.v 4)), (.ag (.v 6))]
(.rq (.tup 0 (.v 12))
(.rq (.tup 1 (.v 12))
(.rq (.cells 8 (.proj (.v 12) 0))
(.call false 30 [(.ag (.v 6)), (.ag (.v 4))]
(.rq (.tup 0 (.v 13))
(.rq (.tup 1 (.v 13))
(.rq (.cells 8 (.proj (.v 13) 0))
(.call false 30 [(.ag (.v 5)), (.ag (.v 6))]
(.rq (.tup 0 (.v 14))
(.rq (.tup 1 (.v 14))
(.rq (.cells 8 (.proj (.v 14) 0))
(.call false 26 [(.ag (.proj (.v 12) 0)), (.ag (.proj (.v 14) 0))]
(.rq (.tup 0 (.v 15))
(.rq (.tup 1 (.v 15))
(.rq (.cells 8 (.proj (.v 15) 0))
(.call false 30 [(.ag (.proj (.v 7) 0)), (.ag (.v 6))]
(.rq (.tup 0 (.v 16))
(.rq (.tup 1 (.v 16))
(.rq (.cells 8 (.proj (.v 16) 0))
(.rq (.int .i64 (.proj (.v 12) 1))
(.rq (.isb false (.op2 .neq .i64 (.proj (.v 12) 1) (.k (.int .i64 (0)))))
(.rq (.int .i64 (.proj (.v 13) 1))
(.rq (.isb false (.op2 .neq .i64 (.proj (.v 13) 1) (.k (.int .i64 (0)))))
(.rq (.int .i64 (.proj (.v 14) 1))
(.rq (.isb false (.op2 .neq .i64 (.proj (.v 14) 1) (.k (.int .i64 (0)))))
(.rq (.int .i64 (.proj (.v 15) 1))
(.rq (.isb false (.op2 .neq .i64 (.proj (.v 15) 1) (.k (.int .i64 (0)))))
(.rq (.int .i64 (.proj (.v 16) 1))
(.rq (.isb false (.op2 .neq .i64 (.proj (.v 16) 1) (.k (.int .i64 (0)))))
(.prim 14 21 (opr Try.f10 14 21) [(.ag (.proj (.v 12) 0)), (.ag (.proj (.v 13) 0))]
(.rq (.isb false (.v 17))
(.prim 14 26 (opr Try.f10 14 26) [(.ag (.proj (.v 15) 0)), (.ag (.proj (.v 16) 0))]
(.rq (.isb false (.v 18))
(.call false 14 [(.ag (.proj (.v 12) 0)), (.ag (.v 6))]
(.rq (.tup 0 (.v 19))
(.rq (.tup 1 (.v 19))
(.rq (.tup 2 (.v 19))
(.rq (.cells 8 (.proj (.v 19) 0))
(.rq (.cells 8 (.proj (.v 19) 1))
(.prim 17 2 (opr Try.f10 17 2) [(.ag (.v 6)), (.z 24)]
(.rq (.bool (.v 20))
(.br (.v 20)
 (.call true 45 [(.k (.int .i64 (7)))]
 (.eff true 18 4 (opr Try.f10 18 4) [(.v 21), (.ag (.proj (.v 19) 0)), (.ag (.proj (.v 19) 1)), (.proj (.v 19) 2)]
 (.ret [(.v 22)])))
 (.call false 14 [(.ag (.v 4)), (.ag (.v 6))]
 (.rq (.tup 0 (.v 21))
 (.rq (.tup 1 (.v 21))
 (.rq (.tup 2 (.v 21))
 (.rq (.cells 8 (.proj (.v 21) 0))
 (.rq (.cells 8 (.proj (.v 21) 1))
 (.call false 30 [(.ag (.proj (.v 21) 0)), (.ag (.v 6))]
 (.rq (.tup 0 (.v 22))
 (.rq (.tup 1 (.v 22))
 (.rq (.cells 8 (.proj (.v 22) 0))
 (.call false 26 [(.ag (.proj (.v 22) 0)), (.ag (.proj (.v 21) 1))]
 (.rq (.tup 0 (.v 23))
 (.rq (.tup 1 (.v 23))
 (.rq (.cells 8 (.proj (.v 23) 0))
 (.call false 24 [(.ag (.v 6))]
 (.rq (.tup 0 (.v 24))
 (.rq (.tup 1 (.v 24))
 (.rq (.cells 8 (.proj (.v 24) 0))
 (.rq (.int .i64 (.proj (.v 19) 2))
 (.rq (.isb true (.op2 .eql .i64 (.proj (.v 19) 2) (.k (.int .i64 (0)))))
 (.rq (.int .i64 (.proj (.v 21) 2))
 (.rq (.isb true (.op2 .eql .i64 (.proj (.v 21) 2) (.k (.int .i64 (0)))))
 (.rq (.int .i64 (.proj (.v 22) 1))
 (.rq (.isb true (.op2 .eql .i64 (.proj (.v 22) 1) (.k (.int .i64 (0)))))
 (.rq (.int .i64 (.proj (.v 23) 1))
 (.rq (.isb true (.op2 .eql .i64 (.proj (.v 23) 1) (.k (.int .i64 (0)))))
 (.rq (.int .i64 (.proj (.v 24) 1))
 (.rq (.isb true (.op2 .eql .i64 (.proj (.v 24) 1) (.k (.int .i64 (0)))))
 (.prim 23 21 (opr Try.f10 23 21) [(.ag (.proj (.v 19) 0)), (.ag (.v 4))]
 (.rq (.isb true (.v 25))
 (.prim 23 26 (opr Try.f10 23 26) [(.ag (.proj (.v 19) 1)), (.z 24)]
 (.rq (.isb true (.v 26))
 (.prim 23 31 (opr Try.f10 23 31) [(.ag (.proj (.v 23) 0)), (.ag (.v 4))]
 (.rq (.isb true (.v 27))
 (.call false 39 [(.ag (.proj (.v 21) 1))]
 (.rq (.int .i64 (.v 28))
 (.rq (.isb true (.op2 .geq .i64 (.v 28) (.k (.int .i64 (0)))))
 (.call false 33 [(.ag (.proj (.v 21) 1)), (.ag (.proj (.v 24) 0))]
 (.rq (.int .i64 (.v 29))
 (.ret [(.op2 .lss .i64 (.v 29) (.k (.int .i64 (0))))]))))))))))))))))))))))))))))))))))))))))))))))))))))))))))))))))))))))))))))))))))))))))))))))))))))))))))))))))))))) := by kernel_rfl
theorem np_WideRing : (Try.prog.funcs[10]?).map (fun fn => fn.params.size + fn.nfree) = some 3 := by kernel_rfl
theorem op_WideRing_7_13 : (opr Try.f10 7 13).op = .binOp .neq 24 (.tmp 66) (.tmp 67) 24 := by kernel_rfl
theorem op_WideRing_7_18 : (opr Try.f10 7 18).op = .binOp .neq 24 (.tmp 71) (.tmp 72) 24 := by kernel_rfl
theorem op_WideRing_14_21 : (opr Try.f10 14 21).op = .binOp .neq 24 (.tmp 124) (.tmp 125) 24 := by kernel_rfl
theorem op_WideRing_14_26 : (opr Try.f10 14 26).op = .binOp .neq 24 (.tmp 129) (.tmp 130) 24 := by kernel_rfl
theorem op_WideRing_17_2 : (opr Try.f10 17 2).op = .binOp .eql 24 (.tmp 140) (.tmp 141) 24 := by kernel_rfl
theorem op_WideRing_18_4 : (opr Try.f10 18 4).op = .call ⟨.value (.tmp 143), #[(.tmp 144), (.tmp 145), (.tmp 146)], #[24, 24, 35]⟩ := by kernel_rfl
theorem op_WideRing_23_21 : (opr Try.f10 23 21).op = .binOp .eql 24 (.tmp 191) (.tmp 192) 24 := by kernel_rfl
theorem op_WideRing_23_26 : (opr Try.f10 23 26).op = .binOp .eql 24 (.tmp 196) (.tmp 197) 24 := by kernel_rfl
theorem op_WideRing_23_31 : (opr Try.f10 23 31).op = .binOp .eql 24 (.tmp 201) (.tmp 202) 24 := by kernel_rfl
theorem tr_WideDivides : tree Try.prog [] [(28, false), (43, false), (50, true), (100, true), (104, true), (108, true), (112, true), (116, true), (120, true), (124, true), (129, true), (134, true), (139, true)] [] [⟨3, [0, 1, 0, 7, 0, 31, 63, 0, 0, 0, 1023, 2047, 4095], [5, 2, 5, 2, 5, 2, 2, 3, 3, 3, 4, 4, 4], [0, 0, 1, 0, 2, 0, 0, 0, 0, 0, 0, 0, 0], [0, 2, 4, 1, 3, 5, 6, 7, 8, 9], [10, 11, 12]⟩] 8 = some (.rq (.cells 3 (.v 0))
(.rq (.cells 3 (.v 1))
(.rq (.cells 3 (.v 2))
(.call false 12 []
(.rq (.bool (.v 3))
(.rq (.isb false (.nt (.v 3)))
(.call true 37 [(.ag (.v 0)), (.k (.int .i64 (200)))]
(.call true 37 [(.ag (.v 1)), (.k (.int .i64 (200)))]
(.call true 38 [(.ag (.v 2))]
(.call true 32 [(.v 6)]
(.rq (.cells 8 (.v 4))
(.rq (.cells 8 (.v 5))
(.rq (.cells 8 (.v 7))
(.call false 16 [(.ag (.v 4)), (.ag (.v 5))]
(.rq (.tup 0 (.v 8))
(.rq (.tup 1 (.v 8))
(.rq (.cells 8 (.proj (.v 8) 0))
(.rq (.int .i64 (.proj (.v 8) 1))
(.rq (.isb false (.op2 .neq .i64 (.proj (.v 8) 1) (.k (.int .i64 (0)))))
(.prim 7 2 (opr Try.f8 7 2) [(.ag (.proj (.v 8) 0)), (.z 24)]
(.rq (.bool (.v 9))
(.br (.v 9)
 (.prim 8 2 (opr Try.f8 8 2) [(.ag (.v 4)), (.ag (.proj (.v 8) 0))]
 (.rq (.isb true (.v 10))
 (.prim 8 6 (opr Try.f8 8 6) [(.ag (.v 5)), (.ag (.proj (.v 8) 0))]
 (.ret [(.v 11)]))))
 (.call false 14 [(.ag (.v 4)), (.ag (.proj (.v 8) 0))]
 (.rq (.tup 0 (.v 10))
 (.rq (.tup 1 (.v 10))
 (.rq (.tup 2 (.v 10))
 (.rq (.cells 8 (.proj (.v 10) 0))
 (.rq (.cells 8 (.proj (.v 10) 1))
 (.call false 14 [(.ag (.v 5)), (.ag (.proj (.v 8) 0))]
 (.rq (.tup 0 (.v 11))
 (.rq (.tup 1 (.v 11))
 (.rq (.tup 2 (.v 11))
 (.rq (.cells 8 (.proj (.v 11) 0))
 (.rq (.cells 8 (.proj (.v 11) 1))
 (.call false 30 [(.ag (.v 4)), (.ag (.v 7))]
 (.rq (.tup 0 (.v 12))
 (.rq (.tup 1 (.v 12))
 (.rq (.cells 8 (.proj (.v 12) 0))
 (.call false 30 [(.ag (.v 5)), (.ag (.v 7))]
 (.rq (.tup 0 (.v 13))
 (.rq (.tup 1 (.v 13))
 (.rq (.cells 8 (.proj (.v 13) 0))
 (.call false 16 [(.ag (.proj (.v 12) 0)), (.ag (.proj (.v 13) 0))]
 (.rq (.tup 0 (.v 14))
 (.rq (.tup 1 (.v 14))
 (.rq (.cells 8 (.proj (.v 14) 0))
 (.call false 30 [(.ag (.proj (.v 8) 0)), (.ag (.v 7))]
 (.rq (.tup 0 (.v 15))
 (.rq (.tup 1 (.v 15))
 (.rq (.cells 8 (.proj (.v 15) 0))
 (.call false 24 [(.ag (.proj (.v 15) 0))]
 (.rq (.tup 0 (.v 16))
 (.rq (.tup 1 (.v 16))
 (.rq (.cells 8 (.proj (.v 16) 0))
 (.rq (.int .i64 (.proj (.v 10) 2))
 (.rq (.isb true (.op2 .eql .i64 (.proj (.v 10) 2) (.k (.int .i64 (0)))))
 (.rq (.int .i64 (.proj (.v 11) 2))
 (.rq (.isb true (.op2 .eql .i64 (.proj (.v 11) 2) (.k (.int .i64 (0)))))
 (.rq (.int .i64 (.proj (.v 12) 1))
 (.rq (.isb true (.op2 .eql .i64 (.proj (.v 12) 1) (.k (.int .i64 (0)))))
 (.rq (.int .i64 (.proj (.v 13) 1))
 (.rq (.isb true (.op2 .eql .i64 (.proj (.v 13) 1) (.k (.int .i64 (0)))))
 (.rq (.int .i64 (.proj (.v 14) 1))
 (.rq (.isb true (.op2 .eql .i64 (.proj (.v 14) 1) (.k (.int .i64 (0)))))
 (.rq (.int .i64 (.proj (.v 15) 1))
 (.rq (.isb true (.op2 .eql .i64 (.proj (.v 15) 1) (.k (.int .i64 (0)))))
 (.rq (.int .i64 (.proj (.v 16) 1))
 (.rq (.isb true (.op2 .eql .i64 (.proj (.v 16) 1) (.k (.int .i64 (0)))))
 (.prim 16 29 (opr Try.f8 16 29) [(.ag (.proj (.v 10) 1)), (.z 24)]
 (.rq (.isb true (.v 17))
 (.prim 16 34 (opr Try.f8 16 34) [(.ag (.proj (.v 11) 1)), (.z 24)]
 (.rq (.isb true (.v 18))
 (.prim 16 39 (opr Try.f8 16 39) [(.ag (.proj (.v 14) 0)), (.ag (.proj (.v 16) 0))]
 (.rq (.isb true (.v 19))
 (.call false 39 [(.ag (.proj (.v 8) 0))]
 (.rq (.int .i64 (.v 20))
 (.ret [(.op2 .eql .i64 (.v 20) (.k (.int .i64 (1))))]))))))))))))))))))))))))))))))))))))))))))))))))))))))))))))))))))))))))))))) := by kernel_rfl
theorem np_WideDivides : (Try.prog.funcs[8]?).map (fun fn => fn.params.size + fn.nfree) = some 3 := by kernel_rfl
theorem op_WideDivides_7_2 : (opr Try.f8 7 2).op = .binOp .eql 24 (.tmp 44) (.tmp 45) 24 := by kernel_rfl
theorem op_WideDivides_8_2 : (opr Try.f8 8 2).op = .binOp .eql 24 (.tmp 47) (.tmp 48) 24 := by kernel_rfl
theorem op_WideDivides_8_6 : (opr Try.f8 8 6).op = .binOp .eql 24 (.tmp 51) (.tmp 52) 24 := by kernel_rfl
theorem op_WideDivides_16_29 : (opr Try.f8 16 29).op = .binOp .eql 24 (.tmp 125) (.tmp 126) 24 := by kernel_rfl
theorem op_WideDivides_16_34 : (opr Try.f8 16 34).op = .binOp .eql 24 (.tmp 130) (.tmp 131) 24 := by kernel_rfl
theorem op_WideDivides_16_39 : (opr Try.f8 16 39).op = .binOp .eql 24 (.tmp 135) (.tmp 136) 24 := by kernel_rfl
theorem tr_WideRoots : tree Try.prog [] [(28, false), (72, false), (76, false), (80, false), (84, false), (88, false), (92, false), (96, false), (102, false), (108, false), (112, false), (153, true), (157, true), (161, true), (165, true)] [] [⟨6, [0, 0, 3, 7, 15, 15, 0, 95, 255], [5, 2, 2, 0, 0, 0, 3, 4, 0], [3, 0, 0, 0, 0, 0, 0, 0, 0], [0, 1, 2, 3, 4, 5, 6], [7, 8]⟩] 7 = some (.rq (.cells 3 (.v 0))
(.call false 12 []
(.rq (.bool (.v 3))
(.rq (.isb false (.nt (.v 3)))
(.call false 37 [(.ag (.v 0)), (.k (.int .i64 (250)))]
(.rq (.cells 8 (.v 4))
(.call false 24 [(.ag (.v 4))]
(.rq (.tup 0 (.v 5))
(.rq (.tup 1 (.v 5))
(.rq (.cells 8 (.proj (.v 5) 0))
(.call false 20 [(.ag (.proj (.v 5) 0))]
(.rq (.tup 0 (.v 6))
(.rq (.tup 1 (.v 6))
(.rq (.cells 8 (.proj (.v 6) 0))
(.call true 32 [(.k (.int .i64 (1)))]
(.call true 26 [(.ag (.proj (.v 6) 0)), (.v 7)]
(.rq (.tup 0 (.v 8))
(.rq (.tup 1 (.v 8))
(.rq (.cells 8 (.proj (.v 8) 0))
(.call false 30 [(.ag (.proj (.v 6) 0)), (.ag (.proj (.v 6) 0))]
(.rq (.tup 0 (.v 9))
(.rq (.tup 1 (.v 9))
(.rq (.cells 8 (.proj (.v 9) 0))
(.call false 30 [(.ag (.proj (.v 8) 0)), (.ag (.proj (.v 8) 0))]
(.rq (.tup 0 (.v 10))
(.rq (.tup 1 (.v 10))
(.rq (.cells 8 (.proj (.v 10) 0))
(.call false 30 [(.ag (.v 4)), (.ag (.v 4))]
(.rq (.tup 0 (.v 11))
(.rq (.tup 1 (.v 11))
(.rq (.cells 8 (.proj (.v 11) 0))
(.call false 20 [(.ag (.proj (.v 11) 0))]
(.rq (.tup 0 (.v 12))
(.rq (.tup 1 (.v 12))
(.rq (.cells 8 (.proj (.v 12) 0))
(.rq (.int .i64 (.proj (.v 5) 1))
(.rq (.isb false (.op2 .neq .i64 (.proj (.v 5) 1) (.k (.int .i64 (0)))))
(.rq (.int .i64 (.proj (.v 6) 1))
(.rq (.isb false (.op2 .neq .i64 (.proj (.v 6) 1) (.k (.int .i64 (0)))))
(.rq (.int .i64 (.proj (.v 8) 1))
(.rq (.isb false (.op2 .neq .i64 (.proj (.v 8) 1) (.k (.int .i64 (0)))))
(.rq (.int .i64 (.proj (.v 9) 1))
(.rq (.isb false (.op2 .neq .i64 (.proj (.v 9) 1) (.k (.int .i64 (0)))))
(.rq (.int .i64 (.proj (.v 10) 1))
(.rq (.isb false (.op2 .neq .i64 (.proj (.v 10) 1) (.k (.int .i64 (0)))))
(.rq (.int .i64 (.proj (.v 11) 1))
(.rq (.isb false (.op2 .neq .i64 (.proj (.v 11) 1) (.k (.int .i64 (0)))))
(.rq (.int .i64 (.proj (.v 12) 1))
(.rq (.isb false (.op2 .neq .i64 (.proj (.v 12) 1) (.k (.int .i64 (0)))))
(.call false 33 [(.ag (.proj (.v 9) 0)), (.ag (.proj (.v 5) 0))]
(.rq (.int .i64 (.v 13))
(.rq (.isb false (.op2 .gtr .i64 (.v 13) (.k (.int .i64 (0)))))
(.call false 33 [(.ag (.proj (.v 10) 0)), (.ag (.proj (.v 5) 0))]
(.rq (.int .i64 (.v 14))
(.rq (.isb false (.op2 .leq .i64 (.v 14) (.k (.int .i64 (0)))))
(.prim 11 41 (opr Try.f7 11 41) [(.ag (.proj (.v 12) 0)), (.ag (.proj (.v 5) 0))]
(.rq (.isb false (.v 15))
(.call false 38 [(.ag (.v 0))]
(.rq (.int .i64 (.v 16))
(.call false 32 [(.op2 .rem .i64 (.v 16) (.k (.int .i64 (1000))))]
(.rq (.cells 8 (.v 17))
(.rq (.int .u8 (.v 1))
(.call false 18 [(.ag (.v 17)), (.cv .i64 (.op2 .rem .u8 (.v 1) (.k (.int .u8 (25)))))]
(.rq (.tup 0 (.v 18))
(.rq (.tup 1 (.v 18))
(.rq (.cells 8 (.proj (.v 18) 0))
(.rq (.int .u8 (.v 2))
(.call false 18 [(.ag (.v 17)), (.cv .i64 (.op2 .rem .u8 (.v 2) (.k (.int .u8 (25)))))]
(.rq (.tup 0 (.v 19))
(.rq (.tup 1 (.v 19))
(.rq (.cells 8 (.proj (.v 19) 0))
(.call false 30 [(.ag (.proj (.v 18) 0)), (.ag (.proj (.v 19) 0))]
(.rq (.tup 0 (.v 20))
(.rq (.tup 1 (.v 20))
(.rq (.cells 8 (.proj (.v 20) 0))
(.call false 18 [(.ag (.v 17)), (.op2 .add .i64 (.cv .i64 (.op2 .rem .u8 (.v 1) (.k (.int .u8 (25))))) (.cv .i64 (.op2 .rem .u8 (.v 2) (.k (.int .u8 (25))))))]
(.rq (.tup 0 (.v 21))
(.rq (.tup 1 (.v 21))
(.rq (.cells 8 (.proj (.v 21) 0))
(.rq (.int .i64 (.proj (.v 18) 1))
(.rq (.isb true (.op2 .eql .i64 (.proj (.v 18) 1) (.k (.int .i64 (0)))))
(.rq (.int .i64 (.proj (.v 19) 1))
(.rq (.isb true (.op2 .eql .i64 (.proj (.v 19) 1) (.k (.int .i64 (0)))))
(.rq (.int .i64 (.proj (.v 20) 1))
(.rq (.isb true (.op2 .eql .i64 (.proj (.v 20) 1) (.k (.int .i64 (0)))))
(.rq (.int .i64 (.proj (.v 21) 1))
(.rq (.isb true (.op2 .eql .i64 (.proj (.v 21) 1) (.k (.int .i64 (0)))))
(.prim 18 17 (opr Try.f7 18 17) [(.ag (.proj (.v 20) 0)), (.ag (.proj (.v 21) 0))]
(.ret [(.v 22)]))))))))))))))))))))))))))))))))))))))))))))))))))))))))))))))))))))))))))))))))))))))))) := by kernel_rfl
theorem np_WideRoots : (Try.prog.funcs[7]?).map (fun fn => fn.params.size + fn.nfree) = some 3 := by kernel_rfl
theorem op_WideRoots_11_41 : (opr Try.f7 11 41).op = .binOp .neq 24 (.tmp 109) (.tmp 110) 24 := by kernel_rfl
theorem op_WideRoots_18_17 : (opr Try.f7 18 17).op = .binOp .eql 24 (.tmp 166) (.tmp 167) 24 := by kernel_rfl
end Go.Proofs.YtmndieeelnicpaaRR

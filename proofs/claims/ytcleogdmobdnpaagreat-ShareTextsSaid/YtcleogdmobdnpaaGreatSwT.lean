/- MADE BY rxgen.py: the trees of the helpers of the laws of chapter 02. -/
import Derived.Test.YtcleogdmobdnpaaGreatWdT
namespace Go.Proofs.YtcleogdmobdnpaaGreat
open Go.RowKit Go.RX
theorem tr_hq : tree Tryz.prog [] [] [] [] 37 = some (.call false 13 [(.v 0), (.v 1)]
(.rq (.tup 0 (.v 2))
(.rq (.tup 1 (.v 2))
(.rq (.cells 16 (.proj (.v 2) 0))
(.ret [(.ag (.proj (.v 2) 0))]))))) := by kernel_rfl
theorem np_hq : (Tryz.prog.funcs[37]?).map (fun fn => fn.params.size + fn.nfree) = some 2 := by kernel_rfl
theorem tr_his : tree Tryz.prog [2, 3] [] [] [] 40 = some (.rq (.cells 1 (.v 0))
(.pub 3 (.v 0)
(.rq (.cells 1 (.v 1))
(.pub 3 (.v 1)
(.eff false 1 0 (opr Tryz.f40 1 0) [(.v 2), (.v 3)]
(.ret [(.v 4)])))))) := by kernel_rfl
theorem np_his : (Tryz.prog.funcs[40]?).map (fun fn => fn.params.size + fn.nfree) = some 2 := by kernel_rfl
theorem op_his_1_0 : (opr Tryz.f40 1 0).op = .makeFunc (.func 101) #[] #[(.tmp 2), (.tmp 3)] := by kernel_rfl
theorem tr_his1 : tree Tryz.prog [] [] [] [⟨1, [0, 0, 0, 6, 15, 31, 63, 127, 255, 511], [5, 1, 1, 2, 1, 0, 0, 0, 0, 0], [0, 0, 0, 0, 0, 0, 0, 0, 0, 0], [0, 1, 2, 3, 4, 5, 6, 7, 8, 9], []⟩] 101 = some (.rq (.cells 16 (.v 0))
(.prim 1 1 (opr Tryz.f101 1 1) [(.v 2)]
(.prim 1 2 (opr Tryz.f101 1 2) [(.v 3)]
(.call true 37 [(.v 4), (.v 5)]
(.prim 1 4 (opr Tryz.f101 1 4) [(.ag (.v 0)), (.v 6)]
(.rq (.bool (.v 7))
(.br (.v 7)
 (.rq (.int .i64 (.v 1))
 (.ret [(.op2 .eql .i64 (.v 1) (.k (.int .i64 (0))))]))
 (.ret [(.k (.bool false))])))))))) := by kernel_rfl
theorem np_his1 : (Tryz.prog.funcs[101]?).map (fun fn => fn.params.size + fn.nfree) = some 4 := by kernel_rfl
theorem op_his1_1_1 : (opr Tryz.f101 1 1).op = .load 3 (.tmp 2) := by kernel_rfl
theorem op_his1_1_2 : (opr Tryz.f101 1 2).op = .load 3 (.tmp 3) := by kernel_rfl
theorem op_his1_1_4 : (opr Tryz.f101 1 4).op = .binOp .eql 26 (.tmp 7) (.tmp 10) 26 := by kernel_rfl
theorem tr_hfails : tree Tryz.prog [1] [] [] [] 38 = some (.rq (.cells 1 (.v 0))
(.pub 39 (.v 0)
(.eff false 1 0 (opr Tryz.f38 1 0) [(.v 1)]
(.ret [(.v 2)])))) := by kernel_rfl
theorem np_hfails : (Tryz.prog.funcs[38]?).map (fun fn => fn.params.size + fn.nfree) = some 1 := by kernel_rfl
theorem op_hfails_1_0 : (opr Tryz.f38 1 0).op = .makeFunc (.func 100) #[] #[(.tmp 1)] := by kernel_rfl
theorem tr_hfails1 : tree Tryz.prog [] [] [] [] 100 = some (.rq (.cells 16 (.v 0))
(.prim 1 2 (opr Tryz.f100 1 2) [(.ag (.v 0)), (.cat (.z 24) 8 (.z 24))]
(.rq (.bool (.v 3))
(.br (.v 3)
 (.prim 1 5 (opr Tryz.f100 1 5) [(.v 2)]
 (.rq (.int .i64 (.v 1))
 (.rq (.int .i64 (.v 4))
 (.ret [(.op2 .eql .i64 (.v 1) (.v 4))]))))
 (.ret [(.k (.bool false))]))))) := by kernel_rfl
theorem np_hfails1 : (Tryz.prog.funcs[100]?).map (fun fn => fn.params.size + fn.nfree) = some 3 := by kernel_rfl
theorem op_hfails1_1_2 : (opr Tryz.f100 1 2).op = .binOp .eql 26 (.tmp 6) (.tmp 7) 26 := by kernel_rfl
theorem op_hfails1_1_5 : (opr Tryz.f100 1 5).op = .load 39 (.tmp 2) := by kernel_rfl
theorem tr_hsays : tree Tryz.prog [1] [] [] [] 42 = some (.rq (.cells 1 (.v 0))
(.pub 3 (.v 0)
(.eff false 1 0 (opr Tryz.f42 1 0) [(.v 1)]
(.ret [(.v 2)])))) := by kernel_rfl
theorem np_hsays : (Tryz.prog.funcs[42]?).map (fun fn => fn.params.size + fn.nfree) = some 1 := by kernel_rfl
theorem op_hsays_1_0 : (opr Tryz.f42 1 0).op = .makeFunc (.func 103) #[] #[(.tmp 1)] := by kernel_rfl
theorem tr_hsays1 : tree Tryz.prog [] [] [] [⟨1, [0, 0, 2, 7, 15, 31, 63, 127, 255], [5, 1, 2, 1, 0, 0, 0, 0, 0], [0, 0, 0, 0, 0, 0, 0, 0, 0], [0, 1, 2, 3, 4, 5, 6, 7, 8], []⟩] 103 = some (.rq (.cells 8 (.v 0))
(.prim 1 1 (opr Tryz.f103 1 1) [(.v 2)]
(.call true 39 [(.v 3)]
(.prim 1 3 (opr Tryz.f103 1 3) [(.ag (.v 0)), (.v 4)]
(.rq (.bool (.v 5))
(.br (.v 5)
 (.rq (.int .i64 (.v 1))
 (.ret [(.op2 .eql .i64 (.v 1) (.k (.int .i64 (0))))]))
 (.ret [(.k (.bool false))]))))))) := by kernel_rfl
theorem np_hsays1 : (Tryz.prog.funcs[103]?).map (fun fn => fn.params.size + fn.nfree) = some 3 := by kernel_rfl
theorem op_hsays1_1_1 : (opr Tryz.f103 1 1).op = .load 3 (.tmp 2) := by kernel_rfl
theorem op_hsays1_1_3 : (opr Tryz.f103 1 3).op = .binOp .eql 24 (.tmp 6) (.tmp 8) 24 := by kernel_rfl
theorem tr_htells : tree Tryz.prog [1] [] [] [] 43 = some (.rq (.cells 1 (.v 0))
(.pub 9 (.v 0)
(.eff false 1 0 (opr Tryz.f43 1 0) [(.v 1)]
(.ret [(.v 2)])))) := by kernel_rfl
theorem np_htells : (Tryz.prog.funcs[43]?).map (fun fn => fn.params.size + fn.nfree) = some 1 := by kernel_rfl
theorem op_htells_1_0 : (opr Tryz.f43 1 0).op = .makeFunc (.func 104) #[] #[(.tmp 1)] := by kernel_rfl
theorem tr_htells1 : tree Tryz.prog [] [] [] [] 104 = some (.prim 1 1 (opr Tryz.f104 1 1) [(.v 2)]
(.prim 1 2 (opr Tryz.f104 1 2) [(.v 0), (.v 3)]
(.rq (.bool (.v 4))
(.br (.v 4)
 (.rq (.int .i64 (.v 1))
 (.ret [(.op2 .eql .i64 (.v 1) (.k (.int .i64 (0))))]))
 (.ret [(.k (.bool false))]))))) := by kernel_rfl
theorem np_htells1 : (Tryz.prog.funcs[104]?).map (fun fn => fn.params.size + fn.nfree) = some 3 := by kernel_rfl
theorem op_htells1_1_1 : (opr Tryz.f104 1 1).op = .load 9 (.tmp 2) := by kernel_rfl
theorem op_htells1_1_2 : (opr Tryz.f104 1 2).op = .binOp .eql 9 (.tmp 6) (.tmp 7) 9 := by kernel_rfl
theorem tr_hworks : tree Tryz.prog [] [(13, true), (20, true), (24, true), (29, true), (38, true), (47, true), (56, true), (66, true), (74, true), (82, true), (90, true), (98, true), (106, true), (114, true), (121, true), (128, true), (136, true), (144, true), (152, true), (160, true)] [] [] 7 = some (.call false 13 [(.k (.int .i64 (1))), (.k (.int .i64 (0)))]
(.rq (.tup 0 (.v 0))
(.rq (.tup 1 (.v 0))
(.rq (.cells 16 (.proj (.v 0) 0))
(.call false 37 [(.k (.int .i64 (6))), (.k (.int .i64 (-4)))]
(.call false 39 [(.k (.int .i64 (-3)))]
(.call false 39 [(.k (.int .i64 (2)))]
(.rq (.cells 8 (.v 2))
(.rq (.cells 8 (.v 3))
(.prim 2 4 (opr Tryz.f7 2 4) [(.v 1), (.put (.cat (.v 2) 8 (.z 24)) 8 8 (.v 3) 0 noI)]
(.rq (.isb true (.v 4))
(.call false 37 [(.k (.int .i64 (0))), (.k (.int .i64 (-5)))]
(.call false 39 [(.k (.int .i64 (0)))]
(.call false 39 [(.k (.int .i64 (1)))]
(.rq (.cells 8 (.v 6))
(.rq (.cells 8 (.v 7))
(.prim 2 10 (opr Tryz.f7 2 10) [(.v 5), (.put (.cat (.v 6) 8 (.z 24)) 8 8 (.v 7) 0 noI)]
(.rq (.isb true (.v 8))
(.rq (.int .i64 (.proj (.v 0) 1))
(.rq (.isb true (.op2 .eql .i64 (.proj (.v 0) 1) (.k (.int .i64 (7)))))
(.call false 11 [(.cat (.z 24) 8 (.z 24))]
(.rq (.int .i64 (.v 9))
(.rq (.isb true (.op2 .eql .i64 (.v 9) (.k (.int .i64 (20)))))
(.call false 40 [(.k (.int .i64 (1))), (.k (.int .i64 (2)))]
(.call false 37 [(.k (.int .i64 (1))), (.k (.int .i64 (6)))]
(.call false 37 [(.k (.int .i64 (1))), (.k (.int .i64 (3)))]
(.call false 33 [(.v 11), (.v 12)]
(.rq (.tup 0 (.v 13))
(.rq (.tup 1 (.v 13))
(.eff false 2 28 (opr Tryz.f7 2 28) [(.v 10), (.proj (.v 13) 0), (.proj (.v 13) 1)]
(.rq (.isb true (.v 14))
(.call false 40 [(.k (.int .i64 (-2))), (.k (.int .i64 (3)))]
(.call false 37 [(.k (.int .i64 (1))), (.k (.int .i64 (2)))]
(.call false 37 [(.k (.int .i64 (-3))), (.k (.int .i64 (4)))]
(.call false 36 [(.v 16), (.v 17)]
(.rq (.tup 0 (.v 18))
(.rq (.tup 1 (.v 18))
(.eff false 2 37 (opr Tryz.f7 2 37) [(.v 15), (.proj (.v 18) 0), (.proj (.v 18) 1)]
(.rq (.isb true (.v 19))
(.call false 38 [(.k (.int .i64 (7)))]
(.call false 37 [(.k (.int .i64 (1))), (.k (.int .i64 (1)))]
(.call false 37 [(.k (.int .i64 (0))), (.k (.int .i64 (1)))]
(.call false 36 [(.v 21), (.v 22)]
(.rq (.tup 0 (.v 23))
(.rq (.tup 1 (.v 23))
(.eff false 2 46 (opr Tryz.f7 2 46) [(.v 20), (.proj (.v 23) 0), (.proj (.v 23) 1)]
(.rq (.isb true (.v 24))
(.call false 40 [(.k (.int .i64 (2))), (.k (.int .i64 (3)))]
(.call false 37 [(.k (.int .i64 (1))), (.k (.int .i64 (2)))]
(.call false 37 [(.k (.int .i64 (2))), (.k (.int .i64 (3)))]
(.call false 41 [(.v 26), (.v 27)]
(.rq (.tup 0 (.v 28))
(.rq (.tup 1 (.v 28))
(.eff false 2 55 (opr Tryz.f7 2 55) [(.v 25), (.proj (.v 28) 0), (.proj (.v 28) 1)]
(.rq (.isb true (.v 29))
(.call false 42 [(.k (.int .i64 (-1)))]
(.call false 37 [(.k (.int .i64 (-1))), (.k (.int .i64 (2)))]
(.call false 25 [(.v 31)]
(.rq (.tup 0 (.v 32))
(.rq (.tup 1 (.v 32))
(.eff false 3 7 (opr Tryz.f7 3 7) [(.v 30), (.proj (.v 32) 0), (.proj (.v 32) 1)]
(.rq (.isb true (.v 33))
(.call false 42 [(.k (.int .i64 (0)))]
(.call false 37 [(.k (.int .i64 (-1))), (.k (.int .i64 (2)))]
(.call false 26 [(.v 35)]
(.rq (.tup 0 (.v 36))
(.rq (.tup 1 (.v 36))
(.eff false 3 15 (opr Tryz.f7 3 15) [(.v 34), (.proj (.v 36) 0), (.proj (.v 36) 1)]
(.rq (.isb true (.v 37))
(.call false 42 [(.k (.int .i64 (0)))]
(.call false 37 [(.k (.int .i64 (-1))), (.k (.int .i64 (2)))]
(.call false 27 [(.v 39)]
(.rq (.tup 0 (.v 40))
(.rq (.tup 1 (.v 40))
(.eff false 3 23 (opr Tryz.f7 3 23) [(.v 38), (.proj (.v 40) 0), (.proj (.v 40) 1)]
(.rq (.isb true (.v 41))
(.call false 42 [(.k (.int .i64 (1)))]
(.call false 37 [(.k (.int .i64 (1))), (.k (.int .i64 (2)))]
(.call false 27 [(.v 43)]
(.rq (.tup 0 (.v 44))
(.rq (.tup 1 (.v 44))
(.eff false 3 31 (opr Tryz.f7 3 31) [(.v 42), (.proj (.v 44) 0), (.proj (.v 44) 1)]
(.rq (.isb true (.v 45))
(.call false 43 [(.k (.string ⟨#[45, 51, 47, 50]⟩))]
(.call false 37 [(.k (.int .i64 (-3))), (.k (.int .i64 (2)))]
(.call false 16 [(.v 47)]
(.rq (.tup 0 (.v 48))
(.rq (.tup 1 (.v 48))
(.eff false 3 39 (opr Tryz.f7 3 39) [(.v 46), (.proj (.v 48) 0), (.proj (.v 48) 1)]
(.rq (.isb true (.v 49))
(.call false 43 [(.k (.string ⟨#[52]⟩))]
(.call false 37 [(.k (.int .i64 (4))), (.k (.int .i64 (1)))]
(.call false 16 [(.v 51)]
(.rq (.tup 0 (.v 52))
(.rq (.tup 1 (.v 52))
(.eff false 3 47 (opr Tryz.f7 3 47) [(.v 50), (.proj (.v 52) 0), (.proj (.v 52) 1)]
(.rq (.isb true (.v 53))
(.call false 38 [(.k (.int .i64 (5)))]
(.call false 17 [(.k (.string ⟨#[50, 47, 52]⟩))]
(.rq (.tup 0 (.v 55))
(.rq (.tup 1 (.v 55))
(.eff false 3 54 (opr Tryz.f7 3 54) [(.v 54), (.proj (.v 55) 0), (.proj (.v 55) 1)]
(.rq (.isb true (.v 56))
(.call false 38 [(.k (.int .i64 (5)))]
(.call false 17 [(.k (.string ⟨#[51, 47, 45, 49]⟩))]
(.rq (.tup 0 (.v 58))
(.rq (.tup 1 (.v 58))
(.eff false 3 61 (opr Tryz.f7 3 61) [(.v 57), (.proj (.v 58) 0), (.proj (.v 58) 1)]
(.rq (.isb true (.v 59))
(.call false 40 [(.k (.int .i64 (-3))), (.k (.int .i64 (2)))]
(.call false 17 [(.k (.string ⟨#[45, 51, 47, 50]⟩))]
(.rq (.tup 0 (.v 61))
(.rq (.tup 1 (.v 61))
(.eff false 3 68 (opr Tryz.f7 3 68) [(.v 60), (.proj (.v 61) 0), (.proj (.v 61) 1)]
(.rq (.isb true (.v 62))
(.call false 43 [(.k (.string ⟨#[45, 48, 46, 49, 50]⟩))]
(.call false 37 [(.k (.int .i64 (-1))), (.k (.int .i64 (8)))]
(.call false 19 [(.v 64), (.k (.int .i64 (2)))]
(.rq (.tup 0 (.v 65))
(.rq (.tup 1 (.v 65))
(.eff false 4 7 (opr Tryz.f7 4 7) [(.v 63), (.proj (.v 65) 0), (.proj (.v 65) 1)]
(.rq (.isb true (.v 66))
(.call false 43 [(.k (.string ⟨#[48, 46, 51, 51, 51, 51]⟩))]
(.call false 37 [(.k (.int .i64 (1))), (.k (.int .i64 (3)))]
(.call false 19 [(.v 68), (.k (.int .i64 (4)))]
(.rq (.tup 0 (.v 69))
(.rq (.tup 1 (.v 69))
(.eff false 4 15 (opr Tryz.f7 4 15) [(.v 67), (.proj (.v 69) 0), (.proj (.v 69) 1)]
(.rq (.isb true (.v 70))
(.call false 43 [(.k (.string ⟨#[51]⟩))]
(.call false 37 [(.k (.int .i64 (5))), (.k (.int .i64 (2)))]
(.call false 19 [(.v 72), (.k (.int .i64 (0)))]
(.rq (.tup 0 (.v 73))
(.rq (.tup 1 (.v 73))
(.eff false 4 23 (opr Tryz.f7 4 23) [(.v 71), (.proj (.v 73) 0), (.proj (.v 73) 1)]
(.rq (.isb true (.v 74))
(.call false 43 [(.k (.string ⟨#[48, 46, 48, 48]⟩))]
(.call false 37 [(.k (.int .i64 (-1))), (.k (.int .i64 (1000)))]
(.call false 19 [(.v 76), (.k (.int .i64 (2)))]
(.rq (.tup 0 (.v 77))
(.rq (.tup 1 (.v 77))
(.eff false 4 31 (opr Tryz.f7 4 31) [(.v 75), (.proj (.v 77) 0), (.proj (.v 77) 1)]
(.ret [(.v 78)]))))))))))))))))))))))))))))))))))))))))))))))))))))))))))))))))))))))))))))))))))))))))))))))))))))))))))))))))))))))))))))))))))))))))))))))) := by kernel_rfl
theorem np_hworks : (Tryz.prog.funcs[7]?).map (fun fn => fn.params.size + fn.nfree) = some 0 := by kernel_rfl
theorem op_hworks_2_4 : (opr Tryz.f7 2 4).op = .binOp .eql 26 (.tmp 8) (.tmp 11) 26 := by kernel_rfl
theorem op_hworks_2_10 : (opr Tryz.f7 2 10).op = .binOp .eql 26 (.tmp 14) (.tmp 17) 26 := by kernel_rfl
theorem op_hworks_2_28 : (opr Tryz.f7 2 28).op = .call ⟨.value (.tmp 30), #[(.tmp 34), (.tmp 35)], #[26, 39]⟩ := by kernel_rfl
theorem op_hworks_2_37 : (opr Tryz.f7 2 37).op = .call ⟨.value (.tmp 39), #[(.tmp 43), (.tmp 44)], #[26, 39]⟩ := by kernel_rfl
theorem op_hworks_2_46 : (opr Tryz.f7 2 46).op = .call ⟨.value (.tmp 48), #[(.tmp 52), (.tmp 53)], #[26, 39]⟩ := by kernel_rfl
theorem op_hworks_2_55 : (opr Tryz.f7 2 55).op = .call ⟨.value (.tmp 57), #[(.tmp 61), (.tmp 62)], #[26, 39]⟩ := by kernel_rfl
theorem op_hworks_3_7 : (opr Tryz.f7 3 7).op = .call ⟨.value (.tmp 67), #[(.tmp 70), (.tmp 71)], #[24, 39]⟩ := by kernel_rfl
theorem op_hworks_3_15 : (opr Tryz.f7 3 15).op = .call ⟨.value (.tmp 75), #[(.tmp 78), (.tmp 79)], #[24, 39]⟩ := by kernel_rfl
theorem op_hworks_3_23 : (opr Tryz.f7 3 23).op = .call ⟨.value (.tmp 83), #[(.tmp 86), (.tmp 87)], #[24, 39]⟩ := by kernel_rfl
theorem op_hworks_3_31 : (opr Tryz.f7 3 31).op = .call ⟨.value (.tmp 91), #[(.tmp 94), (.tmp 95)], #[24, 39]⟩ := by kernel_rfl
theorem op_hworks_3_39 : (opr Tryz.f7 3 39).op = .call ⟨.value (.tmp 99), #[(.tmp 102), (.tmp 103)], #[9, 39]⟩ := by kernel_rfl
theorem op_hworks_3_47 : (opr Tryz.f7 3 47).op = .call ⟨.value (.tmp 107), #[(.tmp 110), (.tmp 111)], #[9, 39]⟩ := by kernel_rfl
theorem op_hworks_3_54 : (opr Tryz.f7 3 54).op = .call ⟨.value (.tmp 115), #[(.tmp 117), (.tmp 118)], #[26, 39]⟩ := by kernel_rfl
theorem op_hworks_3_61 : (opr Tryz.f7 3 61).op = .call ⟨.value (.tmp 122), #[(.tmp 124), (.tmp 125)], #[26, 39]⟩ := by kernel_rfl
theorem op_hworks_3_68 : (opr Tryz.f7 3 68).op = .call ⟨.value (.tmp 129), #[(.tmp 131), (.tmp 132)], #[26, 39]⟩ := by kernel_rfl
theorem op_hworks_4_7 : (opr Tryz.f7 4 7).op = .call ⟨.value (.tmp 137), #[(.tmp 140), (.tmp 141)], #[9, 39]⟩ := by kernel_rfl
theorem op_hworks_4_15 : (opr Tryz.f7 4 15).op = .call ⟨.value (.tmp 145), #[(.tmp 148), (.tmp 149)], #[9, 39]⟩ := by kernel_rfl
theorem op_hworks_4_23 : (opr Tryz.f7 4 23).op = .call ⟨.value (.tmp 153), #[(.tmp 156), (.tmp 157)], #[9, 39]⟩ := by kernel_rfl
theorem op_hworks_4_31 : (opr Tryz.f7 4 31).op = .call ⟨.value (.tmp 161), #[(.tmp 164), (.tmp 165)], #[9, 39]⟩ := by kernel_rfl
theorem tr_hpairs : tree Tryz.prog [] [] [] [⟨1, [0, 1, 0, 4, 15, 0, 32, 96, 0, 256, 992, 2016, 0, 4096, 14304, 0, 32768, 128992, 260064, 0, 524288, 1832928, 0, 4194304, 16512992, 33554431, 67108863], [1, 1, 1, 1, 0, 1, 1, 2, 1, 1, 2, 0, 1, 1, 2, 1, 1, 2, 0, 1, 1, 2, 1, 1, 0, 2, 0], [0, 0, 0, 0, 0, 0, 0, 0, 0, 0, 0, 0, 0, 0, 0, 0, 0, 0, 0, 0, 0, 0, 0, 0, 0, 0, 0], [0, 1, 2, 3, 4, 5, 6, 8, 9, 12, 13, 15, 16, 19, 20, 22, 23, 7, 10, 11, 14, 17, 18, 21, 24, 25, 26], []⟩] 8 = some (.rq (.cells 44 (.v 0))
(.call true 32 [(.sub (.v 0) 32 6 0 noI)]
(.call true 32 [(.sub (.v 0) 38 6 0 noI)]
(.rq (.cells 16 (.v 1))
(.rq (.cells 16 (.v 2))
(.call true 31 [(.sub (.v 0) 32 6 0 noI)]
(.call true 31 [(.sub (.v 0) 38 6 0 noI)]
(.rq (.cells 16 (.v 3))
(.rq (.cells 16 (.v 4))
(.call true 44 [(.sub (.v 0) 32 6 0 noI)]
(.rq (.cells 16 (.v 5))
(.eff true 1 25 (opr Tryz.f8 1 25) [(.put (.put (.z 38) 0 16 (.sub (.v 0) 0 16 0 noI) 0 noI) 16 16 (.sub (.v 0) 16 16 0 noI) 0 noI), (.put (.put (.z 38) 0 16 (.v 1) 0 noI) 16 16 (.v 2) 0 noI), (.put (.put (.z 38) 0 16 (.v 3) 0 noI) 16 16 (.v 4) 0 noI), (.put (.put (.z 38) 0 16 (.v 5) 0 noI) 16 16 (.sub (.v 0) 16 16 0 noI) 0 noI)]
(.ret [(.v 6)]))))))))))))) := by kernel_rfl
theorem np_hpairs : (Tryz.prog.funcs[8]?).map (fun fn => fn.params.size + fn.nfree) = some 1 := by kernel_rfl
theorem op_hpairs_1_25 : (opr Tryz.f8 1 25).op = .buildSlice 36 4 #[(0, (.tmp 7)), (1, (.tmp 14)), (2, (.tmp 21)), (3, (.tmp 27))] := by kernel_rfl
end Go.Proofs.YtcleogdmobdnpaaGreat

/- MADE BY rxgen.py: the trees of the helpers of the laws of chapter 02. -/
import Derived.Test.YtcleogdmobdnpacGreatRDoorWdT
import Derived.Test.YtcleogdmobdnpacGreatRDoorShD
import Derived.Laws.StructEq
namespace Go.Proofs.YtcleogdmobdnpacGreatRDoor
open Go.RowKit Go.RX
theorem tr_hq : tree Tryz.prog [] [] [] [] 22 = some (.call false 21 [(.v 0), (.v 1)]
(.rq (.tup 0 (.v 2))
(.rq (.tup 1 (.v 2))
(.rq (.cells 16 (.proj (.v 2) 0))
(.ret [(.ag (.proj (.v 2) 0))]))))) := by kernel_rfl
theorem np_hq : (Tryz.prog.funcs[22]?).map (fun fn => fn.params.size + fn.nfree) = some 2 := by kernel_rfl
theorem tr_his : tree Tryz.prog [2, 3] [] [] [] 24 = some (.rq (.cells 1 (.v 0))
(.pub 3 (.v 0)
(.rq (.cells 1 (.v 1))
(.pub 3 (.v 1)
(.eff false 1 0 (opr Tryz.f24 1 0) [(.v 2), (.v 3)]
(.ret [(.v 4)])))))) := by kernel_rfl
theorem np_his : (Tryz.prog.funcs[24]?).map (fun fn => fn.params.size + fn.nfree) = some 2 := by kernel_rfl
theorem op_his_1_0 : (opr Tryz.f24 1 0).op = .makeFunc (.func 73) #[] #[(.tmp 2), (.tmp 3)] := by kernel_rfl
theorem tr_his1 : tree Tryz.prog [] [] [] [⟨1, [0, 0, 0, 6, 15, 31, 63, 127, 255, 511], [5, 1, 1, 2, 1, 0, 0, 0, 0, 0], [0, 0, 0, 0, 0, 0, 0, 0, 0, 0], [0, 1, 2, 3, 4, 5, 6, 7, 8, 9], []⟩] 73 = some (.rq (.cells 16 (.v 0))
(.prim 1 1 (opr Tryz.f73 1 1) [(.v 2)]
(.prim 1 2 (opr Tryz.f73 1 2) [(.v 3)]
(.call true 22 [(.v 4), (.v 5)]
(.prim 1 4 (opr Tryz.f73 1 4) [(.ag (.v 0)), (.v 6)]
(.rq (.bool (.v 7))
(.br (.v 7)
 (.rq (.int .i64 (.v 1))
 (.ret [(.op2 .eql .i64 (.v 1) (.k (.int .i64 (0))))]))
 (.ret [(.k (.bool false))])))))))) := by kernel_rfl
theorem np_his1 : (Tryz.prog.funcs[73]?).map (fun fn => fn.params.size + fn.nfree) = some 4 := by kernel_rfl
theorem op_his1_1_1 : (opr Tryz.f73 1 1).op = .load 3 (.tmp 2) := by kernel_rfl
theorem op_his1_1_2 : (opr Tryz.f73 1 2).op = .load 3 (.tmp 3) := by kernel_rfl
theorem op_his1_1_4 : (opr Tryz.f73 1 4).op = .binOp .eql 33 (.tmp 7) (.tmp 10) 33 := by kernel_rfl
theorem tr_hfails : tree Tryz.prog [1] [] [] [] 27 = some (.rq (.cells 1 (.v 0))
(.pub 36 (.v 0)
(.eff false 1 0 (opr Tryz.f27 1 0) [(.v 1)]
(.ret [(.v 2)])))) := by kernel_rfl
theorem np_hfails : (Tryz.prog.funcs[27]?).map (fun fn => fn.params.size + fn.nfree) = some 1 := by kernel_rfl
theorem op_hfails_1_0 : (opr Tryz.f27 1 0).op = .makeFunc (.func 76) #[] #[(.tmp 1)] := by kernel_rfl
theorem tr_hfails1 : tree Tryz.prog [] [] [] [] 76 = some (.rq (.cells 16 (.v 0))
(.prim 1 2 (opr Tryz.f76 1 2) [(.ag (.v 0)), (.cat (.z 31) 8 (.z 31))]
(.rq (.bool (.v 3))
(.br (.v 3)
 (.prim 1 5 (opr Tryz.f76 1 5) [(.v 2)]
 (.rq (.int .i64 (.v 1))
 (.rq (.int .i64 (.v 4))
 (.ret [(.op2 .eql .i64 (.v 1) (.v 4))]))))
 (.ret [(.k (.bool false))]))))) := by kernel_rfl
theorem np_hfails1 : (Tryz.prog.funcs[76]?).map (fun fn => fn.params.size + fn.nfree) = some 3 := by kernel_rfl
theorem op_hfails1_1_2 : (opr Tryz.f76 1 2).op = .binOp .eql 33 (.tmp 6) (.tmp 7) 33 := by kernel_rfl
theorem op_hfails1_1_5 : (opr Tryz.f76 1 5).op = .load 36 (.tmp 2) := by kernel_rfl
theorem tr_hsays : tree Tryz.prog [1] [] [] [] 29 = some (.rq (.cells 1 (.v 0))
(.pub 3 (.v 0)
(.eff false 1 0 (opr Tryz.f29 1 0) [(.v 1)]
(.ret [(.v 2)])))) := by kernel_rfl
theorem np_hsays : (Tryz.prog.funcs[29]?).map (fun fn => fn.params.size + fn.nfree) = some 1 := by kernel_rfl
theorem op_hsays_1_0 : (opr Tryz.f29 1 0).op = .makeFunc (.func 77) #[] #[(.tmp 1)] := by kernel_rfl
theorem tr_hsays1 : tree Tryz.prog [] [] [] [⟨1, [0, 0, 2, 7, 15, 31, 63, 127, 255], [5, 1, 2, 1, 0, 0, 0, 0, 0], [0, 0, 0, 0, 0, 0, 0, 0, 0], [0, 1, 2, 3, 4, 5, 6, 7, 8], []⟩] 77 = some (.rq (.cells 8 (.v 0))
(.prim 1 1 (opr Tryz.f77 1 1) [(.v 2)]
(.call true 14 [(.v 3)]
(.prim 1 3 (opr Tryz.f77 1 3) [(.ag (.v 0)), (.v 4)]
(.rq (.bool (.v 5))
(.br (.v 5)
 (.rq (.int .i64 (.v 1))
 (.ret [(.op2 .eql .i64 (.v 1) (.k (.int .i64 (0))))]))
 (.ret [(.k (.bool false))]))))))) := by kernel_rfl
theorem np_hsays1 : (Tryz.prog.funcs[77]?).map (fun fn => fn.params.size + fn.nfree) = some 3 := by kernel_rfl
theorem op_hsays1_1_1 : (opr Tryz.f77 1 1).op = .load 3 (.tmp 2) := by kernel_rfl
theorem op_hsays1_1_3 : (opr Tryz.f77 1 3).op = .binOp .eql 31 (.tmp 6) (.tmp 8) 31 := by kernel_rfl
theorem tr_htells : tree Tryz.prog [1] [] [] [] 20 = some (.rq (.cells 1 (.v 0))
(.pub 9 (.v 0)
(.eff false 1 0 (opr Tryz.f20 1 0) [(.v 1)]
(.ret [(.v 2)])))) := by kernel_rfl
theorem np_htells : (Tryz.prog.funcs[20]?).map (fun fn => fn.params.size + fn.nfree) = some 1 := by kernel_rfl
theorem op_htells_1_0 : (opr Tryz.f20 1 0).op = .makeFunc (.func 70) #[] #[(.tmp 1)] := by kernel_rfl
theorem tr_htells1 : tree Tryz.prog [] [] [] [] 70 = some (.prim 1 1 (opr Tryz.f70 1 1) [(.v 2)]
(.prim 1 2 (opr Tryz.f70 1 2) [(.v 0), (.v 3)]
(.rq (.bool (.v 4))
(.br (.v 4)
 (.rq (.int .i64 (.v 1))
 (.ret [(.op2 .eql .i64 (.v 1) (.k (.int .i64 (0))))]))
 (.ret [(.k (.bool false))]))))) := by kernel_rfl
theorem np_htells1 : (Tryz.prog.funcs[70]?).map (fun fn => fn.params.size + fn.nfree) = some 3 := by kernel_rfl
theorem op_htells1_1_1 : (opr Tryz.f70 1 1).op = .load 9 (.tmp 2) := by kernel_rfl
theorem op_htells1_1_2 : (opr Tryz.f70 1 2).op = .binOp .eql 9 (.tmp 6) (.tmp 7) 9 := by kernel_rfl
theorem tr_hworks : tree Tryz.prog [] [(13, true), (20, true), (24, true), (29, true), (38, true), (47, true), (56, true), (66, true), (74, true), (82, true), (90, true), (98, true), (106, true), (114, true), (121, true), (128, true), (136, true), (144, true), (152, true), (160, true)] [] [] 4 = some (.call false 21 [(.k (.int .i64 (1))), (.k (.int .i64 (0)))]
(.rq (.tup 0 (.v 0))
(.rq (.tup 1 (.v 0))
(.rq (.cells 16 (.proj (.v 0) 0))
(.call false 22 [(.k (.int .i64 (6))), (.k (.int .i64 (-4)))]
(.call false 14 [(.k (.int .i64 (-3)))]
(.call false 14 [(.k (.int .i64 (2)))]
(.rq (.cells 8 (.v 2))
(.rq (.cells 8 (.v 3))
(.prim 2 4 (opr Tryz.f4 2 4) [(.v 1), (.put (.cat (.v 2) 8 (.z 31)) 8 8 (.v 3) 0 noI)]
(.rq (.isb true (.v 4))
(.call false 22 [(.k (.int .i64 (0))), (.k (.int .i64 (-5)))]
(.call false 14 [(.k (.int .i64 (0)))]
(.call false 14 [(.k (.int .i64 (1)))]
(.rq (.cells 8 (.v 6))
(.rq (.cells 8 (.v 7))
(.prim 2 10 (opr Tryz.f4 2 10) [(.v 5), (.put (.cat (.v 6) 8 (.z 31)) 8 8 (.v 7) 0 noI)]
(.rq (.isb true (.v 8))
(.rq (.int .i64 (.proj (.v 0) 1))
(.rq (.isb true (.op2 .eql .i64 (.proj (.v 0) 1) (.k (.int .i64 (7)))))
(.call false 23 [(.cat (.z 31) 8 (.z 31))]
(.rq (.int .i64 (.v 9))
(.rq (.isb true (.op2 .eql .i64 (.v 9) (.k (.int .i64 (20)))))
(.call false 24 [(.k (.int .i64 (1))), (.k (.int .i64 (2)))]
(.call false 22 [(.k (.int .i64 (1))), (.k (.int .i64 (6)))]
(.call false 22 [(.k (.int .i64 (1))), (.k (.int .i64 (3)))]
(.call false 25 [(.v 11), (.v 12)]
(.rq (.tup 0 (.v 13))
(.rq (.tup 1 (.v 13))
(.eff false 2 28 (opr Tryz.f4 2 28) [(.v 10), (.proj (.v 13) 0), (.proj (.v 13) 1)]
(.rq (.isb true (.v 14))
(.call false 24 [(.k (.int .i64 (-2))), (.k (.int .i64 (3)))]
(.call false 22 [(.k (.int .i64 (1))), (.k (.int .i64 (2)))]
(.call false 22 [(.k (.int .i64 (-3))), (.k (.int .i64 (4)))]
(.call false 26 [(.v 16), (.v 17)]
(.rq (.tup 0 (.v 18))
(.rq (.tup 1 (.v 18))
(.eff false 2 37 (opr Tryz.f4 2 37) [(.v 15), (.proj (.v 18) 0), (.proj (.v 18) 1)]
(.rq (.isb true (.v 19))
(.call false 27 [(.k (.int .i64 (7)))]
(.call false 22 [(.k (.int .i64 (1))), (.k (.int .i64 (1)))]
(.call false 22 [(.k (.int .i64 (0))), (.k (.int .i64 (1)))]
(.call false 26 [(.v 21), (.v 22)]
(.rq (.tup 0 (.v 23))
(.rq (.tup 1 (.v 23))
(.eff false 2 46 (opr Tryz.f4 2 46) [(.v 20), (.proj (.v 23) 0), (.proj (.v 23) 1)]
(.rq (.isb true (.v 24))
(.call false 24 [(.k (.int .i64 (2))), (.k (.int .i64 (3)))]
(.call false 22 [(.k (.int .i64 (1))), (.k (.int .i64 (2)))]
(.call false 22 [(.k (.int .i64 (2))), (.k (.int .i64 (3)))]
(.call false 28 [(.v 26), (.v 27)]
(.rq (.tup 0 (.v 28))
(.rq (.tup 1 (.v 28))
(.eff false 2 55 (opr Tryz.f4 2 55) [(.v 25), (.proj (.v 28) 0), (.proj (.v 28) 1)]
(.rq (.isb true (.v 29))
(.call false 29 [(.k (.int .i64 (-1)))]
(.call false 22 [(.k (.int .i64 (-1))), (.k (.int .i64 (2)))]
(.call false 30 [(.v 31)]
(.rq (.tup 0 (.v 32))
(.rq (.tup 1 (.v 32))
(.eff false 3 7 (opr Tryz.f4 3 7) [(.v 30), (.proj (.v 32) 0), (.proj (.v 32) 1)]
(.rq (.isb true (.v 33))
(.call false 29 [(.k (.int .i64 (0)))]
(.call false 22 [(.k (.int .i64 (-1))), (.k (.int .i64 (2)))]
(.call false 31 [(.v 35)]
(.rq (.tup 0 (.v 36))
(.rq (.tup 1 (.v 36))
(.eff false 3 15 (opr Tryz.f4 3 15) [(.v 34), (.proj (.v 36) 0), (.proj (.v 36) 1)]
(.rq (.isb true (.v 37))
(.call false 29 [(.k (.int .i64 (0)))]
(.call false 22 [(.k (.int .i64 (-1))), (.k (.int .i64 (2)))]
(.call false 32 [(.v 39)]
(.rq (.tup 0 (.v 40))
(.rq (.tup 1 (.v 40))
(.eff false 3 23 (opr Tryz.f4 3 23) [(.v 38), (.proj (.v 40) 0), (.proj (.v 40) 1)]
(.rq (.isb true (.v 41))
(.call false 29 [(.k (.int .i64 (1)))]
(.call false 22 [(.k (.int .i64 (1))), (.k (.int .i64 (2)))]
(.call false 32 [(.v 43)]
(.rq (.tup 0 (.v 44))
(.rq (.tup 1 (.v 44))
(.eff false 3 31 (opr Tryz.f4 3 31) [(.v 42), (.proj (.v 44) 0), (.proj (.v 44) 1)]
(.rq (.isb true (.v 45))
(.call false 20 [(.k (.string ⟨#[45, 51, 47, 50]⟩))]
(.call false 22 [(.k (.int .i64 (-3))), (.k (.int .i64 (2)))]
(.call false 8 [(.v 47)]
(.rq (.tup 0 (.v 48))
(.rq (.tup 1 (.v 48))
(.eff false 3 39 (opr Tryz.f4 3 39) [(.v 46), (.proj (.v 48) 0), (.proj (.v 48) 1)]
(.rq (.isb true (.v 49))
(.call false 20 [(.k (.string ⟨#[52]⟩))]
(.call false 22 [(.k (.int .i64 (4))), (.k (.int .i64 (1)))]
(.call false 8 [(.v 51)]
(.rq (.tup 0 (.v 52))
(.rq (.tup 1 (.v 52))
(.eff false 3 47 (opr Tryz.f4 3 47) [(.v 50), (.proj (.v 52) 0), (.proj (.v 52) 1)]
(.rq (.isb true (.v 53))
(.call false 27 [(.k (.int .i64 (5)))]
(.call false 9 [(.k (.string ⟨#[50, 47, 52]⟩))]
(.rq (.tup 0 (.v 55))
(.rq (.tup 1 (.v 55))
(.eff false 3 54 (opr Tryz.f4 3 54) [(.v 54), (.proj (.v 55) 0), (.proj (.v 55) 1)]
(.rq (.isb true (.v 56))
(.call false 27 [(.k (.int .i64 (5)))]
(.call false 9 [(.k (.string ⟨#[51, 47, 45, 49]⟩))]
(.rq (.tup 0 (.v 58))
(.rq (.tup 1 (.v 58))
(.eff false 3 61 (opr Tryz.f4 3 61) [(.v 57), (.proj (.v 58) 0), (.proj (.v 58) 1)]
(.rq (.isb true (.v 59))
(.call false 24 [(.k (.int .i64 (-3))), (.k (.int .i64 (2)))]
(.call false 9 [(.k (.string ⟨#[45, 51, 47, 50]⟩))]
(.rq (.tup 0 (.v 61))
(.rq (.tup 1 (.v 61))
(.eff false 3 68 (opr Tryz.f4 3 68) [(.v 60), (.proj (.v 61) 0), (.proj (.v 61) 1)]
(.rq (.isb true (.v 62))
(.call false 20 [(.k (.string ⟨#[45, 48, 46, 49, 50]⟩))]
(.call false 22 [(.k (.int .i64 (-1))), (.k (.int .i64 (8)))]
(.call false 10 [(.v 64), (.k (.int .i64 (2)))]
(.rq (.tup 0 (.v 65))
(.rq (.tup 1 (.v 65))
(.eff false 4 7 (opr Tryz.f4 4 7) [(.v 63), (.proj (.v 65) 0), (.proj (.v 65) 1)]
(.rq (.isb true (.v 66))
(.call false 20 [(.k (.string ⟨#[48, 46, 51, 51, 51, 51]⟩))]
(.call false 22 [(.k (.int .i64 (1))), (.k (.int .i64 (3)))]
(.call false 10 [(.v 68), (.k (.int .i64 (4)))]
(.rq (.tup 0 (.v 69))
(.rq (.tup 1 (.v 69))
(.eff false 4 15 (opr Tryz.f4 4 15) [(.v 67), (.proj (.v 69) 0), (.proj (.v 69) 1)]
(.rq (.isb true (.v 70))
(.call false 20 [(.k (.string ⟨#[51]⟩))]
(.call false 22 [(.k (.int .i64 (5))), (.k (.int .i64 (2)))]
(.call false 10 [(.v 72), (.k (.int .i64 (0)))]
(.rq (.tup 0 (.v 73))
(.rq (.tup 1 (.v 73))
(.eff false 4 23 (opr Tryz.f4 4 23) [(.v 71), (.proj (.v 73) 0), (.proj (.v 73) 1)]
(.rq (.isb true (.v 74))
(.call false 20 [(.k (.string ⟨#[48, 46, 48, 48]⟩))]
(.call false 22 [(.k (.int .i64 (-1))), (.k (.int .i64 (1000)))]
(.call false 10 [(.v 76), (.k (.int .i64 (2)))]
(.rq (.tup 0 (.v 77))
(.rq (.tup 1 (.v 77))
(.eff false 4 31 (opr Tryz.f4 4 31) [(.v 75), (.proj (.v 77) 0), (.proj (.v 77) 1)]
(.ret [(.v 78)]))))))))))))))))))))))))))))))))))))))))))))))))))))))))))))))))))))))))))))))))))))))))))))))))))))))))))))))))))))))))))))))))))))))))))))))) := by kernel_rfl
theorem np_hworks : (Tryz.prog.funcs[4]?).map (fun fn => fn.params.size + fn.nfree) = some 0 := by kernel_rfl
theorem op_hworks_2_4 : (opr Tryz.f4 2 4).op = .binOp .eql 33 (.tmp 8) (.tmp 11) 33 := by kernel_rfl
theorem op_hworks_2_10 : (opr Tryz.f4 2 10).op = .binOp .eql 33 (.tmp 14) (.tmp 17) 33 := by kernel_rfl
theorem op_hworks_2_28 : (opr Tryz.f4 2 28).op = .call ⟨.value (.tmp 30), #[(.tmp 34), (.tmp 35)], #[33, 36]⟩ := by kernel_rfl
theorem op_hworks_2_37 : (opr Tryz.f4 2 37).op = .call ⟨.value (.tmp 39), #[(.tmp 43), (.tmp 44)], #[33, 36]⟩ := by kernel_rfl
theorem op_hworks_2_46 : (opr Tryz.f4 2 46).op = .call ⟨.value (.tmp 48), #[(.tmp 52), (.tmp 53)], #[33, 36]⟩ := by kernel_rfl
theorem op_hworks_2_55 : (opr Tryz.f4 2 55).op = .call ⟨.value (.tmp 57), #[(.tmp 61), (.tmp 62)], #[33, 36]⟩ := by kernel_rfl
theorem op_hworks_3_7 : (opr Tryz.f4 3 7).op = .call ⟨.value (.tmp 67), #[(.tmp 70), (.tmp 71)], #[31, 36]⟩ := by kernel_rfl
theorem op_hworks_3_15 : (opr Tryz.f4 3 15).op = .call ⟨.value (.tmp 75), #[(.tmp 78), (.tmp 79)], #[31, 36]⟩ := by kernel_rfl
theorem op_hworks_3_23 : (opr Tryz.f4 3 23).op = .call ⟨.value (.tmp 83), #[(.tmp 86), (.tmp 87)], #[31, 36]⟩ := by kernel_rfl
theorem op_hworks_3_31 : (opr Tryz.f4 3 31).op = .call ⟨.value (.tmp 91), #[(.tmp 94), (.tmp 95)], #[31, 36]⟩ := by kernel_rfl
theorem op_hworks_3_39 : (opr Tryz.f4 3 39).op = .call ⟨.value (.tmp 99), #[(.tmp 102), (.tmp 103)], #[9, 36]⟩ := by kernel_rfl
theorem op_hworks_3_47 : (opr Tryz.f4 3 47).op = .call ⟨.value (.tmp 107), #[(.tmp 110), (.tmp 111)], #[9, 36]⟩ := by kernel_rfl
theorem op_hworks_3_54 : (opr Tryz.f4 3 54).op = .call ⟨.value (.tmp 115), #[(.tmp 117), (.tmp 118)], #[33, 36]⟩ := by kernel_rfl
theorem op_hworks_3_61 : (opr Tryz.f4 3 61).op = .call ⟨.value (.tmp 122), #[(.tmp 124), (.tmp 125)], #[33, 36]⟩ := by kernel_rfl
theorem op_hworks_3_68 : (opr Tryz.f4 3 68).op = .call ⟨.value (.tmp 129), #[(.tmp 131), (.tmp 132)], #[33, 36]⟩ := by kernel_rfl
theorem op_hworks_4_7 : (opr Tryz.f4 4 7).op = .call ⟨.value (.tmp 137), #[(.tmp 140), (.tmp 141)], #[9, 36]⟩ := by kernel_rfl
theorem op_hworks_4_15 : (opr Tryz.f4 4 15).op = .call ⟨.value (.tmp 145), #[(.tmp 148), (.tmp 149)], #[9, 36]⟩ := by kernel_rfl
theorem op_hworks_4_23 : (opr Tryz.f4 4 23).op = .call ⟨.value (.tmp 153), #[(.tmp 156), (.tmp 157)], #[9, 36]⟩ := by kernel_rfl
theorem op_hworks_4_31 : (opr Tryz.f4 4 31).op = .call ⟨.value (.tmp 161), #[(.tmp 164), (.tmp 165)], #[9, 36]⟩ := by kernel_rfl
end Go.Proofs.YtcleogdmobdnpacGreatRDoor
namespace Go.Proofs.YtcleogdmobdnpacGreatRDoor
open Go.RowKit Go.RX Go.WD

theorem run_eq_wide {a b : Nat} (d : Nat) (w : World) : (Op.equalIn (d + 2) 31 (wd a) (wd b)).run Tryz.prog w = .ok (decide (a % M = b % M)) w := by
  obtain ⟨i, hi⟩ : ∃ i, Tryz.prog.info? 29 = some i := by
    have h := hasT_u64
    unfold hasT at h; rw [Bool.and_eq_true, Option.isSome_iff_exists] at h; exact h.1
  show (Op.equalIn (d + 1 + 1) 31 (.agg (wf (dig a))) (.agg (wf (dig b)))).run Tryz.prog w = _
  rw [run_equalIn_array (n := 8) (e := 29) w (d + 1) _ _ (by kernel_rfl) hi, run_eq_words hasT_u64 cells_u64 agg_u64 (by kernel_rfl) d (dig a) (dig b) w _ (fun i hi => List.mem_range.1 hi)]
  refine congrArg (fun z => Result.ok z w) ?_
  rw [Bool.eq_iff_iff, decide_eq_true_iff, decide_eq_true_iff]; exact eq_words_iff a b
theorem run_eq_wide9 {a b : Nat} (w : World) : (Op.equalIn 9999 31 (wd a) (wd b)).run Tryz.prog w = .ok (decide (a % M = b % M)) w := run_eq_wide 9997 w
noncomputable def fN : Field := ((Tryz.prog.fieldsOf 33)[0]?).getD default
noncomputable def fD : Field := ((Tryz.prog.fieldsOf 33)[1]?).getD default
theorem f_share : (Tryz.prog.fieldsOf 33).toList = [fN, fD] := by kernel_rfl
theorem fN_t : fN.type = 31 := by kernel_rfl
theorem fN_o : fN.offset = 0 := by kernel_rfl
theorem fN_n : (fN.name ≠ "_") = True := eq_true (by decide +kernel)
theorem fD_t : fD.type = 31 := by kernel_rfl
theorem fD_o : fD.offset = 8 := by kernel_rfl
theorem fD_n : (fD.name ≠ "_") = True := eq_true (by decide +kernel)
theorem cells_wide : Tryz.prog.cellsOf 31 = 8 := by kernel_rfl
theorem part_n (a b : Nat) (w : World) : (part 31 (words a ++ words b) 0).run Tryz.prog w = .ok (wd a) w := by
  rw [run_partV (by kernel_rfl) (by rw [cells_wide, (shv_one a b).1]; omega) (by rw [cells_wide]; omega) w, cells_wide, show isAggB Tryz.prog 31 = true from by kernel_rfl, if_pos rfl]
  rw [sh_n]
theorem part_d (a b : Nat) (w : World) : (part 31 (words a ++ words b) 8).run Tryz.prog w = .ok (wd b) w := by
  rw [run_partV (by kernel_rfl) (by rw [cells_wide, (shv_one a b).1]; omega) (by rw [cells_wide]; omega) w, cells_wide, show isAggB Tryz.prog 31 = true from by kernel_rfl, if_pos rfl]
  rw [sh_d]
theorem run_eq_share (a b c d : Nat) (w : World) : (Op.equalIn 10000 33 (shv a b) (shv c d)).run Tryz.prog w = .ok (decide (a % M = c % M) && decide (b % M = d % M)) w := by
  show (Op.equalIn (9999 + 1) 33 (.agg (words a ++ words b)) (.agg (words c ++ words d))).run Tryz.prog w = _
  rw [run_equalIn_struct w 9999 _ _ _ (by kernel_rfl) (by kernel_rfl), f_share]
  simp only [Op.eqFields, fN_n, fD_n, fN_t, fN_o, fD_t, fD_o, if_true, Sem.run_bind, part_n, Result.andThen_ok, run_eq_wide9]
  by_cases h1 : a % M = c % M
  · by_cases h2 : b % M = d % M
    · simp [h1, h2, part_d, run_eq_wide9]
    · simp [h1, h2, part_d, run_eq_wide9]
  · simp [h1]
section
variable {o : Oper} {x y : Operand} {H : PH} {a b c d : Nat}
theorem eq_share (ho : o.op = .binOp .eql 33 x y 33) (hx : ∀ u v, argEv [x, y] [u, v] x = u) (hy : ∀ u v, argEv [x, y] [u, v] y = v) : Yld Tryz.prog o [shv a b, shv c d] (.bool (decide (a % M = c % M) && decide (b % M = d % M))) := fun w => by
  have hos : o.op.operands.toList = [x, y] := by simp [ho, Op.operands]
  rw [hos]
  have h1 := run_eql_struct (P := Tryz.prog) w 33 (words a ++ words b) (words c ++ words d)
  have h2 := run_eqGuard_agg (P := Tryz.prog) w .eql 33 x y (words a ++ words b) (words c ++ words d) (by kernel_rfl)
  have h3 := run_eq_share a b c d w
  simp only [shv] at h3
  rw [h3] at h1
  simp only [execOp, ho, hx, hy, shv, Sem.run_bind, h2, h1, Result.andThen_ok]
  rfl
theorem ne_share (ho : o.op = .binOp .neq 33 x y 33) (hx : ∀ u v, argEv [x, y] [u, v] x = u) (hy : ∀ u v, argEv [x, y] [u, v] y = v) : Yld Tryz.prog o [shv a b, shv c d] (.bool (!(decide (a % M = c % M) && decide (b % M = d % M)))) := fun w => by
  have hos : o.op.operands.toList = [x, y] := by simp [ho, Op.operands]
  rw [hos]
  have h1 := run_neq_struct (P := Tryz.prog) w 33 (words a ++ words b) (words c ++ words d)
  have h2 := run_eqGuard_agg (P := Tryz.prog) w .neq 33 x y (words a ++ words b) (words c ++ words d) (by kernel_rfl)
  have h3 := run_eq_share a b c d w
  simp only [shv] at h3
  rw [h3] at h1
  simp only [execOp, ho, hx, hy, shv, Sem.run_bind, h2, h1, Result.andThen_ok]
  rfl
theorem eq_share_self (ho : o.op = .binOp .eql 33 x y 33) (hx : ∀ u v, argEv [x, y] [u, v] x = u) (hy : ∀ u v, argEv [x, y] [u, v] y = v) : Yld Tryz.prog o [shv a b, shv a b] (.bool true) := by
  have := eq_share (a := a) (b := b) (c := a) (d := b) ho hx hy
  rwa [decide_eq_true rfl, decide_eq_true rfl] at this
theorem ne_share_self (ho : o.op = .binOp .neq 33 x y 33) (hx : ∀ u v, argEv [x, y] [u, v] x = u) (hy : ∀ u v, argEv [x, y] [u, v] y = v) : Yld Tryz.prog o [shv a b, shv a b] (.bool false) := by
  have := ne_share (a := a) (b := b) (c := a) (d := b) ho hx hy
  rwa [decide_eq_true rfl, decide_eq_true rfl] at this
end
/-- The share of a fraction. -/
def shR (r : Rat) : Value := shv (rs r.num) (rs (r.den : Int))
/-- Small fractions. -/
def Sm (r : Rat) : Prop := -9223372036854775808 ≤ r.num ∧ r.num < 9223372036854775808 ∧ (r.den : Int) < 9223372036854775808
theorem big64 : (9223372036854775808 : Int) < HM := by
  have := M_big.1
  omega
theorem told_small {r : Rat} (h : Sm r) : toldR r = .tuple #[shR r, .int .i64 0] := by
  have := big64
  unfold Sm at h
  unfold toldR
  rw [if_pos (by omega)]; rfl
theorem shR_ok {r : Rat} (h : -(HM : Int) ≤ r.num ∧ r.num < HM) (h2 : (r.den : Int) < HM) : okB (rs r.num) (rs (r.den : Int)) = true ∧ ratOf (rs r.num) (rs (r.den : Int)) = r := by
  have hd : 0 < (r.den : Int) := by have := r.den_nz; omega
  have e1 : toI (rs r.num) = r.num := toI_rs h
  have e2 : toI (rs (r.den : Int)) = (r.den : Int) := toI_rs (show Fits _ from ⟨by have := HM_pos; omega, h2⟩)
  constructor
  · unfold okB
    rw [e1, e2, decide_eq_true hd, Int.natAbs_natCast, decide_eq_true r.reduced]; rfl
  · unfold ratOf
    rw [e1, e2, Rat.num_divInt_den]
theorem sm_ok {r : Rat} (h : Sm r) : okB (rs r.num) (rs (r.den : Int)) = true ∧ ratOf (rs r.num) (rs (r.den : Int)) = r := by
  have := big64
  unfold Sm at h
  exact shR_ok (by omega) (by omega)
section
variable {H : PH}
theorem con_hq {p q : Int} (r : Rat) (p0 : -9223372036854775808 ≤ p) (p1 : p < 9223372036854775808) (q0 : -9223372036854775808 ≤ q) (q1 : q < 9223372036854775808) (h0 : q ≠ 0) (hr : Rat.divInt p q = r) (hs : Sm r) : Con Tryz.prog 22 [.int .i64 p, .int .i64 q] H fun u H' => PH.le H H' ∧ u = shR r := by
  refine con_of_tree mixed tr_hq np_hq rfl (den_call (con_sOf p q p0 p1 q0 q1) rfl ?_)
  rintro u1 H1 ⟨l1, rfl⟩
  unfold makeV
  rw [if_neg h0, hr, told_small hs]
  exact ⟨fun h => (nomatch h), den_rq ⟨_, rfl, Nat.zero_lt_succ _⟩ (den_rq ⟨_, rfl, Nat.lt_succ_self _⟩ (den_rq (shv_one _ _) (den_ret rfl ⟨l1, rfl⟩)))⟩
theorem one_i (n : Int) : (Value.int .i64 n).cells.size = 1 ∧ oneAll (Value.int .i64 n).cells := ⟨rfl, one_int _ _⟩
theorem con_his (n d : Int) : Con Tryz.prog 24 [.int .i64 n, .int .i64 d] H fun v H' => ∃ b c, v = .func (.func 73) #[] #[ptr b, ptr c] ∧ PH.le H H' ∧ H' b = some (.cells #[.int .i64 n] 3 (0, 0)) ∧ H' c = some (.cells #[.int .i64 d] 3 (0, 0)) := by
  refine con_of_tree mixed tr_his np_his rfl (den_rq (one_i n) ?_)
  intro b hb
  simp only [List.cons_append, List.nil_append]
  refine den_rq (one_i d) ?_
  intro c hc
  have hne : b ≠ c := fun e => by
    have hc' : (H.put b (.cells #[.int .i64 n] 3 (0, 0))) c = none := hc
    rw [← e, PH.put_self] at hc'; cases hc'
  simp only [List.cons_append, List.nil_append]
  refine den_eff ((run_makeFunc (vs := [ptr b, ptr c]) op_his_1_0 rfl).opn _) rfl ?_
  rintro u H3 ⟨rfl, rfl⟩
  refine ⟨fun h => (nomatch h), den_ret rfl ⟨b, c, rfl, ?_, ?_, ?_⟩⟩
  · exact (PH.le_put hb (.cells #[.int .i64 n] 3 (0, 0))).trans (PH.le_put hc (.cells #[.int .i64 d] 3 (0, 0)))
  · show ((H.put b (.cells #[.int .i64 n] 3 (0, 0))).put c (.cells #[.int .i64 d] 3 (0, 0))) b = _
    rw [PH.put_ne _ _ hne, PH.put_self]
  · exact PH.put_self _ _ _
theorem ent_his1 : entB Tryz.prog 73 = true := by kernel_rfl
theorem con_his1 {b c : Nat} {p q : Int} (r : Rat) (p0 : -9223372036854775808 ≤ p) (p1 : p < 9223372036854775808) (q0 : -9223372036854775808 ≤ q) (q1 : q < 9223372036854775808) (h0 : q ≠ 0) (hr : Rat.divInt p q = r) (hs : Sm r) (hb : H b = some (.cells #[.int .i64 p] 3 (0, 0))) (hc : H c = some (.cells #[.int .i64 q] 3 (0, 0))) : Con Tryz.prog 73 [shR r, .int .i64 0, ptr b, ptr c] H fun u H' => PH.le H H' ∧ u = .bool true := by
  refine con_of_tree mixed tr_his1 np_his1 rfl (den_rq (shv_one _ _) (den_prim (sl_load1 (w := .int .i64 p) op_his1_1_1 rfl hb hasT_int agg_int cells_int' (by simp) rfl) rfl (den_prim (sl_load1 (w := .int .i64 q) op_his1_1_2 rfl hc hasT_int agg_int cells_int' (by simp) rfl) rfl (den_call (con_hq r p0 p1 q0 q1 h0 hr hs) rfl ?_))))
  rintro u1 H1 ⟨l1, rfl⟩
  exact ⟨fun _ => l1, den_prim ((eq_share_self op_his1_1_4 (fun _ _ => rfl) (fun _ _ => rfl)).rds _) rfl (den_rq ⟨_, rfl⟩ (den_true rfl (den_rq ⟨_, rfl⟩ (den_ret rfl ⟨l1, rfl⟩))))⟩
theorem con_hfails (n : Int) : Con Tryz.prog 27 [.int .i64 n] H fun v H' => ∃ b, v = .func (.func 76) #[] #[ptr b] ∧ PH.le H H' ∧ H' b = some (.cells #[.int .i64 n] 36 (0, 0)) := by
  refine con_of_tree mixed tr_hfails np_hfails rfl (den_rq (one_i n) ?_)
  intro b hb
  simp only [List.cons_append, List.nil_append]
  refine den_eff ((run_makeFunc (vs := [ptr b]) op_hfails_1_0 rfl).opn _) rfl ?_
  rintro u H3 ⟨rfl, rfl⟩
  exact ⟨fun h => (nomatch h), den_ret rfl ⟨b, rfl, PH.le_put hb (.cells #[.int .i64 n] 36 (0, 0)), PH.put_self _ _ _⟩⟩
theorem ent_hfails1 : entB Tryz.prog 76 = true := by kernel_rfl
theorem con_hfails1 {b : Nat} {n : Int} (hb : H b = some (.cells #[.int .i64 n] 36 (0, 0))) : Con Tryz.prog 76 [shv 0 0, .int .i64 n, ptr b] H fun u H' => PH.le H H' ∧ u = .bool true := by
  refine con_of_tree mixed tr_hfails1 np_hfails1 rfl (den_rq (shv_one _ _) (den_prim ((eq_share_self (a := 0) (b := 0) op_hfails1_1_2 (fun _ _ => rfl) (fun _ _ => rfl)).rds _) (congrArg (fun z => [shv 0 0, z]) z_share) (den_rq ⟨_, rfl⟩ (den_true rfl (den_prim (sl_load1 (w := .int .i64 n) op_hfails1_1_5 rfl hb (by kernel_rfl) (by kernel_rfl) (by kernel_rfl) (by simp) rfl) rfl (den_rq ⟨_, rfl⟩ (den_rq ⟨_, rfl⟩ (den_ret rfl ⟨PH.le.refl _, ?_⟩))))))))
  show Value.bool (n == n) = _
  rw [beq_self_eq_true]
theorem con_hsays (n : Int) : Con Tryz.prog 29 [.int .i64 n] H fun v H' => ∃ b, v = .func (.func 77) #[] #[ptr b] ∧ PH.le H H' ∧ H' b = some (.cells #[.int .i64 n] 3 (0, 0)) := by
  refine con_of_tree mixed tr_hsays np_hsays rfl (den_rq (one_i n) ?_)
  intro b hb
  simp only [List.cons_append, List.nil_append]
  refine den_eff ((run_makeFunc (vs := [ptr b]) op_hsays_1_0 rfl).opn _) rfl ?_
  rintro u H3 ⟨rfl, rfl⟩
  exact ⟨fun h => (nomatch h), den_ret rfl ⟨b, rfl, PH.le_put hb (.cells #[.int .i64 n] 3 (0, 0)), PH.put_self _ _ _⟩⟩
theorem ent_hsays1 : entB Tryz.prog 77 = true := by kernel_rfl
theorem con_hsays1 {b : Nat} {n : Int} (n0 : -9223372036854775808 ≤ n) (n1 : n < 9223372036854775808) (hb : H b = some (.cells #[.int .i64 n] 3 (0, 0))) : Con Tryz.prog 77 [iw n, .int .i64 0, ptr b] H fun u H' => PH.le H H' ∧ u = .bool true := by
  refine con_of_tree mixed tr_hsays1 np_hsays1 rfl (den_rq ⟨words_size _, words_one _⟩ (den_prim (sl_load1 (w := .int .i64 n) op_hsays1_1_1 rfl hb hasT_int agg_int cells_int' (by simp) rfl) rfl (den_det (det_Of n n0 n1) rfl (den_prim ((eq_wide (a := rs n) (b := rs n) op_hsays1_1_3 rfl rfl rfl rfl).rds _) rfl (den_rq ⟨_, rfl⟩ (den_true (by show Value.bool (decide (rs n % M = rs n % M)) = _; rw [decide_eq_true rfl]) (den_rq ⟨_, rfl⟩ (den_ret rfl ⟨PH.le.refl _, rfl⟩))))))))
theorem con_htells (l : List UInt8) : Con Tryz.prog 20 [st l] H fun v H' => ∃ b, v = .func (.func 70) #[] #[ptr b] ∧ PH.le H H' ∧ H' b = some (.cells #[st l] 9 (0, 0)) := by
  refine con_of_tree mixed tr_htells np_htells rfl (den_rq ⟨rfl, st_one l⟩ ?_)
  intro b hb
  simp only [List.cons_append, List.nil_append]
  refine den_eff ((run_makeFunc (vs := [ptr b]) op_htells_1_0 rfl).opn _) rfl ?_
  rintro u H3 ⟨rfl, rfl⟩
  exact ⟨fun h => (nomatch h), den_ret rfl ⟨b, rfl, PH.le_put hb (.cells #[st l] 9 (0, 0)), PH.put_self _ _ _⟩⟩
theorem ent_htells1 : entB Tryz.prog 70 = true := by kernel_rfl
theorem con_htells1 {b : Nat} {l : List UInt8} (hb : H b = some (.cells #[st l] 9 (0, 0))) : Con Tryz.prog 70 [st l, .int .i64 0, ptr b] H fun u H' => PH.le H H' ∧ u = .bool true := by
  refine con_of_tree mixed tr_htells1 np_htells1 rfl (den_prim (sl_load1 (w := st l) op_htells1_1_1 rfl hb (by kernel_rfl) (by kernel_rfl) (by kernel_rfl) (by simp) rfl) rfl (den_prim ((st_eq (l := l) (m := l) (vs := [st l, st l]) op_htells1_1_2 rfl rfl uStr gStr).rds _) rfl (den_rq ⟨_, rfl⟩ (den_true (by show Value.bool (l == l) = _; rw [beq_self_eq_true]) (den_rq ⟨_, rfl⟩ (den_ret rfl ⟨PH.le.refl _, rfl⟩))))))
end
end Go.Proofs.YtcleogdmobdnpacGreatRDoor
namespace Go.WD
open Go.RX
/-- Digits, with fuel. -/
def drc : Nat → Nat → List UInt8
  | 0, n => [UInt8.ofNat (48 + n)]
  | k + 1, n => if n < 10 then [UInt8.ofNat (48 + n)] else drc k (n / 10) ++ [UInt8.ofNat (48 + n % 10)]
theorem dr_drc : ∀ (k n : Nat), n < 10 ^ (k + 1) → dr n = drc k n
  | 0, n, h => dr_small (by omega)
  | k + 1, n, h => by
    unfold drc
    split
    · rename_i h1; exact dr_small h1
    · rename_i h1
      rw [dr_big h1, dr_drc k (n / 10) (by rw [Nat.pow_succ] at h; omega)]
def dznc (n : Nat) : List UInt8 := if n = 0 then [] else drc 9 n
theorem dzn_c {n : Nat} (h : n < 1000000000) : dzn n = dznc n := by
  unfold dzn dznc
  split
  · rfl
  · exact dr_drc 9 n (by omega)
def txtc (z : Int) : List UInt8 := if z < 0 then 45 :: drc 9 z.natAbs else drc 9 z.natAbs
theorem txt_c {z : Int} (h : z.natAbs < 1000000000) : txt z = txtc z := by
  rw [txt_dr]; unfold txtc
  rw [dr_drc 9 _ (by omega)]
def txtRc (r : Rat) : List UInt8 := if r.den = 1 then txtc r.num else txtc r.num ++ 47 :: txtc (r.den : Int)
theorem txtR_c {r : Rat} (h : r.num.natAbs < 1000000000) (h2 : r.den < 1000000000) : txtR r = txtRc r := by
  unfold txtR txtRc
  rw [txt_c h, txt_c (by rw [Int.natAbs_natCast]; exact h2)]
def decLc (z : Int) (p : Nat) : List UInt8 :=
  (if z < 0 then [45] else []) ++ (if p = 0 then pad 1 (dznc z.natAbs) else (pad (p + 1) (dznc z.natAbs)).take ((pad (p + 1) (dznc z.natAbs)).length - p) ++ 46 :: (pad (p + 1) (dznc z.natAbs)).drop ((pad (p + 1) (dznc z.natAbs)).length - p))
theorem decL_c {z : Int} (p : Nat) (h : z.natAbs < 1000000000) : decL z p = decLc z p := by
  unfold decL decLc
  rw [dzn_c h]
end Go.WD
namespace Go.Proofs.YtcleogdmobdnpacGreatRDoor
open Go.RowKit Go.RX Go.WD

section
variable {H : PH}
/-- What Div hands back. -/
def divR (ok : Bool) (r s : Rat) : Value := if ok then (if s = 0 then .tuple #[shv 0 0, .int .i64 7] else toldR (r / s)) else .tuple #[shv 0 0, .int .i64 20]
theorem ent_sOver : entB Tryz.prog 75 = true := by kernel_rfl
theorem rat_zero {m e : Nat} (h : okB m e = true) : toI m = 0 ↔ ratOf m e = 0 := by
  rw [← (ok_rat h).1]; exact Rat.num_eq_zero
set_option maxRecDepth 100000 in
theorem con_sDiv (n d m e : Nat) : Con Tryz.prog 26 [shv n d, shv m e] H fun u H' => PH.le H H' ∧ u = divR (okB n d && okB m e) (ratOf n d) (ratOf m e) := by
  obtain ⟨K, hK⟩ : ∃ K, K = 512 := ⟨_, rfl⟩
  refine con_of_tree mixed tr_sDiv np_sDiv rfl (den_rq (shv_one n d) (den_rq (shv_one m e) ⟨fun vals H' => vals = [.bool ((okB n d && okB m e) && decide (toI m = 0))] ∧ PH.le H H', den_shbuild (vs := [shv n d, shv m e]) [(n, d), (m, e)] op_sDiv_1_2 (by simp) (by simp) rfl rfl fun v1 H1 l1 hv1 => ?_, ?_⟩))
  · simp only [List.cons_append, List.nil_append]
    refine den_call (con_svalid hv1) rfl ?_
    rintro u2 H2 ⟨l2, rfl⟩
    rw [all2]
    simp only [List.cons_append, List.nil_append]
    refine ⟨fun h => (nomatch h), den_rq ⟨_, rfl⟩ (den_br rfl (fun h => ?_) (fun h => ?_))⟩
    · rw [h, Bool.true_and]
      refine den_prim ((eq_wide (a := m) (b := 0) op_sDiv_1_8 rfl rfl rfl rfl).rds _) ?_ ⟨?_, l1.trans l2⟩
      · show [Value.agg ((words m ++ words e).extract 0 8), zeroV Tryz.prog 31] = [wd m, wd 0]
        rw [sh_n, z_wide]
      · show [Value.bool (decide (m % M = 0 % M))] = _
        congr 2
        rw [decide_eq_decide, Nat.zero_mod, toI_zer]
    · rw [h, Bool.false_and]
      exact ⟨rfl, l1.trans l2⟩
  rintro vals H3 - ⟨rfl, l3⟩
  simp only [List.cons_append, List.nil_append]
  unfold divR
  refine den_rq ⟨_, rfl⟩ (den_br rfl (fun h => ?_) (fun h => ?_))
  · rw [Bool.and_eq_true, decide_eq_true_iff] at h
    have h1 := h.1
    rw [Bool.and_eq_true] at h1
    rw [h.1, if_pos rfl, if_pos ((rat_zero h1.2).1 h.2)]
    exact den_ret (congrArg (fun z => Value.tuple #[z, .int .i64 7]) z_share) ⟨l3, rfl⟩
  · have hs : okB n d = true → okB m e = true → ratOf m e ≠ 0 := fun h1 h2 e0 => by
      rw [h1, h2, decide_eq_true ((rat_zero h2).2 e0)] at h; cases h
    refine den_call (con_stwoR (f := 75) ent_sOver n d m e (ratOf n d / ratOf m e) (fun h1 h2 H x y hx hy => con_sROver hx hy (ok_rb h1 hK) (ok_rb h2 hK) (by omega) (hs h1 h2))) rfl ?_
    rintro u1 H1 ⟨l1, hu1⟩
    rcases hu1 with ⟨h, v, rfl, hv⟩ | ⟨h, v, rfl, h4, h5⟩
    · have h' := h
      rw [Bool.and_eq_true] at h'
      rw [h, if_pos rfl, if_neg (hs h'.1 h'.2)]
      simp only [List.cons_append, List.nil_append]
      refine ⟨fun h => (nomatch h), den_rq ⟨_, rfl, Nat.zero_lt_succ _⟩ (den_rq ⟨_, rfl, Nat.lt_succ_self _⟩ (den_call (con_stold0 hv) rfl ?_))⟩
      rintro u2 H2 ⟨l2, rfl⟩
      obtain ⟨a, b, c, ht⟩ := toldR_form (ratOf n d / ratOf m e)
      rw [ht]
      exact ⟨fun h => (nomatch h), den_rq ⟨_, rfl, Nat.zero_lt_succ _⟩ (den_rq ⟨_, rfl, Nat.lt_succ_self _⟩ (den_rq (shv_one a b) (den_ret rfl ⟨l3.trans (l1.trans l2), rfl⟩)))⟩
    · rw [h, if_neg (by simp)]
      simp only [List.cons_append, List.nil_append]
      refine ⟨fun h => (nomatch h), den_rq ⟨_, rfl, Nat.zero_lt_succ _⟩ (den_rq ⟨_, rfl, Nat.lt_succ_self _⟩ (den_call (con_stold1 h4 h5) rfl ?_))⟩
      rintro u2 H2 ⟨l2, rfl⟩
      exact ⟨fun h => (nomatch h), den_rq ⟨_, rfl, Nat.zero_lt_succ _⟩ (den_rq ⟨_, rfl, Nat.lt_succ_self _⟩ (den_rq (shv_one 0 0) (den_ret rfl ⟨l3.trans (l1.trans l2), rfl⟩)))⟩
/-! ### Examples -/
variable {r s t : Rat}
theorem ex_add (hr : Sm r) (hs : Sm s) (ht : r + s = t) (hT : Sm t) : Con Tryz.prog 25 [shR r, shR s] H fun u H' => PH.le H H' ∧ u = .tuple #[shR t, .int .i64 0] :=
  (con_sAdd _ _ _ _).mono fun u H' ⟨l, h⟩ => ⟨l, by rw [h, (sm_ok hr).1, (sm_ok hs).1, (sm_ok hr).2, (sm_ok hs).2, ht]; exact told_small hT⟩
theorem ex_max (hr : Sm r) (hs : Sm s) (ht : -(if sgR (-r) (-s) ≤ 0 then -r else -s) = t) (hT : Sm t) : Con Tryz.prog 28 [shR r, shR s] H fun u H' => PH.le H H' ∧ u = .tuple #[shR t, .int .i64 0] :=
  (con_sMax _ _ _ _).mono fun u H' ⟨l, h⟩ => ⟨l, by rw [h, (sm_ok hr).1, (sm_ok hs).1, (sm_ok hr).2, (sm_ok hs).2, ht]; exact told_small hT⟩
theorem ex_div (hr : Sm r) (hs : Sm s) (h0 : s ≠ 0) (ht : r / s = t) (hT : Sm t) : Con Tryz.prog 26 [shR r, shR s] H fun u H' => PH.le H H' ∧ u = .tuple #[shR t, .int .i64 0] :=
  (con_sDiv _ _ _ _).mono fun u H' ⟨l, h⟩ => ⟨l, by
    rw [h, (sm_ok hr).1, (sm_ok hs).1, (sm_ok hr).2, (sm_ok hs).2]
    unfold divR
    rw [if_neg h0, ht]; exact told_small hT⟩
theorem ex_div0 (hr : Sm r) (hs : Sm s) (h0 : s = 0) : Con Tryz.prog 26 [shR r, shR s] H fun u H' => PH.le H H' ∧ u = .tuple #[shv 0 0, .int .i64 7] :=
  (con_sDiv _ _ _ _).mono fun u H' ⟨l, h⟩ => ⟨l, by
    rw [h, (sm_ok hr).1, (sm_ok hs).1, (sm_ok hr).2, (sm_ok hs).2]
    unfold divR
    rw [if_pos h0]; rfl⟩
theorem tok64 {z : Int} (h0 : -9223372036854775808 ≤ z) (h1 : z < 9223372036854775808) : told z = .tuple #[iw z, .int .i64 0] := told_fits (fits_small h0 h1)
theorem ex_floor {z : Int} (hr : Sm r) (h : r.floor = z) (h0 : -9223372036854775808 ≤ z) (h1 : z < 9223372036854775808) : Con Tryz.prog 30 [shR r] H fun u H' => PH.le H H' ∧ u = .tuple #[iw z, .int .i64 0] :=
  (con_sFloor _ _).mono fun u H' ⟨l, e⟩ => ⟨l, by rw [e, (sm_ok hr).1, (sm_ok hr).2, h]; exact tok64 h0 h1⟩
theorem ex_ceil {z : Int} (hr : Sm r) (h : -(-r).floor = z) (h0 : -9223372036854775808 ≤ z) (h1 : z < 9223372036854775808) : Con Tryz.prog 31 [shR r] H fun u H' => PH.le H H' ∧ u = .tuple #[iw z, .int .i64 0] :=
  (con_sCeil _ _).mono fun u H' ⟨l, e⟩ => ⟨l, by rw [e, (sm_ok hr).1, (sm_ok hr).2, h]; exact tok64 h0 h1⟩
theorem ex_near {z : Int} (hr : Sm r) (h : (r + 1 / 2).floor = z) (h0 : -9223372036854775808 ≤ z) (h1 : z < 9223372036854775808) : Con Tryz.prog 32 [shR r] H fun u H' => PH.le H H' ∧ u = .tuple #[iw z, .int .i64 0] :=
  (con_sNear _ _).mono fun u H' ⟨l, e⟩ => ⟨l, by rw [e, (sm_ok hr).1, (sm_ok hr).2, h]; exact tok64 h0 h1⟩
theorem ex_text {l : List UInt8} (hr : Sm r) (h : txtR r = l) : Con Tryz.prog 8 [shR r] H fun u H' => PH.le H H' ∧ u = .tuple #[st l, .int .i64 0] :=
  (con_sText _ _).mono fun u H' ⟨le, e⟩ => ⟨le, by rw [e]; unfold textV; rw [(sm_ok hr).1, (sm_ok hr).2, h]; rfl⟩
theorem ex_dec {l : List UInt8} {p : Nat} {z : Int} (hr : Sm r) (hp : p ≤ 20) (hz : (r * (((10 : Int) ^ p : Int) : Rat) + 1 / 2).floor = z) (h : decL z p = l) : Con Tryz.prog 10 [shR r, .int .i64 (p : Nat)] H fun u H' => PH.le H H' ∧ u = .tuple #[st l, .int .i64 0] :=
  (con_sDecimal _ _ _).mono fun u H' ⟨le, e⟩ => ⟨le, by
    rw [e]; unfold decV
    rw [(sm_ok hr).1, if_pos rfl, if_neg (by omega), Int.toNat_natCast]
    unfold decZ
    rw [(sm_ok hr).2, hz, h]⟩
theorem par_no {l : List UInt8} (h : (rightB (cutA l) && rightB (undr l) && !(ng (undr l) || undr l == [48])) = false) : parS l = .tuple #[shv 0 0, .int .i64 5] := by unfold parS; rw [h, if_neg (by simp)]
theorem par_yes {l : List UInt8} {p q : Int} (h : (rightB (cutA l) && rightB (undr l) && !(ng (undr l) || undr l == [48])) = true) (hp : numL (cutA l) = p) (hq : numL (undr l) = q) (p0 : -9223372036854775808 ≤ p) (p1 : p < 9223372036854775808) (q0 : -9223372036854775808 ≤ q) (q1 : q < 9223372036854775808) :
    parS l = (if (decide (0 < q) && decide (Nat.gcd p.natAbs q.natAbs = 1)) && !(cutB l && undr l == [49]) then .tuple #[shv (rs p) (rs q), .int .i64 0] else .tuple #[shv 0 0, .int .i64 5]) := by
  have := big64
  unfold parS
  rw [h, if_pos rfl, hp, hq, if_pos (by omega)]
  unfold okB
  rw [toI_rs (fits_small p0 p1), toI_rs (fits_small q0 q1)]
end

def qm3_2 : Rat := Rat.divInt (-3) 2
theorem sm_qm3_2 : Sm qm3_2 := by unfold Sm; exact ⟨by decide +kernel, by decide +kernel, by decide +kernel⟩
theorem nu_qm3_2 : qm3_2.num = (-3) := by decide +kernel
theorem de_qm3_2 : (qm3_2.den : Int) = 2 := by decide +kernel
def qm3_4 : Rat := Rat.divInt (-3) 4
theorem sm_qm3_4 : Sm qm3_4 := by unfold Sm; exact ⟨by decide +kernel, by decide +kernel, by decide +kernel⟩
theorem nu_qm3_4 : qm3_4.num = (-3) := by decide +kernel
theorem de_qm3_4 : (qm3_4.den : Int) = 4 := by decide +kernel
def qm2_3 : Rat := Rat.divInt (-2) 3
theorem sm_qm2_3 : Sm qm2_3 := by unfold Sm; exact ⟨by decide +kernel, by decide +kernel, by decide +kernel⟩
theorem nu_qm2_3 : qm2_3.num = (-2) := by decide +kernel
theorem de_qm2_3 : (qm2_3.den : Int) = 3 := by decide +kernel
def qm1_2 : Rat := Rat.divInt (-1) 2
theorem sm_qm1_2 : Sm qm1_2 := by unfold Sm; exact ⟨by decide +kernel, by decide +kernel, by decide +kernel⟩
theorem nu_qm1_2 : qm1_2.num = (-1) := by decide +kernel
theorem de_qm1_2 : (qm1_2.den : Int) = 2 := by decide +kernel
def qm1_8 : Rat := Rat.divInt (-1) 8
theorem sm_qm1_8 : Sm qm1_8 := by unfold Sm; exact ⟨by decide +kernel, by decide +kernel, by decide +kernel⟩
theorem nu_qm1_8 : qm1_8.num = (-1) := by decide +kernel
theorem de_qm1_8 : (qm1_8.den : Int) = 8 := by decide +kernel
def qm1_1000 : Rat := Rat.divInt (-1) 1000
theorem sm_qm1_1000 : Sm qm1_1000 := by unfold Sm; exact ⟨by decide +kernel, by decide +kernel, by decide +kernel⟩
theorem nu_qm1_1000 : qm1_1000.num = (-1) := by decide +kernel
theorem de_qm1_1000 : (qm1_1000.den : Int) = 1000 := by decide +kernel
def q0_1 : Rat := Rat.divInt 0 1
theorem sm_q0_1 : Sm q0_1 := by unfold Sm; exact ⟨by decide +kernel, by decide +kernel, by decide +kernel⟩
theorem nu_q0_1 : q0_1.num = 0 := by decide +kernel
theorem de_q0_1 : (q0_1.den : Int) = 1 := by decide +kernel
def q1_1 : Rat := Rat.divInt 1 1
theorem sm_q1_1 : Sm q1_1 := by unfold Sm; exact ⟨by decide +kernel, by decide +kernel, by decide +kernel⟩
theorem nu_q1_1 : q1_1.num = 1 := by decide +kernel
theorem de_q1_1 : (q1_1.den : Int) = 1 := by decide +kernel
def q1_2 : Rat := Rat.divInt 1 2
theorem sm_q1_2 : Sm q1_2 := by unfold Sm; exact ⟨by decide +kernel, by decide +kernel, by decide +kernel⟩
theorem nu_q1_2 : q1_2.num = 1 := by decide +kernel
theorem de_q1_2 : (q1_2.den : Int) = 2 := by decide +kernel
def q1_3 : Rat := Rat.divInt 1 3
theorem sm_q1_3 : Sm q1_3 := by unfold Sm; exact ⟨by decide +kernel, by decide +kernel, by decide +kernel⟩
theorem nu_q1_3 : q1_3.num = 1 := by decide +kernel
theorem de_q1_3 : (q1_3.den : Int) = 3 := by decide +kernel
def q1_6 : Rat := Rat.divInt 1 6
theorem sm_q1_6 : Sm q1_6 := by unfold Sm; exact ⟨by decide +kernel, by decide +kernel, by decide +kernel⟩
theorem nu_q1_6 : q1_6.num = 1 := by decide +kernel
theorem de_q1_6 : (q1_6.den : Int) = 6 := by decide +kernel
def q2_3 : Rat := Rat.divInt 2 3
theorem sm_q2_3 : Sm q2_3 := by unfold Sm; exact ⟨by decide +kernel, by decide +kernel, by decide +kernel⟩
theorem nu_q2_3 : q2_3.num = 2 := by decide +kernel
theorem de_q2_3 : (q2_3.den : Int) = 3 := by decide +kernel
def q4_1 : Rat := Rat.divInt 4 1
theorem sm_q4_1 : Sm q4_1 := by unfold Sm; exact ⟨by decide +kernel, by decide +kernel, by decide +kernel⟩
theorem nu_q4_1 : q4_1.num = 4 := by decide +kernel
theorem de_q4_1 : (q4_1.den : Int) = 1 := by decide +kernel
def q5_2 : Rat := Rat.divInt 5 2
theorem sm_q5_2 : Sm q5_2 := by unfold Sm; exact ⟨by decide +kernel, by decide +kernel, by decide +kernel⟩
theorem nu_q5_2 : q5_2.num = 5 := by decide +kernel
theorem de_q5_2 : (q5_2.den : Int) = 2 := by decide +kernel
theorem arg_2_4 : [shR qm3_2, Value.agg (spl ((iw (-3)).cells ++ (zeroV Tryz.prog 31).cells) 8 (iw 2).cells.toList)] = [shv (rs qm3_2.num) (rs (qm3_2.den : Int)), shv (rs qm3_2.num) (rs (qm3_2.den : Int))] := by
  rw [z_wide, nu_qm3_2, de_qm3_2]
  show [shR qm3_2, Value.agg (spl (words (rs (-3)) ++ words 0) 8 (words (rs 2)).toList)] = _
  rw [put_w8]
  unfold shR
  rw [nu_qm3_2, de_qm3_2]
  rfl
theorem arg_2_10 : [shR q0_1, Value.agg (spl ((iw 0).cells ++ (zeroV Tryz.prog 31).cells) 8 (iw 1).cells.toList)] = [shv (rs q0_1.num) (rs (q0_1.den : Int)), shv (rs q0_1.num) (rs (q0_1.den : Int))] := by
  rw [z_wide, nu_q0_1, de_q0_1]
  show [shR q0_1, Value.agg (spl (words (rs 0) ++ words 0) 8 (words (rs 1)).toList)] = _
  rw [put_w8]
  unfold shR
  rw [nu_q0_1, de_q0_1]
  rfl
theorem chk0 : Value.bool ((if okB 0 0 then (0 : Int) else 20) == 20) = .bool true := by
  have : okB 0 0 = false := by
    have h : toI 0 = 0 := (toI_zer 0).1 (Nat.zero_mod _)
    unfold okB
    rw [h]; rfl
  rw [this]; rfl
section
variable {H : PH}
theorem ex_of10 : Con Tryz.prog 21 [.int .i64 1, .int .i64 0] H fun u H' => PH.le H H' ∧ u = Value.tuple #[shv 0 0, .int .i64 7] :=
  (con_sOf 1 0 (by omega) (by omega) (by omega) (by omega)).mono fun u H' ⟨l, h⟩ => ⟨l, h.trans (by unfold makeV; rw [if_pos rfl])⟩
theorem ex_par3_54 : Con Tryz.prog 9 [st [50, 47, 52]] H fun u H' => PH.le H H' ∧ u = .tuple #[shv 0 0, .int .i64 5] :=
  (con_sParse [50, 47, 52] (by simp)).mono fun u H' ⟨l, h⟩ => ⟨l, h.trans (by
    rw [par_yes (p := 2) (q := 4) (by decide +kernel) (by decide +kernel) (by decide +kernel) (by omega) (by omega) (by omega) (by omega), if_neg (by decide +kernel)])⟩
theorem ex_par3_61 : Con Tryz.prog 9 [st [51, 47, 45, 49]] H fun u H' => PH.le H H' ∧ u = .tuple #[shv 0 0, .int .i64 5] :=
  (con_sParse [51, 47, 45, 49] (by simp)).mono fun u H' ⟨l, h⟩ => ⟨l, h.trans (par_no (by decide +kernel))⟩
theorem ex_par3_68 : Con Tryz.prog 9 [st [45, 51, 47, 50]] H fun u H' => PH.le H H' ∧ u = .tuple #[shR qm3_2, .int .i64 0] :=
  (con_sParse [45, 51, 47, 50] (by simp)).mono fun u H' ⟨l, h⟩ => ⟨l, h.trans (by
    rw [par_yes (p := -3) (q := 2) (by decide +kernel) (by decide +kernel) (by decide +kernel) (by omega) (by omega) (by omega) (by omega), if_pos (by decide +kernel)]
    unfold shR
    rw [nu_qm3_2, de_qm3_2])⟩
set_option maxRecDepth 100000 in
set_option maxHeartbeats 4000000 in
theorem con_hworks (H : PH) : Con Tryz.prog 4 [] H fun u H' => u = .bool true ∧ PH.le H H' := by
  refine con_of_tree mixed tr_hworks np_hworks rfl (den_call ex_of10 rfl ?_)
  rintro _ H0 ⟨l0, rfl⟩
  simp only [List.cons_append, List.nil_append]
  refine ⟨fun h => (nomatch h), den_rq ⟨_, rfl, by simp⟩ (den_rq ⟨_, rfl, by simp⟩ (den_rq (shv_one 0 0) (den_call (con_hq qm3_2 (by omega) (by omega) (by omega) (by omega) (by omega) (by decide +kernel) sm_qm3_2) rfl ?_)))⟩
  rintro _ H1 ⟨l1, rfl⟩
  simp only [List.cons_append, List.nil_append]
  refine ⟨fun h => (nomatch h), den_det (det_Of (-3) (by omega) (by omega)) rfl (den_det (det_Of 2 (by omega) (by omega)) rfl (den_rq ⟨words_size _, words_one _⟩ (den_rq ⟨words_size _, words_one _⟩ (den_prim ((eq_share_self (a := rs qm3_2.num) (b := rs (qm3_2.den : Int)) op_hworks_2_4 (fun _ _ => rfl) (fun _ _ => rfl)).rds _) (arg_2_4) (den_rq rfl (den_call (con_hq q0_1 (by omega) (by omega) (by omega) (by omega) (by omega) (by decide +kernel) sm_q0_1) rfl ?_))))))⟩
  rintro _ H2 ⟨l2, rfl⟩
  simp only [List.cons_append, List.nil_append]
  refine ⟨fun h => (nomatch h), den_det (det_Of 0 (by omega) (by omega)) rfl (den_det (det_Of 1 (by omega) (by omega)) rfl (den_rq ⟨words_size _, words_one _⟩ (den_rq ⟨words_size _, words_one _⟩ (den_prim ((eq_share_self (a := rs q0_1.num) (b := rs (q0_1.den : Int)) op_hworks_2_10 (fun _ _ => rfl) (fun _ _ => rfl)).rds _) (arg_2_10) (den_rq rfl (den_rq ⟨_, rfl⟩ (den_rq rfl (den_call (con_sCheck 0 0) (congrArg (fun z => [z]) z_share) ?_))))))))⟩
  rintro _ H3 ⟨l3, rfl⟩
  simp only [List.cons_append, List.nil_append]
  refine ⟨fun h => (nomatch h), den_rq ⟨_, rfl⟩ (den_rq chk0 (den_call (con_his 1 2) rfl ?_))⟩
  rintro _ H4 ⟨b4, c4, rfl, l4, hb4, hc4⟩
  simp only [List.cons_append, List.nil_append]
  refine ⟨fun h => (nomatch h), den_call (con_hq q1_6 (by omega) (by omega) (by omega) (by omega) (by omega) (by decide +kernel) sm_q1_6) rfl ?_⟩
  rintro _ H5 ⟨l5, rfl⟩
  simp only [List.cons_append, List.nil_append]
  refine ⟨fun h => (nomatch h), den_call (con_hq q1_3 (by omega) (by omega) (by omega) (by omega) (by omega) (by decide +kernel) sm_q1_3) rfl ?_⟩
  rintro _ H6 ⟨l6, rfl⟩
  simp only [List.cons_append, List.nil_append]
  refine ⟨fun h => (nomatch h), den_call (ex_add sm_q1_6 sm_q1_3 (t := q1_2) (by decide +kernel) sm_q1_2) rfl ?_⟩
  rintro _ H7 ⟨l7, rfl⟩
  simp only [List.cons_append, List.nil_append]
  refine ⟨fun h => (nomatch h), den_rq ⟨_, rfl, by simp⟩ (den_rq ⟨_, rfl, by simp⟩ (den_eff (opn_callv (f := 73) (caps := #[ptr b4, ptr c4]) (vs := [shR q1_2, .int .i64 0]) op_hworks_2_28 rfl rfl ent_his1 (con_his1 q1_2 (by omega) (by omega) (by omega) (by omega) (by omega) (by decide +kernel) sm_q1_2 (((l5).trans ((l6).trans (l7))) _ _ hb4) (((l5).trans ((l6).trans (l7))) _ _ hc4))) rfl ?_))⟩
  rintro _ H8 ⟨l8, rfl⟩
  simp only [List.cons_append, List.nil_append]
  refine ⟨fun h => (nomatch h), den_rq rfl (den_call (con_his (-2) 3) rfl ?_)⟩
  rintro _ H9 ⟨b9, c9, rfl, l9, hb9, hc9⟩
  simp only [List.cons_append, List.nil_append]
  refine ⟨fun h => (nomatch h), den_call (con_hq q1_2 (by omega) (by omega) (by omega) (by omega) (by omega) (by decide +kernel) sm_q1_2) rfl ?_⟩
  rintro _ H10 ⟨l10, rfl⟩
  simp only [List.cons_append, List.nil_append]
  refine ⟨fun h => (nomatch h), den_call (con_hq qm3_4 (by omega) (by omega) (by omega) (by omega) (by omega) (by decide +kernel) sm_qm3_4) rfl ?_⟩
  rintro _ H11 ⟨l11, rfl⟩
  simp only [List.cons_append, List.nil_append]
  refine ⟨fun h => (nomatch h), den_call (ex_div sm_q1_2 sm_qm3_4 (t := qm2_3) (by decide +kernel) (by decide +kernel) sm_qm2_3) rfl ?_⟩
  rintro _ H12 ⟨l12, rfl⟩
  simp only [List.cons_append, List.nil_append]
  refine ⟨fun h => (nomatch h), den_rq ⟨_, rfl, by simp⟩ (den_rq ⟨_, rfl, by simp⟩ (den_eff (opn_callv (f := 73) (caps := #[ptr b9, ptr c9]) (vs := [shR qm2_3, .int .i64 0]) op_hworks_2_37 rfl rfl ent_his1 (con_his1 qm2_3 (by omega) (by omega) (by omega) (by omega) (by omega) (by decide +kernel) sm_qm2_3 (((l10).trans ((l11).trans (l12))) _ _ hb9) (((l10).trans ((l11).trans (l12))) _ _ hc9))) rfl ?_))⟩
  rintro _ H13 ⟨l13, rfl⟩
  simp only [List.cons_append, List.nil_append]
  refine ⟨fun h => (nomatch h), den_rq rfl (den_call (con_hfails 7) rfl ?_)⟩
  rintro _ H14 ⟨b14, rfl, l14, hb14⟩
  simp only [List.cons_append, List.nil_append]
  refine ⟨fun h => (nomatch h), den_call (con_hq q1_1 (by omega) (by omega) (by omega) (by omega) (by omega) (by decide +kernel) sm_q1_1) rfl ?_⟩
  rintro _ H15 ⟨l15, rfl⟩
  simp only [List.cons_append, List.nil_append]
  refine ⟨fun h => (nomatch h), den_call (con_hq q0_1 (by omega) (by omega) (by omega) (by omega) (by omega) (by decide +kernel) sm_q0_1) rfl ?_⟩
  rintro _ H16 ⟨l16, rfl⟩
  simp only [List.cons_append, List.nil_append]
  refine ⟨fun h => (nomatch h), den_call (ex_div0 sm_q1_1 sm_q0_1 (by decide +kernel)) rfl ?_⟩
  rintro _ H17 ⟨l17, rfl⟩
  simp only [List.cons_append, List.nil_append]
  refine ⟨fun h => (nomatch h), den_rq ⟨_, rfl, by simp⟩ (den_rq ⟨_, rfl, by simp⟩ (den_eff (opn_callv (f := 76) (caps := #[ptr b14]) (vs := [shv 0 0, .int .i64 7]) op_hworks_2_46 rfl rfl ent_hfails1 (con_hfails1 (((l15).trans ((l16).trans (l17))) _ _ hb14))) rfl ?_))⟩
  rintro _ H18 ⟨l18, rfl⟩
  simp only [List.cons_append, List.nil_append]
  refine ⟨fun h => (nomatch h), den_rq rfl (den_call (con_his 2 3) rfl ?_)⟩
  rintro _ H19 ⟨b19, c19, rfl, l19, hb19, hc19⟩
  simp only [List.cons_append, List.nil_append]
  refine ⟨fun h => (nomatch h), den_call (con_hq q1_2 (by omega) (by omega) (by omega) (by omega) (by omega) (by decide +kernel) sm_q1_2) rfl ?_⟩
  rintro _ H20 ⟨l20, rfl⟩
  simp only [List.cons_append, List.nil_append]
  refine ⟨fun h => (nomatch h), den_call (con_hq q2_3 (by omega) (by omega) (by omega) (by omega) (by omega) (by decide +kernel) sm_q2_3) rfl ?_⟩
  rintro _ H21 ⟨l21, rfl⟩
  simp only [List.cons_append, List.nil_append]
  refine ⟨fun h => (nomatch h), den_call (ex_max sm_q1_2 sm_q2_3 (t := q2_3) (by decide +kernel) sm_q2_3) rfl ?_⟩
  rintro _ H22 ⟨l22, rfl⟩
  simp only [List.cons_append, List.nil_append]
  refine ⟨fun h => (nomatch h), den_rq ⟨_, rfl, by simp⟩ (den_rq ⟨_, rfl, by simp⟩ (den_eff (opn_callv (f := 73) (caps := #[ptr b19, ptr c19]) (vs := [shR q2_3, .int .i64 0]) op_hworks_2_55 rfl rfl ent_his1 (con_his1 q2_3 (by omega) (by omega) (by omega) (by omega) (by omega) (by decide +kernel) sm_q2_3 (((l20).trans ((l21).trans (l22))) _ _ hb19) (((l20).trans ((l21).trans (l22))) _ _ hc19))) rfl ?_))⟩
  rintro _ H23 ⟨l23, rfl⟩
  simp only [List.cons_append, List.nil_append]
  refine ⟨fun h => (nomatch h), den_rq rfl (den_call (con_hsays (-1)) rfl ?_)⟩
  rintro _ H24 ⟨b24, rfl, l24, hb24⟩
  simp only [List.cons_append, List.nil_append]
  refine ⟨fun h => (nomatch h), den_call (con_hq qm1_2 (by omega) (by omega) (by omega) (by omega) (by omega) (by decide +kernel) sm_qm1_2) rfl ?_⟩
  rintro _ H25 ⟨l25, rfl⟩
  simp only [List.cons_append, List.nil_append]
  refine ⟨fun h => (nomatch h), den_call (ex_floor (z := (-1)) sm_qm1_2 (by decide +kernel) (by omega) (by omega)) rfl ?_⟩
  rintro _ H26 ⟨l26, rfl⟩
  simp only [List.cons_append, List.nil_append]
  refine ⟨fun h => (nomatch h), den_rq ⟨_, rfl, by simp⟩ (den_rq ⟨_, rfl, by simp⟩ (den_eff (opn_callv (f := 77) (caps := #[ptr b24]) (vs := [iw (-1), .int .i64 0]) op_hworks_3_7 rfl rfl ent_hsays1 (con_hsays1 (by omega) (by omega) (((l25).trans (l26)) _ _ hb24))) rfl ?_))⟩
  rintro _ H27 ⟨l27, rfl⟩
  simp only [List.cons_append, List.nil_append]
  refine ⟨fun h => (nomatch h), den_rq rfl (den_call (con_hsays 0) rfl ?_)⟩
  rintro _ H28 ⟨b28, rfl, l28, hb28⟩
  simp only [List.cons_append, List.nil_append]
  refine ⟨fun h => (nomatch h), den_call (con_hq qm1_2 (by omega) (by omega) (by omega) (by omega) (by omega) (by decide +kernel) sm_qm1_2) rfl ?_⟩
  rintro _ H29 ⟨l29, rfl⟩
  simp only [List.cons_append, List.nil_append]
  refine ⟨fun h => (nomatch h), den_call (ex_ceil (z := 0) sm_qm1_2 (by decide +kernel) (by omega) (by omega)) rfl ?_⟩
  rintro _ H30 ⟨l30, rfl⟩
  simp only [List.cons_append, List.nil_append]
  refine ⟨fun h => (nomatch h), den_rq ⟨_, rfl, by simp⟩ (den_rq ⟨_, rfl, by simp⟩ (den_eff (opn_callv (f := 77) (caps := #[ptr b28]) (vs := [iw 0, .int .i64 0]) op_hworks_3_15 rfl rfl ent_hsays1 (con_hsays1 (by omega) (by omega) (((l29).trans (l30)) _ _ hb28))) rfl ?_))⟩
  rintro _ H31 ⟨l31, rfl⟩
  simp only [List.cons_append, List.nil_append]
  refine ⟨fun h => (nomatch h), den_rq rfl (den_call (con_hsays 0) rfl ?_)⟩
  rintro _ H32 ⟨b32, rfl, l32, hb32⟩
  simp only [List.cons_append, List.nil_append]
  refine ⟨fun h => (nomatch h), den_call (con_hq qm1_2 (by omega) (by omega) (by omega) (by omega) (by omega) (by decide +kernel) sm_qm1_2) rfl ?_⟩
  rintro _ H33 ⟨l33, rfl⟩
  simp only [List.cons_append, List.nil_append]
  refine ⟨fun h => (nomatch h), den_call (ex_near (z := 0) sm_qm1_2 (by decide +kernel) (by omega) (by omega)) rfl ?_⟩
  rintro _ H34 ⟨l34, rfl⟩
  simp only [List.cons_append, List.nil_append]
  refine ⟨fun h => (nomatch h), den_rq ⟨_, rfl, by simp⟩ (den_rq ⟨_, rfl, by simp⟩ (den_eff (opn_callv (f := 77) (caps := #[ptr b32]) (vs := [iw 0, .int .i64 0]) op_hworks_3_23 rfl rfl ent_hsays1 (con_hsays1 (by omega) (by omega) (((l33).trans (l34)) _ _ hb32))) rfl ?_))⟩
  rintro _ H35 ⟨l35, rfl⟩
  simp only [List.cons_append, List.nil_append]
  refine ⟨fun h => (nomatch h), den_rq rfl (den_call (con_hsays 1) rfl ?_)⟩
  rintro _ H36 ⟨b36, rfl, l36, hb36⟩
  simp only [List.cons_append, List.nil_append]
  refine ⟨fun h => (nomatch h), den_call (con_hq q1_2 (by omega) (by omega) (by omega) (by omega) (by omega) (by decide +kernel) sm_q1_2) rfl ?_⟩
  rintro _ H37 ⟨l37, rfl⟩
  simp only [List.cons_append, List.nil_append]
  refine ⟨fun h => (nomatch h), den_call (ex_near (z := 1) sm_q1_2 (by decide +kernel) (by omega) (by omega)) rfl ?_⟩
  rintro _ H38 ⟨l38, rfl⟩
  simp only [List.cons_append, List.nil_append]
  refine ⟨fun h => (nomatch h), den_rq ⟨_, rfl, by simp⟩ (den_rq ⟨_, rfl, by simp⟩ (den_eff (opn_callv (f := 77) (caps := #[ptr b36]) (vs := [iw 1, .int .i64 0]) op_hworks_3_31 rfl rfl ent_hsays1 (con_hsays1 (by omega) (by omega) (((l37).trans (l38)) _ _ hb36))) rfl ?_))⟩
  rintro _ H39 ⟨l39, rfl⟩
  simp only [List.cons_append, List.nil_append]
  refine ⟨fun h => (nomatch h), den_rq rfl (den_call (con_htells [45, 51, 47, 50]) rfl ?_)⟩
  rintro _ H40 ⟨b40, rfl, l40, hb40⟩
  simp only [List.cons_append, List.nil_append]
  refine ⟨fun h => (nomatch h), den_call (con_hq qm3_2 (by omega) (by omega) (by omega) (by omega) (by omega) (by decide +kernel) sm_qm3_2) rfl ?_⟩
  rintro _ H41 ⟨l41, rfl⟩
  simp only [List.cons_append, List.nil_append]
  refine ⟨fun h => (nomatch h), den_call (ex_text (l := [45, 51, 47, 50]) sm_qm3_2 ((txtR_c (by decide +kernel) (by decide +kernel)).trans (by decide +kernel))) rfl ?_⟩
  rintro _ H42 ⟨l42, rfl⟩
  simp only [List.cons_append, List.nil_append]
  refine ⟨fun h => (nomatch h), den_rq ⟨_, rfl, by simp⟩ (den_rq ⟨_, rfl, by simp⟩ (den_eff (opn_callv (f := 70) (caps := #[ptr b40]) (vs := [st [45, 51, 47, 50], .int .i64 0]) op_hworks_3_39 rfl rfl ent_htells1 (con_htells1 (((l41).trans (l42)) _ _ hb40))) rfl ?_))⟩
  rintro _ H43 ⟨l43, rfl⟩
  simp only [List.cons_append, List.nil_append]
  refine ⟨fun h => (nomatch h), den_rq rfl (den_call (con_htells [52]) rfl ?_)⟩
  rintro _ H44 ⟨b44, rfl, l44, hb44⟩
  simp only [List.cons_append, List.nil_append]
  refine ⟨fun h => (nomatch h), den_call (con_hq q4_1 (by omega) (by omega) (by omega) (by omega) (by omega) (by decide +kernel) sm_q4_1) rfl ?_⟩
  rintro _ H45 ⟨l45, rfl⟩
  simp only [List.cons_append, List.nil_append]
  refine ⟨fun h => (nomatch h), den_call (ex_text (l := [52]) sm_q4_1 ((txtR_c (by decide +kernel) (by decide +kernel)).trans (by decide +kernel))) rfl ?_⟩
  rintro _ H46 ⟨l46, rfl⟩
  simp only [List.cons_append, List.nil_append]
  refine ⟨fun h => (nomatch h), den_rq ⟨_, rfl, by simp⟩ (den_rq ⟨_, rfl, by simp⟩ (den_eff (opn_callv (f := 70) (caps := #[ptr b44]) (vs := [st [52], .int .i64 0]) op_hworks_3_47 rfl rfl ent_htells1 (con_htells1 (((l45).trans (l46)) _ _ hb44))) rfl ?_))⟩
  rintro _ H47 ⟨l47, rfl⟩
  simp only [List.cons_append, List.nil_append]
  refine ⟨fun h => (nomatch h), den_rq rfl (den_call (con_hfails 5) rfl ?_)⟩
  rintro _ H48 ⟨b48, rfl, l48, hb48⟩
  simp only [List.cons_append, List.nil_append]
  refine ⟨fun h => (nomatch h), den_call (ex_par3_54) rfl ?_⟩
  rintro _ H49 ⟨l49, rfl⟩
  simp only [List.cons_append, List.nil_append]
  refine ⟨fun h => (nomatch h), den_rq ⟨_, rfl, by simp⟩ (den_rq ⟨_, rfl, by simp⟩ (den_eff (opn_callv (f := 76) (caps := #[ptr b48]) (vs := [shv 0 0, .int .i64 5]) op_hworks_3_54 rfl rfl ent_hfails1 (con_hfails1 ((l49) _ _ hb48))) rfl ?_))⟩
  rintro _ H50 ⟨l50, rfl⟩
  simp only [List.cons_append, List.nil_append]
  refine ⟨fun h => (nomatch h), den_rq rfl (den_call (con_hfails 5) rfl ?_)⟩
  rintro _ H51 ⟨b51, rfl, l51, hb51⟩
  simp only [List.cons_append, List.nil_append]
  refine ⟨fun h => (nomatch h), den_call (ex_par3_61) rfl ?_⟩
  rintro _ H52 ⟨l52, rfl⟩
  simp only [List.cons_append, List.nil_append]
  refine ⟨fun h => (nomatch h), den_rq ⟨_, rfl, by simp⟩ (den_rq ⟨_, rfl, by simp⟩ (den_eff (opn_callv (f := 76) (caps := #[ptr b51]) (vs := [shv 0 0, .int .i64 5]) op_hworks_3_61 rfl rfl ent_hfails1 (con_hfails1 ((l52) _ _ hb51))) rfl ?_))⟩
  rintro _ H53 ⟨l53, rfl⟩
  simp only [List.cons_append, List.nil_append]
  refine ⟨fun h => (nomatch h), den_rq rfl (den_call (con_his (-3) 2) rfl ?_)⟩
  rintro _ H54 ⟨b54, c54, rfl, l54, hb54, hc54⟩
  simp only [List.cons_append, List.nil_append]
  refine ⟨fun h => (nomatch h), den_call (ex_par3_68) rfl ?_⟩
  rintro _ H55 ⟨l55, rfl⟩
  simp only [List.cons_append, List.nil_append]
  refine ⟨fun h => (nomatch h), den_rq ⟨_, rfl, by simp⟩ (den_rq ⟨_, rfl, by simp⟩ (den_eff (opn_callv (f := 73) (caps := #[ptr b54, ptr c54]) (vs := [shR qm3_2, .int .i64 0]) op_hworks_3_68 rfl rfl ent_his1 (con_his1 qm3_2 (by omega) (by omega) (by omega) (by omega) (by omega) (by decide +kernel) sm_qm3_2 ((l55) _ _ hb54) ((l55) _ _ hc54))) rfl ?_))⟩
  rintro _ H56 ⟨l56, rfl⟩
  simp only [List.cons_append, List.nil_append]
  refine ⟨fun h => (nomatch h), den_rq rfl (den_call (con_htells [45, 48, 46, 49, 50]) rfl ?_)⟩
  rintro _ H57 ⟨b57, rfl, l57, hb57⟩
  simp only [List.cons_append, List.nil_append]
  refine ⟨fun h => (nomatch h), den_call (con_hq qm1_8 (by omega) (by omega) (by omega) (by omega) (by omega) (by decide +kernel) sm_qm1_8) rfl ?_⟩
  rintro _ H58 ⟨l58, rfl⟩
  simp only [List.cons_append, List.nil_append]
  refine ⟨fun h => (nomatch h), den_call (ex_dec (l := [45, 48, 46, 49, 50]) (p := 2) (z := (-12)) sm_qm1_8 (by omega) (by decide +kernel) ((decL_c _ (by decide)).trans (by decide +kernel))) rfl ?_⟩
  rintro _ H59 ⟨l59, rfl⟩
  simp only [List.cons_append, List.nil_append]
  refine ⟨fun h => (nomatch h), den_rq ⟨_, rfl, by simp⟩ (den_rq ⟨_, rfl, by simp⟩ (den_eff (opn_callv (f := 70) (caps := #[ptr b57]) (vs := [st [45, 48, 46, 49, 50], .int .i64 0]) op_hworks_4_7 rfl rfl ent_htells1 (con_htells1 (((l58).trans (l59)) _ _ hb57))) rfl ?_))⟩
  rintro _ H60 ⟨l60, rfl⟩
  simp only [List.cons_append, List.nil_append]
  refine ⟨fun h => (nomatch h), den_rq rfl (den_call (con_htells [48, 46, 51, 51, 51, 51]) rfl ?_)⟩
  rintro _ H61 ⟨b61, rfl, l61, hb61⟩
  simp only [List.cons_append, List.nil_append]
  refine ⟨fun h => (nomatch h), den_call (con_hq q1_3 (by omega) (by omega) (by omega) (by omega) (by omega) (by decide +kernel) sm_q1_3) rfl ?_⟩
  rintro _ H62 ⟨l62, rfl⟩
  simp only [List.cons_append, List.nil_append]
  refine ⟨fun h => (nomatch h), den_call (ex_dec (l := [48, 46, 51, 51, 51, 51]) (p := 4) (z := 3333) sm_q1_3 (by omega) (by decide +kernel) ((decL_c _ (by decide)).trans (by decide +kernel))) rfl ?_⟩
  rintro _ H63 ⟨l63, rfl⟩
  simp only [List.cons_append, List.nil_append]
  refine ⟨fun h => (nomatch h), den_rq ⟨_, rfl, by simp⟩ (den_rq ⟨_, rfl, by simp⟩ (den_eff (opn_callv (f := 70) (caps := #[ptr b61]) (vs := [st [48, 46, 51, 51, 51, 51], .int .i64 0]) op_hworks_4_15 rfl rfl ent_htells1 (con_htells1 (((l62).trans (l63)) _ _ hb61))) rfl ?_))⟩
  rintro _ H64 ⟨l64, rfl⟩
  simp only [List.cons_append, List.nil_append]
  refine ⟨fun h => (nomatch h), den_rq rfl (den_call (con_htells [51]) rfl ?_)⟩
  rintro _ H65 ⟨b65, rfl, l65, hb65⟩
  simp only [List.cons_append, List.nil_append]
  refine ⟨fun h => (nomatch h), den_call (con_hq q5_2 (by omega) (by omega) (by omega) (by omega) (by omega) (by decide +kernel) sm_q5_2) rfl ?_⟩
  rintro _ H66 ⟨l66, rfl⟩
  simp only [List.cons_append, List.nil_append]
  refine ⟨fun h => (nomatch h), den_call (ex_dec (l := [51]) (p := 0) (z := 3) sm_q5_2 (by omega) (by decide +kernel) ((decL_c _ (by decide)).trans (by decide +kernel))) rfl ?_⟩
  rintro _ H67 ⟨l67, rfl⟩
  simp only [List.cons_append, List.nil_append]
  refine ⟨fun h => (nomatch h), den_rq ⟨_, rfl, by simp⟩ (den_rq ⟨_, rfl, by simp⟩ (den_eff (opn_callv (f := 70) (caps := #[ptr b65]) (vs := [st [51], .int .i64 0]) op_hworks_4_23 rfl rfl ent_htells1 (con_htells1 (((l66).trans (l67)) _ _ hb65))) rfl ?_))⟩
  rintro _ H68 ⟨l68, rfl⟩
  simp only [List.cons_append, List.nil_append]
  refine ⟨fun h => (nomatch h), den_rq rfl (den_call (con_htells [48, 46, 48, 48]) rfl ?_)⟩
  rintro _ H69 ⟨b69, rfl, l69, hb69⟩
  simp only [List.cons_append, List.nil_append]
  refine ⟨fun h => (nomatch h), den_call (con_hq qm1_1000 (by omega) (by omega) (by omega) (by omega) (by omega) (by decide +kernel) sm_qm1_1000) rfl ?_⟩
  rintro _ H70 ⟨l70, rfl⟩
  simp only [List.cons_append, List.nil_append]
  refine ⟨fun h => (nomatch h), den_call (ex_dec (l := [48, 46, 48, 48]) (p := 2) (z := 0) sm_qm1_1000 (by omega) (by decide +kernel) ((decL_c _ (by decide)).trans (by decide +kernel))) rfl ?_⟩
  rintro _ H71 ⟨l71, rfl⟩
  simp only [List.cons_append, List.nil_append]
  refine ⟨fun h => (nomatch h), den_rq ⟨_, rfl, by simp⟩ (den_rq ⟨_, rfl, by simp⟩ (den_eff (opn_callv (f := 70) (caps := #[ptr b69]) (vs := [st [48, 46, 48, 48], .int .i64 0]) op_hworks_4_31 rfl rfl ent_htells1 (con_htells1 (((l70).trans (l71)) _ _ hb69))) rfl ?_))⟩
  rintro _ H72 ⟨l72, rfl⟩
  exact ⟨fun h => (nomatch h), den_ret rfl ⟨rfl, (l0).trans ((l1).trans ((l2).trans ((l3).trans ((l4).trans ((l5).trans ((l6).trans ((l7).trans ((l8).trans ((l9).trans ((l10).trans ((l11).trans ((l12).trans ((l13).trans ((l14).trans ((l15).trans ((l16).trans ((l17).trans ((l18).trans ((l19).trans ((l20).trans ((l21).trans ((l22).trans ((l23).trans ((l24).trans ((l25).trans ((l26).trans ((l27).trans ((l28).trans ((l29).trans ((l30).trans ((l31).trans ((l32).trans ((l33).trans ((l34).trans ((l35).trans ((l36).trans ((l37).trans ((l38).trans ((l39).trans ((l40).trans ((l41).trans ((l42).trans ((l43).trans ((l44).trans ((l45).trans ((l46).trans ((l47).trans ((l48).trans ((l49).trans ((l50).trans ((l51).trans ((l52).trans ((l53).trans ((l54).trans ((l55).trans ((l56).trans ((l57).trans ((l58).trans ((l59).trans ((l60).trans ((l61).trans ((l62).trans ((l63).trans ((l64).trans ((l65).trans ((l66).trans ((l67).trans ((l68).trans ((l69).trans ((l70).trans ((l71).trans (l72))))))))))))))))))))))))))))))))))))))))))))))))))))))))))))))))))))))))⟩⟩
end
end Go.Proofs.YtcleogdmobdnpacGreatRDoor

/- MADE BY rxgen.py: the trees of strings.Builder and wide.Text. -/
import Derived.Test.YtcleogdmobdnpacGreatRDoorWdT
namespace Go.Proofs.YtcleogdmobdnpacGreatRDoor
open Go.RowKit Go.RX
theorem tr_bWrite : tree Tryz.prog [] [] [] [] 93 = some (.call false 124 [(.v 0)]
(.prim 2 2 (opr Tryz.f93 2 2) [(.v 0)]
(.prim 2 3 (opr Tryz.f93 2 3) [(.v 3)]
(.prim 2 4 (opr Tryz.f93 2 4) [(.v 4)]
(.eff false 2 6 (opr Tryz.f93 2 6) [(.v 1)]
(.eff false 2 7 (opr Tryz.f93 2 7) [(.v 5), (.v 6)]
(.prim 2 8 (opr Tryz.f93 2 8) [(.v 0)]
(.prim 2 9 (opr Tryz.f93 2 9) [(.v 8)]
(.eff false 2 10 (opr Tryz.f93 2 10) [(.v 9), (.v 7)]
(.ret [(.k .nilIface)])))))))))) := by kernel_rfl
theorem np_bWrite : (Tryz.prog.funcs[93]?).map (fun fn => fn.params.size + fn.nfree) = some 2 := by kernel_rfl
theorem op_bWrite_2_2 : (opr Tryz.f93 2 2).op = .nilCheck (.tmp 8) := by kernel_rfl
theorem op_bWrite_2_3 : (opr Tryz.f93 2 3).op = .fieldAddr 128 (.tmp 9) 1 := by kernel_rfl
theorem op_bWrite_2_4 : (opr Tryz.f93 2 4).op = .load 124 (.tmp 10) := by kernel_rfl
theorem op_bWrite_2_6 : (opr Tryz.f93 2 6).op = .buildSlice 124 1 #[(0, (.tmp 12))] := by kernel_rfl
theorem op_bWrite_2_7 : (opr Tryz.f93 2 7).op = .call ⟨.builtin .append, #[(.tmp 11), (.tmp 13)], #[124, 124]⟩ := by kernel_rfl
theorem op_bWrite_2_8 : (opr Tryz.f93 2 8).op = .nilCheck (.tmp 7) := by kernel_rfl
theorem op_bWrite_2_9 : (opr Tryz.f93 2 9).op = .fieldAddr 128 (.tmp 15) 1 := by kernel_rfl
theorem op_bWrite_2_10 : (opr Tryz.f93 2 10).op = .store 124 (.tmp 16) (.tmp 14) := by kernel_rfl
theorem tr_bString : tree Tryz.prog [] [] [] [⟨1, [0, 1, 3, 7, 15, 0, 32, 96, 224, 480, 1023, 2047], [0, 1, 1, 1, 1, 0, 1, 1, 1, 1, 4, 0], [0, 0, 0, 0, 0, 0, 0, 0, 0, 0, 0, 0], [0, 1, 2, 3, 4, 5, 6, 7, 8, 9], [10, 11]⟩] 94 = some (.prim 1 1 (opr Tryz.f94 1 1) [(.v 0)]
(.prim 1 2 (opr Tryz.f94 1 2) [(.v 1)]
(.prim 1 3 (opr Tryz.f94 1 3) [(.v 2)]
(.prim 1 4 (opr Tryz.f94 1 4) [(.v 3)]
(.prim 1 6 (opr Tryz.f94 1 6) [(.v 0)]
(.prim 1 7 (opr Tryz.f94 1 7) [(.v 5)]
(.prim 1 8 (opr Tryz.f94 1 8) [(.v 6)]
(.prim 1 9 (opr Tryz.f94 1 9) [(.v 7)]
(.eff false 1 10 (opr Tryz.f94 1 10) [(.v 4), (.v 8)]
(.ret [(.v 9)])))))))))) := by kernel_rfl
theorem np_bString : (Tryz.prog.funcs[94]?).map (fun fn => fn.params.size + fn.nfree) = some 1 := by kernel_rfl
theorem op_bString_1_1 : (opr Tryz.f94 1 1).op = .nilCheck (.tmp 3) := by kernel_rfl
theorem op_bString_1_2 : (opr Tryz.f94 1 2).op = .fieldAddr 128 (.tmp 4) 1 := by kernel_rfl
theorem op_bString_1_3 : (opr Tryz.f94 1 3).op = .load 124 (.tmp 5) := by kernel_rfl
theorem op_bString_1_4 : (opr Tryz.f94 1 4).op = .call ⟨.builtin .unsafeSliceData, #[(.tmp 6)], #[124]⟩ := by kernel_rfl
theorem op_bString_1_6 : (opr Tryz.f94 1 6).op = .nilCheck (.tmp 8) := by kernel_rfl
theorem op_bString_1_7 : (opr Tryz.f94 1 7).op = .fieldAddr 128 (.tmp 9) 1 := by kernel_rfl
theorem op_bString_1_8 : (opr Tryz.f94 1 8).op = .load 124 (.tmp 10) := by kernel_rfl
theorem op_bString_1_9 : (opr Tryz.f94 1 9).op = .call ⟨.builtin .len, #[(.tmp 11)], #[124]⟩ := by kernel_rfl
theorem op_bString_1_10 : (opr Tryz.f94 1 10).op = .call ⟨.builtin .unsafeString, #[(.tmp 7), (.tmp 12)], #[163, 3]⟩ := by kernel_rfl
theorem tr_bCheck : tree Tryz.prog [] [(19, false)] [] [] 124 = some (.prim 0 1 (opr Tryz.f124 0 1) [(.v 0)]
(.prim 0 2 (opr Tryz.f124 0 2) [(.v 1)]
(.prim 0 3 (opr Tryz.f124 0 3) [(.v 2)]
(.prim 0 4 (opr Tryz.f124 0 4) [(.v 3), (.k (.pointer none))]
(.rq (.bool (.v 4))
(.br (.v 4)
 (.prim 1 2 (opr Tryz.f124 1 2) [(.v 0)]
 (.ext 149 [(.v 5)]
 (.prim 1 4 (opr Tryz.f124 1 4) [(.v 6)]
 (.prim 1 5 (opr Tryz.f124 1 5) [(.v 0)]
 (.prim 1 6 (opr Tryz.f124 1 6) [(.v 8)]
 (.eff false 1 7 (opr Tryz.f124 1 7) [(.v 9), (.v 7)]
 (.ret [])))))))
 (.prim 2 1 (opr Tryz.f124 2 1) [(.v 0)]
 (.prim 2 2 (opr Tryz.f124 2 2) [(.v 5)]
 (.prim 2 3 (opr Tryz.f124 2 3) [(.v 6)]
 (.prim 2 5 (opr Tryz.f124 2 5) [(.v 7), (.v 0)]
 (.rq (.isb false (.v 8))
 (.ret [])))))))))))) := by kernel_rfl
theorem np_bCheck : (Tryz.prog.funcs[124]?).map (fun fn => fn.params.size + fn.nfree) = some 1 := by kernel_rfl
theorem op_bCheck_0_1 : (opr Tryz.f124 0 1).op = .nilCheck (.tmp 2) := by kernel_rfl
theorem op_bCheck_0_2 : (opr Tryz.f124 0 2).op = .fieldAddr 128 (.tmp 3) 0 := by kernel_rfl
theorem op_bCheck_0_3 : (opr Tryz.f124 0 3).op = .load 126 (.tmp 4) := by kernel_rfl
theorem op_bCheck_0_4 : (opr Tryz.f124 0 4).op = .binOp .eql 126 (.tmp 5) (.const (.pointer none)) 126 := by kernel_rfl
theorem op_bCheck_1_2 : (opr Tryz.f124 1 2).op = .convert 126 182 (.tmp 8) := by kernel_rfl
theorem op_bCheck_1_4 : (opr Tryz.f124 1 4).op = .convert 182 126 (.tmp 10) := by kernel_rfl
theorem op_bCheck_1_5 : (opr Tryz.f124 1 5).op = .nilCheck (.tmp 7) := by kernel_rfl
theorem op_bCheck_1_6 : (opr Tryz.f124 1 6).op = .fieldAddr 128 (.tmp 12) 0 := by kernel_rfl
theorem op_bCheck_1_7 : (opr Tryz.f124 1 7).op = .store 126 (.tmp 13) (.tmp 11) := by kernel_rfl
theorem op_bCheck_2_1 : (opr Tryz.f124 2 1).op = .nilCheck (.tmp 14) := by kernel_rfl
theorem op_bCheck_2_2 : (opr Tryz.f124 2 2).op = .fieldAddr 128 (.tmp 15) 0 := by kernel_rfl
theorem op_bCheck_2_3 : (opr Tryz.f124 2 3).op = .load 126 (.tmp 16) := by kernel_rfl
theorem op_bCheck_2_5 : (opr Tryz.f124 2 5).op = .binOp .neq 126 (.tmp 17) (.tmp 18) 126 := by kernel_rfl
theorem tr_wText : tree Tryz.prog [7] [] [⟨3, 4, [20], []⟩, ⟨2, 33, [], []⟩, ⟨0, 4, [], [2]⟩, ⟨0, 12, [], []⟩] [] 38 = some (.rq (.cells 8 (.v 0))
(.call false 90 [(.ag (.v 0))]
(.rq (.cells 9 (.v 1))
(.loop [(.k (.slice none 0 0)), (.sub (.v 1) 1 8 0 noI)]
 (.join 1
  (.call false 91 [(.ag (.v 3))]
  (.rq (.bool (.v 4))
  (.br (.nt (.v 4))
   (.next 1 [(.k (.bool true))])
   (.prim 4 5 (opr Tryz.f38 4 5) [(.v 2)]
   (.rq (.int .i64 (.v 5))
   (.next 1 [(.op2 .eql .i64 (.v 5) (.k (.int .i64 (0))))]))))))
  (.rq (.bool (.v 4))
  (.br (.v 4)
   (.call false 92 [(.ag (.v 3)), (.k (.int .u64 (10)))]
   (.rq (.tup 0 (.v 5))
   (.rq (.tup 1 (.v 5))
   (.rq (.cells 8 (.proj (.v 5) 0))
   (.rq (.int .u64 (.proj (.v 5) 1))
   (.eff false 7 4 (opr Tryz.f38 7 4) [(.op2 .add .u8 (.k (.int .u8 (48))) (.cv .u8 (.proj (.v 5) 1)))]
   (.eff false 7 5 (opr Tryz.f38 7 5) [(.v 2), (.v 6)]
   (.next 0 [(.v 7), (.proj (.v 5) 0)]))))))))
   (.pub 128 (.z 128)
   (.join 0
    (.rq (.bool (.cell (.v 1) 0 0 noI))
    (.br (.cell (.v 1) 0 0 noI)
     (.call false 93 [(.v 5), (.k (.int .u8 (45)))]
     (.next 1 []))
     (.next 1 [])))
    (.prim 11 1 (opr Tryz.f38 11 1) [(.v 2)]
    (.rq (.int .i64 (.v 6))
    (.loop [(.op2 .sub .i64 (.v 6) (.k (.int .i64 (1))))]
     (.rq (.int .i64 (.v 7))
     (.br (.op2 .geq .i64 (.v 7) (.k (.int .i64 (0))))
      (.prim 14 2 (opr Tryz.f38 14 2) [(.v 2), (.v 7)]
      (.prim 14 3 (opr Tryz.f38 14 3) [(.v 8)]
      (.call false 93 [(.v 5), (.v 9)]
      (.next 1 [(.op2 .sub .i64 (.v 7) (.k (.int .i64 (1))))]))))
      (.call false 94 [(.v 5)]
      (.ret [(.v 8)])))))))))))))))) := by kernel_rfl
theorem np_wText : (Tryz.prog.funcs[38]?).map (fun fn => fn.params.size + fn.nfree) = some 1 := by kernel_rfl
theorem op_wText_4_5 : (opr Tryz.f38 4 5).op = .call ⟨.builtin .len, #[(.tmp 17)], #[124]⟩ := by kernel_rfl
theorem op_wText_7_4 : (opr Tryz.f38 7 4).op = .buildSlice 124 1 #[(0, (.tmp 29))] := by kernel_rfl
theorem op_wText_7_5 : (opr Tryz.f38 7 5).op = .call ⟨.builtin .append, #[(.tmp 26), (.tmp 30)], #[124, 124]⟩ := by kernel_rfl
theorem op_wText_11_1 : (opr Tryz.f38 11 1).op = .call ⟨.builtin .len, #[(.tmp 35)], #[124]⟩ := by kernel_rfl
theorem op_wText_14_2 : (opr Tryz.f38 14 2).op = .indexAddr 124 (.tmp 42) (.tmp 43) := by kernel_rfl
theorem op_wText_14_3 : (opr Tryz.f38 14 3).op = .load 5 (.tmp 44) := by kernel_rfl
end Go.Proofs.YtcleogdmobdnpacGreatRDoor

/- The law ShareSums; its tree is printed by rxgen.py. -/
import Derived.Test.YtcleogdmobdnpabGreatWdT
import Derived.Test.YtcleogdmobdnpabGreatSpA
import Derived.Test.YtcleogdmobdnpabGreatSrD
namespace Go.Proofs.YtcleogdmobdnpabGreat
open Go.RowKit Go.RX Go.WD
theorem tr_ShareSums : tree Tryz.prog [] [(18, false), (50, false), (54, false), (84, false), (88, false)] [⟨0, 4, [], [0]⟩, ⟨0, 7, [], []⟩, ⟨0, 15, [], []⟩] [⟨10, [0, 0, 3, 0, 8, 31, 63, 127, 127, 0, 767, 2047], [0, 0, 0, 1, 1, 2, 0, 0, 0, 3, 4, 0], [0, 0, 0, 0, 0, 0, 0, 0, 0, 0, 0, 0], [0, 1, 2, 3, 4, 5, 6, 7, 8, 9], [10, 11]⟩, ⟨18, [0, 0, 3, 0, 8, 0, 32, 127, 255, 511, 511, 0, 3071, 8191], [0, 0, 0, 1, 1, 1, 1, 2, 0, 0, 0, 3, 4, 0], [0, 0, 0, 0, 0, 0, 0, 0, 0, 0, 0, 0, 0, 0], [0, 1, 2, 3, 4, 5, 6, 7, 8, 9, 10, 11], [12, 13]⟩] 3 = some (.rq (.cells 44 (.v 0))
(.call false 7 []
(.rq (.bool (.v 1))
(.rq (.isb false (.nt (.v 1)))
(.call false 8 [(.ag (.v 0))]
(.prim 3 2 (opr Tryz.f3 3 2) [(.v 2)]
(.loop [(.k (.bool false)), (.k (.int .i64 (0))), (.v 0)]
 (.rq (.int .i64 (.v 5))
 (.rq (.int .i64 (.v 3))
 (.br (.op2 .lss .i64 (.v 5) (.v 3))
  (.prim 5 0 (opr Tryz.f3 5 0) [(.v 2), (.v 5)]
  (.prim 5 1 (opr Tryz.f3 5 1) [(.v 7)]
  (.rq (.cells 32 (.v 8))
  (.loop [(.v 4), (.k (.int .i64 (0)))]
   (.rq (.int .i64 (.v 10))
   (.br (.op2 .lss .i64 (.v 10) (.k (.int .i64 (2))))
    (.rq (.num (.v 10))
    (.rq (.lt 2 (.v 10))
    (.eff false 9 3 (opr Tryz.f3 9 3) [(.cell (.put (.put (.z 40) 0 1 (.k (.func (.func 9) #[] #[])) 0 noI) 1 1 (.k (.func (.func 10) #[] #[])) 0 noI) 0 1 (.v 10)), (.sub (.v 8) 0 16 0 noI)]
    (.rq (.tup 0 (.v 11))
    (.rq (.tup 1 (.v 11))
    (.rq (.cells 16 (.proj (.v 11) 0))
    (.eff true 10 5 (opr Tryz.f3 10 5) [(.cell (.put (.put (.z 40) 0 1 (.k (.func (.func 11) #[] #[])) 0 noI) 1 1 (.k (.func (.func 12) #[] #[])) 0 noI) 0 1 (.v 10)), (.sub (.v 8) 0 16 0 noI)]
    (.rq (.tup 0 (.v 12))
    (.rq (.tup 1 (.v 12))
    (.rq (.cells 16 (.proj (.v 12) 0))
    (.prim 11 2 (opr Tryz.f3 11 2) [(.ag (.proj (.v 11) 0)), (.ag (.proj (.v 12) 0))]
    (.rq (.isb false (.v 13))
    (.rq (.int .i64 (.proj (.v 11) 1))
    (.rq (.int .i64 (.proj (.v 12) 1))
    (.rq (.isb false (.op2 .neq .i64 (.proj (.v 11) 1) (.proj (.v 12) 1)))
    (.next 1 [(.v 9), (.op2 .add .i64 (.v 10) (.k (.int .i64 (1))))]))))))))))))))))
    (.loop [(.v 9), (.k (.int .i64 (0)))]
     (.rq (.int .i64 (.v 12))
     (.br (.op2 .lss .i64 (.v 12) (.k (.int .i64 (6))))
      (.rq (.num (.v 12))
      (.rq (.lt 6 (.v 12))
      (.eff false 17 5 (opr Tryz.f3 17 5) [(.cell (.put (.put (.put (.put (.put (.put (.z 44) 0 1 (.k (.func (.func 13) #[] #[])) 0 noI) 1 1 (.k (.func (.func 14) #[] #[])) 0 noI) 2 1 (.k (.func (.func 15) #[] #[])) 0 noI) 3 1 (.k (.func (.func 16) #[] #[])) 0 noI) 4 1 (.k (.func (.func 17) #[] #[])) 0 noI) 5 1 (.k (.func (.func 18) #[] #[])) 0 noI) 0 1 (.v 12)), (.sub (.v 8) 0 16 0 noI), (.sub (.v 8) 16 16 0 noI)]
      (.rq (.tup 0 (.v 13))
      (.rq (.tup 1 (.v 13))
      (.rq (.cells 16 (.proj (.v 13) 0))
      (.eff true 18 7 (opr Tryz.f3 18 7) [(.cell (.put (.put (.put (.put (.put (.put (.z 44) 0 1 (.k (.func (.func 19) #[] #[])) 0 noI) 1 1 (.k (.func (.func 20) #[] #[])) 0 noI) 2 1 (.k (.func (.func 21) #[] #[])) 0 noI) 3 1 (.k (.func (.func 22) #[] #[])) 0 noI) 4 1 (.k (.func (.func 23) #[] #[])) 0 noI) 5 1 (.k (.func (.func 24) #[] #[])) 0 noI) 0 1 (.v 12)), (.sub (.v 8) 0 16 0 noI), (.sub (.v 8) 16 16 0 noI)]
      (.rq (.tup 0 (.v 14))
      (.rq (.tup 1 (.v 14))
      (.rq (.cells 16 (.proj (.v 14) 0))
      (.prim 19 2 (opr Tryz.f3 19 2) [(.ag (.proj (.v 13) 0)), (.ag (.proj (.v 14) 0))]
      (.rq (.isb false (.v 15))
      (.rq (.int .i64 (.proj (.v 13) 1))
      (.rq (.int .i64 (.proj (.v 14) 1))
      (.rq (.isb false (.op2 .neq .i64 (.proj (.v 13) 1) (.proj (.v 14) 1)))
      (.next 2 [(.v 11), (.op2 .add .i64 (.v 12) (.k (.int .i64 (1))))]))))))))))))))))
      (.next 0 [(.v 11), (.op2 .add .i64 (.v 5) (.k (.int .i64 (1)))), (.v 6)]))))))))))
  (.ret [(.k (.bool true))]))))))))))) := by kernel_rfl
theorem np_ShareSums : (Tryz.prog.funcs[3]?).map (fun fn => fn.params.size + fn.nfree) = some 1 := by kernel_rfl
theorem op_ShareSums_3_2 : (opr Tryz.f3 3 2).op = .call ⟨.builtin .len, #[(.tmp 20)], #[36]⟩ := by kernel_rfl
theorem op_ShareSums_5_0 : (opr Tryz.f3 5 0).op = .indexAddr 36 (.tmp 20) (.tmp 22) := by kernel_rfl
theorem op_ShareSums_5_1 : (opr Tryz.f3 5 1).op = .load 38 (.tmp 24) := by kernel_rfl
theorem op_ShareSums_9_3 : (opr Tryz.f3 9 3).op = .call ⟨.value (.tmp 32), #[(.tmp 34)], #[26]⟩ := by kernel_rfl
theorem op_ShareSums_10_5 : (opr Tryz.f3 10 5).op = .call ⟨.value (.tmp 41), #[(.tmp 43)], #[26]⟩ := by kernel_rfl
theorem op_ShareSums_11_2 : (opr Tryz.f3 11 2).op = .binOp .neq 26 (.tmp 47) (.tmp 48) 26 := by kernel_rfl
theorem op_ShareSums_17_5 : (opr Tryz.f3 17 5).op = .call ⟨.value (.tmp 62), #[(.tmp 64), (.tmp 66)], #[26, 26]⟩ := by kernel_rfl
theorem op_ShareSums_18_7 : (opr Tryz.f3 18 7).op = .call ⟨.value (.tmp 73), #[(.tmp 75), (.tmp 77)], #[26, 26]⟩ := by kernel_rfl
theorem op_ShareSums_19_2 : (opr Tryz.f3 19 2).op = .binOp .neq 26 (.tmp 81) (.tmp 82) 26 := by kernel_rfl
theorem resR_form (ok : Bool) (r : Rat) : ∃ (n d : Nat) (e : Int), resR ok r = .tuple #[shv n d, .int .i64 e] := by
  unfold resR
  split
  · exact toldR_form _
  · exact ⟨_, _, _, rfl⟩
theorem divR_form (ok : Bool) (r s : Rat) : ∃ (n d : Nat) (e : Int), divR ok r s = .tuple #[shv n d, .int .i64 e] := by
  unfold divR
  split
  · split
    · exact ⟨_, _, _, rfl⟩
    · exact toldR_form _
  · exact ⟨_, _, _, rfl⟩
theorem ent_uNeg : entB Tryz.prog 9 = true := by kernel_rfl
theorem ent_vNeg : entB Tryz.prog 11 = true := by kernel_rfl
theorem ent_uAbs : entB Tryz.prog 10 = true := by kernel_rfl
theorem ent_vAbs : entB Tryz.prog 12 = true := by kernel_rfl
theorem ent_uAdd : entB Tryz.prog 13 = true := by kernel_rfl
theorem ent_vAdd : entB Tryz.prog 19 = true := by kernel_rfl
theorem ent_uSub : entB Tryz.prog 14 = true := by kernel_rfl
theorem ent_vSub : entB Tryz.prog 20 = true := by kernel_rfl
theorem ent_uMul : entB Tryz.prog 15 = true := by kernel_rfl
theorem ent_vMul : entB Tryz.prog 21 = true := by kernel_rfl
theorem ent_uDiv : entB Tryz.prog 16 = true := by kernel_rfl
theorem ent_vDiv : entB Tryz.prog 22 = true := by kernel_rfl
theorem ent_uMin : entB Tryz.prog 17 = true := by kernel_rfl
theorem ent_vMin : entB Tryz.prog 23 = true := by kernel_rfl
theorem ent_uMax : entB Tryz.prog 18 = true := by kernel_rfl
theorem ent_vMax : entB Tryz.prog 24 = true := by kernel_rfl
/-- The two functions of one share, and those of the reference. -/
theorem two1 (a b : Nat) (j : Nat) (hj : j < 2) : ∃ (f g : FuncId) (n' d' : Nat) (e' : Int), entB Tryz.prog f = true ∧ entB Tryz.prog g = true ∧
    (∀ ρ, ρ.getD 10 undef = iv j → D Tryz.prog ρ (.cell (.put (.put (.z 40) 0 1 (.k (.func (.func 9) #[] #[])) 0 noI) 1 1 (.k (.func (.func 10) #[] #[])) 0 noI) 0 1 (.v 10)) = .func (.func f) #[] #[]) ∧
    (∀ ρ, ρ.getD 10 undef = iv j → D Tryz.prog ρ (.cell (.put (.put (.z 40) 0 1 (.k (.func (.func 11) #[] #[])) 0 noI) 1 1 (.k (.func (.func 12) #[] #[])) 0 noI) 0 1 (.v 10)) = .func (.func g) #[] #[]) ∧
    (∀ H, Con Tryz.prog f [shv a b] H fun u H' => PH.le H H' ∧ u = .tuple #[shv n' d', .int .i64 e']) ∧ (∀ H, Con Tryz.prog g [shv a b] H fun u H' => PH.le H H' ∧ u = .tuple #[shv n' d', .int .i64 e']) := by
  have hz : zeroV Tryz.prog 40 = .agg #[.nilFunc, .nilFunc] := by kernel_rfl
  have hf0 : ∀ (g0 g1 : FuncId), (∀ ρ, ρ.getD 10 undef = iv j → D Tryz.prog ρ (.cell (.put (.put (.z 40) 0 1 (.k (.func (.func g0) #[] #[])) 0 noI) 1 1 (.k (.func (.func g1) #[] #[])) 0 noI) 0 1 (.v 10)) = (#[Value.func (.func g0) #[] #[], .func (.func g1) #[] #[]] : Array Value).getD j undef) := fun g0 g1 ρ h => by
    have h0 : D Tryz.prog ρ (.z 40) = .agg #[.nilFunc, .nilFunc] := hz
    have h1 := D_putf (o := 0) g0 h0
    have h2 := D_putf (o := 1) g1 h1
    exact (D_cell1 h2 h).trans rfl
  rcases (show j = 0 ∨ j = 1 from by omega) with rfl | rfl
  · obtain ⟨x, y, z, h⟩ := resR_form (okB a b) (-ratOf a b)
    exact ⟨_, _, x, y, z, ent_uNeg, ent_vNeg, fun ρ h => hf0 _ _ ρ h, fun ρ h => hf0 _ _ ρ h, fun _ => (con_sNeg a b).mono fun u H' ⟨l, hu⟩ => ⟨l, by rw [hu, Bool.and_self, h]⟩, fun _ => (con_qNeg a b).mono fun u H' ⟨l, hu⟩ => ⟨l, by rw [hu, h]⟩⟩
  · obtain ⟨x, y, z, h⟩ := resR_form (okB a b) (absQ (ratOf a b))
    exact ⟨_, _, x, y, z, ent_uAbs, ent_vAbs, fun ρ h => hf0 _ _ ρ h, fun ρ h => hf0 _ _ ρ h, fun _ => (con_sAbs a b).mono fun u H' ⟨l, hu⟩ => ⟨l, by rw [hu, Bool.and_self, abs_eq, h]⟩, fun _ => (con_qAbs a b).mono fun u H' ⟨l, hu⟩ => ⟨l, by rw [hu, h]⟩⟩
/-- The six functions of two shares, and those of the reference. -/
theorem six2 (a b c d : Nat) (j : Nat) (hj : j < 6) : ∃ (f g : FuncId) (n' d' : Nat) (e' : Int), entB Tryz.prog f = true ∧ entB Tryz.prog g = true ∧
    (∀ ρ, ρ.getD 12 undef = iv j → D Tryz.prog ρ (.cell (.put (.put (.put (.put (.put (.put (.z 44) 0 1 (.k (.func (.func 13) #[] #[])) 0 noI) 1 1 (.k (.func (.func 14) #[] #[])) 0 noI) 2 1 (.k (.func (.func 15) #[] #[])) 0 noI) 3 1 (.k (.func (.func 16) #[] #[])) 0 noI) 4 1 (.k (.func (.func 17) #[] #[])) 0 noI) 5 1 (.k (.func (.func 18) #[] #[])) 0 noI) 0 1 (.v 12)) = .func (.func f) #[] #[]) ∧
    (∀ ρ, ρ.getD 12 undef = iv j → D Tryz.prog ρ (.cell (.put (.put (.put (.put (.put (.put (.z 44) 0 1 (.k (.func (.func 19) #[] #[])) 0 noI) 1 1 (.k (.func (.func 20) #[] #[])) 0 noI) 2 1 (.k (.func (.func 21) #[] #[])) 0 noI) 3 1 (.k (.func (.func 22) #[] #[])) 0 noI) 4 1 (.k (.func (.func 23) #[] #[])) 0 noI) 5 1 (.k (.func (.func 24) #[] #[])) 0 noI) 0 1 (.v 12)) = .func (.func g) #[] #[]) ∧
    (∀ H, Con Tryz.prog f [shv a b, shv c d] H fun u H' => PH.le H H' ∧ u = .tuple #[shv n' d', .int .i64 e']) ∧ (∀ H, Con Tryz.prog g [shv a b, shv c d] H fun u H' => PH.le H H' ∧ u = .tuple #[shv n' d', .int .i64 e']) := by
  have hz : zeroV Tryz.prog 44 = .agg #[.nilFunc, .nilFunc, .nilFunc, .nilFunc, .nilFunc, .nilFunc] := by kernel_rfl
  have hf0 : ∀ (g0 g1 g2 g3 g4 g5 : FuncId), (∀ ρ, ρ.getD 12 undef = iv j → D Tryz.prog ρ (.cell (.put (.put (.put (.put (.put (.put (.z 44) 0 1 (.k (.func (.func g0) #[] #[])) 0 noI) 1 1 (.k (.func (.func g1) #[] #[])) 0 noI) 2 1 (.k (.func (.func g2) #[] #[])) 0 noI) 3 1 (.k (.func (.func g3) #[] #[])) 0 noI) 4 1 (.k (.func (.func g4) #[] #[])) 0 noI) 5 1 (.k (.func (.func g5) #[] #[])) 0 noI) 0 1 (.v 12)) = (#[Value.func (.func g0) #[] #[], .func (.func g1) #[] #[], .func (.func g2) #[] #[], .func (.func g3) #[] #[], .func (.func g4) #[] #[], .func (.func g5) #[] #[]] : Array Value).getD j undef) := fun g0 g1 g2 g3 g4 g5 ρ h => by
    have h0 : D Tryz.prog ρ (.z 44) = .agg #[.nilFunc, .nilFunc, .nilFunc, .nilFunc, .nilFunc, .nilFunc] := hz
    have h1 := D_putf (o := 0) g0 h0
    have h2 := D_putf (o := 1) g1 h1
    have h3 := D_putf (o := 2) g2 h2
    have h4 := D_putf (o := 3) g3 h3
    have h5 := D_putf (o := 4) g4 h4
    have h6 := D_putf (o := 5) g5 h5
    exact (D_cell1 h6 h).trans rfl
  rcases (show j = 0 ∨ j = 1 ∨ j = 2 ∨ j = 3 ∨ j = 4 ∨ j = 5 from by omega) with rfl | rfl | rfl | rfl | rfl | rfl
  · obtain ⟨x, y, z, h⟩ := resR_form (okB a b && okB c d) (ratOf a b + ratOf c d)
    exact ⟨_, _, x, y, z, ent_uAdd, ent_vAdd, fun ρ h => hf0 _ _ _ _ _ _ ρ h, fun ρ h => hf0 _ _ _ _ _ _ ρ h, fun _ => (con_sAdd a b c d).mono fun u H' ⟨l, hu⟩ => ⟨l, by rw [hu, h]⟩, fun _ => (con_qAdd a b c d).mono fun u H' ⟨l, hu⟩ => ⟨l, by rw [hu, h]⟩⟩
  · obtain ⟨x, y, z, h⟩ := resR_form (okB a b && okB c d) (ratOf a b - ratOf c d)
    exact ⟨_, _, x, y, z, ent_uSub, ent_vSub, fun ρ h => hf0 _ _ _ _ _ _ ρ h, fun ρ h => hf0 _ _ _ _ _ _ ρ h, fun _ => (con_sSub a b c d).mono fun u H' ⟨l, hu⟩ => ⟨l, by rw [hu, h]⟩, fun _ => (con_qSub a b c d).mono fun u H' ⟨l, hu⟩ => ⟨l, by rw [hu, h]⟩⟩
  · obtain ⟨x, y, z, h⟩ := resR_form (okB a b && okB c d) (ratOf a b * ratOf c d)
    exact ⟨_, _, x, y, z, ent_uMul, ent_vMul, fun ρ h => hf0 _ _ _ _ _ _ ρ h, fun ρ h => hf0 _ _ _ _ _ _ ρ h, fun _ => (con_sMul a b c d).mono fun u H' ⟨l, hu⟩ => ⟨l, by rw [hu, h]⟩, fun _ => (con_qMul a b c d).mono fun u H' ⟨l, hu⟩ => ⟨l, by rw [hu, h]⟩⟩
  · obtain ⟨x, y, z, h⟩ := divR_form (okB a b && okB c d) (ratOf a b) (ratOf c d)
    exact ⟨_, _, x, y, z, ent_uDiv, ent_vDiv, fun ρ h => hf0 _ _ _ _ _ _ ρ h, fun ρ h => hf0 _ _ _ _ _ _ ρ h, fun _ => (con_sDiv a b c d).mono fun u H' ⟨l, hu⟩ => ⟨l, by rw [hu, h]⟩, fun _ => (con_qDiv a b c d).mono fun u H' ⟨l, hu⟩ => ⟨l, by rw [hu, h]⟩⟩
  · obtain ⟨x, y, z, h⟩ := resR_form (okB a b && okB c d) (if sgR (ratOf a b) (ratOf c d) ≤ 0 then ratOf a b else ratOf c d)
    exact ⟨_, _, x, y, z, ent_uMin, ent_vMin, fun ρ h => hf0 _ _ _ _ _ _ ρ h, fun ρ h => hf0 _ _ _ _ _ _ ρ h, fun _ => (con_sMin a b c d).mono fun u H' ⟨l, hu⟩ => ⟨l, by rw [hu, h]⟩, fun _ => (con_qMin a b c d).mono fun u H' ⟨l, hu⟩ => ⟨l, by rw [hu, h]⟩⟩
  · obtain ⟨x, y, z, h⟩ := resR_form (okB a b && okB c d) (if sgR (ratOf a b) (ratOf c d) < 0 then ratOf c d else ratOf a b)
    exact ⟨_, _, x, y, z, ent_uMax, ent_vMax, fun ρ h => hf0 _ _ _ _ _ _ ρ h, fun ρ h => hf0 _ _ _ _ _ _ ρ h, fun _ => (con_sMax a b c d).mono fun u H' ⟨l, hu⟩ => ⟨l, by rw [hu, max_eq, h]⟩, fun _ => (con_qMax a b c d).mono fun u H' ⟨l, hu⟩ => ⟨l, by rw [hu, h]⟩⟩
set_option maxRecDepth 100000 in
set_option maxHeartbeats 4000000 in
theorem con_shareSums {H : PH} {v : Value} (h : Tw2 H v) : Con Tryz.prog 3 [v] H fun u H' => u = .bool true ∧ PH.le H H' := by
  have hrq := h.rq
  have h' := h
  obtain ⟨_, _, _, _, _, _, hv, _, _⟩ := h
  obtain ⟨cs, rfl⟩ : ∃ cs, v = .agg cs := ⟨_, hv⟩
  refine con_of_tree mixed tr_ShareSums np_ShareSums rfl (den_rq hrq (den_call (con_hworks H) rfl ?_))
  rintro _ H1 ⟨rfl, l1⟩
  simp only [List.cons_append, List.nil_append]
  refine ⟨fun h => (nomatch h), den_rq ⟨_, rfl⟩ (den_rq rfl (den_call (con_hpairs (h'.mono l1)) rfl ?_))⟩
  rintro u2 H2 ⟨l2, ps, hn, hp⟩
  refine ⟨fun h => (nomatch h), den_splen op_ShareSums_3_2 rfl hp rfl ⟨fun vals H' => ∃ i : Nat, vals = [.bool false, iv i, .agg cs] ∧ i ≤ 4 ∧ PH.le H2 H', fun vals _ => (4 - intOf (vals.getD 1 undef)).toNat, ⟨0, rfl, by omega, PH.le.refl _⟩, ?_⟩⟩
  rintro vals H3 - ⟨i, rfl, hi, l3⟩
  simp only [List.cons_append, List.nil_append]
  rw [hn]
  have lall := l1.trans (l2.trans l3)
  refine den_rq ⟨_, rfl⟩ (den_rq ⟨_, rfl⟩ (den_br (b := decide ((i : Int) < 4)) rfl (fun hb => ?_) (fun hb => ?_)))
  · have hb : i < 4 := by have := of_decide_eq_true hb; omega
    have e1 : IntKind.i64.wrap ((i : Int) + 1) = ((i + 1 : Nat) : Int) := wadd1 (by omega)
    refine den_spat (k := .i64) (j := i) op_ShareSums_5_0 op_ShareSums_5_1 rfl rfl (fun _ => rfl) (hp.mono l3) (by omega) rfl (fun _ => rfl) fun pp => ?_
    obtain ⟨⟨⟨a, b⟩, ⟨c, d⟩⟩, hq4⟩ : ∃ x : Q4, x = ps.getD i ((0, 0), (0, 0)) := ⟨_, rfl⟩
    rw [← hq4]
    simp only [List.cons_append, List.nil_append]
    obtain ⟨x0, x16, x08, x24⟩ := q4_ext (words_size a) (words_size b) (words_size c) (words_size d)
    have s0 : ∀ ρ, ρ.getD 8 undef = q4v ((a, b), (c, d)) → D Tryz.prog ρ (.sub (.v 8) 0 16 0 noI) = shv a b := fun ρ h => by
      show Value.agg ((ρ.getD 8 undef).cells.extract 0 16) = _
      rw [h]
      exact congrArg Value.agg x0
    have s1 : ∀ ρ, ρ.getD 8 undef = q4v ((a, b), (c, d)) → D Tryz.prog ρ (.sub (.v 8) 16 16 0 noI) = shv c d := fun ρ h => by
      show Value.agg ((ρ.getD 8 undef).cells.extract 16 32) = _
      rw [h]
      exact congrArg Value.agg x16
    refine den_rq (q4_rq ((a, b), (c, d))) ⟨fun vals H' => ∃ j : Nat, vals = [.bool false, iv j] ∧ j ≤ 2 ∧ PH.le H2 H', fun vals _ => (2 - intOf (vals.getD 1 undef)).toNat, ⟨0, rfl, by omega, l3⟩, ?_⟩
    rintro vals H8 - ⟨j, rfl, hj, l8⟩
    simp only [List.cons_append, List.nil_append]
    refine den_rq ⟨_, rfl⟩ (den_br (b := decide ((j : Int) < 2)) rfl (fun hc => ?_) (fun hc => ?_))
    · have hc : j < 2 := by have := of_decide_eq_true hc; omega
      have e2 : IntKind.i64.wrap ((j : Int) + 1) = ((j + 1 : Nat) : Int) := wadd1 (by omega)
      obtain ⟨f, g, n3, d3, k3, ef, eg, cf, cg, hf, hg⟩ := two1 a b j hc
      refine den_rq ⟨_, _, rfl⟩ (den_rq ⟨by show (0 : Int) ≤ (j : Int); omega, by show (j : Int) < 2; omega⟩ (den_eff (opn_callv (f := f) (caps := #[]) (vs := [shv a b]) op_ShareSums_9_3 rfl rfl ef (hf _)) (by
        simp only [List.map_cons, List.map_nil]
        rw [cf, s0] <;> rfl) ?_))
      rintro _ H9 ⟨l9, rfl⟩
      simp only [List.cons_append, List.nil_append]
      refine ⟨fun h => (nomatch h), den_rq ⟨_, rfl, Nat.zero_lt_succ _⟩ (den_rq ⟨_, rfl, Nat.lt_succ_self _⟩ (den_rq (shv_one n3 d3) (den_eff (opn_callv (f := g) (caps := #[]) (vs := [shv a b]) op_ShareSums_10_5 rfl rfl eg (hg _)) (by
        simp only [List.map_cons, List.map_nil]
        rw [cg, s0] <;> rfl) ?_)))⟩
      rintro _ H10 ⟨l10, rfl⟩
      simp only [List.cons_append, List.nil_append]
      refine ⟨fun _ => l10, den_rq ⟨_, rfl, Nat.zero_lt_succ _⟩ (den_rq ⟨_, rfl, Nat.lt_succ_self _⟩ (den_rq (shv_one n3 d3) (den_prim ((ne_share_self (a := n3) (b := d3) op_ShareSums_11_2 (fun _ _ => rfl) (fun _ _ => rfl)).rds _) rfl (den_rq rfl (den_rq ⟨k3, rfl⟩ (den_rq ⟨k3, rfl⟩ (den_rq (bft k3) ⟨⟨j + 1, ?_, by omega, l8.trans (l9.trans l10)⟩, ?_⟩)))))))⟩
      · simp only [rxs, iv, e2]
      · simp only [rxs, iv, e2]
        omega
    refine ⟨fun vals H' => ∃ j : Nat, vals = [.bool false, iv j] ∧ j ≤ 6 ∧ PH.le H2 H', fun vals _ => (6 - intOf (vals.getD 1 undef)).toNat, ⟨0, rfl, by omega, l8⟩, ?_⟩
    rintro vals H11 - ⟨k, rfl, hk, l11⟩
    simp only [List.cons_append, List.nil_append]
    refine den_rq ⟨_, rfl⟩ (den_br (b := decide ((k : Int) < 6)) rfl (fun hd => ?_) (fun hd => ?_))
    · have hd : k < 6 := by have := of_decide_eq_true hd; omega
      have e2 : IntKind.i64.wrap ((k : Int) + 1) = ((k + 1 : Nat) : Int) := wadd1 (by omega)
      obtain ⟨f, g, n3, d3, k3, ef, eg, cf, cg, hf, hg⟩ := six2 a b c d k hd
      refine den_rq ⟨_, _, rfl⟩ (den_rq ⟨by show (0 : Int) ≤ (k : Int); omega, by show (k : Int) < 6; omega⟩ ?_)
      have ho := opn_callv (f := f) (caps := #[]) (vs := [shv a b, shv c d]) op_ShareSums_17_5 rfl rfl ef (hf H11)
      refine den_eff ho ?_ ?_
      · simp only [List.map_cons, List.map_nil]
        rw [cf, s0, s1] <;> rfl
      rintro _ H9 ⟨l9, rfl⟩
      simp only [List.cons_append, List.nil_append]
      refine ⟨fun h => (nomatch h), den_rq ⟨_, rfl, Nat.zero_lt_succ _⟩ (den_rq ⟨_, rfl, Nat.lt_succ_self _⟩ (den_rq (shv_one n3 d3) ?_))⟩
      have hq := opn_callv (f := g) (caps := #[]) (vs := [shv a b, shv c d]) op_ShareSums_18_7 rfl rfl eg (hg H9)
      refine den_eff hq ?_ ?_
      · simp only [List.map_cons, List.map_nil]
        rw [cg, s0, s1] <;> rfl
      rintro _ H10 ⟨l10, rfl⟩
      simp only [List.cons_append, List.nil_append]
      refine ⟨fun _ => l10, den_rq ⟨_, rfl, Nat.zero_lt_succ _⟩ (den_rq ⟨_, rfl, Nat.lt_succ_self _⟩ (den_rq (shv_one n3 d3) (den_prim ((ne_share_self (a := n3) (b := d3) op_ShareSums_19_2 (fun _ _ => rfl) (fun _ _ => rfl)).rds _) rfl (den_rq rfl (den_rq ⟨k3, rfl⟩ (den_rq ⟨k3, rfl⟩ (den_rq (bft k3) ⟨⟨k + 1, ?_, by omega, l11.trans (l9.trans l10)⟩, ?_⟩)))))))⟩
      · simp only [rxs, iv, e2]
      · simp only [rxs, iv, e2]
        omega
    refine ⟨⟨i + 1, ?_, by omega, l11⟩, ?_⟩
    · simp only [rxs, iv, e1]
    · simp only [rxs, iv, e1]
      omega
  · exact den_ret rfl ⟨rfl, lall⟩
end Go.Proofs.YtcleogdmobdnpabGreat

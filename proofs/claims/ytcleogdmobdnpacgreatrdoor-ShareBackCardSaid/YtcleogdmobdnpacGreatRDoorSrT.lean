/- MADE BY rxgen.py: the trees of the reference of chapter 02. -/
import Derived.Test.YtcleogdmobdnpacGreatRDoorWdT
import Derived.Test.YtcleogdmobdnpacGreatRDoorShC
import Derived.Test.YtcleogdmobdnpacGreatRDoorRfI
namespace Go.Proofs.YtcleogdmobdnpacGreatRDoor
open Go.RowKit Go.RX
theorem tr_qLowest : tree Tryz.prog [] [] [] [] 116 = some (.rq (.cells 2 (.v 0))
(.rq (.cells 2 (.v 1))
(.call false 143 [(.ag (.v 0)), (.ag (.v 1))]
(.rq (.cells 2 (.v 2))
(.rq (.bool (.cell (.v 1) 0 0 noI))
(.br (.cell (.v 1) 0 0 noI)
 (.call false 86 [(.ag (.v 2))]
 (.rq (.cells 2 (.v 3))
 (.call false 144 [(.ag (.v 0)), (.ag (.v 3))]
 (.rq (.tup 0 (.v 4))
 (.rq (.tup 1 (.v 4))
 (.rq (.cells 2 (.proj (.v 4) 0))
 (.rq (.cells 2 (.proj (.v 4) 1))
 (.call false 144 [(.ag (.v 1)), (.ag (.v 3))]
 (.rq (.tup 0 (.v 5))
 (.rq (.tup 1 (.v 5))
 (.rq (.cells 2 (.proj (.v 5) 0))
 (.rq (.cells 2 (.proj (.v 5) 1))
 (.ret [(.cat (.ag (.proj (.v 4) 0)) 2 (.ag (.proj (.v 5) 0)))])))))))))))))
 (.call false 144 [(.ag (.v 0)), (.ag (.v 2))]
 (.rq (.tup 0 (.v 3))
 (.rq (.tup 1 (.v 3))
 (.rq (.cells 2 (.proj (.v 3) 0))
 (.rq (.cells 2 (.proj (.v 3) 1))
 (.call false 144 [(.ag (.v 1)), (.ag (.v 2))]
 (.rq (.tup 0 (.v 4))
 (.rq (.tup 1 (.v 4))
 (.rq (.cells 2 (.proj (.v 4) 0))
 (.rq (.cells 2 (.proj (.v 4) 1))
 (.ret [(.cat (.ag (.proj (.v 3) 0)) 2 (.ag (.proj (.v 4) 0)))]))))))))))))))))) := by kernel_rfl
theorem np_qLowest : (Tryz.prog.funcs[116]?).map (fun fn => fn.params.size + fn.nfree) = some 2 := by kernel_rfl
theorem tr_qOut : tree Tryz.prog [] [] [⟨3, 3, [25], []⟩] [] 115 = some (.rq (.cells 4 (.v 0))
(.call false 87 [(.sub (.v 0) 0 2 0 noI)]
(.rq (.tup 0 (.v 1))
(.rq (.tup 1 (.v 1))
(.rq (.cells 8 (.proj (.v 1) 0))
(.call false 87 [(.sub (.v 0) 2 2 0 noI)]
(.rq (.tup 0 (.v 2))
(.rq (.tup 1 (.v 2))
(.rq (.cells 8 (.proj (.v 2) 0))
(.join 1
 (.rq (.int .i64 (.proj (.v 1) 1))
 (.br (.op2 .neq .i64 (.proj (.v 1) 1) (.k (.int .i64 (0))))
  (.next 0 [(.k (.bool true))])
  (.rq (.int .i64 (.proj (.v 2) 1))
  (.next 0 [(.op2 .neq .i64 (.proj (.v 2) 1) (.k (.int .i64 (0))))]))))
 (.rq (.bool (.v 3))
 (.br (.v 3)
  (.ret [(.cat (.z 31) 8 (.z 31)), (.k (.int .i64 (6)))])
  (.ret [(.cat (.ag (.proj (.v 1) 0)) 8 (.ag (.proj (.v 2) 0))), (.k (.int .i64 (0)))]))))))))))))) := by kernel_rfl
theorem np_qOut : (Tryz.prog.funcs[115]?).map (fun fn => fn.params.size + fn.nfree) = some 1 := by kernel_rfl
theorem tr_qMake : tree Tryz.prog [] [] [] [⟨3, [0, 1, 0, 7, 15, 31, 63, 63, 255, 511], [5, 2, 5, 2, 2, 2, 0, 0, 6, 0], [0, 0, 1, 0, 0, 0, 0, 0, 2, 0], [0, 2, 1, 3, 4, 5, 6, 7], [8, 9]⟩] 81 = some (.rq (.cells 8 (.v 0))
(.rq (.cells 8 (.v 1))
(.prim 1 2 (opr Tryz.f81 1 2) [(.ag (.v 1)), (.z 31)]
(.rq (.bool (.v 2))
(.br (.v 2)
 (.ret [(.cat (.z 31) 8 (.z 31)), (.k (.int .i64 (7)))])
 (.call true 117 [(.ag (.v 0))]
 (.call true 117 [(.ag (.v 1))]
 (.call true 116 [(.v 3), (.v 4)]
 (.call true 115 [(.v 5)]
 (.rq (.tup 0 (.v 6))
 (.rq (.tup 1 (.v 6))
 (.rq (.cells 16 (.proj (.v 6) 0))
 (.ret [(.ag (.proj (.v 6) 0)), (.proj (.v 6) 1)]))))))))))))) := by kernel_rfl
theorem np_qMake : (Tryz.prog.funcs[81]?).map (fun fn => fn.params.size + fn.nfree) = some 2 := by kernel_rfl
theorem op_qMake_1_2 : (opr Tryz.f81 1 2).op = .binOp .eql 31 (.tmp 6) (.tmp 7) 31 := by kernel_rfl
theorem tr_qmade : tree Tryz.prog [] [] [] [⟨3, [0, 0, 3, 7, 15, 15, 31], [5, 2, 2, 0, 0, 0, 6], [0, 0, 0, 0, 0, 0, 3], [0, 1, 2, 3, 4, 5], [6]⟩] 33 = some (.rq (.cells 8 (.v 0))
(.rq (.cells 8 (.v 1))
(.call false 81 [(.ag (.v 0)), (.ag (.v 1))]
(.rq (.tup 0 (.v 2))
(.rq (.tup 1 (.v 2))
(.rq (.cells 16 (.proj (.v 2) 0))
(.rq (.int .i64 (.proj (.v 2) 1))
(.br (.op2 .neq .i64 (.proj (.v 2) 1) (.k (.int .i64 (0))))
 (.call true 36 [(.k (.int .i64 (1)))]
 (.call true 81 [(.ag (.v 0)), (.v 3)]
 (.rq (.tup 0 (.v 4))
 (.rq (.tup 1 (.v 4))
 (.rq (.cells 16 (.proj (.v 4) 0))
 (.ret [(.ag (.proj (.v 4) 0))]))))))
 (.ret [(.ag (.proj (.v 2) 0))]))))))))) := by kernel_rfl
theorem np_qmade : (Tryz.prog.funcs[33]?).map (fun fn => fn.params.size + fn.nfree) = some 2 := by kernel_rfl
theorem tr_qShare : tree Tryz.prog [] [] [] [⟨1, [0, 1, 3, 0, 8, 31, 63, 127], [1, 1, 2, 1, 1, 2, 2, 6], [0, 0, 0, 0, 0, 0, 0, 1], [0, 1, 3, 4, 2, 5, 6], [7]⟩] 5 = some (.rq (.cells 6 (.v 0))
(.call true 34 [(.sub (.v 0) 0 3 0 noI), (.k (.int .i64 (200)))]
(.call true 34 [(.sub (.v 0) 3 3 0 noI), (.k (.int .i64 (200)))]
(.call true 33 [(.v 1), (.v 2)]
(.rq (.cells 16 (.v 3))
(.ret [(.ag (.v 3))])))))) := by kernel_rfl
theorem np_qShare : (Tryz.prog.funcs[5]?).map (fun fn => fn.params.size + fn.nfree) = some 1 := by kernel_rfl
theorem tr_qShort : tree Tryz.prog [] [] [⟨2, 8, [3], []⟩] [] 6 = some (.rq (.cells 6 (.v 0))
(.call false 35 [(.sub (.v 0) 3 3 0 noI)]
(.rq (.int .i64 (.v 1))
(.join 1
 (.br (.op2 .lss .i64 (.v 1) (.k (.int .i64 (0))))
  (.next 0 [(.op1 .neg .i64 (.v 1))])
  (.next 0 [(.v 1)]))
 (.call false 35 [(.sub (.v 0) 0 3 0 noI)]
 (.rq (.int .i64 (.v 3))
 (.call false 36 [(.op2 .rem .i64 (.v 3) (.k (.int .i64 (1000))))]
 (.rq (.int .i64 (.v 2))
 (.call false 36 [(.op2 .add .i64 (.k (.int .i64 (1))) (.op2 .rem .i64 (.v 2) (.k (.int .i64 (24)))))]
 (.call false 33 [(.v 4), (.v 5)]
 (.rq (.cells 16 (.v 6))
 (.ret [(.ag (.v 6))])))))))))))) := by kernel_rfl
theorem np_qShort : (Tryz.prog.funcs[6]?).map (fun fn => fn.params.size + fn.nfree) = some 1 := by kernel_rfl
theorem tr_qUnit : tree Tryz.prog [] [] [⟨2, 12, [3], []⟩, ⟨2, 16, [4], []⟩] [⟨1, [0, 1, 3, 0, 8, 31, 63, 127], [1, 1, 2, 1, 1, 2, 0, 0], [0, 0, 0, 0, 0, 0, 0, 0], [0, 1, 3, 4, 2, 5, 6, 7], []⟩] 7 = some (.rq (.cells 6 (.v 0))
(.call true 35 [(.sub (.v 0) 0 3 0 noI)]
(.call true 35 [(.sub (.v 0) 3 3 0 noI)]
(.rq (.int .i64 (.v 1))
(.join 1
 (.br (.op2 .lss .i64 (.v 1) (.k (.int .i64 (0))))
  (.next 0 [(.op1 .neg .i64 (.v 1))])
  (.next 0 [(.v 1)]))
 (.rq (.int .i64 (.v 2))
 (.join 1
  (.br (.op2 .lss .i64 (.v 2) (.k (.int .i64 (0))))
   (.next 0 [(.op1 .neg .i64 (.v 2))])
   (.next 0 [(.v 2)]))
  (.rq (.int .i64 (.v 4))
  (.rq (.int .i64 (.v 3))
  (.rq (.nz (.op2 .add .i64 (.k (.int .i64 (2))) (.op2 .rem .i64 (.v 4) (.k (.int .i64 (24))))))
  (.call false 36 [(.op2 .rem .i64 (.v 3) (.op2 .add .i64 (.k (.int .i64 (2))) (.op2 .rem .i64 (.v 4) (.k (.int .i64 (24))))))]
  (.call false 36 [(.op2 .add .i64 (.k (.int .i64 (1))) (.op2 .rem .i64 (.v 4) (.k (.int .i64 (24)))))]
  (.call false 33 [(.v 5), (.v 6)]
  (.rq (.cells 16 (.v 7))
  (.ret [(.ag (.v 7))]))))))))))))))) := by kernel_rfl
theorem np_qUnit : (Tryz.prog.funcs[7]?).map (fun fn => fn.params.size + fn.nfree) = some 1 := by kernel_rfl
end Go.Proofs.YtcleogdmobdnpacGreatRDoor
namespace Go.Proofs.YtcleogdmobdnpacGreatRDoor
open Go.RowKit Go.RX Go.WD

/-- A fraction in memory: the reference. -/
def Rr (H : PH) (v : Value) (r : Rat) : Prop := ∃ w1 w2, v = .agg #[.bool (decide (r.num < 0)), w1, .bool false, w2] ∧ Nu H w1 r.num.natAbs ∧ Nu H w2 r.den
theorem Rr.mono {H H' : PH} {v : Value} {r : Rat} (h : Rr H v r) (hl : PH.le H H') : Rr H' v r := by
  obtain ⟨w1, w2, h1, h2, h3⟩ := h; exact ⟨w1, w2, h1, h2.mono hl, h3.mono hl⟩
theorem one4r {b c : Bool} {w1 w2 : Value} {H : PH} {m n : Nat} (h1 : Nu H w1 m) (h2 : Nu H w2 n) : (Value.agg #[.bool b, w1, .bool c, w2]).cells.size = 4 ∧ oneAll (Value.agg #[.bool b, w1, .bool c, w2]).cells := by
  refine ⟨rfl, fun x hx => ?_⟩
  have g1 := h1.one.2.2
  have g2 := h2.one.2.2
  rw [h1.one.1] at g1
  rw [h2.one.1] at g2
  rw [cells_agg] at hx
  simp only [List.mem_cons, List.not_mem_nil, or_false] at hx
  rcases hx with h | h | h | h
  · rw [h]; rfl
  · rw [h]; exact g1 _ (by simp)
  · rw [h]; rfl
  · rw [h]; exact g2 _ (by simp)
theorem Rr.rq {H : PH} {v : Value} {r : Rat} (h : Rr H v r) : v.cells.size = 4 ∧ oneAll v.cells := by
  obtain ⟨w1, w2, rfl, h1, h2⟩ := h; exact one4r h1 h2
theorem Lg.den {H : PH} {w : Value} {n : Nat} (h : Nu H w n) : Lg H (.agg #[.bool false, w]) (n : Int) := lg_nat h
theorem z_rlong : zeroV Tryz.prog 113 = .agg #[.bool false, .slice none 0 0] := by kernel_rfl
/-- Two numbers of any length. -/
def Lr (H : PH) (v : Value) (p q : Int) : Prop := ∃ w1 w2, v = .agg #[.bool (decide (p < 0)), w1, .bool (decide (q < 0)), w2] ∧ Nu H w1 p.natAbs ∧ Nu H w2 q.natAbs
theorem Lr.mono {H H' : PH} {v : Value} {p q : Int} (h : Lr H v p q) (hl : PH.le H H') : Lr H' v p q := by
  obtain ⟨w1, w2, h1, h2, h3⟩ := h; exact ⟨w1, w2, h1, h2.mono hl, h3.mono hl⟩
theorem Lr.rq {H : PH} {v : Value} {p q : Int} (h : Lr H v p q) : v.cells.size = 4 ∧ oneAll v.cells := by
  obtain ⟨w1, w2, rfl, h1, h2⟩ := h; exact one4r h1 h2
theorem Lr.rp {H : PH} {v : Value} {p q : Int} {r : Rat} (h : Lr H v p q) (hp : r.num = p) (hq : (r.den : Int) = q) : Rr H v r := by
  obtain ⟨w1, w2, rfl, h1, h2⟩ := h
  refine ⟨w1, w2, ?_, by rw [hp]; exact h1, ?_⟩
  · rw [hp, decide_eq_false (show ¬ q < 0 by omega)]
  · rw [show r.den = q.natAbs from by omega]; exact h2
section
variable {H : PH} {x y : Value} {p q : Int} {r s : Rat} {i j k : Nat}
theorem low_neg (n : Int) {d : Int} {g : Nat} (hd : d < 0) (hg : g = Nat.gcd n.natAbs d.natAbs) : (Rat.divInt n d).num = n / -(g : Int) ∧ ((Rat.divInt n d).den : Int) = d / -(g : Int) := by
  have hg0 : 0 < g := by rw [hg]; exact Nat.gcd_pos_of_pos_right _ (by omega)
  have h1 := low_num n (show d ≠ 0 by omega)
  have h2 := low_den n (show d ≠ 0 by omega)
  rw [← hg] at h1 h2
  have hc : d / (g : Int) < 0 := Int.ediv_neg_of_neg_of_pos hd (by omega)
  rw [if_pos hc] at h1 h2
  rw [h1, h2, Int.ediv_neg, Int.ediv_neg]
  exact ⟨rfl, rfl⟩
set_option maxRecDepth 100000 in
theorem con_qLowest (hx : Lg H x p) (hy : Lg H y q) (hp : Lm p) (hq : Lm q) (hq0 : q ≠ 0) : Con Tryz.prog 116 [x, y] H fun u H' => PH.le H H' ∧ Rr H' u (Rat.divInt p q) := by
  have r1 := hx.rq
  have r2 := hy.rq
  have hx' := hx
  have hy' := hy
  obtain ⟨wx, rfl, _⟩ := hx
  obtain ⟨wy, rfl, _⟩ := hy
  obtain ⟨g, hg⟩ : ∃ g, g = Nat.gcd p.natAbs q.natAbs := ⟨_, rfl⟩
  have hg0 : 0 < g := by rw [hg]; exact Nat.gcd_pos_of_pos_right _ (by omega)
  have hgm : Lm (g : Int) := by
    unfold Lm at hq ⊢
    rw [Int.natAbs_natCast, hg]
    exact Nat.lt_of_le_of_lt (Nat.gcd_le_right _ (by omega)) hq
  have hgn : Lm (-(g : Int)) := by unfold Lm at hgm ⊢; rw [Int.natAbs_neg]; exact hgm
  refine con_of_tree mixed tr_qLowest np_qLowest rfl (den_rq r1 (den_rq r2 (den_call (con_rDivisor hx' hy' hp hq) rfl ?_)))
  rintro u1 H1 ⟨l1, hu1⟩
  rw [← hg] at hu1
  have hr1 := hu1.rq
  have hu1' := hu1
  obtain ⟨w1, rfl, _⟩ := hu1
  simp only [List.cons_append, List.nil_append]
  refine ⟨fun h => (nomatch h), den_rq hr1 (den_rq ⟨_, rfl⟩ (den_br (b := decide (q < 0)) rfl (fun h => ?_) (fun h => ?_)))⟩
  · have h := of_decide_eq_true h
    obtain ⟨e1, e2⟩ := low_neg p h hg
    refine den_call (con_rTurn hu1') rfl ?_
    rintro u2 H2 ⟨rfl, hu2⟩
    have hr2 := hu2.rq
    have hu2' := hu2
    obtain ⟨w2, rfl, _⟩ := hu2
    simp only [List.cons_append, List.nil_append]
    refine ⟨fun h => (nomatch h), den_rq hr2 (den_call (con_rParts (hx'.mono l1) hu2' hp hgn (by omega)) rfl ?_)⟩
    rintro u3 H3 ⟨l3, a1, b1, rfl, ha1, hb1⟩
    have ra := ha1.rq
    have rb := hb1.rq
    obtain ⟨w3, rfl, n3⟩ := ha1
    obtain ⟨w4, rfl, _⟩ := hb1
    simp only [List.cons_append, List.nil_append]
    refine ⟨fun h => (nomatch h), den_rq ⟨_, rfl, Nat.zero_lt_succ _⟩ (den_rq ⟨_, rfl, Nat.lt_succ_self _⟩ (den_rq ra (den_rq rb (den_call (con_rParts (hy'.mono (l1.trans l3)) (hu2'.mono l3) hq hgn (by omega)) rfl ?_))))⟩
    rintro u4 H4 ⟨l4, a2, b2, rfl, ha2, hb2⟩
    have rc := ha2.rq
    have rd := hb2.rq
    obtain ⟨w5, rfl, n5⟩ := ha2
    obtain ⟨w6, rfl, _⟩ := hb2
    refine ⟨fun h => (nomatch h), den_rq ⟨_, rfl, Nat.zero_lt_succ _⟩ (den_rq ⟨_, rfl, Nat.lt_succ_self _⟩ (den_rq rc (den_rq rd (den_ret rfl ⟨l1.trans (l3.trans l4), w3, w5, ?_, ?_, ?_⟩))))⟩
    · rw [e1]
      show Value.agg #[.bool (decide (p / -(g : Int) < 0)), w3, .bool (decide (q / -(g : Int) < 0)), w5] = _
      rw [decide_eq_false (show ¬ q / -(g : Int) < 0 by omega)]
    · rw [e1]; exact n3.mono l4
    · rw [show (Rat.divInt p q).den = (q / -(g : Int)).natAbs from by omega]; exact n5
  · have h := of_decide_eq_false h
    have e1 := low_num p hq0
    have e2 := low_den p hq0
    rw [← hg] at e1 e2
    have hc : ¬ q / (g : Int) < 0 := by have := Int.ediv_nonneg (show 0 ≤ q by omega) (show (0 : Int) ≤ g by omega); omega
    rw [if_neg hc] at e1 e2
    refine den_call (con_rParts (hx'.mono l1) hu1' hp hgm (by omega)) rfl ?_
    rintro u3 H3 ⟨l3, a1, b1, rfl, ha1, hb1⟩
    have ra := ha1.rq
    have rb := hb1.rq
    obtain ⟨w3, rfl, n3⟩ := ha1
    obtain ⟨w4, rfl, _⟩ := hb1
    simp only [List.cons_append, List.nil_append]
    refine ⟨fun h => (nomatch h), den_rq ⟨_, rfl, Nat.zero_lt_succ _⟩ (den_rq ⟨_, rfl, Nat.lt_succ_self _⟩ (den_rq ra (den_rq rb (den_call (con_rParts (hy'.mono (l1.trans l3)) (hu1'.mono l3) hq hgm (by omega)) rfl ?_))))⟩
    rintro u4 H4 ⟨l4, a2, b2, rfl, ha2, hb2⟩
    have rc := ha2.rq
    have rd := hb2.rq
    obtain ⟨w5, rfl, n5⟩ := ha2
    obtain ⟨w6, rfl, _⟩ := hb2
    refine ⟨fun h => (nomatch h), den_rq ⟨_, rfl, Nat.zero_lt_succ _⟩ (den_rq ⟨_, rfl, Nat.lt_succ_self _⟩ (den_rq rc (den_rq rd (den_ret rfl ⟨l1.trans (l3.trans l4), w3, w5, ?_, ?_, ?_⟩))))⟩
    · rw [e1]
      show Value.agg #[.bool (decide (p / (g : Int) < 0)), w3, .bool (decide (q / (g : Int) < 0)), w5] = _
      rw [decide_eq_false hc]
    · rw [e1]; exact n3.mono l4
    · rw [show (Rat.divInt p q).den = (q / (g : Int)).natAbs from by omega]; exact n5
set_option maxRecDepth 100000 in
theorem con_qOut (hx : Rr H x r) : Con Tryz.prog 115 [x] H fun u H' => PH.le H H' ∧ u = toldR r := by
  have r0 := hx.rq
  obtain ⟨w1, w2, rfl, n1, n2⟩ := hx
  have hL1 : Lg H (.agg #[.bool (decide (r.num < 0)), w1]) r.num := ⟨w1, rfl, n1⟩
  refine con_of_tree mixed tr_qOut np_qOut rfl (den_rq r0 (den_call (con_rOut hL1) rfl ?_))
  rintro u1 H1 ⟨l1, rfl⟩
  have hL2 := Lg.den (n2.mono l1)
  have hd0 : 0 ≤ (r.den : Int) := by omega
  have hHM := HM_pos
  unfold toldR
  by_cases f1 : -(HM : Int) ≤ r.num ∧ r.num < HM
  · rw [told_fits f1]
    simp only [List.cons_append, List.nil_append]
    refine ⟨fun h => (nomatch h), den_rq ⟨_, rfl, Nat.zero_lt_succ _⟩ (den_rq ⟨_, rfl, Nat.lt_succ_self _⟩ (den_rq ⟨words_size _, words_one _⟩ (den_call (con_rOut hL2) rfl ?_)))⟩
    rintro u2 H2 ⟨l2, rfl⟩
    by_cases f2 : (r.den : Int) < HM
    · rw [told_fits (show -(HM : Int) ≤ (r.den : Int) ∧ (r.den : Int) < HM by omega), if_pos ⟨f1, f2⟩]
      simp only [List.cons_append, List.nil_append]
      refine ⟨fun h => (nomatch h), den_rq ⟨_, rfl, Nat.zero_lt_succ _⟩ (den_rq ⟨_, rfl, Nat.lt_succ_self _⟩ (den_rq ⟨words_size _, words_one _⟩ ⟨fun vals H' => vals = [.bool false] ∧ H' = H2, den_rq ⟨_, rfl⟩ (den_false rfl (den_rq ⟨_, rfl⟩ ⟨rfl, rfl⟩)), ?_⟩))⟩
      rintro vals H3 - ⟨rfl, rfl⟩
      exact den_rq ⟨_, rfl⟩ (den_false rfl (den_ret rfl ⟨l1.trans l2, rfl⟩))
    · rw [told_big (show ¬ (-(HM : Int) ≤ (r.den : Int) ∧ (r.den : Int) < HM) by omega), if_neg (fun h => f2 h.2)]
      simp only [List.cons_append, List.nil_append]
      refine ⟨fun h => (nomatch h), den_rq ⟨_, rfl, Nat.zero_lt_succ _⟩ (den_rq ⟨_, rfl, Nat.lt_succ_self _⟩ (den_rq ⟨words_size _, words_one _⟩ ⟨fun vals H' => vals = [.bool true] ∧ H' = H2, den_rq ⟨_, rfl⟩ (den_false rfl (den_rq ⟨_, rfl⟩ ⟨rfl, rfl⟩)), ?_⟩))⟩
      rintro vals H3 - ⟨rfl, rfl⟩
      exact den_rq ⟨_, rfl⟩ (den_true rfl (den_ret (congrArg (fun z => Value.tuple #[z, .int .i64 6]) z_share) ⟨l1.trans l2, rfl⟩))
  · rw [told_big f1, if_neg (fun h => f1 h.1)]
    simp only [List.cons_append, List.nil_append]
    refine ⟨fun h => (nomatch h), den_rq ⟨_, rfl, Nat.zero_lt_succ _⟩ (den_rq ⟨_, rfl, Nat.lt_succ_self _⟩ (den_rq ⟨words_size _, words_one _⟩ (den_call (con_rOut hL2) rfl ?_)))⟩
    rintro u2 H2 ⟨l2, rfl⟩
    obtain ⟨m, e, ht⟩ := told_form (r.den : Int)
    rw [ht]
    simp only [List.cons_append, List.nil_append]
    refine ⟨fun h => (nomatch h), den_rq ⟨_, rfl, Nat.zero_lt_succ _⟩ (den_rq ⟨_, rfl, Nat.lt_succ_self _⟩ (den_rq ⟨words_size _, words_one _⟩ ⟨fun vals H' => vals = [.bool true] ∧ H' = H2, den_rq ⟨_, rfl⟩ (den_true rfl ⟨rfl, rfl⟩), ?_⟩))⟩
    rintro vals H3 - ⟨rfl, rfl⟩
    exact den_rq ⟨_, rfl⟩ (den_true rfl (den_ret (congrArg (fun z => Value.tuple #[z, .int .i64 6]) z_share) ⟨l1.trans l2, rfl⟩))
theorem Rr.out {v : Value} (h : Rr H v r) : ∃ w1 w2, v = .agg #[.bool (decide (r.num < 0)), w1, .bool false, w2] ∧ Lg H (.agg #[.bool (decide (r.num < 0)), w1]) r.num ∧ Lg H (.agg #[.bool false, w2]) (r.den : Int) := by
  obtain ⟨w1, w2, rfl, n1, n2⟩ := h
  exact ⟨w1, w2, rfl, ⟨w1, rfl, n1⟩, Lg.den n2⟩
theorem rb_half : Rb 2 (Rat.divInt 1 2) := low_bound (by omega) (by omega) (by omega)
set_option maxRecDepth 100000 in
theorem con_qMake (n d : Nat) : Con Tryz.prog 81 [wd n, wd d] H fun u H' => PH.le H H' ∧ u = makeV (toI n) (toI d) := by
  refine con_of_tree mixed tr_qMake np_qMake rfl (den_rq ⟨words_size n, words_one n⟩ (den_rq ⟨words_size d, words_one d⟩ (den_prim ((eq_wide (a := d) (b := 0) op_qMake_1_2 rfl rfl rfl rfl).rds _) ?_ (den_rq ⟨_, rfl⟩ (den_br (b := decide (d % M = 0 % M)) rfl (fun h => ?_) (fun h => ?_))))))
  · simp only [rxs, z_wide]; rfl
  · have h := of_decide_eq_true h
    rw [Nat.zero_mod, toI_zer] at h
    unfold makeV
    rw [if_pos h]
    exact den_ret (congrArg (fun z => Value.tuple #[z, .int .i64 7]) z_share) ⟨PH.le.refl _, rfl⟩
  · have h := of_decide_eq_false h
    rw [Nat.zero_mod, toI_zer] at h
    unfold makeV
    rw [if_neg h]
    refine den_call (con_rIn n) rfl ?_
    rintro u1 H1 ⟨l1, hu1⟩
    simp only [List.cons_append, List.nil_append]
    refine ⟨fun _ => l1, den_call (con_rIn d) rfl ?_⟩
    rintro u2 H2 ⟨l2, hu2⟩
    simp only [List.cons_append, List.nil_append]
    refine ⟨fun _ => l2, den_call (con_qLowest (hu1.mono l2) hu2 (lm_toI n) (lm_toI d) h) rfl ?_⟩
    rintro u3 H3 ⟨l3, hu3⟩
    simp only [List.cons_append, List.nil_append]
    refine ⟨fun _ => l3, den_call (con_qOut hu3) rfl ?_⟩
    rintro u4 H4 ⟨l4, rfl⟩
    obtain ⟨a, b, c, ht⟩ := toldR_form (Rat.divInt (toI n) (toI d))
    rw [ht]
    exact ⟨fun _ => l4, den_rq ⟨_, rfl, Nat.zero_lt_succ _⟩ (den_rq ⟨_, rfl, Nat.lt_succ_self _⟩ (den_rq (shv_one a b) (den_ret rfl ⟨l1.trans (l2.trans (l3.trans l4)), rfl⟩)))⟩
end
end Go.Proofs.YtcleogdmobdnpacGreatRDoor
namespace Go.Proofs.YtcleogdmobdnpacGreatRDoor
open Go.RowKit Go.RX Go.WD

section
variable {H : PH}
theorem told_intW (z : Int) : ∃ (n : Nat) (e : Int), told z = .tuple #[wd n, .int .i64 e] := by
  unfold told
  split
  · exact ⟨_, _, rfl⟩
  · exact ⟨_, _, rfl⟩
theorem resW_form (ok : Bool) (z : Int) : ∃ (n : Nat) (e : Int), resW ok z = .tuple #[wd n, .int .i64 e] := by
  unfold resW
  split
  · exact told_intW z
  · exact ⟨_, _, rfl⟩
end
end Go.Proofs.YtcleogdmobdnpacGreatRDoor

/- Package share: fractions in memory. -/
import Derived.Test.YtcleogdmobdnpacGreatRDoorShA
namespace Go.Proofs.YtcleogdmobdnpacGreatRDoor
open Go.RowKit Go.RX Go.WD

/-- A share: two wide integers. -/
def shv (n d : Nat) : Value := .agg (words n ++ words d)
theorem shv_one (a b : Nat) : (words a ++ words b).size = 16 ∧ oneAll (words a ++ words b) := by
  refine ⟨by rw [Array.size_append, words_size, words_size], fun c hc => ?_⟩
  rw [Array.toList_append, List.mem_append] at hc
  rcases hc with h | h
  · exact words_one a c h
  · exact words_one b c h
theorem sh_ext0 (a b : Nat) : (words a ++ words b).extract 0 8 = words a := by
  apply Array.ext'
  simp [words_size, List.take_of_length_le]
theorem sh_ext8 (a b : Nat) : (words a ++ words b).extract 8 16 = words b := by
  apply Array.ext'
  simp [words_size, List.take_of_length_le]
theorem sh_n (a b : Nat) : Value.agg ((words a ++ words b).extract 0 8) = wd a := by rw [sh_ext0]; rfl
theorem sh_d (a b : Nat) : Value.agg ((words a ++ words b).extract 8 16) = wd b := by rw [sh_ext8]; rfl
/-- Two numbers of any length. -/
def Lp (H : PH) (v : Value) (p q : Int) : Prop := ∃ w1 w2, v = .agg #[.bool (decide (p < 0)), w1, .bool (decide (q < 0)), w2] ∧ Mu H w1 p.natAbs ∧ Mu H w2 q.natAbs
theorem Lp.mono {H H' : PH} {v : Value} {p q : Int} (h : Lp H v p q) (hl : PH.le H H') : Lp H' v p q := by
  obtain ⟨w1, w2, h1, h2, h3⟩ := h; exact ⟨w1, w2, h1, h2.mono hl, h3.mono hl⟩
theorem Lp.rq {H : PH} {v : Value} {p q : Int} (h : Lp H v p q) : v.cells.size = 4 ∧ oneAll v.cells := by
  obtain ⟨w1, w2, rfl, h1, h2⟩ := h; exact one4 h1 h2
theorem Lp.rp {H : PH} {v : Value} {p q : Int} {r : Rat} (h : Lp H v p q) (hp : r.num = p) (hq : (r.den : Int) = q) : Rp H v r := by
  obtain ⟨w1, w2, rfl, h1, h2⟩ := h
  refine ⟨w1, w2, ?_, by rw [hp]; exact h1, ?_⟩
  · rw [hp, decide_eq_false (show ¬ q < 0 by omega)]
  · rw [show r.den = q.natAbs from by omega]; exact h2
/-- A fraction as a share, or too great. -/
def toldR (r : Rat) : Value := if (-(HM : Int) ≤ r.num ∧ r.num < HM) ∧ (r.den : Int) < HM then .tuple #[shv (rs r.num) (rs (r.den : Int)), .int .i64 0] else .tuple #[shv 0 0, .int .i64 6]
theorem z_share : Value.agg ((zeroV Tryz.prog 31).cells ++ (zeroV Tryz.prog 31).cells) = shv 0 0 := by rw [z_wide]; rfl
section
variable {H : PH} {x y : Value} {p q : Int} {r s : Rat} {j k : Nat}
set_option maxRecDepth 100000 in
theorem con_sRead (n d : Nat) : Con Tryz.prog 40 [shv n d] H fun u H' => PH.le H H' ∧ Lp H' u (toI n) (toI d) := by
  refine con_of_tree mixed tr_sRead np_sRead rfl (den_rq (shv_one n d) (den_call (con_gLonger n) (congrArg (fun z => [z]) (sh_n n d)) ?_))
  rintro u1 H1 ⟨l1, hu1⟩
  simp only [List.cons_append, List.nil_append]
  refine ⟨fun _ => l1, den_call (con_gLonger d) (congrArg (fun z => [z]) (sh_d n d)) ?_⟩
  rintro u2 H2 ⟨l2, hu2⟩
  have r1 := hu1.rq
  have r2 := hu2.rq
  obtain ⟨w1, rfl, n1⟩ := hu1
  obtain ⟨w2, rfl, n2⟩ := hu2
  refine ⟨fun _ => l2, den_rq r1 (den_rq r2 (den_ret rfl ⟨l1.trans l2, w1, w2, ?_, n1.mono l2, n2⟩))⟩
  show Value.agg (spl ((#[Value.bool (decide (toI n < 0)), w1] : Array Value) ++ (zeroV Tryz.prog 75).cells) 2 [.bool (decide (toI d < 0)), w2]) = _
  rw [z_long]; rfl
theorem con_sWhole (hx : Lw H x p) : Con Tryz.prog 42 [x] H fun u H' => PH.le H H' ∧ Rp H' u (p : Rat) := by
  have r0 := hx.rq
  obtain ⟨w, rfl, n0⟩ := hx
  refine con_of_tree mixed tr_sWhole np_sWhole rfl (den_rq r0 (den_call (con_gFrom 1 (by omega) (by omega)) rfl ?_))
  rintro u1 H1 ⟨l1, hu1⟩
  have r1 := hu1.rq
  obtain ⟨w1, rfl, n1⟩ := hu1
  exact ⟨fun _ => l1, den_rq r1 (den_ret rfl ⟨l1, w, w1, rfl, n0.mono l1, n1⟩)⟩
set_option maxRecDepth 100000 in
theorem con_sRTold (hx : Rp H x r) : Con Tryz.prog 60 [x] H fun u H' => PH.le H H' ∧ u = toldR r := by
  have r0 := hx.rq
  obtain ⟨w1, w2, rfl, n1, n2⟩ := hx
  have hL1 : Lw H (.agg #[.bool (decide (r.num < 0)), w1]) r.num := ⟨w1, rfl, n1⟩
  refine con_of_tree mixed tr_sRTold np_sRTold rfl (den_rq r0 (den_call (con_gTold hL1) rfl ?_))
  rintro u1 H1 ⟨l1, rfl⟩
  have hL2 := Lw.den (n2.mono l1)
  have hd0 : 0 ≤ (r.den : Int) := by omega
  have hHM := HM_pos
  unfold toldR
  by_cases f1 : -(HM : Int) ≤ r.num ∧ r.num < HM
  · rw [told_fits f1]
    simp only [List.cons_append, List.nil_append]
    refine ⟨fun h => (nomatch h), den_rq ⟨_, rfl, Nat.zero_lt_succ _⟩ (den_rq ⟨_, rfl, Nat.lt_succ_self _⟩ (den_rq ⟨words_size _, words_one _⟩ (den_call (con_gTold hL2) rfl ?_)))⟩
    rintro u2 H2 ⟨l2, rfl⟩
    by_cases f2 : (r.den : Int) < HM
    · rw [told_fits (show -(HM : Int) ≤ (r.den : Int) ∧ (r.den : Int) < HM by omega), if_pos ⟨f1, f2⟩]
      simp only [List.cons_append, List.nil_append]
      refine ⟨fun h => (nomatch h), den_rq ⟨_, rfl, Nat.zero_lt_succ _⟩ (den_rq ⟨_, rfl, Nat.lt_succ_self _⟩ (den_rq ⟨words_size _, words_one _⟩ ⟨fun vals H' => vals = [.bool false] ∧ H' = H2, den_rq ⟨_, rfl⟩ (den_false rfl (den_rq ⟨_, rfl⟩ ⟨rfl, rfl⟩)), ?_⟩))⟩
      rintro vals H3 - ⟨rfl, rfl⟩
      exact den_rq ⟨_, rfl⟩ (den_false rfl (den_ret rfl ⟨l1.trans l2, rfl⟩))
    · rw [told_big (show ¬ (-(HM : Int) ≤ (r.den : Int) ∧ (r.den : Int) < HM) by omega), if_neg (fun h => f2 h.2)]
      simp only [List.cons_append, List.nil_append]
      refine ⟨fun h => (nomatch h), den_rq ⟨_, rfl, Nat.zero_lt_succ _⟩ (den_rq ⟨_, rfl, Nat.lt_succ_self _⟩ (den_rq ⟨words_size _, words_one _⟩ ⟨fun vals H' => vals = [.bool true] ∧ H' = H2, den_rq ⟨_, rfl⟩ (den_false rfl (den_rq ⟨_, rfl⟩ ⟨rfl, rfl⟩)), ?_⟩))⟩
      rintro vals H3 - ⟨rfl, rfl⟩
      exact den_rq ⟨_, rfl⟩ (den_true rfl (den_ret (congrArg (fun z => Value.tuple #[z, .int .i64 6]) z_share) ⟨l1.trans l2, rfl⟩))
  · rw [told_big f1, if_neg (fun h => f1 h.1)]
    simp only [List.cons_append, List.nil_append]
    refine ⟨fun h => (nomatch h), den_rq ⟨_, rfl, Nat.zero_lt_succ _⟩ (den_rq ⟨_, rfl, Nat.lt_succ_self _⟩ (den_rq ⟨words_size _, words_one _⟩ (den_call (con_gTold hL2) rfl ?_)))⟩
    rintro u2 H2 ⟨l2, rfl⟩
    obtain ⟨m, e, ht⟩ := told_form (r.den : Int)
    rw [ht]
    simp only [List.cons_append, List.nil_append]
    refine ⟨fun h => (nomatch h), den_rq ⟨_, rfl, Nat.zero_lt_succ _⟩ (den_rq ⟨_, rfl, Nat.lt_succ_self _⟩ (den_rq ⟨words_size _, words_one _⟩ ⟨fun vals H' => vals = [.bool true] ∧ H' = H2, den_rq ⟨_, rfl⟩ (den_true rfl ⟨rfl, rfl⟩), ?_⟩))⟩
    rintro vals H3 - ⟨rfl, rfl⟩
    exact den_rq ⟨_, rfl⟩ (den_true rfl (den_ret (congrArg (fun z => Value.tuple #[z, .int .i64 6]) z_share) ⟨l1.trans l2, rfl⟩))
theorem Rp.out {v : Value} (h : Rp H v r) : ∃ w1 w2, v = .agg #[.bool (decide (r.num < 0)), w1, .bool false, w2] ∧ Lw H (.agg #[.bool (decide (r.num < 0)), w1]) r.num ∧ Lw H (.agg #[.bool false, w2]) (r.den : Int) := by
  obtain ⟨w1, w2, rfl, n1, n2⟩ := h
  exact ⟨w1, w2, rfl, ⟨w1, rfl, n1⟩, Lw.den n2⟩
theorem dmul0 (r s : Rat) : (r.den : Int) * s.den ≠ 0 := Int.mul_ne_zero (by have := r.den_nz; omega) (by have := s.den_nz; omega)
theorem dabs {k : Nat} (h : r.den < 2 ^ k) : ((r.den : Nat) : Int).natAbs < 2 ^ k := by rw [den_abs]; exact h
theorem con_sRPlus (hx : Rp H x r) (hy : Rp H y s) (hr : Rb j r) (hs : Rb k s) (hjk : j + k + 1 ≤ 320000) : Con Tryz.prog 74 [x, y] H fun u H' => PH.le H H' ∧ Rp H' u (r + s) := by
  have r1 := hx.rq
  have r2 := hy.rq
  obtain ⟨w1, w2, rfl, a1, a2⟩ := hx.out
  obtain ⟨w3, w4, rfl, b1, b2⟩ := hy.out
  have m1 := mul_abs hr.1 (dabs hs.2)
  have m2 := mul_abs hs.1 (dabs hr.2)
  have m3 := mul_abs (dabs hr.2) (dabs hs.2)
  rw [Nat.add_comm k j] at m2
  have m4 := Lm.add2 m1 m2 (m := j + k + 1) (Nat.le_refl _) (Nat.le_refl _)
  refine con_of_tree mixed tr_sRPlus np_sRPlus rfl (den_rq r1 (den_rq r2 (den_call (con_gTimes a1 b2 (Lm.two hr.1 (by omega)) (Lm.two (dabs hs.2) (by omega))) rfl ?_)))
  rintro u1 H1 ⟨l1, hu1⟩
  simp only [List.cons_append, List.nil_append]
  refine ⟨fun _ => l1, den_call (con_gTimes (b1.mono l1) (a2.mono l1) (Lm.two hs.1 (by omega)) (Lm.two (dabs hr.2) (by omega))) rfl ?_⟩
  rintro u2 H2 ⟨l2, hu2⟩
  simp only [List.cons_append, List.nil_append]
  refine ⟨fun _ => l2, den_call (con_gPlus (hu1.mono l2) hu2 (Lm.two m1 (by omega)) (Lm.two m2 (by omega))) rfl ?_⟩
  rintro u3 H3 ⟨l3, hu3⟩
  simp only [List.cons_append, List.nil_append]
  refine ⟨fun _ => l3, den_call (con_gTimes (a2.mono (l1.trans (l2.trans l3))) (b2.mono (l1.trans (l2.trans l3))) (Lm.two (dabs hr.2) (by omega)) (Lm.two (dabs hs.2) (by omega))) rfl ?_⟩
  rintro u4 H4 ⟨l4, hu4⟩
  simp only [List.cons_append, List.nil_append]
  refine ⟨fun _ => l4, den_call (con_sLowest (hu3.mono l4) hu4 (Lm.two m4 hjk) (Lm.two m3 (by omega)) (dmul0 r s)) rfl ?_⟩
  rintro u5 H5 ⟨l5, hu5⟩
  rw [rat_add] at hu5
  have r5 := hu5.rq
  obtain ⟨w5, w6, rfl, n5⟩ := hu5
  exact ⟨fun _ => l5, den_rq r5 (den_ret rfl ⟨l1.trans (l2.trans (l3.trans (l4.trans l5))), w5, w6, rfl, n5⟩)⟩
theorem con_sRTimes (hx : Rp H x r) (hy : Rp H y s) (hr : Rb j r) (hs : Rb k s) (hjk : j + k ≤ 320000) : Con Tryz.prog 41 [x, y] H fun u H' => PH.le H H' ∧ Rp H' u (r * s) := by
  have r1 := hx.rq
  have r2 := hy.rq
  obtain ⟨w1, w2, rfl, a1, a2⟩ := hx.out
  obtain ⟨w3, w4, rfl, b1, b2⟩ := hy.out
  have m1 := mul_abs hr.1 hs.1
  have m3 := mul_abs (dabs hr.2) (dabs hs.2)
  refine con_of_tree mixed tr_sRTimes np_sRTimes rfl (den_rq r1 (den_rq r2 (den_call (con_gTimes a1 b1 (Lm.two hr.1 (by omega)) (Lm.two hs.1 (by omega))) rfl ?_)))
  rintro u1 H1 ⟨l1, hu1⟩
  simp only [List.cons_append, List.nil_append]
  refine ⟨fun _ => l1, den_call (con_gTimes (a2.mono l1) (b2.mono l1) (Lm.two (dabs hr.2) (by omega)) (Lm.two (dabs hs.2) (by omega))) rfl ?_⟩
  rintro u2 H2 ⟨l2, hu2⟩
  simp only [List.cons_append, List.nil_append]
  refine ⟨fun _ => l2, den_call (con_sLowest (hu1.mono l2) hu2 (Lm.two m1 hjk) (Lm.two m3 (by omega)) (dmul0 r s)) rfl ?_⟩
  rintro u5 H5 ⟨l5, hu5⟩
  rw [rat_mul] at hu5
  have r5 := hu5.rq
  obtain ⟨w5, w6, rfl, n5⟩ := hu5
  exact ⟨fun _ => l5, den_rq r5 (den_ret rfl ⟨l1.trans (l2.trans l5), w5, w6, rfl, n5⟩)⟩
theorem con_sROver (hx : Rp H x r) (hy : Rp H y s) (hr : Rb j r) (hs : Rb k s) (hjk : j + k ≤ 320000) (h0 : s ≠ 0) : Con Tryz.prog 75 [x, y] H fun u H' => PH.le H H' ∧ Rp H' u (r / s) := by
  have r1 := hx.rq
  have r2 := hy.rq
  obtain ⟨w1, w2, rfl, a1, a2⟩ := hx.out
  obtain ⟨w3, w4, rfl, b1, b2⟩ := hy.out
  have m1 := mul_abs hr.1 (dabs hs.2)
  have m3 := mul_abs (dabs hr.2) hs.1
  refine con_of_tree mixed tr_sROver np_sROver rfl (den_rq r1 (den_rq r2 (den_call (con_gTimes a1 b2 (Lm.two hr.1 (by omega)) (Lm.two (dabs hs.2) (by omega))) rfl ?_)))
  rintro u1 H1 ⟨l1, hu1⟩
  simp only [List.cons_append, List.nil_append]
  refine ⟨fun _ => l1, den_call (con_gTimes (a2.mono l1) (b1.mono l1) (Lm.two (dabs hr.2) (by omega)) (Lm.two hs.1 (by omega))) rfl ?_⟩
  rintro u2 H2 ⟨l2, hu2⟩
  simp only [List.cons_append, List.nil_append]
  refine ⟨fun _ => l2, den_call (con_sLowest (hu1.mono l2) hu2 (Lm.two m1 hjk) (Lm.two m3 (by omega)) (Int.mul_ne_zero (by have := r.den_nz; omega) (fun e => h0 (Rat.num_eq_zero.1 e)))) rfl ?_⟩
  rintro u5 H5 ⟨l5, hu5⟩
  rw [rat_div] at hu5
  have r5 := hu5.rq
  obtain ⟨w5, w6, rfl, n5⟩ := hu5
  exact ⟨fun _ => l5, den_rq r5 (den_ret rfl ⟨l1.trans (l2.trans l5), w5, w6, rfl, n5⟩)⟩
theorem con_sRTurned (hx : Rp H x r) : Con Tryz.prog 66 [x] H fun u H' => PH.le H H' ∧ Rp H' u (-r) := by
  have r1 := hx.rq
  obtain ⟨w1, w2, rfl, a1, a2⟩ := hx.out
  refine con_of_tree mixed tr_sRTurned np_sRTurned rfl (den_rq r1 (den_call (con_gTurned a1) rfl ?_))
  rintro u1 H1 ⟨rfl, hu1⟩
  have r5 := hu1.rq
  obtain ⟨w5, rfl, n5⟩ := hu1
  obtain ⟨w6, e6, n6⟩ := a2
  refine ⟨fun _ => PH.le.refl _, den_rq r5 (den_ret rfl ⟨PH.le.refl _, w5, w2, ?_, ?_, ?_⟩)⟩
  · show Value.agg (spl ((#[Value.bool (decide (-r.num < 0)), w5] : Array Value) ++ (zeroV Tryz.prog 75).cells) 2 [.bool false, w2]) = _
    rw [z_long]; rfl
  · rw [Rat.neg_num]; exact n5
  · rw [Rat.neg_den]
    simp only [Value.agg.injEq, Array.mk.injEq, List.cons.injEq, and_true] at e6
    rw [e6.2]
    exact n6
theorem con_sRMinus (hx : Rp H x r) (hy : Rp H y s) (hr : Rb j r) (hs : Rb k s) (hjk : j + k + 1 ≤ 320000) : Con Tryz.prog 63 [x, y] H fun u H' => PH.le H H' ∧ Rp H' u (r - s) := by
  have r1 := hx.rq
  have r2 := hy.rq
  have hx' := hx
  have hy' := hy
  obtain ⟨w1, w2, rfl, _⟩ := hx
  obtain ⟨w3, w4, rfl, _⟩ := hy
  refine con_of_tree mixed tr_sRMinus np_sRMinus rfl (den_rq r1 (den_rq r2 (den_call (con_sRTurned hy') rfl ?_)))
  rintro u1 H1 ⟨l1, hu1⟩
  simp only [List.cons_append, List.nil_append]
  refine ⟨fun _ => l1, den_call (con_sRPlus (hx'.mono l1) hu1 hr hs.neg hjk) rfl ?_⟩
  rintro u5 H5 ⟨l5, hu5⟩
  rw [← Rat.sub_eq_add_neg] at hu5
  have r5 := hu5.rq
  obtain ⟨w5, w6, rfl, n5⟩ := hu5
  exact ⟨fun _ => l5, den_rq r5 (den_ret rfl ⟨l1.trans l5, w5, w6, rfl, n5⟩)⟩
theorem con_sRCmp (hx : Rp H x r) (hy : Rp H y s) (hr : Rb j r) (hs : Rb k s) (hjk : j + k ≤ 320000) : Con Tryz.prog 69 [x, y] H fun u H' => PH.le H H' ∧ u = .int .i64 (sgR r s) := by
  have r1 := hx.rq
  have r2 := hy.rq
  obtain ⟨w1, w2, rfl, a1, a2⟩ := hx.out
  obtain ⟨w3, w4, rfl, b1, b2⟩ := hy.out
  have m1 := mul_abs hr.1 (dabs hs.2)
  have m2 := mul_abs hs.1 (dabs hr.2)
  refine con_of_tree mixed tr_sRCmp np_sRCmp rfl (den_rq r1 (den_rq r2 (den_call (con_gTimes a1 b2 (Lm.two hr.1 (by omega)) (Lm.two (dabs hs.2) (by omega))) rfl ?_)))
  rintro u1 H1 ⟨l1, hu1⟩
  simp only [List.cons_append, List.nil_append]
  refine ⟨fun _ => l1, den_call (con_gTimes (b1.mono l1) (a2.mono l1) (Lm.two hs.1 (by omega)) (Lm.two (dabs hr.2) (by omega))) rfl ?_⟩
  rintro u2 H2 ⟨l2, hu2⟩
  simp only [List.cons_append, List.nil_append]
  refine ⟨fun _ => l2, den_call (con_gCmp (hu1.mono l2) hu2 (Lm.two m1 hjk) (Lm.two m2 (by omega))) rfl ?_⟩
  rintro u3 H3 ⟨l3, rfl⟩
  rw [sgR_eq]
  exact ⟨fun _ => l3, den_ret rfl ⟨l1.trans (l2.trans l3), rfl⟩⟩
theorem con_sRDown (hx : Rp H x r) (hr : Rb k r) (hk : k ≤ 320000) : Con Tryz.prog 79 [x] H fun u H' => PH.le H H' ∧ Lw H' u r.floor := by
  have r1 := hx.rq
  obtain ⟨w1, w2, rfl, a1, a2⟩ := hx.out
  refine con_of_tree mixed tr_sRDown np_sRDown rfl (den_rq r1 (den_call (con_gParts a1 a2 (Lm.two hr.1 hk) (Lm.two (dabs hr.2) hk) (by have := r.den_nz; omega)) rfl ?_))
  rintro u1 H1 ⟨l1, a, b, rfl, ha, hb⟩
  rw [← Rat.floor_def] at ha
  have r2 := ha.rq
  have r3 := hb.rq
  obtain ⟨w5, rfl, n5⟩ := ha
  exact ⟨fun h => (nomatch h), den_rq ⟨_, rfl, Nat.zero_lt_succ _⟩ (den_rq ⟨_, rfl, Nat.lt_succ_self _⟩ (den_rq r2 (den_rq r3 (den_ret rfl ⟨l1, w5, rfl, n5⟩))))⟩
theorem con_sRNearest (hx : Rp H x r) (hr : Rb k r) (hk : k + 2 ≤ 320000) : Con Tryz.prog 45 [x] H fun u H' => PH.le H H' ∧ Lw H' u (r + 1 / 2).floor := by
  have r1 := hx.rq
  obtain ⟨w1, w2, rfl, a1, a2⟩ := hx.out
  have m1 := Lm.add2 hr.1 hr.1 (m := k + 1) (Nat.le_refl _) (Nat.le_refl _)
  have m2 := Lm.add2 m1 (dabs hr.2) (m := k + 2) (by omega) (by omega)
  have m3 := Lm.add2 (dabs hr.2) (dabs hr.2) (m := k + 1) (Nat.le_refl _) (Nat.le_refl _)
  have hd0 : (r.den : Int) + r.den ≠ 0 := by have := r.den_nz; omega
  refine con_of_tree mixed tr_sRNearest np_sRNearest rfl (den_rq r1 (den_call (con_gPlus a1 a1 (Lm.two hr.1 (by omega)) (Lm.two hr.1 (by omega))) rfl ?_))
  rintro u1 H1 ⟨l1, hu1⟩
  simp only [List.cons_append, List.nil_append]
  refine ⟨fun _ => l1, den_call (con_gPlus hu1 (a2.mono l1) (Lm.two m1 (by omega)) (Lm.two (dabs hr.2) (by omega))) rfl ?_⟩
  rintro u2 H2 ⟨l2, hu2⟩
  simp only [List.cons_append, List.nil_append]
  refine ⟨fun _ => l2, den_call (con_gPlus (a2.mono (l1.trans l2)) (a2.mono (l1.trans l2)) (Lm.two (dabs hr.2) (by omega)) (Lm.two (dabs hr.2) (by omega))) rfl ?_⟩
  rintro u3 H3 ⟨l3, hu3⟩
  simp only [List.cons_append, List.nil_append]
  have hb := low_bound (k := k + 2) hd0 m2 (Nat.lt_of_lt_of_le m3 (Nat.pow_le_pow_right (by omega) (by omega)))
  refine ⟨fun _ => l3, den_call (con_sLowest (hu2.mono l3) hu3 (Lm.two m2 hk) (Lm.two m3 (by omega)) hd0) rfl ?_⟩
  rintro u4 H4 ⟨l4, hu4⟩
  rw [rat_half] at hu4 hb
  simp only [List.cons_append, List.nil_append]
  refine ⟨fun _ => l4, den_call (con_sRDown hu4 hb hk) rfl ?_⟩
  rintro u5 H5 ⟨l5, hu5⟩
  have r5 := hu5.rq
  obtain ⟨w5, rfl, n5⟩ := hu5
  exact ⟨fun _ => l5, den_rq r5 (den_ret rfl ⟨l1.trans (l2.trans (l3.trans (l4.trans l5))), w5, rfl, n5⟩)⟩
theorem con_slesser (hx : Rp H x r) (hy : Rp H y s) (hr : Rb j r) (hs : Rb k s) (hjk : j + k ≤ 320000) : Con Tryz.prog 112 [x, y] H fun u H' => PH.le H H' ∧ Rp H' u (if sgR r s ≤ 0 then r else s) := by
  have r1 := hx.rq
  have r2 := hy.rq
  have hx' := hx
  have hy' := hy
  obtain ⟨w1, w2, rfl, n1⟩ := hx
  obtain ⟨w3, w4, rfl, n3⟩ := hy
  refine con_of_tree mixed tr_slesser np_slesser rfl (den_rq r1 (den_rq r2 (den_call (con_sRCmp hx' hy' hr hs hjk) rfl ?_)))
  rintro u1 H1 ⟨l1, rfl⟩
  refine ⟨fun h => (nomatch h), den_rq ⟨_, rfl⟩ (den_br (b := decide (sgR r s ≤ 0)) rfl (fun h => ?_) (fun h => ?_))⟩
  · rw [if_pos (of_decide_eq_true h)]
    exact den_ret rfl ⟨l1, w1, w2, rfl, n1.1.mono l1, n1.2.mono l1⟩
  · rw [if_neg (of_decide_eq_false h)]
    exact den_ret rfl ⟨l1, w3, w4, rfl, n3.1.mono l1, n3.2.mono l1⟩
theorem con_sgreater (hx : Rp H x r) (hy : Rp H y s) (hr : Rb j r) (hs : Rb k s) (hjk : j + k ≤ 320000) : Con Tryz.prog 65 [x, y] H fun u H' => PH.le H H' ∧ Rp H' u (-(if sgR (-r) (-s) ≤ 0 then -r else -s)) := by
  have r1 := hx.rq
  have r2 := hy.rq
  have hx' := hx
  have hy' := hy
  obtain ⟨w1, w2, rfl, n1⟩ := hx
  obtain ⟨w3, w4, rfl, n3⟩ := hy
  refine con_of_tree mixed tr_sgreater np_sgreater rfl (den_rq r1 (den_rq r2 (den_call (con_sRTurned hx') rfl ?_)))
  rintro u1 H1 ⟨l1, hu1⟩
  simp only [List.cons_append, List.nil_append]
  refine ⟨fun _ => l1, den_call (con_sRTurned (hy'.mono l1)) rfl ?_⟩
  rintro u2 H2 ⟨l2, hu2⟩
  simp only [List.cons_append, List.nil_append]
  refine ⟨fun _ => l2, den_call (con_slesser (hu1.mono l2) hu2 hr.neg hs.neg hjk) rfl ?_⟩
  rintro u3 H3 ⟨l3, hu3⟩
  simp only [List.cons_append, List.nil_append]
  refine ⟨fun _ => l3, den_call (con_sRTurned hu3) rfl ?_⟩
  rintro u5 H5 ⟨l5, hu5⟩
  have r5 := hu5.rq
  obtain ⟨w5, w6, rfl, n5⟩ := hu5
  exact ⟨fun _ => l5, den_rq r5 (den_ret rfl ⟨l1.trans (l2.trans (l3.trans l5)), w5, w6, rfl, n5⟩)⟩
end
end Go.Proofs.YtcleogdmobdnpacGreatRDoor

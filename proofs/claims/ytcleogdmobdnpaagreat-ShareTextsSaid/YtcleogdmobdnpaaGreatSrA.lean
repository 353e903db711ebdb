/- The reference of chapter 02: fractions in memory. Printed by mkSr.py. -/
import Derived.Test.YtcleogdmobdnpaaGreatShC
import Derived.Test.YtcleogdmobdnpaaGreatSrT
import Derived.Test.YtcleogdmobdnpaaGreatRfI
namespace Go.Proofs.YtcleogdmobdnpaaGreat
open Go.RowKit Go.RX Go.WD

/-- A fraction in memory: the reference. -/
def Rr (H : PH) (v : Value) (r : Rat) : Prop := ∃ w1 w2, v = .agg #[.bool (decide (r.num < 0)), w1, .bool false, w2] ∧ Nu H w1 r.num.natAbs ∧ Nu H w2 r.den
theorem Rr.mono {H H' : PH} {v : Value} {r : Rat} (h : Rr H v r) (hl : PH.le H H') : Rr H' v r := by
  obtain ⟨w1, w2, h1, h2, h3⟩ := h; exact ⟨w1, w2, h1, h2.mono hl, h3.mono hl⟩
theorem one4r {b c : Bool} {w1 w2 : Value} {H : PH} {m n : Nat} (h1 : Nu H w1 m) (h2 : Nu H w2 n) : (Value.agg #[.bool b, w1, .bool c, w2]).cells.size = 4 ∧ oneAll (Value.agg #[.bool b, w1, .bool c, w2]).cells := by
  refine ⟨rfl, fun x hx => ?_⟩
  have g1 := h1.one.2.2
  have g2 := h2.one.2.2
  rw [h1.one.1] at g1
  rw [h2.one.1] at g2
  rw [cells_agg] at hx
  simp only [List.mem_cons, List.not_mem_nil, or_false] at hx
  rcases hx with h | h | h | h
  · rw [h]; rfl
  · rw [h]; exact g1 _ (by simp)
  · rw [h]; rfl
  · rw [h]; exact g2 _ (by simp)
theorem Rr.rq {H : PH} {v : Value} {r : Rat} (h : Rr H v r) : v.cells.size = 4 ∧ oneAll v.cells := by
  obtain ⟨w1, w2, rfl, h1, h2⟩ := h; exact one4r h1 h2
theorem Lg.den {H : PH} {w : Value} {n : Nat} (h : Nu H w n) : Lg H (.agg #[.bool false, w]) (n : Int) := lg_nat h
theorem z_rlong : zeroV Tryz.prog 85 = .agg #[.bool false, .slice none 0 0] := by kernel_rfl
/-- Two numbers of any length. -/
def Lr (H : PH) (v : Value) (p q : Int) : Prop := ∃ w1 w2, v = .agg #[.bool (decide (p < 0)), w1, .bool (decide (q < 0)), w2] ∧ Nu H w1 p.natAbs ∧ Nu H w2 q.natAbs
theorem Lr.mono {H H' : PH} {v : Value} {p q : Int} (h : Lr H v p q) (hl : PH.le H H') : Lr H' v p q := by
  obtain ⟨w1, w2, h1, h2, h3⟩ := h; exact ⟨w1, w2, h1, h2.mono hl, h3.mono hl⟩
theorem Lr.rq {H : PH} {v : Value} {p q : Int} (h : Lr H v p q) : v.cells.size = 4 ∧ oneAll v.cells := by
  obtain ⟨w1, w2, rfl, h1, h2⟩ := h; exact one4r h1 h2
theorem Lr.rp {H : PH} {v : Value} {p q : Int} {r : Rat} (h : Lr H v p q) (hp : r.num = p) (hq : (r.den : Int) = q) : Rr H v r := by
  obtain ⟨w1, w2, rfl, h1, h2⟩ := h
  refine ⟨w1, w2, ?_, by rw [hp]; exact h1, ?_⟩
  · rw [hp, decide_eq_false (show ¬ q < 0 by omega)]
  · rw [show r.den = q.natAbs from by omega]; exact h2
section
variable {H : PH} {x y : Value} {p q : Int} {r s : Rat} {i j k : Nat}
theorem low_neg (n : Int) {d : Int} {g : Nat} (hd : d < 0) (hg : g = Nat.gcd n.natAbs d.natAbs) : (Rat.divInt n d).num = n / -(g : Int) ∧ ((Rat.divInt n d).den : Int) = d / -(g : Int) := by
  have hg0 : 0 < g := by rw [hg]; exact Nat.gcd_pos_of_pos_right _ (by omega)
  have h1 := low_num n (show d ≠ 0 by omega)
  have h2 := low_den n (show d ≠ 0 by omega)
  rw [← hg] at h1 h2
  have hc : d / (g : Int) < 0 := Int.ediv_neg_of_neg_of_pos hd (by omega)
  rw [if_pos hc] at h1 h2
  rw [h1, h2, Int.ediv_neg, Int.ediv_neg]
  exact ⟨rfl, rfl⟩
set_option maxRecDepth 100000 in
theorem con_qLowest (hx : Lg H x p) (hy : Lg H y q) (hp : Lm p) (hq : Lm q) (hq0 : q ≠ 0) : Con Tryz.prog 49 [x, y] H fun u H' => PH.le H H' ∧ Rr H' u (Rat.divInt p q) := by
  have r1 := hx.rq
  have r2 := hy.rq
  have hx' := hx
  have hy' := hy
  obtain ⟨wx, rfl, _⟩ := hx
  obtain ⟨wy, rfl, _⟩ := hy
  obtain ⟨g, hg⟩ : ∃ g, g = Nat.gcd p.natAbs q.natAbs := ⟨_, rfl⟩
  have hg0 : 0 < g := by rw [hg]; exact Nat.gcd_pos_of_pos_right _ (by omega)
  have hgm : Lm (g : Int) := by
    unfold Lm at hq ⊢
    rw [Int.natAbs_natCast, hg]
    exact Nat.lt_of_le_of_lt (Nat.gcd_le_right _ (by omega)) hq
  have hgn : Lm (-(g : Int)) := by unfold Lm at hgm ⊢; rw [Int.natAbs_neg]; exact hgm
  refine con_of_tree mixed tr_qLowest np_qLowest rfl (den_rq r1 (den_rq r2 (den_call (con_rDivisor hx' hy' hp hq) rfl ?_)))
  rintro u1 H1 ⟨l1, hu1⟩
  rw [← hg] at hu1
  have hr1 := hu1.rq
  have hu1' := hu1
  obtain ⟨w1, rfl, _⟩ := hu1
  simp only [List.cons_append, List.nil_append]
  refine ⟨fun h => (nomatch h), den_rq hr1 (den_rq ⟨_, rfl⟩ (den_br (b := decide (q < 0)) rfl (fun h => ?_) (fun h => ?_)))⟩
  · have h := of_decide_eq_true h
    obtain ⟨e1, e2⟩ := low_neg p h hg
    refine den_call (con_rTurn hu1') rfl ?_
    rintro u2 H2 ⟨rfl, hu2⟩
    have hr2 := hu2.rq
    have hu2' := hu2
    obtain ⟨w2, rfl, _⟩ := hu2
    simp only [List.cons_append, List.nil_append]
    refine ⟨fun h => (nomatch h), den_rq hr2 (den_call (con_rParts (hx'.mono l1) hu2' hp hgn (by omega)) rfl ?_)⟩
    rintro u3 H3 ⟨l3, a1, b1, rfl, ha1, hb1⟩
    have ra := ha1.rq
    have rb := hb1.rq
    obtain ⟨w3, rfl, n3⟩ := ha1
    obtain ⟨w4, rfl, _⟩ := hb1
    simp only [List.cons_append, List.nil_append]
    refine ⟨fun h => (nomatch h), den_rq ⟨_, rfl, Nat.zero_lt_succ _⟩ (den_rq ⟨_, rfl, Nat.lt_succ_self _⟩ (den_rq ra (den_rq rb (den_call (con_rParts (hy'.mono (l1.trans l3)) (hu2'.mono l3) hq hgn (by omega)) rfl ?_))))⟩
    rintro u4 H4 ⟨l4, a2, b2, rfl, ha2, hb2⟩
    have rc := ha2.rq
    have rd := hb2.rq
    obtain ⟨w5, rfl, n5⟩ := ha2
    obtain ⟨w6, rfl, _⟩ := hb2
    refine ⟨fun h => (nomatch h), den_rq ⟨_, rfl, Nat.zero_lt_succ _⟩ (den_rq ⟨_, rfl, Nat.lt_succ_self _⟩ (den_rq rc (den_rq rd (den_ret rfl ⟨l1.trans (l3.trans l4), w3, w5, ?_, ?_, ?_⟩))))⟩
    · rw [e1]
      show Value.agg #[.bool (decide (p / -(g : Int) < 0)), w3, .bool (decide (q / -(g : Int) < 0)), w5] = _
      rw [decide_eq_false (show ¬ q / -(g : Int) < 0 by omega)]
    · rw [e1]; exact n3.mono l4
    · rw [show (Rat.divInt p q).den = (q / -(g : Int)).natAbs from by omega]; exact n5
  · have h := of_decide_eq_false h
    have e1 := low_num p hq0
    have e2 := low_den p hq0
    rw [← hg] at e1 e2
    have hc : ¬ q / (g : Int) < 0 := by have := Int.ediv_nonneg (show 0 ≤ q by omega) (show (0 : Int) ≤ g by omega); omega
    rw [if_neg hc] at e1 e2
    refine den_call (con_rParts (hx'.mono l1) hu1' hp hgm (by omega)) rfl ?_
    rintro u3 H3 ⟨l3, a1, b1, rfl, ha1, hb1⟩
    have ra := ha1.rq
    have rb := hb1.rq
    obtain ⟨w3, rfl, n3⟩ := ha1
    obtain ⟨w4, rfl, _⟩ := hb1
    simp only [List.cons_append, List.nil_append]
    refine ⟨fun h => (nomatch h), den_rq ⟨_, rfl, Nat.zero_lt_succ _⟩ (den_rq ⟨_, rfl, Nat.lt_succ_self _⟩ (den_rq ra (den_rq rb (den_call (con_rParts (hy'.mono (l1.trans l3)) (hu1'.mono l3) hq hgm (by omega)) rfl ?_))))⟩
    rintro u4 H4 ⟨l4, a2, b2, rfl, ha2, hb2⟩
    have rc := ha2.rq
    have rd := hb2.rq
    obtain ⟨w5, rfl, n5⟩ := ha2
    obtain ⟨w6, rfl, _⟩ := hb2
    refine ⟨fun h => (nomatch h), den_rq ⟨_, rfl, Nat.zero_lt_succ _⟩ (den_rq ⟨_, rfl, Nat.lt_succ_self _⟩ (den_rq rc (den_rq rd (den_ret rfl ⟨l1.trans (l3.trans l4), w3, w5, ?_, ?_, ?_⟩))))⟩
    · rw [e1]
      show Value.agg #[.bool (decide (p / (g : Int) < 0)), w3, .bool (decide (q / (g : Int) < 0)), w5] = _
      rw [decide_eq_false hc]
    · rw [e1]; exact n3.mono l4
    · rw [show (Rat.divInt p q).den = (q / (g : Int)).natAbs from by omega]; exact n5
set_option maxRecDepth 100000 in
theorem con_qIn (n d : Nat) : Con Tryz.prog 58 [shv n d] H fun u H' => PH.le H H' ∧ Lr H' u (toI n) (toI d) := by
  refine con_of_tree mixed tr_qIn np_qIn rfl (den_rq (shv_one n d) (den_call (con_rIn n) (congrArg (fun z => [z]) (sh_n n d)) ?_))
  rintro u1 H1 ⟨l1, hu1⟩
  simp only [List.cons_append, List.nil_append]
  refine ⟨fun _ => l1, den_call (con_rIn d) (congrArg (fun z => [z]) (sh_d n d)) ?_⟩
  rintro u2 H2 ⟨l2, hu2⟩
  have r1 := hu1.rq
  have r2 := hu2.rq
  obtain ⟨w1, rfl, n1⟩ := hu1
  obtain ⟨w2, rfl, n2⟩ := hu2
  refine ⟨fun _ => l2, den_rq r1 (den_rq r2 (den_ret rfl ⟨l1.trans l2, w1, w2, ?_, n1.mono l2, n2⟩))⟩
  show Value.agg (spl ((#[Value.bool (decide (toI n < 0)), w1] : Array Value) ++ (zeroV Tryz.prog 85).cells) 2 [.bool (decide (toI d < 0)), w2]) = _
  rw [z_rlong]; rfl
set_option maxRecDepth 100000 in
theorem con_qOut (hx : Rr H x r) : Con Tryz.prog 48 [x] H fun u H' => PH.le H H' ∧ u = toldR r := by
  have r0 := hx.rq
  obtain ⟨w1, w2, rfl, n1, n2⟩ := hx
  have hL1 : Lg H (.agg #[.bool (decide (r.num < 0)), w1]) r.num := ⟨w1, rfl, n1⟩
  refine con_of_tree mixed tr_qOut np_qOut rfl (den_rq r0 (den_call (con_rOut hL1) rfl ?_))
  rintro u1 H1 ⟨l1, rfl⟩
  have hL2 := Lg.den (n2.mono l1)
  have hd0 : 0 ≤ (r.den : Int) := by omega
  have hHM := HM_pos
  unfold toldR
  by_cases f1 : -(HM : Int) ≤ r.num ∧ r.num < HM
  · rw [told_fits f1]
    simp only [List.cons_append, List.nil_append]
    refine ⟨fun h => (nomatch h), den_rq ⟨_, rfl, Nat.zero_lt_succ _⟩ (den_rq ⟨_, rfl, Nat.lt_succ_self _⟩ (den_rq ⟨words_size _, words_one _⟩ (den_call (con_rOut hL2) rfl ?_)))⟩
    rintro u2 H2 ⟨l2, rfl⟩
    by_cases f2 : (r.den : Int) < HM
    · rw [told_fits (show -(HM : Int) ≤ (r.den : Int) ∧ (r.den : Int) < HM by omega), if_pos ⟨f1, f2⟩]
      simp only [List.cons_append, List.nil_append]
      refine ⟨fun h => (nomatch h), den_rq ⟨_, rfl, Nat.zero_lt_succ _⟩ (den_rq ⟨_, rfl, Nat.lt_succ_self _⟩ (den_rq ⟨words_size _, words_one _⟩ ⟨fun vals H' => vals = [.bool false] ∧ H' = H2, den_rq ⟨_, rfl⟩ (den_false rfl (den_rq ⟨_, rfl⟩ ⟨rfl, rfl⟩)), ?_⟩))⟩
      rintro vals H3 - ⟨rfl, rfl⟩
      exact den_rq ⟨_, rfl⟩ (den_false rfl (den_ret rfl ⟨l1.trans l2, rfl⟩))
    · rw [told_big (show ¬ (-(HM : Int) ≤ (r.den : Int) ∧ (r.den : Int) < HM) by omega), if_neg (fun h => f2 h.2)]
      simp only [List.cons_append, List.nil_append]
      refine ⟨fun h => (nomatch h), den_rq ⟨_, rfl, Nat.zero_lt_succ _⟩ (den_rq ⟨_, rfl, Nat.lt_succ_self _⟩ (den_rq ⟨words_size _, words_one _⟩ ⟨fun vals H' => vals = [.bool true] ∧ H' = H2, den_rq ⟨_, rfl⟩ (den_false rfl (den_rq ⟨_, rfl⟩ ⟨rfl, rfl⟩)), ?_⟩))⟩
      rintro vals H3 - ⟨rfl, rfl⟩
      exact den_rq ⟨_, rfl⟩ (den_true rfl (den_ret (congrArg (fun z => Value.tuple #[z, .int .i64 6]) z_share) ⟨l1.trans l2, rfl⟩))
  · rw [told_big f1, if_neg (fun h => f1 h.1)]
    simp only [List.cons_append, List.nil_append]
    refine ⟨fun h => (nomatch h), den_rq ⟨_, rfl, Nat.zero_lt_succ _⟩ (den_rq ⟨_, rfl, Nat.lt_succ_self _⟩ (den_rq ⟨words_size _, words_one _⟩ (den_call (con_rOut hL2) rfl ?_)))⟩
    rintro u2 H2 ⟨l2, rfl⟩
    obtain ⟨m, e, ht⟩ := told_form (r.den : Int)
    rw [ht]
    simp only [List.cons_append, List.nil_append]
    refine ⟨fun h => (nomatch h), den_rq ⟨_, rfl, Nat.zero_lt_succ _⟩ (den_rq ⟨_, rfl, Nat.lt_succ_self _⟩ (den_rq ⟨words_size _, words_one _⟩ ⟨fun vals H' => vals = [.bool true] ∧ H' = H2, den_rq ⟨_, rfl⟩ (den_true rfl ⟨rfl, rfl⟩), ?_⟩))⟩
    rintro vals H3 - ⟨rfl, rfl⟩
    exact den_rq ⟨_, rfl⟩ (den_true rfl (den_ret (congrArg (fun z => Value.tuple #[z, .int .i64 6]) z_share) ⟨l1.trans l2, rfl⟩))
theorem Rr.out {v : Value} (h : Rr H v r) : ∃ w1 w2, v = .agg #[.bool (decide (r.num < 0)), w1, .bool false, w2] ∧ Lg H (.agg #[.bool (decide (r.num < 0)), w1]) r.num ∧ Lg H (.agg #[.bool false, w2]) (r.den : Int) := by
  obtain ⟨w1, w2, rfl, n1, n2⟩ := h
  exact ⟨w1, w2, rfl, ⟨w1, rfl, n1⟩, Lg.den n2⟩
theorem con_qPlus (hx : Rr H x r) (hy : Rr H y s) (hr : Rb j r) (hs : Rb k s) (hjk : j + k + 1 ≤ 320000) : Con Tryz.prog 131 [x, y] H fun u H' => PH.le H H' ∧ Rr H' u (r + s) := by
  have r1 := hx.rq
  have r2 := hy.rq
  obtain ⟨w1, w2, rfl, a1, a2⟩ := hx.out
  obtain ⟨w3, w4, rfl, b1, b2⟩ := hy.out
  have m1 := mul_abs hr.1 (dabs hs.2)
  have m2 := mul_abs hs.1 (dabs hr.2)
  have m3 := mul_abs (dabs hr.2) (dabs hs.2)
  rw [Nat.add_comm k j] at m2
  have m4 := Lm.add2 m1 m2 (m := j + k + 1) (Nat.le_refl _) (Nat.le_refl _)
  refine con_of_tree mixed tr_qPlus np_qPlus rfl (den_rq r1 (den_rq r2 (den_call (con_rTimes a1 b2 (Lm.two hr.1 (by omega)) (Lm.two (dabs hs.2) (by omega))) rfl ?_)))
  rintro u1 H1 ⟨l1, hu1⟩
  simp only [List.cons_append, List.nil_append]
  refine ⟨fun _ => l1, den_call (con_rTimes (b1.mono l1) (a2.mono l1) (Lm.two hs.1 (by omega)) (Lm.two (dabs hr.2) (by omega))) rfl ?_⟩
  rintro u2 H2 ⟨l2, hu2⟩
  simp only [List.cons_append, List.nil_append]
  refine ⟨fun _ => l2, den_call (con_rPlus (hu1.mono l2) hu2 (Lm.two m1 (by omega)) (Lm.two m2 (by omega))) rfl ?_⟩
  rintro u3 H3 ⟨l3, hu3⟩
  simp only [List.cons_append, List.nil_append]
  refine ⟨fun _ => l3, den_call (con_rTimes (a2.mono (l1.trans (l2.trans l3))) (b2.mono (l1.trans (l2.trans l3))) (Lm.two (dabs hr.2) (by omega)) (Lm.two (dabs hs.2) (by omega))) rfl ?_⟩
  rintro u4 H4 ⟨l4, hu4⟩
  simp only [List.cons_append, List.nil_append]
  refine ⟨fun _ => l4, den_call (con_qLowest (hu3.mono l4) hu4 (Lm.two m4 hjk) (Lm.two m3 (by omega)) (dmul0 r s)) rfl ?_⟩
  rintro u5 H5 ⟨l5, hu5⟩
  rw [rat_add] at hu5
  have r5 := hu5.rq
  obtain ⟨w5, w6, rfl, n5⟩ := hu5
  exact ⟨fun _ => l5, den_rq r5 (den_ret rfl ⟨l1.trans (l2.trans (l3.trans (l4.trans l5))), w5, w6, rfl, n5⟩)⟩
theorem con_qTimes (hx : Rr H x r) (hy : Rr H y s) (hr : Rb j r) (hs : Rb k s) (hjk : j + k ≤ 320000) : Con Tryz.prog 75 [x, y] H fun u H' => PH.le H H' ∧ Rr H' u (r * s) := by
  have r1 := hx.rq
  have r2 := hy.rq
  obtain ⟨w1, w2, rfl, a1, a2⟩ := hx.out
  obtain ⟨w3, w4, rfl, b1, b2⟩ := hy.out
  have m1 := mul_abs hr.1 hs.1
  have m3 := mul_abs (dabs hr.2) (dabs hs.2)
  refine con_of_tree mixed tr_qTimes np_qTimes rfl (den_rq r1 (den_rq r2 (den_call (con_rTimes a1 b1 (Lm.two hr.1 (by omega)) (Lm.two hs.1 (by omega))) rfl ?_)))
  rintro u1 H1 ⟨l1, hu1⟩
  simp only [List.cons_append, List.nil_append]
  refine ⟨fun _ => l1, den_call (con_rTimes (a2.mono l1) (b2.mono l1) (Lm.two (dabs hr.2) (by omega)) (Lm.two (dabs hs.2) (by omega))) rfl ?_⟩
  rintro u2 H2 ⟨l2, hu2⟩
  simp only [List.cons_append, List.nil_append]
  refine ⟨fun _ => l2, den_call (con_qLowest (hu1.mono l2) hu2 (Lm.two m1 hjk) (Lm.two m3 (by omega)) (dmul0 r s)) rfl ?_⟩
  rintro u5 H5 ⟨l5, hu5⟩
  rw [rat_mul] at hu5
  have r5 := hu5.rq
  obtain ⟨w5, w6, rfl, n5⟩ := hu5
  exact ⟨fun _ => l5, den_rq r5 (den_ret rfl ⟨l1.trans (l2.trans l5), w5, w6, rfl, n5⟩)⟩
theorem con_qTurn (hx : Rr H x r) : Con Tryz.prog 90 [x] H fun u H' => PH.le H H' ∧ Rr H' u (-r) := by
  have r1 := hx.rq
  obtain ⟨w1, w2, rfl, a1, a2⟩ := hx.out
  refine con_of_tree mixed tr_qTurn np_qTurn rfl (den_rq r1 (den_call (con_rTurn a1) rfl ?_))
  rintro u1 H1 ⟨rfl, hu1⟩
  have r5 := hu1.rq
  obtain ⟨w5, rfl, n5⟩ := hu1
  obtain ⟨w6, e6, n6⟩ := a2
  refine ⟨fun _ => PH.le.refl _, den_rq r5 (den_ret rfl ⟨PH.le.refl _, w5, w2, ?_, ?_, ?_⟩)⟩
  · show Value.agg (spl ((#[Value.bool (decide (-r.num < 0)), w5] : Array Value) ++ (zeroV Tryz.prog 85).cells) 2 [.bool false, w2]) = _
    rw [z_rlong]; rfl
  · rw [Rat.neg_num]; exact n5
  · rw [Rat.neg_den]
    simp only [Value.agg.injEq, Array.mk.injEq, List.cons.injEq, and_true] at e6
    rw [e6.2]
    exact n6
theorem con_qOrder (hx : Rr H x r) (hy : Rr H y s) (hr : Rb j r) (hs : Rb k s) (hjk : j + k ≤ 320000) : Con Tryz.prog 82 [x, y] H fun u H' => PH.le H H' ∧ u = .int .i64 (sgR r s) := by
  have r1 := hx.rq
  have r2 := hy.rq
  obtain ⟨w1, w2, rfl, a1, a2⟩ := hx.out
  obtain ⟨w3, w4, rfl, b1, b2⟩ := hy.out
  have m1 := mul_abs hr.1 (dabs hs.2)
  have m2 := mul_abs hs.1 (dabs hr.2)
  refine con_of_tree mixed tr_qOrder np_qOrder rfl (den_rq r1 (den_rq r2 (den_call (con_rTimes a1 b2 (Lm.two hr.1 (by omega)) (Lm.two (dabs hs.2) (by omega))) rfl ?_)))
  rintro u1 H1 ⟨l1, hu1⟩
  simp only [List.cons_append, List.nil_append]
  refine ⟨fun _ => l1, den_call (con_rTimes (b1.mono l1) (a2.mono l1) (Lm.two hs.1 (by omega)) (Lm.two (dabs hr.2) (by omega))) rfl ?_⟩
  rintro u2 H2 ⟨l2, hu2⟩
  simp only [List.cons_append, List.nil_append]
  refine ⟨fun _ => l2, den_call (con_rOrder (hu1.mono l2) hu2 (Lm.two m1 hjk) (Lm.two m2 (by omega))) rfl ?_⟩
  rintro u3 H3 ⟨l3, rfl⟩
  rw [sgR_eq]
  exact ⟨fun _ => l3, den_ret rfl ⟨l1.trans (l2.trans l3), rfl⟩⟩
theorem con_qDown (hx : Rr H x r) (hr : Rb k r) (hk : k ≤ 320000) : Con Tryz.prog 88 [x] H fun u H' => PH.le H H' ∧ Lg H' u r.floor := by
  have r1 := hx.rq
  obtain ⟨w1, w2, rfl, a1, a2⟩ := hx.out
  refine con_of_tree mixed tr_qDown np_qDown rfl (den_rq r1 (den_call (con_rParts a1 a2 (Lm.two hr.1 hk) (Lm.two (dabs hr.2) hk) (by have := r.den_nz; omega)) rfl ?_))
  rintro u1 H1 ⟨l1, a, b, rfl, ha, hb⟩
  rw [← Rat.floor_def] at ha
  have r2 := ha.rq
  have r3 := hb.rq
  obtain ⟨w5, rfl, n5⟩ := ha
  exact ⟨fun h => (nomatch h), den_rq ⟨_, rfl, Nat.zero_lt_succ _⟩ (den_rq ⟨_, rfl, Nat.lt_succ_self _⟩ (den_rq r2 (den_rq r3 (den_ret rfl ⟨l1, w5, rfl, n5⟩))))⟩
theorem con_qQuick (p q : Int) (p0 : -9223372036854775808 ≤ p) (p1 : p < 9223372036854775808) (q0 : -9223372036854775808 ≤ q) (q1 : q < 9223372036854775808) (h0 : q ≠ 0) : Con Tryz.prog 57 [.int .i64 p, .int .i64 q] H fun u H' => PH.le H H' ∧ Rr H' u (Rat.divInt p q) := by
  have e64 : (9223372036854775808 : Nat) = 2 ^ 63 := rfl
  refine con_of_tree mixed tr_qQuick np_qQuick rfl (den_call (con_rLong1 p p0 p1) rfl ?_)
  rintro u1 H1 ⟨l1, hu1⟩
  simp only [List.cons_append, List.nil_append]
  refine ⟨fun h => (nomatch h), den_call (con_rLong1 q q0 q1) rfl ?_⟩
  rintro u2 H2 ⟨l2, hu2⟩
  simp only [List.cons_append, List.nil_append]
  refine ⟨fun h => (nomatch h), den_call (con_qLowest (hu1.mono l2) hu2 (Lm.two (k := 64) (by omega) (by omega)) (Lm.two (k := 64) (by omega) (by omega)) h0) rfl ?_⟩
  rintro u3 H3 ⟨l3, hu3⟩
  have r5 := hu3.rq
  obtain ⟨w5, w6, rfl, n5⟩ := hu3
  exact ⟨fun h => (nomatch h), den_rq r5 (den_ret rfl ⟨l1.trans (l2.trans l3), w5, w6, rfl, n5⟩)⟩
theorem rb_half : Rb 2 (Rat.divInt 1 2) := low_bound (by omega) (by omega) (by omega)
theorem con_qNearest (hx : Rr H x r) (hr : Rb k r) (hk : k + 3 ≤ 320000) : Con Tryz.prog 74 [x] H fun u H' => PH.le H H' ∧ Lg H' u (r + 1 / 2).floor := by
  have r1 := hx.rq
  have hx' := hx
  obtain ⟨w1, w2, rfl, _⟩ := hx
  have h2 : (1 / 2 : Rat) = Rat.divInt 1 2 := by rw [Rat.divInt_eq_div]; rfl
  refine con_of_tree mixed tr_qNearest np_qNearest rfl (den_rq r1 (den_call (con_qQuick 1 2 (by omega) (by omega) (by omega) (by omega) (by omega)) rfl ?_))
  rintro u1 H1 ⟨l1, hu1⟩
  simp only [List.cons_append, List.nil_append]
  refine ⟨fun _ => l1, den_call (con_qPlus (hx'.mono l1) hu1 hr rb_half (by omega)) rfl ?_⟩
  rintro u2 H2 ⟨l2, hu2⟩
  simp only [List.cons_append, List.nil_append]
  refine ⟨fun _ => l2, den_call (con_qDown hu2 (hr.add rb_half (Nat.le_refl _)) (by omega)) rfl ?_⟩
  rintro u3 H3 ⟨l3, hu3⟩
  rw [← h2] at hu3
  have r5 := hu3.rq
  obtain ⟨w5, rfl, n5⟩ := hu3
  exact ⟨fun _ => l3, den_rq r5 (den_ret rfl ⟨l1.trans (l2.trans l3), w5, rfl, n5⟩)⟩
set_option maxRecDepth 100000 in
theorem con_qone {z : Int} (hx : Lg H x z) : Con Tryz.prog 59 [x] H fun u H' => PH.le H H' ∧ u = .bool (decide (z = 1)) := by
  have r1 := hx.rq
  obtain ⟨w, rfl, l, dl, tl, hv⟩ := hx
  have hp := tl.pos
  have h2 : BP 1 = 1 * 4294967296 := by
    have h3 := BP_succ 0
    rw [BP_zero] at h3
    exact h3
  refine con_of_tree mixed tr_qone np_qone rfl (den_rq r1 ⟨fun vals H' => vals = [.bool (decide (z = 1))] ∧ H' = H, den_len op_qone_1_2 rfl dl rfl (den_rq ⟨_, rfl⟩ (den_br (b := ((l.length : Int) == 1)) rfl (fun h => ?_) (fun h => ?_))), ?_⟩)
  · have h : l.length = 1 := by have := beq_iff_eq.1 h; omega
    obtain ⟨c, rfl⟩ : ∃ c, l = [c] := by
      match l, h with
      | [c], _ => exact ⟨c, rfl⟩
    rw [vl_one] at hv
    refine den_at (k := .i64) (j := 0) op_qone_1_7 op_qone_1_8 rfl rfl (fun _ => rfl) dl (by simp) rfl (fun _ => rfl) fun p => den_rq ⟨_, rfl⟩ (den_br (b := (((c : Nat) : Int) == 1)) rfl (fun h1 => ?_) (fun h1 => ?_))
    · have h1 := beq_iff_eq.1 h1
      refine den_rq ⟨_, rfl⟩ ⟨?_, rfl⟩
      show [Value.bool (!decide (z < 0))] = _
      congr 2
      rw [Bool.eq_iff_iff]
      simp only [Bool.not_eq_true', decide_eq_false_iff_not, decide_eq_true_eq]
      omega
    · have h1 := beq_eq_false_iff_ne.1 h1
      refine ⟨?_, rfl⟩
      show [Value.bool false] = _
      rw [decide_eq_false (by omega)]
  · have h : l.length ≠ 1 := by have := beq_eq_false_iff_ne.1 h; omega
    refine ⟨?_, rfl⟩
    show [Value.bool false] = _
    rw [decide_eq_false]
    intro h1
    rw [h1] at hv
    have hl1 : l.length ≤ 1 := tl 1 (by rw [hv]; omega)
    have : 0 < l.length := hp.2 (by rw [hv]; decide)
    omega
  rintro vals H1 - ⟨rfl, rfl⟩
  exact den_ret rfl ⟨PH.le.refl _, rfl⟩
set_option maxRecDepth 100000 in
theorem con_qRight (n d : Nat) : Con Tryz.prog 56 [shv n d] H fun u H' => PH.le H H' ∧ u = .bool (okB n d) := by
  refine con_of_tree mixed tr_qRight np_qRight rfl (den_rq (shv_one n d) (den_call (con_rIn n) (congrArg (fun z => [z]) (sh_n n d)) ?_))
  rintro u1 H1 ⟨l1, hu1⟩
  simp only [List.cons_append, List.nil_append]
  refine ⟨fun _ => l1, den_call (con_rIn d) (congrArg (fun z => [z]) (sh_d n d)) ?_⟩
  rintro u2 H2 ⟨l2, hu2⟩
  have r1 := hu1.rq
  have r2 := hu2.rq
  have hu1' := hu1.mono l2
  have hu2' := hu2
  obtain ⟨w1, rfl, _⟩ := hu1
  obtain ⟨w2, rfl, l, dl, tl, hv⟩ := hu2
  have hp := tl.pos
  simp only [List.cons_append, List.nil_append]
  refine ⟨fun _ => l2, den_rq r1 (den_rq r2 ⟨fun vals H' => vals = [.bool (okB n d)] ∧ PH.le H2 H', den_rq ⟨_, rfl⟩ (den_br (b := !decide (toI d < 0)) rfl (fun h => ?_) (fun h => ?_)), ?_⟩)⟩
  · have h := of_decide_eq_false (not_t h)
    refine den_len op_qRight_2_6 rfl dl rfl (den_rq ⟨_, rfl⟩ (den_br (b := decide ((l.length : Int) > 0)) rfl (fun h1 => ?_) (fun h1 => ?_)))
    · have h1 := of_decide_eq_true h1
      simp only [List.cons_append, List.nil_append]
      refine den_call (con_rDivisor hu1' hu2' (lm_toI n) (lm_toI d)) rfl ?_
      rintro u4 H4 ⟨l4, hu4⟩
      simp only [List.cons_append, List.nil_append]
      refine ⟨fun h => (nomatch h), den_call (con_qone hu4) rfl ?_⟩
      rintro u5 H5 ⟨l5, rfl⟩
      refine ⟨fun h => (nomatch h), ?_, l4.trans l5⟩
      show [Value.bool (decide (((Nat.gcd (toI n).natAbs (toI d).natAbs : Nat) : Int) = 1))] = _
      congr 2
      unfold okB
      rw [decide_eq_true (show 0 < toI d by omega), Bool.true_and, decide_eq_decide]
      omega
    · have h1 := of_decide_eq_false h1
      refine ⟨?_, PH.le.refl _⟩
      show [Value.bool false] = _
      unfold okB
      rw [decide_eq_false (show ¬ 0 < toI d by omega)]; rfl
  · have h := of_decide_eq_true (not_f h)
    refine ⟨?_, PH.le.refl _⟩
    show [Value.bool false] = _
    unfold okB
    rw [decide_eq_false (show ¬ 0 < toI d by omega)]; rfl
  rintro vals H6 - ⟨rfl, l6⟩
  exact den_ret rfl ⟨l1.trans (l2.trans l6), rfl⟩
theorem con_qCheck (n d : Nat) : Con Tryz.prog 12 [shv n d] H fun u H' => PH.le H H' ∧ u = .int .i64 (if okB n d then 0 else 20) := by
  refine con_of_tree mixed tr_qCheck np_qCheck rfl (den_rq (shv_one n d) (den_call (con_qRight n d) rfl ?_))
  rintro u1 H1 ⟨l1, rfl⟩
  refine ⟨fun h => (nomatch h), den_rq ⟨_, rfl⟩ (den_br (b := !okB n d) rfl (fun h => ?_) (fun h => ?_))⟩
  · exact den_ret rfl ⟨l1, by rw [not_t h]; rfl⟩
  · exact den_ret rfl ⟨l1, by rw [not_f h]; rfl⟩
set_option maxRecDepth 100000 in
theorem con_qMake (n d : Nat) : Con Tryz.prog 10 [wd n, wd d] H fun u H' => PH.le H H' ∧ u = makeV (toI n) (toI d) := by
  refine con_of_tree mixed tr_qMake np_qMake rfl (den_rq ⟨words_size n, words_one n⟩ (den_rq ⟨words_size d, words_one d⟩ (den_prim ((eq_wide (a := d) (b := 0) op_qMake_1_2 rfl rfl rfl rfl).rds _) ?_ (den_rq ⟨_, rfl⟩ (den_br (b := decide (d % M = 0 % M)) rfl (fun h => ?_) (fun h => ?_))))))
  · simp only [rxs, z_wide]; rfl
  · have h := of_decide_eq_true h
    rw [Nat.zero_mod, toI_zer] at h
    unfold makeV
    rw [if_pos h]
    exact den_ret (congrArg (fun z => Value.tuple #[z, .int .i64 7]) z_share) ⟨PH.le.refl _, rfl⟩
  · have h := of_decide_eq_false h
    rw [Nat.zero_mod, toI_zer] at h
    unfold makeV
    rw [if_neg h]
    refine den_call (con_rIn n) rfl ?_
    rintro u1 H1 ⟨l1, hu1⟩
    simp only [List.cons_append, List.nil_append]
    refine ⟨fun _ => l1, den_call (con_rIn d) rfl ?_⟩
    rintro u2 H2 ⟨l2, hu2⟩
    simp only [List.cons_append, List.nil_append]
    refine ⟨fun _ => l2, den_call (con_qLowest (hu1.mono l2) hu2 (lm_toI n) (lm_toI d) h) rfl ?_⟩
    rintro u3 H3 ⟨l3, hu3⟩
    simp only [List.cons_append, List.nil_append]
    refine ⟨fun _ => l3, den_call (con_qOut hu3) rfl ?_⟩
    rintro u4 H4 ⟨l4, rfl⟩
    obtain ⟨a, b, c, ht⟩ := toldR_form (Rat.divInt (toI n) (toI d))
    rw [ht]
    exact ⟨fun _ => l4, den_rq ⟨_, rfl, Nat.zero_lt_succ _⟩ (den_rq ⟨_, rfl, Nat.lt_succ_self _⟩ (den_rq (shv_one a b) (den_ret rfl ⟨l1.trans (l2.trans (l3.trans l4)), rfl⟩)))⟩
theorem con_qOf (p q : Int) (p0 : -9223372036854775808 ≤ p) (p1 : p < 9223372036854775808) (q0 : -9223372036854775808 ≤ q) (q1 : q < 9223372036854775808) : Con Tryz.prog 14 [.int .i64 p, .int .i64 q] H fun u H' => PH.le H H' ∧ u = makeV p q := by
  refine con_of_tree mixed tr_qOf np_qOf rfl (den_rq ⟨_, rfl⟩ (den_br (b := (q == 0)) rfl (fun h => ?_) (fun h => ?_)))
  · have h := beq_iff_eq.1 h
    unfold makeV
    rw [if_pos h]
    exact den_ret (congrArg (fun z => Value.tuple #[z, .int .i64 7]) z_share) ⟨PH.le.refl _, rfl⟩
  · have h := beq_eq_false_iff_ne.1 h
    unfold makeV
    rw [if_neg h]
    refine den_call (con_qQuick p q p0 p1 q0 q1 h) rfl ?_
    rintro u3 H3 ⟨l3, hu3⟩
    simp only [List.cons_append, List.nil_append]
    refine ⟨fun h => (nomatch h), den_call (con_qOut hu3) rfl ?_⟩
    rintro u4 H4 ⟨l4, rfl⟩
    obtain ⟨a, b, c, ht⟩ := toldR_form (Rat.divInt p q)
    rw [ht]
    exact ⟨fun h => (nomatch h), den_rq ⟨_, rfl, Nat.zero_lt_succ _⟩ (den_rq ⟨_, rfl, Nat.lt_succ_self _⟩ (den_rq (shv_one a b) (den_ret rfl ⟨l3.trans l4, rfl⟩)))⟩
end
end Go.Proofs.YtcleogdmobdnpaaGreat
namespace Go.Proofs.YtcleogdmobdnpaaGreat
open Go.RowKit Go.RX Go.WD

section
variable {H : PH}
set_option maxRecDepth 100000 in
theorem con_qInR {n d : Nat} (h : okB n d = true) : Con Tryz.prog 58 [shv n d] H fun u H' => PH.le H H' ∧ Rr H' u (ratOf n d) :=
  (con_qIn n d).mono fun _ _ ⟨l, hu⟩ => ⟨l, hu.rp (ok_rat h).1 (ok_rat h).2⟩
set_option maxRecDepth 100000 in
theorem con_qSign (n d : Nat) : Con Tryz.prog 22 [shv n d] H fun u H' => PH.le H H' ∧ u = resI (okB n d && okB n d) (sgI (ratOf n d).num 0) := by
  refine con_of_tree mixed tr_qSign np_qSign rfl (den_rq (shv_one n d) (den_call (con_qRight n d) rfl ?_))
  rintro u1 H1 ⟨l1, rfl⟩
  simp only [List.cons_append, List.nil_append]
  refine ⟨fun h => (nomatch h), den_rq ⟨_, rfl⟩ (den_br (b := !okB n d) rfl (fun h => ?_) (fun h => ?_))⟩
  · exact den_ret rfl ⟨l1, by rw [not_t h]; rfl⟩
  · refine den_call (con_rSign n) (congrArg (fun z => [z]) (sh_n n d)) ?_
    rintro u2 H2 ⟨l2, rfl⟩
    exact ⟨fun h => (nomatch h), den_ret rfl ⟨l1.trans l2, by rw [(ok_rat (not_f h)).1, not_f h]; rfl⟩⟩
set_option maxRecDepth 100000 in
theorem con_qCmp (n d m e : Nat) : Con Tryz.prog 24 [shv n d, shv m e] H fun u H' => PH.le H H' ∧ u = resI (okB n d && okB m e) (sgR (ratOf n d) (ratOf m e)) := by
  obtain ⟨K, hK⟩ : ∃ K, K = 512 := ⟨_, rfl⟩
  refine con_of_tree mixed tr_qCmp np_qCmp rfl (den_rq (shv_one n d) (den_rq (shv_one m e) ⟨fun vals H' => vals = [.bool (!(okB n d && okB m e))] ∧ PH.le H H', den_call (con_qRight n d) rfl ?_, ?_⟩))
  · rintro u1 H1 ⟨l1, rfl⟩
    simp only [List.cons_append, List.nil_append]
    refine ⟨fun h => (nomatch h), den_rq ⟨_, rfl⟩ (den_br (b := !okB n d) rfl (fun h => ?_) (fun h => ?_))⟩
    · exact ⟨by rw [not_t h]; rfl, l1⟩
    · refine den_call (con_qRight m e) rfl ?_
      rintro u2 H2 ⟨l2, rfl⟩
      exact ⟨fun h => (nomatch h), den_rq ⟨_, rfl⟩ ⟨by rw [not_f h]; rfl, l1.trans l2⟩⟩
  rintro vals H3 - ⟨rfl, l3⟩
  simp only [List.cons_append, List.nil_append]
  refine den_rq ⟨_, rfl⟩ (den_br rfl (fun h => ?_) (fun h => ?_))
  · exact den_ret rfl ⟨l3, by rw [not_t h]; rfl⟩
  · have h := not_f h
    have h' := h
    rw [Bool.and_eq_true] at h'
    refine den_call (con_qInR h'.1) rfl ?_
    rintro u4 H4 ⟨l4, h4⟩
    simp only [List.cons_append, List.nil_append]
    refine ⟨fun _ => l4, den_call (con_qInR h'.2) rfl ?_⟩
    rintro u5 H5 ⟨l5, h5⟩
    simp only [List.cons_append, List.nil_append]
    refine ⟨fun _ => l5, den_call (con_qOrder (h4.mono l5) h5 (ok_rb h'.1 hK) (ok_rb h'.2 hK) (by omega)) rfl ?_⟩
    rintro u6 H6 ⟨l6, rfl⟩
    exact ⟨fun _ => l6, den_ret rfl ⟨l3.trans (l4.trans (l5.trans l6)), by rw [h]; rfl⟩⟩
theorem told_intW (z : Int) : ∃ (n : Nat) (e : Int), told z = .tuple #[wd n, .int .i64 e] := by
  unfold told
  split
  · exact ⟨_, _, rfl⟩
  · exact ⟨_, _, rfl⟩
theorem resW_form (ok : Bool) (z : Int) : ∃ (n : Nat) (e : Int), resW ok z = .tuple #[wd n, .int .i64 e] := by
  unfold resW
  split
  · exact told_intW z
  · exact ⟨_, _, rfl⟩
set_option maxRecDepth 100000 in
theorem con_qFloor (n d : Nat) : Con Tryz.prog 28 [shv n d] H fun u H' => PH.le H H' ∧ u = resW (okB n d) ((ratOf n d).floor) := by
  obtain ⟨K, hK⟩ : ∃ K, K = 512 := ⟨_, rfl⟩
  refine con_of_tree mixed tr_qFloor np_qFloor rfl (den_rq (shv_one n d) (den_call (con_qRight n d) rfl ?_))
  rintro u1 H1 ⟨l1, rfl⟩
  simp only [List.cons_append, List.nil_append]
  refine ⟨fun h => (nomatch h), den_rq ⟨_, rfl⟩ (den_br (b := !okB n d) rfl (fun h => ?_) (fun h => ?_))⟩
  · exact den_ret (congrArg (fun z => Value.tuple #[z, .int .i64 20]) z_wide) ⟨l1, by rw [not_t h]; rfl⟩
  · have h := not_f h
    refine den_call (con_qInR h) rfl ?_
    rintro u2 H2 ⟨l2, h2⟩
    simp only [List.cons_append, List.nil_append]
    refine ⟨fun h => (nomatch h), den_call (con_qDown h2 (ok_rb h hK) (by omega)) rfl ?_⟩
    rintro u3 H3 ⟨l3, h3⟩
    simp only [List.cons_append, List.nil_append]
    refine ⟨fun h => (nomatch h), den_call (con_rOut h3) rfl ?_⟩
    rintro u4 H4 ⟨l4, rfl⟩
    simp only [List.cons_append, List.nil_append]
    obtain ⟨a, e, t⟩ := told_intW (ratOf n d).floor
    unfold resW
    rw [h, if_pos rfl, t]
    exact ⟨fun h => (nomatch h), den_rq ⟨_, rfl, Nat.zero_lt_succ _⟩ (den_rq ⟨_, rfl, Nat.lt_succ_self _⟩ (den_rq ⟨words_size a, words_one a⟩ (den_ret rfl ⟨l1.trans (l2.trans (l3.trans l4)), rfl⟩)))⟩
set_option maxRecDepth 100000 in
theorem con_qNear (n d : Nat) : Con Tryz.prog 30 [shv n d] H fun u H' => PH.le H H' ∧ u = resW (okB n d) ((ratOf n d + 1 / 2).floor) := by
  obtain ⟨K, hK⟩ : ∃ K, K = 512 := ⟨_, rfl⟩
  refine con_of_tree mixed tr_qNear np_qNear rfl (den_rq (shv_one n d) (den_call (con_qRight n d) rfl ?_))
  rintro u1 H1 ⟨l1, rfl⟩
  simp only [List.cons_append, List.nil_append]
  refine ⟨fun h => (nomatch h), den_rq ⟨_, rfl⟩ (den_br (b := !okB n d) rfl (fun h => ?_) (fun h => ?_))⟩
  · exact den_ret (congrArg (fun z => Value.tuple #[z, .int .i64 20]) z_wide) ⟨l1, by rw [not_t h]; rfl⟩
  · have h := not_f h
    refine den_call (con_qInR h) rfl ?_
    rintro u2 H2 ⟨l2, h2⟩
    simp only [List.cons_append, List.nil_append]
    refine ⟨fun h => (nomatch h), den_call (con_qNearest h2 (ok_rb h hK) (by omega)) rfl ?_⟩
    rintro u3 H3 ⟨l3, h3⟩
    simp only [List.cons_append, List.nil_append]
    refine ⟨fun h => (nomatch h), den_call (con_rOut h3) rfl ?_⟩
    rintro u4 H4 ⟨l4, rfl⟩
    simp only [List.cons_append, List.nil_append]
    obtain ⟨a, e, t⟩ := told_intW (ratOf n d + 1 / 2).floor
    unfold resW
    rw [h, if_pos rfl, t]
    exact ⟨fun h => (nomatch h), den_rq ⟨_, rfl, Nat.zero_lt_succ _⟩ (den_rq ⟨_, rfl, Nat.lt_succ_self _⟩ (den_rq ⟨words_size a, words_one a⟩ (den_ret rfl ⟨l1.trans (l2.trans (l3.trans l4)), rfl⟩)))⟩
set_option maxRecDepth 100000 in
theorem con_qCeil (n d : Nat) : Con Tryz.prog 29 [shv n d] H fun u H' => PH.le H H' ∧ u = resW (okB n d) (-(-ratOf n d).floor) := by
  obtain ⟨K, hK⟩ : ∃ K, K = 512 := ⟨_, rfl⟩
  refine con_of_tree mixed tr_qCeil np_qCeil rfl (den_rq (shv_one n d) (den_call (con_qRight n d) rfl ?_))
  rintro u1 H1 ⟨l1, rfl⟩
  simp only [List.cons_append, List.nil_append]
  refine ⟨fun h => (nomatch h), den_rq ⟨_, rfl⟩ (den_br (b := !okB n d) rfl (fun h => ?_) (fun h => ?_))⟩
  · exact den_ret (congrArg (fun z => Value.tuple #[z, .int .i64 20]) z_wide) ⟨l1, by rw [not_t h]; rfl⟩
  · have h := not_f h
    refine den_call (con_qInR h) rfl ?_
    rintro u2 H2 ⟨l2, h2⟩
    simp only [List.cons_append, List.nil_append]
    refine ⟨fun h => (nomatch h), den_call (con_qTurn h2) rfl ?_⟩
    rintro u3 H3 ⟨l3, h3⟩
    simp only [List.cons_append, List.nil_append]
    refine ⟨fun h => (nomatch h), den_call (con_qDown h3 (ok_rb h hK).neg (by omega)) rfl ?_⟩
    rintro u4 H4 ⟨l4, h4⟩
    simp only [List.cons_append, List.nil_append]
    refine ⟨fun h => (nomatch h), den_call (con_rTurn h4) rfl ?_⟩
    rintro u5 H5 ⟨rfl, h5⟩
    simp only [List.cons_append, List.nil_append]
    refine ⟨fun h => (nomatch h), den_call (con_rOut h5) rfl ?_⟩
    rintro u6 H6 ⟨l6, rfl⟩
    simp only [List.cons_append, List.nil_append]
    obtain ⟨a, e, t⟩ := told_intW (-(-ratOf n d).floor)
    unfold resW
    rw [h, if_pos rfl, t]
    exact ⟨fun h => (nomatch h), den_rq ⟨_, rfl, Nat.zero_lt_succ _⟩ (den_rq ⟨_, rfl, Nat.lt_succ_self _⟩ (den_rq ⟨words_size a, words_one a⟩ (den_ret rfl ⟨l1.trans (l2.trans (l3.trans (l4.trans l6))), rfl⟩)))⟩
end
end Go.Proofs.YtcleogdmobdnpaaGreat

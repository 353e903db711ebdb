/- The reference of chapter 02: drafts. -/
import Derived.Test.YtcleogdmobdnpabGreatSrA
import Derived.Test.YtcleogdmobdnpabGreatSwB
import Derived.Test.YtcleogdmobdnpabGreatRfK
import Derived.Test.YtcleogdmobdnpabGreatLpD
namespace Go.Proofs.YtcleogdmobdnpabGreat
open Go.RowKit Go.RX Go.WD

theorem win_abs {L : Nat} {z : Int} (h : Win L z) (hL : 2 ≤ L) : z.natAbs < 2 ^ (L + 1) := by
  have h4 : 2 ^ 2 ≤ 2 ^ L := Nat.pow_le_pow_right (by omega) hL
  rw [Nat.pow_succ]; unfold Win at h; omega
theorem rb_fits {r : Rat} {k : Nat} (h : Rb k r) (hk : k ≤ 511) : (-(HM : Int) ≤ r.num ∧ r.num < HM) ∧ (r.den : Int) < HM := by
  have := pow_le_HM hk
  unfold Rb at h
  omega
theorem told_rb {r : Rat} {k : Nat} (h : Rb k r) (hk : k ≤ 511) : toldR r = .tuple #[shR r, .int .i64 0] := by
  unfold toldR
  rw [if_pos (rb_fits h hk)]; rfl
theorem rb_ok {r : Rat} {k : Nat} (h : Rb k r) (hk : k ≤ 511) : okB (rs r.num) (rs (r.den : Int)) = true ∧ ratOf (rs r.num) (rs (r.den : Int)) = r := shR_ok (rb_fits h hk).1 (rb_fits h hk).2
/-- A draft of a share. -/
def Dr2 (H : PH) (v : Value) : Prop := ∃ a0 a1 a2 b0 b1 b2 : Value, v = .agg #[a0, a1, a2, b0, b1, b2] ∧ Dr H (.agg #[a0, a1, a2]) ∧ Dr H (.agg #[b0, b1, b2])
theorem Dr2.mono {H H' : PH} {v : Value} (h : Dr2 H v) (hl : PH.le H H') : Dr2 H' v := by
  obtain ⟨a0, a1, a2, b0, b1, b2, e, h1, h2⟩ := h; exact ⟨a0, a1, a2, b0, b1, b2, e, h1.mono hl, h2.mono hl⟩
theorem Dr2.rq {H : PH} {v : Value} (h : Dr2 H v) : v.cells.size = 6 ∧ oneAll v.cells := by
  obtain ⟨a0, a1, a2, b0, b1, b2, rfl, h1, h2⟩ := h
  have g1 := h1.rq.2
  have g2 := h2.rq.2
  refine ⟨rfl, fun c hc => ?_⟩
  rw [cells_agg] at hc g1 g2
  simp only [List.mem_cons, List.not_mem_nil, or_false] at hc
  rcases hc with e | e | e | e | e | e
  · exact g1 c (by rw [e]; simp)
  · exact g1 c (by rw [e]; simp)
  · exact g1 c (by rw [e]; simp)
  · exact g2 c (by rw [e]; simp)
  · exact g2 c (by rw [e]; simp)
  · exact g2 c (by rw [e]; simp)
section
variable {H : PH} {v : Value}
set_option maxRecDepth 100000 in
theorem con_qmade (n d k : Nat) (hn : (toI n).natAbs < 2 ^ k) (hd : (toI d).natAbs < 2 ^ k) (k1 : 1 ≤ k) (hk : k ≤ 511) : Con Tryz.prog 73 [wd n, wd d] H fun u H' => PH.le H H' ∧ ∃ r, u = shR r ∧ Rb k r := by
  refine con_of_tree mixed tr_qmade np_qmade rfl (den_rq ⟨words_size n, words_one n⟩ (den_rq ⟨words_size d, words_one d⟩ (den_call (con_qMake n d) rfl ?_)))
  rintro u1 H1 ⟨l1, rfl⟩
  simp only [List.cons_append, List.nil_append]
  have h1k : 1 < 2 ^ k := Nat.one_lt_two_pow (by omega)
  by_cases h0 : toI d = 0
  · unfold makeV
    rw [if_pos h0]
    refine ⟨fun h => (nomatch h), den_rq ⟨_, rfl, Nat.zero_lt_succ _⟩ (den_rq ⟨_, rfl, Nat.lt_succ_self _⟩ (den_rq (shv_one _ _) (den_rq ⟨_, rfl⟩ (den_true rfl (den_call (con_rOf 1 (by omega) (by omega)) rfl ?_)))))⟩
    rintro u2 H2 ⟨l2, rfl⟩
    simp only [List.cons_append, List.nil_append]
    refine ⟨fun _ => l2, den_call (con_qMake n (rs 1)) rfl ?_⟩
    rintro u3 H3 ⟨l3, rfl⟩
    have hb : Rb k (Rat.divInt (toI n) 1) := low_bound (by omega) hn (by exact h1k)
    rw [toI_rs (fits_small (n := 1) (by omega) (by omega))]
    unfold makeV
    rw [if_neg (by omega), told_rb hb hk]
    exact ⟨fun _ => l3, den_rq ⟨_, rfl, Nat.zero_lt_succ _⟩ (den_rq ⟨_, rfl, Nat.lt_succ_self _⟩ (den_rq (shv_one _ _) (den_ret rfl ⟨l1.trans (l2.trans l3), _, rfl, hb⟩)))⟩
  · have hb : Rb k (Rat.divInt (toI n) (toI d)) := low_bound h0 hn hd
    unfold makeV
    rw [if_neg h0, told_rb hb hk]
    exact ⟨fun h => (nomatch h), den_rq ⟨_, rfl, Nat.zero_lt_succ _⟩ (den_rq ⟨_, rfl, Nat.lt_succ_self _⟩ (den_rq (shv_one _ _) (den_rq ⟨_, rfl⟩ (den_false rfl (den_ret rfl ⟨l1, _, rfl, hb⟩)))))⟩
theorem con_qShare (h : Dr2 H v) : Con Tryz.prog 25 [v] H fun u H' => PH.le H H' ∧ ∃ r, u = shR r ∧ Rb 201 r := by
  have r1 := h.rq
  obtain ⟨a0, a1, a2, b0, b1, b2, rfl, h1, h2⟩ := h
  refine con_of_tree mixed tr_qShare np_qShare rfl (den_rq r1 (den_call (con_rWithin 200 (by omega) (by omega) h1) rfl ?_))
  rintro u1 H1 ⟨l1, z1, rfl, w1⟩
  simp only [List.cons_append, List.nil_append]
  refine ⟨fun _ => l1, den_call (con_rWithin 200 (by omega) (by omega) (h2.mono l1)) rfl ?_⟩
  rintro u2 H2 ⟨l2, z2, rfl, w2⟩
  simp only [List.cons_append, List.nil_append]
  have f1 := w1.fits (by omega)
  have f2 := w2.fits (by omega)
  refine ⟨fun _ => l2, den_call (con_qmade (rs z1) (rs z2) 201 (by rw [toI_rs f1]; exact win_abs w1 (by omega)) (by rw [toI_rs f2]; exact win_abs w2 (by omega)) (by omega) (by omega)) rfl ?_⟩
  rintro u3 H3 ⟨l3, r, rfl, hr⟩
  exact ⟨fun _ => l3, den_rq (shv_one _ _) (den_ret rfl ⟨l1.trans (l2.trans l3), r, rfl, hr⟩)⟩
theorem neg_abs {z : Int} (h0 : -1000000 ≤ z) (h : z < 0) : IntKind.i64.wrap (0 - z) = (z.natAbs : Int) := by rw [IntKind.wrap_i64]; omega
set_option maxRecDepth 100000 in
theorem con_qShort (h : Dr2 H v) : Con Tryz.prog 26 [v] H fun u H' => PH.le H H' ∧ ∃ r, u = shR r ∧ Rb 10 r := by
  have r1 := h.rq
  obtain ⟨a0, a1, a2, b0, b1, b2, rfl, h1, h2⟩ := h
  refine con_of_tree mixed tr_qShort np_qShort rfl (den_rq r1 (den_call (con_rSmall h2) rfl ?_))
  rintro u1 H1 ⟨rfl, z1, rfl, z10, z11⟩
  simp only [List.cons_append, List.nil_append]
  refine ⟨fun h => (nomatch h), den_rq ⟨_, rfl⟩ ⟨fun vals H' => vals = [.int .i64 (z1.natAbs : Nat)] ∧ H' = H1, den_br (b := decide (z1 < 0)) rfl (fun hb => ?_) (fun hb => ?_), ?_⟩⟩
  · have hb := of_decide_eq_true hb
    refine ⟨?_, rfl⟩
    show [Value.int .i64 (IntKind.i64.wrap (0 - z1))] = _
    rw [neg_abs z10 hb]
  · have hb := of_decide_eq_false hb
    refine ⟨?_, rfl⟩
    show [Value.int .i64 z1] = _
    congr 2
    omega
  rintro vals H2 - ⟨rfl, rfl⟩
  simp only [List.cons_append, List.nil_append]
  refine den_call (con_rSmall h1) rfl ?_
  rintro u2 H3 ⟨rfl, z2, rfl, z20, z21⟩
  simp only [List.cons_append, List.nil_append]
  obtain ⟨A, hA⟩ : ∃ A, A = z2.tmod 1000 := ⟨_, rfl⟩
  have hA1 : A.natAbs < 1000 := by
    rw [hA, Int.natAbs_tmod]; exact Nat.mod_lt _ (by decide)
  obtain ⟨B, hB⟩ : ∃ B, B = z1.natAbs % 24 := ⟨_, rfl⟩
  have eB : ((z1.natAbs : Nat) : Int).tmod 24 = (B : Int) := by rw [hB]; exact tmodn _ 24
  have eC : IntKind.i64.wrap (1 + (B : Int)) = 1 + (B : Int) := wfit (by omega) (by omega)
  refine ⟨fun h => (nomatch h), den_rq ⟨_, rfl⟩ (den_call (con_rOf A (by omega) (by omega)) ?_ ?_)⟩
  · show [Value.int .i64 (z2.tmod 1000)] = _
    rw [hA]
  rintro u3 H4 ⟨l4, rfl⟩
  simp only [List.cons_append, List.nil_append]
  refine ⟨fun h => (nomatch h), den_rq ⟨_, rfl⟩ (den_call (con_rOf (1 + (B : Int)) (by omega) (by omega)) ?_ ?_)⟩
  · show [Value.int .i64 (IntKind.i64.wrap (1 + ((z1.natAbs : Nat) : Int).tmod 24))] = _
    rw [eB, eC]
  rintro u4 H5 ⟨l5, rfl⟩
  simp only [List.cons_append, List.nil_append]
  refine ⟨fun h => (nomatch h), den_call (con_qmade (rs A) (rs (1 + (B : Int))) 10 (by rw [toI_rs (fits_small (by omega) (by omega))]; omega) (by rw [toI_rs (fits_small (by omega) (by omega))]; omega) (by omega) (by omega)) rfl ?_⟩
  rintro u5 H6 ⟨l6, r, rfl, hr⟩
  exact ⟨fun h => (nomatch h), den_rq (shv_one _ _) (den_ret rfl ⟨l4.trans (l5.trans l6), r, rfl, hr⟩)⟩
end
end Go.Proofs.YtcleogdmobdnpabGreat
namespace Go.Proofs.YtcleogdmobdnpabGreat
open Go.ChangeShapes Go.WideShapes Go.ChangeAt Go.RowKit Go.RX Go.WD

section
variable {H : Type} {enc : TypeId × Value → H} {W : World} {base : Nat} {spare : Nat → Bool} {held : Bool} {fuel : Nat}
set_option maxRecDepth 100000 in
theorem trod_dr2 {cs : List Value} {x : DataW H × List MemPlace} (h : DataW.trod enc Tryz.prog W base spare held fuel 32 cs = some x) : Dr2 (fun b => W.heap[b]?) (.agg cs.toArray) := by
  have ht : Tryz.prog.underlying 32 = some (.struct (fieldsOf Tryz.prog 32)) := by kernel_rfl
  have hl : cs.length = 6 := by
    obtain ⟨xs, n, _, rfl, hl, hlen, hf⟩ := DataW.trod_struct ht h
    rw [hl]; kernel_rfl
  obtain ⟨y0, m0, h0⟩ := trod_field (k := 2) (T := 30) (o := 0) (c := 3) 0 ht (by kernel_rfl) (by omega) (by kernel_rfl) (by kernel_rfl) (by kernel_rfl) h
  obtain ⟨y1, m1, h1⟩ := trod_field (k := 2) (T := 30) (o := 3) (c := 3) 1 ht (by kernel_rfl) (by omega) (by kernel_rfl) (by kernel_rfl) (by kernel_rfl) h
  have g0 := trod_dr h0
  have g1 := trod_dr h1
  match cs, hl with
  | [c0, c1, c2, c3, c4, c5], _ => exact ⟨c0, c1, c2, c3, c4, c5, rfl, g0, g1⟩
set_option maxRecDepth 100000 in
theorem open_draft2 {r : Reach} {b0 : Nat} {v : Value} {d : DataW H} {p : List MemPlace} (hv : Value.okWide Tryz.prog W r b0 32 v) (h : DataW.Trod enc Tryz.prog W base spare held 32 v d p) : Dr2 (fun b => W.heap[b]?) v := by
  obtain ⟨cs, rfl⟩ := okWide_struct (fs := fieldsOf Tryz.prog 32) (by kernel_rfl) hv
  obtain ⟨m, hm⟩ := h
  have := trod_dr2 hm
  simpa only [Value.cells, Array.toArray_toList] using this
end
end Go.Proofs.YtcleogdmobdnpabGreat

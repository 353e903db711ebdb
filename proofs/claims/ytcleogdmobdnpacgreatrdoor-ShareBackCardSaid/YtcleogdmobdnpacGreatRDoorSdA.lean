/- The reference of chapter 02: drafts. -/
import Derived.Test.YtcleogdmobdnpacGreatRDoorSrT
import Derived.Test.YtcleogdmobdnpacGreatRDoorSwT
import Derived.Test.YtcleogdmobdnpacGreatRDoorRfK
import Derived.Test.YtcleogdmobdnpacGreatRDoorLwF
namespace Go.Proofs.YtcleogdmobdnpacGreatRDoor
open Go.RowKit Go.RX Go.WD

theorem win_abs {L : Nat} {z : Int} (h : Win L z) (hL : 2 ≤ L) : z.natAbs < 2 ^ (L + 1) := by
  have h4 : 2 ^ 2 ≤ 2 ^ L := Nat.pow_le_pow_right (by omega) hL
  rw [Nat.pow_succ]; unfold Win at h; omega
theorem rb_fits {r : Rat} {k : Nat} (h : Rb k r) (hk : k ≤ 511) : (-(HM : Int) ≤ r.num ∧ r.num < HM) ∧ (r.den : Int) < HM := by
  have := pow_le_HM hk
  unfold Rb at h
  omega
theorem told_rb {r : Rat} {k : Nat} (h : Rb k r) (hk : k ≤ 511) : toldR r = .tuple #[shR r, .int .i64 0] := by
  unfold toldR
  rw [if_pos (rb_fits h hk)]; rfl
theorem rb_ok {r : Rat} {k : Nat} (h : Rb k r) (hk : k ≤ 511) : okB (rs r.num) (rs (r.den : Int)) = true ∧ ratOf (rs r.num) (rs (r.den : Int)) = r := shR_ok (rb_fits h hk).1 (rb_fits h hk).2
/-- A draft of a share. -/
def Dr2 (H : PH) (v : Value) : Prop := ∃ a0 a1 a2 b0 b1 b2 : Value, v = .agg #[a0, a1, a2, b0, b1, b2] ∧ Dr H (.agg #[a0, a1, a2]) ∧ Dr H (.agg #[b0, b1, b2])
theorem Dr2.mono {H H' : PH} {v : Value} (h : Dr2 H v) (hl : PH.le H H') : Dr2 H' v := by
  obtain ⟨a0, a1, a2, b0, b1, b2, e, h1, h2⟩ := h; exact ⟨a0, a1, a2, b0, b1, b2, e, h1.mono hl, h2.mono hl⟩
theorem Dr2.rq {H : PH} {v : Value} (h : Dr2 H v) : v.cells.size = 6 ∧ oneAll v.cells := by
  obtain ⟨a0, a1, a2, b0, b1, b2, rfl, h1, h2⟩ := h
  have g1 := h1.rq.2
  have g2 := h2.rq.2
  refine ⟨rfl, fun c hc => ?_⟩
  rw [cells_agg] at hc g1 g2
  simp only [List.mem_cons, List.not_mem_nil, or_false] at hc
  rcases hc with e | e | e | e | e | e
  · exact g1 c (by rw [e]; simp)
  · exact g1 c (by rw [e]; simp)
  · exact g1 c (by rw [e]; simp)
  · exact g2 c (by rw [e]; simp)
  · exact g2 c (by rw [e]; simp)
  · exact g2 c (by rw [e]; simp)
section
variable {H : PH} {v : Value}
/-- What 'made' gives. -/
def madeF (p q : Int) : Rat := if q = 0 then Rat.divInt p 1 else Rat.divInt p q
def shortA (v : Value) : Int := (smallF (.agg (v.cells.extract 0 3))).tmod 1000
def shortB (v : Value) : Nat := (smallF (.agg (v.cells.extract 3 6))).natAbs % 24
def shortF (v : Value) : Rat := madeF (shortA v) (1 + (shortB v : Int))
set_option maxRecDepth 100000 in
theorem con_qmadeF (n d k : Nat) (hn : (toI n).natAbs < 2 ^ k) (hd : (toI d).natAbs < 2 ^ k) (k1 : 1 ≤ k) (hk : k ≤ 511) : Con Tryz.prog 33 [wd n, wd d] H fun u H' => PH.le H H' ∧ u = shR (madeF (toI n) (toI d)) ∧ Rb k (madeF (toI n) (toI d)) := by
  unfold madeF
  refine con_of_tree mixed tr_qmade np_qmade rfl (den_rq ⟨words_size n, words_one n⟩ (den_rq ⟨words_size d, words_one d⟩ (den_call (con_qMake n d) rfl ?_)))
  rintro u1 H1 ⟨l1, rfl⟩
  simp only [List.cons_append, List.nil_append]
  have h1k : 1 < 2 ^ k := Nat.one_lt_two_pow (by omega)
  by_cases h0 : toI d = 0
  · unfold makeV
    rw [if_pos h0, if_pos h0]
    refine ⟨fun h => (nomatch h), den_rq ⟨_, rfl, Nat.zero_lt_succ _⟩ (den_rq ⟨_, rfl, Nat.lt_succ_self _⟩ (den_rq (shv_one _ _) (den_rq ⟨_, rfl⟩ (den_true rfl (den_call (con_rOf 1 (by omega) (by omega)) rfl ?_)))))⟩
    rintro u2 H2 ⟨l2, rfl⟩
    simp only [List.cons_append, List.nil_append]
    refine ⟨fun _ => l2, den_call (con_qMake n (rs 1)) rfl ?_⟩
    rintro u3 H3 ⟨l3, rfl⟩
    have hb : Rb k (Rat.divInt (toI n) 1) := low_bound (by omega) hn (by exact h1k)
    rw [toI_rs (fits_small (n := 1) (by omega) (by omega))]
    unfold makeV
    rw [if_neg (by omega), told_rb hb hk]
    exact ⟨fun _ => l3, den_rq ⟨_, rfl, Nat.zero_lt_succ _⟩ (den_rq ⟨_, rfl, Nat.lt_succ_self _⟩ (den_rq (shv_one _ _) (den_ret rfl ⟨l1.trans (l2.trans l3), rfl, hb⟩)))⟩
  · have hb : Rb k (Rat.divInt (toI n) (toI d)) := low_bound h0 hn hd
    unfold makeV
    rw [if_neg h0, if_neg h0, told_rb hb hk]
    exact ⟨fun h => (nomatch h), den_rq ⟨_, rfl, Nat.zero_lt_succ _⟩ (den_rq ⟨_, rfl, Nat.lt_succ_self _⟩ (den_rq (shv_one _ _) (den_rq ⟨_, rfl⟩ (den_false rfl (den_ret rfl ⟨l1, rfl, hb⟩)))))⟩
theorem con_qmade (n d k : Nat) (hn : (toI n).natAbs < 2 ^ k) (hd : (toI d).natAbs < 2 ^ k) (k1 : 1 ≤ k) (hk : k ≤ 511) : Con Tryz.prog 33 [wd n, wd d] H fun u H' => PH.le H H' ∧ ∃ r, u = shR r ∧ Rb k r :=
  (con_qmadeF n d k hn hd k1 hk).mono fun _ _ ⟨h1, h2, h3⟩ => ⟨h1, _, h2, h3⟩
theorem con_qShare (h : Dr2 H v) : Con Tryz.prog 5 [v] H fun u H' => PH.le H H' ∧ ∃ r, u = shR r ∧ Rb 201 r := by
  have r1 := h.rq
  obtain ⟨a0, a1, a2, b0, b1, b2, rfl, h1, h2⟩ := h
  refine con_of_tree mixed tr_qShare np_qShare rfl (den_rq r1 (den_call (con_rWithin 200 (by omega) (by omega) h1) rfl ?_))
  rintro u1 H1 ⟨l1, z1, rfl, w1⟩
  simp only [List.cons_append, List.nil_append]
  refine ⟨fun _ => l1, den_call (con_rWithin 200 (by omega) (by omega) (h2.mono l1)) rfl ?_⟩
  rintro u2 H2 ⟨l2, z2, rfl, w2⟩
  simp only [List.cons_append, List.nil_append]
  have f1 := w1.fits (by omega)
  have f2 := w2.fits (by omega)
  refine ⟨fun _ => l2, den_call (con_qmade (rs z1) (rs z2) 201 (by rw [toI_rs f1]; exact win_abs w1 (by omega)) (by rw [toI_rs f2]; exact win_abs w2 (by omega)) (by omega) (by omega)) rfl ?_⟩
  rintro u3 H3 ⟨l3, r, rfl, hr⟩
  exact ⟨fun _ => l3, den_rq (shv_one _ _) (den_ret rfl ⟨l1.trans (l2.trans l3), r, rfl, hr⟩)⟩
theorem neg_abs {z : Int} (h0 : -1000000 ≤ z) (h : z < 0) : IntKind.i64.wrap (0 - z) = (z.natAbs : Int) := by rw [IntKind.wrap_i64]; omega
set_option maxRecDepth 100000 in
theorem con_qShortF (h : Dr2 H v) : Con Tryz.prog 6 [v] H fun u H' => PH.le H H' ∧ u = shR (shortF v) ∧ Rb 10 (shortF v) := by
  have r1 := h.rq
  obtain ⟨a0, a1, a2, b0, b1, b2, rfl, h1, h2⟩ := h
  have q1 : Value.agg ((Value.agg #[a0, a1, a2, b0, b1, b2]).cells.extract 0 3) = .agg #[a0, a1, a2] := rfl
  have q2 : Value.agg ((Value.agg #[a0, a1, a2, b0, b1, b2]).cells.extract 3 6) = .agg #[b0, b1, b2] := rfl
  unfold shortF shortA shortB
  rw [q1, q2]
  refine con_of_tree mixed tr_qShort np_qShort rfl (den_rq r1 (den_call (con_rSmallF h2) rfl ?_))
  rintro u1 H1 ⟨rfl, rfl, z10, z11⟩
  generalize smallF (.agg #[b0, b1, b2]) = z1 at z10 z11 ⊢
  simp only [List.cons_append, List.nil_append]
  refine ⟨fun h => (nomatch h), den_rq ⟨_, rfl⟩ ⟨fun vals H' => vals = [.int .i64 (z1.natAbs : Nat)] ∧ H' = H1, den_br (b := decide (z1 < 0)) rfl (fun hb => ?_) (fun hb => ?_), ?_⟩⟩
  · have hb := of_decide_eq_true hb
    refine ⟨?_, rfl⟩
    show [Value.int .i64 (IntKind.i64.wrap (0 - z1))] = _
    rw [neg_abs z10 hb]
  · have hb := of_decide_eq_false hb
    refine ⟨?_, rfl⟩
    show [Value.int .i64 z1] = _
    congr 2
    omega
  rintro vals H2 - ⟨rfl, rfl⟩
  simp only [List.cons_append, List.nil_append]
  refine den_call (con_rSmallF h1) rfl ?_
  rintro u2 H3 ⟨rfl, rfl, z20, z21⟩
  generalize smallF (.agg #[a0, a1, a2]) = z2 at z20 z21 ⊢
  simp only [List.cons_append, List.nil_append]
  obtain ⟨A, hA⟩ : ∃ A, A = z2.tmod 1000 := ⟨_, rfl⟩
  have hA1 : A.natAbs < 1000 := by
    rw [hA, Int.natAbs_tmod]; exact Nat.mod_lt _ (by decide)
  obtain ⟨B, hB⟩ : ∃ B, B = z1.natAbs % 24 := ⟨_, rfl⟩
  have eB : ((z1.natAbs : Nat) : Int).tmod 24 = (B : Int) := by rw [hB]; exact tmodn _ 24
  have eC : IntKind.i64.wrap (1 + (B : Int)) = 1 + (B : Int) := wfit (by omega) (by omega)
  refine ⟨fun h => (nomatch h), den_rq ⟨_, rfl⟩ (den_call (con_rOf A (by omega) (by omega)) ?_ ?_)⟩
  · show [Value.int .i64 (z2.tmod 1000)] = _
    rw [hA]
  rintro u3 H4 ⟨l4, rfl⟩
  simp only [List.cons_append, List.nil_append]
  refine ⟨fun h => (nomatch h), den_rq ⟨_, rfl⟩ (den_call (con_rOf (1 + (B : Int)) (by omega) (by omega)) ?_ ?_)⟩
  · show [Value.int .i64 (IntKind.i64.wrap (1 + ((z1.natAbs : Nat) : Int).tmod 24))] = _
    rw [eB, eC]
  rintro u4 H5 ⟨l5, rfl⟩
  simp only [List.cons_append, List.nil_append]
  refine ⟨fun h => (nomatch h), den_call (con_qmadeF (rs A) (rs (1 + (B : Int))) 10 (by rw [toI_rs (fits_small (by omega) (by omega))]; omega) (by rw [toI_rs (fits_small (by omega) (by omega))]; omega) (by omega) (by omega)) rfl ?_⟩
  rintro u5 H6 ⟨l6, rfl, hr⟩
  rw [toI_rs (fits_small (by omega) (by omega)), toI_rs (fits_small (by omega) (by omega)), hA, hB] at hr ⊢
  exact ⟨fun h => (nomatch h), den_rq (shv_one _ _) (den_ret rfl ⟨l4.trans (l5.trans l6), rfl, hr⟩)⟩
theorem con_qShort (h : Dr2 H v) : Con Tryz.prog 6 [v] H fun u H' => PH.le H H' ∧ ∃ r, u = shR r ∧ Rb 10 r :=
  (con_qShortF h).mono fun _ _ ⟨h1, h2, h3⟩ => ⟨h1, _, h2, h3⟩
end
end Go.Proofs.YtcleogdmobdnpacGreatRDoor
namespace Go.Proofs.YtcleogdmobdnpacGreatRDoor
open Go.ChangeShapes Go.WideShapes Go.ChangeAt Go.RowKit Go.RX Go.WD

section
variable {H : Type} {enc : TypeId × Value → H} {W : World} {base : Nat} {spare : Nat → Bool} {held : Bool} {fuel : Nat}
set_option maxRecDepth 100000 in
theorem trod_dr2 {cs : List Value} {x : DataW H × List MemPlace} (h : DataW.trod enc Tryz.prog W base spare held fuel 27 cs = some x) : Dr2 (fun b => W.heap[b]?) (.agg cs.toArray) := by
  have ht : Tryz.prog.underlying 27 = some (.struct (fieldsOf Tryz.prog 27)) := by kernel_rfl
  have hl : cs.length = 6 := by
    obtain ⟨xs, n, _, rfl, hl, hlen, hf⟩ := DataW.trod_struct ht h
    rw [hl]; kernel_rfl
  obtain ⟨y0, m0, h0⟩ := trod_field (k := 2) (T := 25) (o := 0) (c := 3) 0 ht (by kernel_rfl) (by omega) (by kernel_rfl) (by kernel_rfl) (by kernel_rfl) h
  obtain ⟨y1, m1, h1⟩ := trod_field (k := 2) (T := 25) (o := 3) (c := 3) 1 ht (by kernel_rfl) (by omega) (by kernel_rfl) (by kernel_rfl) (by kernel_rfl) h
  have g0 := trod_dr h0
  have g1 := trod_dr h1
  match cs, hl with
  | [c0, c1, c2, c3, c4, c5], _ => exact ⟨c0, c1, c2, c3, c4, c5, rfl, g0, g1⟩
set_option maxRecDepth 100000 in
theorem open_draft2 {r : Reach} {b0 : Nat} {v : Value} {d : DataW H} {p : List MemPlace} (hv : Value.okWide Tryz.prog W r b0 27 v) (h : DataW.Trod enc Tryz.prog W base spare held 27 v d p) : Dr2 (fun b => W.heap[b]?) v := by
  obtain ⟨cs, rfl⟩ := okWide_struct (fs := fieldsOf Tryz.prog 27) (by kernel_rfl) hv
  obtain ⟨m, hm⟩ := h
  have := trod_dr2 hm
  simpa only [Value.cells, Array.toArray_toList] using this
end
end Go.Proofs.YtcleogdmobdnpacGreatRDoor
namespace Go.Proofs.YtcleogdmobdnpacGreatRDoor
open Go.RowKit Go.RX Go.WD

section
variable {H : PH} {v : Value}
set_option maxRecDepth 100000 in
theorem con_qUnit (h : Dr2 H v) : Con Tryz.prog 7 [v] H fun u H' => PH.le H H' ∧ ∃ r, u = shR r ∧ Rb 10 r := by
  have r1 := h.rq
  obtain ⟨a0, a1, a2, b0, b1, b2, rfl, h1, h2⟩ := h
  refine con_of_tree mixed tr_qUnit np_qUnit rfl (den_rq r1 (den_call (con_rSmall h1) rfl ?_))
  rintro u1 H1 ⟨rfl, z1, rfl, z10, z11⟩
  simp only [List.cons_append, List.nil_append]
  refine ⟨fun _ => PH.le.refl _, den_call (con_rSmall h2) rfl ?_⟩
  rintro u2 H2 ⟨rfl, z2, rfl, z20, z21⟩
  simp only [List.cons_append, List.nil_append]
  refine ⟨fun _ => PH.le.refl _, den_rq ⟨_, rfl⟩ ⟨fun vals H' => vals = [.int .i64 (z1.natAbs : Nat)] ∧ H' = H2, den_br (b := decide (z1 < 0)) rfl (fun hb => ?_) (fun hb => ?_), ?_⟩⟩
  · have hb := of_decide_eq_true hb
    refine ⟨?_, rfl⟩
    show [Value.int .i64 (IntKind.i64.wrap (0 - z1))] = _
    rw [neg_abs z10 hb]
  · have hb := of_decide_eq_false hb
    refine ⟨?_, rfl⟩
    show [Value.int .i64 z1] = _
    congr 2
    omega
  rintro vals H3 - ⟨rfl, rfl⟩
  simp only [List.cons_append, List.nil_append]
  refine den_rq ⟨_, rfl⟩ ⟨fun vals H' => vals = [.int .i64 (z2.natAbs : Nat)] ∧ H' = H3, den_br (b := decide (z2 < 0)) rfl (fun hb => ?_) (fun hb => ?_), ?_⟩
  · have hb := of_decide_eq_true hb
    refine ⟨?_, rfl⟩
    show [Value.int .i64 (IntKind.i64.wrap (0 - z2))] = _
    rw [neg_abs z20 hb]
  · have hb := of_decide_eq_false hb
    refine ⟨?_, rfl⟩
    show [Value.int .i64 z2] = _
    congr 2
    omega
  rintro vals H4 - ⟨rfl, rfl⟩
  simp only [List.cons_append, List.nil_append]
  obtain ⟨B, hB⟩ : ∃ B, B = z2.natAbs % 24 := ⟨_, rfl⟩
  have eB : ((z2.natAbs : Nat) : Int).tmod 24 = (B : Int) := by rw [hB]; exact tmodn _ 24
  have eC : IntKind.i64.wrap (1 + (B : Int)) = 1 + (B : Int) := wfit (by omega) (by omega)
  have eD : IntKind.i64.wrap (2 + (B : Int)) = ((2 + B : Nat) : Int) := by rw [wfit (by omega) (by omega)]; omega
  obtain ⟨A, hA⟩ : ∃ A, A = z1.natAbs % (2 + B) := ⟨_, rfl⟩
  have hA1 : A < 2 + B := by rw [hA]; exact Nat.mod_lt _ (by omega)
  refine den_rq ⟨_, rfl⟩ (den_rq ⟨_, rfl⟩ (den_rq ?_ (den_call (con_rOf (A : Int) (by omega) (by omega)) ?_ ?_)))
  · show IntKind.i64.wrap (2 + ((z2.natAbs : Nat) : Int).tmod 24) ≠ 0
    rw [eB, eD]; omega
  · show [Value.int .i64 (((z1.natAbs : Nat) : Int).tmod (IntKind.i64.wrap (2 + ((z2.natAbs : Nat) : Int).tmod 24)))] = _
    rw [eB, eD, tmodn, hA]
  rintro u3 H5 ⟨l5, rfl⟩
  simp only [List.cons_append, List.nil_append]
  refine ⟨fun h => (nomatch h), den_call (con_rOf (1 + (B : Int)) (by omega) (by omega)) ?_ ?_⟩
  · show [Value.int .i64 (IntKind.i64.wrap (1 + ((z2.natAbs : Nat) : Int).tmod 24))] = _
    rw [eB, eC]
  rintro u4 H6 ⟨l6, rfl⟩
  simp only [List.cons_append, List.nil_append]
  refine ⟨fun h => (nomatch h), den_call (con_qmade (rs (A : Int)) (rs (1 + (B : Int))) 10 (by rw [toI_rs (fits_small (by omega) (by omega))]; omega) (by rw [toI_rs (fits_small (by omega) (by omega))]; omega) (by omega) (by omega)) rfl ?_⟩
  rintro u5 H7 ⟨l7, r, rfl, hr⟩
  exact ⟨fun h => (nomatch h), den_rq (shv_one _ _) (den_ret rfl ⟨l5.trans (l6.trans l7), r, rfl, hr⟩)⟩
end
/-- A pair of shares. -/
abbrev Q4 : Type := (Nat × Nat) × (Nat × Nat)
def q4f (p : Q4) : List Value := shf p.1 ++ shf p.2
def q4v (p : Q4) : Value := .agg ((words p.1.1 ++ words p.1.2) ++ (words p.2.1 ++ words p.2.2))
theorem q4f_len (p : Q4) : (q4f p).length = 32 := rfl
theorem q4f_v (p : Q4) : (q4f p).toArray = (words p.1.1 ++ words p.1.2) ++ (words p.2.1 ++ words p.2.2) := by apply Array.ext'; simp [q4f, shf]
theorem q4f_at : ∀ (ps : List Q4) (i : Nat), i < ps.length → ((ps.flatMap q4f).drop (i * 32)).take 32 = q4f (ps.getD i ((0, 0), (0, 0)))
  | [], i, h => by simp at h
  | p :: ps, 0, _ => by
    rw [List.flatMap_cons, Nat.zero_mul, List.drop_zero, List.take_append_of_le_length (by rw [q4f_len]; omega), List.take_of_length_le (by rw [q4f_len]; omega)]; rfl
  | p :: ps, i + 1, h => by
    have hab := q4f_at ps i (by simpa using h)
    rw [List.flatMap_cons, Nat.add_mul, Nat.one_mul, List.drop_append, q4f_len, List.drop_of_length_le (by rw [q4f_len]; omega), List.nil_append, show i * 32 + 32 - 32 = i * 32 from by omega, hab]
    rfl
theorem q4f_flat : ∀ (ps : List Q4), (ps.flatMap q4f).length = ps.length * 32
  | [] => rfl
  | p :: ps => by rw [List.flatMap_cons, List.length_append, q4f_len, q4f_flat ps, List.length_cons]; omega
theorem cells_agg' (a : Array Value) : (Value.agg a).cells = a := rfl
theorem q4v_cells (p : Q4) : (q4v p).cells.toList = q4f p := by
  unfold q4v
  rw [cells_agg', ← q4f_v]
theorem q4v_flat (ps : List Q4) : ((ps.map q4v).flatMap fun v => v.cells.toList) = ps.flatMap q4f := by
  rw [List.flatMap_map]
  simp only [q4v_cells]
/-- A slice of pairs of shares. -/
def Sps (H : PH) (v : Value) (ps : List Q4) : Prop := Sl H 32 v ps.length (ps.flatMap q4f)
theorem Sps.mono {H H' : PH} {v : Value} {ps : List Q4} (h : Sps H v ps) (hl : PH.le H H') : Sps H' v ps := Sl.mono h hl
theorem q4_rq (p : Q4) : ((words p.1.1 ++ words p.1.2) ++ (words p.2.1 ++ words p.2.2)).size = 32 ∧ oneAll ((words p.1.1 ++ words p.1.2) ++ (words p.2.1 ++ words p.2.2)) := by
  have h1 := shv_one p.1.1 p.1.2
  have h2 := shv_one p.2.1 p.2.2
  refine ⟨by rw [Array.size_append, h1.1, h2.1], fun c hc => ?_⟩
  rw [Array.toList_append, List.mem_append] at hc
  rcases hc with hc | hc
  · exact h1.2 c hc
  · exact h2.2 c hc
section
variable {G : Value → PH → Prop} {nx : List (List Value → PH → Prop)} {ρ : List Value} {H H0 : PH} {o o1 o2 : Oper} {x y x2 y2 : Operand} {id i id2 i2 : Nat} {args args2 : List SV} {t : Tree} {v : Value} {ps : List Q4}
end
/-- Two shares and two drafts of shares. -/
def Tw2 (H : PH) (v : Value) : Prop := ∃ (a b c d : Nat) (dx dy : Array Value), v = .agg ((words a ++ words b) ++ (words c ++ words d) ++ dx ++ dy) ∧ Dr2 H (.agg dx) ∧ Dr2 H (.agg dy)
theorem Tw2.mono {H H' : PH} {v : Value} (h : Tw2 H v) (hl : PH.le H H') : Tw2 H' v := by
  obtain ⟨a, b, c, d, dx, dy, e, h1, h2⟩ := h; exact ⟨a, b, c, d, dx, dy, e, h1.mono hl, h2.mono hl⟩
theorem Tw2.rq {H : PH} {v : Value} (h : Tw2 H v) : v.cells.size = 44 ∧ oneAll v.cells := by
  obtain ⟨a, b, c, d, dx, dy, rfl, h1, h2⟩ := h
  have g0 := q4_rq ((a, b), (c, d))
  have g1 := h1.rq
  have g2 := h2.rq
  have s1 : dx.size = 6 := g1.1
  have s2 : dy.size = 6 := g2.1
  constructor
  · show ((words a ++ words b) ++ (words c ++ words d) ++ dx ++ dy).size = 44
    rw [Array.size_append, Array.size_append, s1, s2, show ((words a ++ words b) ++ (words c ++ words d)).size = 32 from g0.1]
  · intro x hx
    have hx : x ∈ ((words a ++ words b) ++ (words c ++ words d) ++ dx ++ dy).toList := hx
    rw [Array.toList_append, List.mem_append, Array.toList_append, List.mem_append] at hx
    rcases hx with (hx | hx) | hx
    · exact g0.2 x hx
    · exact g1.2 x hx
    · exact g2.2 x hx
theorem tw_all2 {A B C E : Array Value} (h1 : A.size = 16) (h2 : B.size = 16) (h3 : C.size = 6) (h4 : E.size = 6) : (A ++ B ++ C ++ E).extract 0 16 = A ∧ (A ++ B ++ C ++ E).extract 16 32 = B ∧ (A ++ B ++ C ++ E).extract 32 38 = C ∧ (A ++ B ++ C ++ E).extract 38 44 = E := by
  have e1 : A.toList.length = 16 := by simpa using h1
  have e2 : B.toList.length = 16 := by simpa using h2
  have e3 : C.toList.length = 6 := by simpa using h3
  have e4 : E.toList.length = 6 := by simpa using h4
  refine ⟨?_, ?_, ?_, ?_⟩
  · apply Array.ext'
    simp [h1, List.take_of_length_le]
  · apply Array.ext'
    simp [h1, h2, List.take_of_length_le, List.drop_of_length_le]
  · apply Array.ext'
    simp [h1, h2, h3, List.take_of_length_le, List.drop_of_length_le]
  · apply Array.ext'
    simp [h1, h2, h3, h4, List.take_of_length_le, List.drop_of_length_le]
theorem q4_ext {A B C E : Array Value} (h1 : A.size = 8) (h2 : B.size = 8) (h3 : C.size = 8) (h4 : E.size = 8) : ((A ++ B) ++ (C ++ E)).extract 0 16 = A ++ B ∧ ((A ++ B) ++ (C ++ E)).extract 16 32 = C ++ E ∧ ((A ++ B) ++ (C ++ E)).extract 0 8 = A ∧ ((A ++ B) ++ (C ++ E)).extract 24 32 = E := by
  have e1 : A.toList.length = 8 := by simpa using h1
  have e2 : B.toList.length = 8 := by simpa using h2
  have e3 : C.toList.length = 8 := by simpa using h3
  have e4 : E.toList.length = 8 := by simpa using h4
  refine ⟨?_, ?_, ?_, ?_⟩
  · apply Array.ext'
    simp [h1, h2, List.take_of_length_le]
  · apply Array.ext'
    simp [h1, h2, h3, h4, List.take_of_length_le, List.drop_of_length_le]
  · apply Array.ext'
    simp [h1, List.take_of_length_le]
  · apply Array.ext'
    simp [h1, h2, h3, h4, List.take_of_length_le, List.drop_of_length_le]
theorem sp_put (a b c d : Nat) : spl (spl ((words 0 ++ words 0) ++ (words 0 ++ words 0)) 0 (words a ++ words b).toList) 16 (words c ++ words d).toList = (words a ++ words b) ++ (words c ++ words d) := by
  simp [words, wf, spl]
end Go.Proofs.YtcleogdmobdnpacGreatRDoor
namespace Go.Proofs.YtcleogdmobdnpacGreatRDoor
open Go.ChangeShapes Go.WideShapes Go.ChangeAt Go.RowKit Go.RX Go.WD

section
variable {H : Type} {enc : TypeId × Value → H} {W : World} {base : Nat} {spare : Nat → Bool} {held : Bool} {fuel : Nat}
set_option maxRecDepth 100000 in
theorem trod_sh {cs : List Value} {x : DataW H × List MemPlace} (h : DataW.trod enc Tryz.prog W base spare held fuel 33 cs = some x) : ∃ a b, cs.toArray = words a ++ words b := by
  have ht : Tryz.prog.underlying 33 = some (.struct (fieldsOf Tryz.prog 33)) := by kernel_rfl
  have hl : cs.length = 16 := by
    obtain ⟨xs, n, _, rfl, hl, hlen, hf⟩ := DataW.trod_struct ht h
    rw [hl]; kernel_rfl
  obtain ⟨y0, m0, h0⟩ := trod_field (k := 2) (T := 31) (o := 0) (c := 8) 0 ht (by kernel_rfl) (by omega) (by kernel_rfl) (by kernel_rfl) (by kernel_rfl) h
  obtain ⟨y1, m1, h1⟩ := trod_field (k := 2) (T := 31) (o := 8) (c := 8) 1 ht (by kernel_rfl) (by omega) (by kernel_rfl) (by kernel_rfl) (by kernel_rfl) h
  obtain ⟨⟨a, ha⟩, _⟩ := trod_wide h0
  obtain ⟨⟨b, hb⟩, _⟩ := trod_wide h1
  refine ⟨a, b, ?_⟩
  rw [← ha, ← hb]
  apply Array.ext'
  simp only [Array.toList_append]
  match cs, hl with
  | [c0, c1, c2, c3, c4, c5, c6, c7, c8, c9, c10, c11, c12, c13, c14, c15], _ => rfl
end
end Go.Proofs.YtcleogdmobdnpacGreatRDoor
namespace Go.Proofs.YtcleogdmobdnpacGreatRDoor
open Go.ChangeShapes Go.WideShapes Go.ChangeAt Go.RowKit Go.RX Go.WD

section
variable {Hh : Type} {enc : TypeId × Value → Hh} {W : World} {base : Nat} {spare : Nat → Bool} {held : Bool} {fuel : Nat}
theorem cell_block {w : World} {b q j : Nat} {cs : Array Value} {T : TypeId} {fz : Nat × Nat} {v : Value} (hb : w.heap[b]? = some (.cells cs T fz)) (h : w.cell? ((⟨b, q, none⟩ : Addr).add j) = some v) : cs[q + j]? = some v := by
  rw [add_blk] at h
  simp only [World.cell?, hb] at h
  exact h
set_option maxRecDepth 100000 in
theorem trod_sl {P : Program} {t e : TypeId} {sz : Nat} {cs : List Value} {x : DataW Hh × List MemPlace} (ht : P.underlying t = some (.slice e)) (hc : P.cellsOf e = sz) (hsz : 0 < sz) (h : DataW.trod enc P W base spare held fuel t cs = some x) :
    ∃ w n xs, cs = [w] ∧ Sl (fun b => W.heap[b]?) sz w n xs ∧ ∀ i, i < n → ∃ y m, DataW.trod enc P W base spare held m e ((xs.drop (i * sz)).take sz) = some y := by
  rcases Go.Deep.open_slice ht h with ⟨rfl, _⟩ | ⟨a, len, cap, m, n, D, Pl, rfl, _, hlc, hcm, hm, _, hV⟩
  · exact ⟨_, 0, [], rfl, ⟨by simp, none, 0, rfl, by omega, by simp [maxLen], .inl rfl⟩, fun i hi => absurd hi (Nat.not_lt_zero _)⟩
  · have hlm : len ≤ m := by rw [hm]; split <;> omega
    rw [hc] at hV
    by_cases h0 : len = 0
    · subst h0
      exact ⟨_, 0, [], rfl, ⟨by simp, a, cap, rfl, by omega, hcm, .inl rfl⟩, fun i hi => absurd hi (Nat.not_lt_zero _)⟩
    · obtain ⟨c0, g1, _⟩ := hV 0 (by omega)
      obtain ⟨_, glen, gcell⟩ := World.cells?_some g1
      have hc0 := gcell 0 hsz
      rw [List.getElem?_eq_getElem (by omega)] at hc0
      rw [Nat.zero_mul, Go.Deep.add_add] at hc0
      obtain ⟨b, q, bc, T, fz, ha, hb, _⟩ := plain_of_cell hc0
      have ha := plain_add ha
      subst ha
      have key : ∀ i, i < len → ∃ ci, ci.length = sz ∧ (∀ j, j < sz → bc[q + (i * sz + j)]? = ci[j]?) ∧ DataW.trod enc P W base spare held n e ci = some (D i, Pl i) := fun i hi => by
        obtain ⟨ci, k1, k2⟩ := hV i (by omega)
        obtain ⟨_, klen, kcell⟩ := World.cells?_some k1
        refine ⟨ci, klen, fun j hj => ?_, k2⟩
        have := kcell j hj
        rw [List.getElem?_eq_getElem (by omega)] at this ⊢
        rw [Go.Deep.add_add] at this
        exact cell_block hb this
      have hsize : q + len * sz ≤ bc.size := by
        obtain ⟨ci, klen, kcell, _⟩ := key (len - 1) (by omega)
        have := kcell (sz - 1) (by omega)
        rw [List.getElem?_eq_getElem (by omega)] at this
        have := (Array.getElem?_eq_some_iff.1 this).1
        have e1 : (len - 1) * sz + sz = len * sz := by rw [← Nat.succ_mul]; congr 1; omega
        omega
      refine ⟨_, len, (bc.toList.drop q).take (len * sz), rfl, ⟨?_, _, cap, rfl, hlc, hcm, .inr ⟨b, q, bc, T, fz, rfl, hb, rfl⟩⟩, fun i hi => ?_⟩
      · rw [List.length_take, List.length_drop, Array.length_toList]; omega
      · obtain ⟨ci, klen, kcell, k2⟩ := key i hi
        refine ⟨(D i, Pl i), n, ?_⟩
        rw [← k2]
        congr 1
        have hle : (i + 1) * sz ≤ len * sz := Nat.mul_le_mul_right _ hi
        rw [Nat.add_mul, Nat.one_mul] at hle
        apply List.ext_getElem?
        intro j
        rw [List.getElem?_take]
        split
        · rename_i hj
          rw [List.getElem?_drop, List.getElem?_take, if_pos (by omega), List.getElem?_drop, Array.getElem?_toList, kcell j hj]
        · rename_i hj
          rw [List.getElem?_eq_none (by omega)]
end
/-- A slice of drafts of shares. -/
def Drs (H : PH) (v : Value) (n : Nat) : Prop := ∃ xs, Sl H 6 v n xs ∧ ∀ i, i < n → Dr2 H (.agg ((xs.drop (i * 6)).take 6).toArray)
theorem Drs.mono {H H' : PH} {v : Value} {n : Nat} (h : Drs H v n) (hl : PH.le H H') : Drs H' v n := by
  obtain ⟨xs, h1, h2⟩ := h; exact ⟨xs, h1.mono hl, fun i hi => (h2 i hi).mono hl⟩
section
variable {G : Value → PH → Prop} {nx : List (List Value → PH → Prop)} {ρ : List Value} {H H0 : PH} {o o1 o2 : Oper} {x y x2 y2 : Operand} {id i id2 i2 : Nat} {args args2 : List SV} {t : Tree} {v : Value} {n : Nat}
end
section
variable {H : Type} {enc : TypeId × Value → H} {W : World} {base : Nat} {spare : Nat → Bool} {held : Bool} {fuel : Nat}
set_option maxRecDepth 100000 in
theorem okWide_slice {P : Program} {w : World} {r : Reach} {base : Nat} {t e : TypeId} {v : Value} (ht : P.underlying t = some (.slice e)) (h : Value.okWide P w r base t v) : v.cells.toList = [v] := by
  simp only [Value.okWide, ht] at h
  cases v <;> simp_all [Value.cells, Cell.okWide, Cell.ok]
end
end Go.Proofs.YtcleogdmobdnpacGreatRDoor
namespace Go.Proofs.YtcleogdmobdnpacGreatRDoor
open Go.RowKit Go.RX Go.WD
theorem bft (k : Int) : Value.bool (k != k) = .bool false := by rw [bne_self_eq_false]
theorem ne_wself {o : Oper} {x y : Operand} {n : Nat} (ho : o.op = .binOp .neq 31 x y 31) (hx : argEv [x, y] [wd n, wd n] x = wd n) (hy : argEv [x, y] [wd n, wd n] y = wd n) : Yld Tryz.prog o [wd n, wd n] (.bool false) := by
  have := ne_wide (a := n) (b := n) ho rfl rfl hx hy
  rwa [decide_eq_true rfl] at this
theorem D_put1 {P : Program} {ρ : List Value} {x y : SV} {cs : Array Value} {o : Nat} (hx : D P ρ x = .agg cs) (hy : (D P ρ y).cells = #[D P ρ y]) : D P ρ (.put x o 1 y 0 noI) = .agg (cs.setIfInBounds o (D P ρ y)) := by
  show Value.agg (spl (D P ρ x).cells (o + 0 * ixOf (D P ρ noI)) (D P ρ y).cells.toList) = _
  rw [hx, Nat.zero_mul, hy]; rfl
theorem D_putf {P : Program} {ρ : List Value} {x : SV} {cs : Array Value} {o : Nat} (g : FuncId) (hx : D P ρ x = .agg cs) : D P ρ (.put x o 1 (.k (.func (.func g) #[] #[])) 0 noI) = .agg (cs.setIfInBounds o (.func (.func g) #[] #[])) := by
  show Value.agg (spl (D P ρ x).cells (o + 0 * ixOf (D P ρ noI)) [.func (.func g) #[] #[]]) = _
  rw [hx, Nat.zero_mul]; rfl
theorem D_cell1 {P : Program} {ρ : List Value} {x : SV} {cs : Array Value} {i j : Nat} (hx : D P ρ x = .agg cs) (hi : ρ.getD i undef = iv j) : D P ρ (.cell x 0 1 (.v i)) = cs.getD j undef := by
  show (D P ρ x).cells.getD (0 + 1 * ixOf (ρ.getD i undef)) undef = _
  rw [hx, hi, show 0 + 1 * ixOf (iv j) = j from by show 0 + 1 * ((j : Int).toNat) = j; omega]
  rfl
section
variable {P : Program} {G : Value → PH → Prop} {nx : List (List Value → PH → Prop)} {ρ : List Value} {H : PH} {t : Tree} {x : SV} {a b : Value}
theorem den_t2 (h : D P ρ x = .tuple #[a, b]) (n : den P G t nx ρ H) : den P G (.rq (.tup 0 x) (.rq (.tup 1 x) t)) nx ρ H :=
  den_rq ⟨_, h, Nat.zero_lt_succ _⟩ (den_rq ⟨_, h, Nat.lt_succ_self _⟩ n)
theorem den_t2s {p q : Nat} (h : D P ρ x = .tuple #[shv p q, b]) (n : den P G t nx ρ H) : den P G (.rq (.tup 0 x) (.rq (.tup 1 x) (.rq (.cells 16 (.proj x 0)) t))) nx ρ H :=
  den_t2 h (den_rq (by show (tupV 0 (D P ρ x)).cells.size = 16 ∧ oneAll (tupV 0 (D P ρ x)).cells; rw [h]; exact shv_one p q) n)
theorem den_t2w {p : Nat} (h : D P ρ x = .tuple #[wd p, b]) (n : den P G t nx ρ H) : den P G (.rq (.tup 0 x) (.rq (.tup 1 x) (.rq (.cells 8 (.proj x 0)) t))) nx ρ H :=
  den_t2 h (den_rq (by show (tupV 0 (D P ρ x)).cells.size = 8 ∧ oneAll (tupV 0 (D P ρ x)).cells; rw [h]; exact ⟨words_size p, words_one p⟩) n)
/-- An error that is 0. -/
theorem den_e0 (h : D P ρ x = .tuple #[a, .int .i64 0]) (n : den P G t nx ρ H) : den P G (.rq (.int .i64 (.proj x 1)) (.rq (.isb false (.op2 .neq .i64 (.proj x 1) (.k (.int .i64 0)))) t)) nx ρ H :=
  den_rq ⟨0, by show tupV 1 (D P ρ x) = _; rw [h]; rfl⟩ (den_rq (by show Value.bool (intOf (tupV 1 (D P ρ x)) != 0) = _; rw [h]; rfl) n)
theorem den_e1 (h : D P ρ x = .tuple #[a, .int .i64 0]) (n : den P G t nx ρ H) : den P G (.rq (.int .i64 (.proj x 1)) (.rq (.isb true (.op2 .eql .i64 (.proj x 1) (.k (.int .i64 0)))) t)) nx ρ H :=
  den_rq ⟨0, by show tupV 1 (D P ρ x) = _; rw [h]; rfl⟩ (den_rq (by show Value.bool (intOf (tupV 1 (D P ρ x)) == 0) = _; rw [h]; rfl) n)
/-- Two errors that are equal. -/
theorem den_ee {y : SV} {c : Value} {e : Int} (h : D P ρ x = .tuple #[a, .int .i64 e]) (h2 : D P ρ y = .tuple #[c, .int .i64 e]) (n : den P G t nx ρ H) : den P G (.rq (.int .i64 (.proj x 1)) (.rq (.int .i64 (.proj y 1)) (.rq (.isb false (.op2 .neq .i64 (.proj x 1) (.proj y 1))) t))) nx ρ H :=
  den_rq ⟨e, by show tupV 1 (D P ρ x) = _; rw [h]; rfl⟩ (den_rq ⟨e, by show tupV 1 (D P ρ y) = _; rw [h2]; rfl⟩ (den_rq (by show Value.bool (intOf (tupV 1 (D P ρ x)) != intOf (tupV 1 (D P ρ y))) = _; rw [h, h2]; exact bft e) n))
/-- A number, compared. -/
theorem den_cmp {o : BinOp} {e : Int} {k : Int} (h : D P ρ x = .tuple #[.int .i64 e, b]) (hc : binV o .i64 e k = .bool false) (n : den P G t nx ρ H) : den P G (.rq (.int .i64 (.proj x 0)) (.rq (.isb false (.op2 o .i64 (.proj x 0) (.k (.int .i64 k)))) t)) nx ρ H :=
  den_rq ⟨e, by show tupV 0 (D P ρ x) = _; rw [h]; rfl⟩ (den_rq (by show binV o .i64 (intOf (tupV 0 (D P ρ x))) k = _; rw [h]; exact hc) n)
end
end Go.Proofs.YtcleogdmobdnpacGreatRDoor

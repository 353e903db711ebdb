/- Pairs of wide integers. -/
import Derived.Test.YtimnofpofbnjbaaRfK
import Derived.Test.YtimnofpofbnjbaaLpT
import Derived.Test.YtimnofpofbnjbaaLwD
namespace Go.Proofs.Ytimnofpofbnjbaa
open Go.RowKit Go.RX Go.WD

/-- A slice of pairs. -/
def Pr (H : PH) (v : Value) (n : Nat) : Prop := ∃ xs, Sl H 16 v n xs ∧ ∀ i, i < n → ∃ a b, (xs.drop (i * 16)).take 16 = (words a).toList ++ (words b).toList
theorem Pr.mono {H H' : PH} {v : Value} {n : Nat} (h : Pr H v n) (hl : PH.le H H') : Pr H' v n := by
  obtain ⟨xs, h1, h2⟩ := h; exact ⟨xs, h1.mono hl, h2⟩
/-- The same, of the call's own. -/
def PrO (H0 H : PH) (v : Value) (n : Nat) : Prop := ∃ xs, OwS H0 H 34 16 v n xs ∧ ∀ i, i < n → ∃ a b, (xs.drop (i * 16)).take 16 = (words a).toList ++ (words b).toList
theorem PrO.pr {H0 H : PH} {v : Value} {n : Nat} (h : PrO H0 H v n) : Pr H v n := by
  obtain ⟨xs, h1, h2⟩ := h; exact ⟨xs, h1.sl, h2⟩
theorem PrO.mono {H0 H H' : PH} {v : Value} {n : Nat} (h : PrO H0 H v n) (hl : PH.le H H') : PrO H0 H' v n := by
  obtain ⟨xs, h1, h2⟩ := h; exact ⟨xs, h1.mono hl, h2⟩
/-- Two integers and two drafts. -/
def Tw (H : PH) (v : Value) : Prop := ∃ (a b : Nat) (dx dy : Array Value), v = .agg (words a ++ words b ++ dx ++ dy) ∧ Dr H (.agg dx) ∧ Dr H (.agg dy)
theorem tw_all {A B C E : Array Value} (h1 : A.size = 8) (h2 : B.size = 8) (h3 : C.size = 3) (h4 : E.size = 3) : (A ++ B ++ C ++ E).extract 0 8 = A ∧ (A ++ B ++ C ++ E).extract 8 16 = B ∧ (A ++ B ++ C ++ E).extract 16 19 = C ∧ (A ++ B ++ C ++ E).extract 19 22 = E := by
  have e1 : A.toList.length = 8 := by simpa using h1
  have e2 : B.toList.length = 8 := by simpa using h2
  have e3 : C.toList.length = 3 := by simpa using h3
  have e4 : E.toList.length = 3 := by simpa using h4
  refine ⟨?_, ?_, ?_, ?_⟩
  · apply Array.ext'
    simp [h1, List.take_of_length_le]
  · apply Array.ext'
    simp [h1, h2, List.take_of_length_le, List.drop_of_length_le]
  · apply Array.ext'
    simp [h1, h2, h3, List.take_of_length_le, List.drop_of_length_le]
  · apply Array.ext'
    simp [h1, h2, h3, h4, List.take_of_length_le, List.drop_of_length_le]
theorem z_pair : zeroV Try.prog 34 = .agg (words 0 ++ words 0) := by
  have : zeroV Try.prog 34 = .agg #[.int .u64 0, .int .u64 0, .int .u64 0, .int .u64 0, .int .u64 0, .int .u64 0, .int .u64 0, .int .u64 0, .int .u64 0, .int .u64 0, .int .u64 0, .int .u64 0, .int .u64 0, .int .u64 0, .int .u64 0, .int .u64 0] := by kernel_rfl
  rw [this]; simp [words, wf, dig_zero]
/-- Two words side by side. -/
theorem pair_put (a b : Nat) : spl (spl (words 0 ++ words 0) 0 (words a).toList) 8 (words b).toList = words a ++ words b := by
  simp [words, wf, spl]
def pv (p : Nat × Nat) : Value := .agg (words p.1 ++ words p.2)
def pf (p : Nat × Nat) : List Value := (words p.1).toList ++ (words p.2).toList
theorem pf_len (p : Nat × Nat) : (pf p).length = 16 := rfl
theorem flat_at : ∀ (ps : List (Nat × Nat)) (i : Nat), i < ps.length → ∃ a b, ((ps.flatMap pf).drop (i * 16)).take 16 = (words a).toList ++ (words b).toList
  | [], i, h => by simp at h
  | p :: ps, 0, _ => ⟨p.1, p.2, by
    rw [List.flatMap_cons, Nat.zero_mul, List.drop_zero, List.take_append_of_le_length (by rw [pf_len]; omega), List.take_of_length_le (by rw [pf_len]; omega)]; rfl⟩
  | p :: ps, i + 1, h => by
    obtain ⟨a, b, hab⟩ := flat_at ps i (by simpa using h)
    refine ⟨a, b, ?_⟩
    rw [List.flatMap_cons, Nat.add_mul, Nat.one_mul, List.drop_append, pf_len, List.drop_of_length_le (by rw [pf_len]; omega), List.nil_append, show i * 16 + 16 - 16 = i * 16 from by omega]
    exact hab
theorem flat_len : ∀ (ps : List (Nat × Nat)), (ps.flatMap pf).length = ps.length * 16
  | [] => rfl
  | p :: ps => by rw [List.flatMap_cons, List.length_append, pf_len, flat_len ps, List.length_cons]; omega
theorem pv_flat (ps : List (Nat × Nat)) : ((ps.map pv).flatMap fun v => v.cells.toList) = ps.flatMap pf := by
  rw [List.flatMap_map]
  congr 1
theorem info_pair : ∃ i z, Try.prog.info? 34 = some i ∧ i.zero = some z ∧ i.size = 16 := by
  refine ⟨(Try.prog.info? 34).getD default, (((Try.prog.info? 34).getD default).zero).getD default, by kernel_rfl, by kernel_rfl, by kernel_rfl⟩
theorem pair_ext (a b : Nat) : (words a ++ words b).extract 8 16 = words b := by
  apply Array.ext'
  simp [words_size, List.take_of_length_le]
theorem put_pair {ρ : List Value} {s1 s2 : SV} {p q : Nat} (h1 : (D Try.prog ρ s1).cells = words p) (h2 : (D Try.prog ρ s2).cells = words q) : D Try.prog ρ (.put (.put (.z 34) 0 8 s1 0 noI) 8 8 s2 0 noI) = pv (p, q) := by
  show Value.agg (spl (spl (zeroV Try.prog 34).cells 0 (D Try.prog ρ s1).cells.toList) 8 (D Try.prog ρ s2).cells.toList) = _
  rw [h1, h2, z_pair]
  exact congrArg Value.agg (pair_put p q)
set_option maxRecDepth 100000 in
theorem con_pairsO {H : PH} {v : Value} (h : Tw H v) : Con Try.prog 5 [v] H fun u H' => PH.le H H' ∧ PrO H H' u 6 := by
  obtain ⟨a, b, dx, dy, rfl, hdx, hdy⟩ := h
  have rx := hdx.rq
  have ry := hdy.rq
  have rx1 : dx.size = 3 := rx.1
  have ry1 : dy.size = 3 := ry.1
  obtain ⟨t0, t8, t16, t19⟩ := tw_all (words_size a) (words_size b) rx1 ry1
  have hone : oneAll (words a ++ words b ++ dx ++ dy) := fun c hc => by
    simp only [Array.toList_append, List.mem_append] at hc
    rcases hc with ((hc | hc) | hc) | hc
    · exact words_one a c hc
    · exact words_one b c hc
    · exact rx.2 c hc
    · exact ry.2 c hc
  have hX : ∀ ρ, D Try.prog (Value.agg (words a ++ words b ++ dx ++ dy) :: ρ) (.sub (.v 0) 16 3 0 noI) = .agg dx := fun ρ => by
    show Value.agg ((words a ++ words b ++ dx ++ dy).extract 16 19) = _
    rw [t16]
  have hY : ∀ ρ, D Try.prog (Value.agg (words a ++ words b ++ dx ++ dy) :: ρ) (.sub (.v 0) 19 3 0 noI) = .agg dy := fun ρ => by
    show Value.agg ((words a ++ words b ++ dx ++ dy).extract 19 22) = _
    rw [t19]
  refine con_of_tree mixed tr_pairs np_pairs rfl (den_rq ⟨by show (words a ++ words b ++ dx ++ dy).size = 22; rw [Array.size_append, Array.size_append, Array.size_append, words_size, words_size, rx1, ry1], hone⟩ (den_call (con_rSmall hdx) (by simp only [List.map_cons, List.map_nil, hX]) ?_))
  rintro u1 H1 ⟨rfl, z1, rfl, b1, b1'⟩
  refine ⟨fun _ => PH.le.refl _, den_call (con_rOf z1 (by omega) (by omega)) rfl ?_⟩
  rintro u2 H2 ⟨l2, rfl⟩
  refine ⟨fun _ => l2, den_call (con_rSmall (hdy.mono l2)) (by simp only [List.map_cons, List.map_nil, List.cons_append, hY]) ?_⟩
  rintro u3 H3 ⟨rfl, z3, rfl, b3, b3'⟩
  refine ⟨fun _ => PH.le.refl _, den_call (con_rOf z3 (by omega) (by omega)) rfl ?_⟩
  rintro u4 H4 ⟨l4, rfl⟩
  simp only [List.cons_append, List.nil_append]
  refine ⟨fun _ => l4, den_rq ⟨words_size _, words_one _⟩ (den_rq ⟨words_size _, words_one _⟩ (den_call (con_rWide (hdx.mono (l2.trans l4))) (by simp only [List.map_cons, List.map_nil, hX]) ?_))⟩
  rintro u5 H5 ⟨l5, z5, rfl, _⟩
  simp only [List.cons_append, List.nil_append]
  refine ⟨fun _ => l5, den_call (con_rWide (hdy.mono (l2.trans (l4.trans l5)))) (by simp only [List.map_cons, List.map_nil, hY]) ?_⟩
  rintro u6 H6 ⟨l6, z6, rfl, _⟩
  simp only [List.cons_append, List.nil_append]
  have m6 := l2.trans (l4.trans (l5.trans l6))
  refine ⟨fun _ => l6, den_rq ⟨words_size _, words_one _⟩ (den_rq ⟨words_size _, words_one _⟩ (den_call (con_rWithin 256 (by omega) (by omega) (hdx.mono m6)) (by simp only [List.map_cons, List.map_nil, hX]; rfl) ?_))⟩
  rintro u7 H7 ⟨l7, z7, rfl, _⟩
  simp only [List.cons_append, List.nil_append]
  refine ⟨fun _ => l7, den_call (con_rWithin 256 (by omega) (by omega) (hdy.mono (m6.trans l7))) (by simp only [List.map_cons, List.map_nil, hY]; rfl) ?_⟩
  rintro u8 H8 ⟨l8, z8, rfl, _⟩
  simp only [List.cons_append, List.nil_append]
  have m8 := m6.trans (l7.trans l8)
  refine ⟨fun _ => l8, den_rq ⟨words_size _, words_one _⟩ (den_rq ⟨words_size _, words_one _⟩ (den_call (con_rWithin 130 (by omega) (by omega) (hdy.mono m8)) (by simp only [List.map_cons, List.map_nil, hY]; rfl) ?_))⟩
  rintro u9 H9 ⟨l9, z9, rfl, _⟩
  simp only [List.cons_append, List.nil_append]
  refine ⟨fun _ => l9, den_rq ⟨words_size _, words_one _⟩ (den_call (con_rWide (hdx.mono (m8.trans l9))) (by simp only [List.map_cons, List.map_nil, hX]) ?_)⟩
  rintro u10 H10 ⟨l10, z10, rfl, _⟩
  simp only [List.cons_append, List.nil_append]
  have m10 := m8.trans (l9.trans l10)
  obtain ⟨ti, tz, i1, i2, i3⟩ := info_pair
  have hsm : ∀ ρ' : List Value, ρ'.getD 2 undef = iw z1 → ρ'.getD 4 undef = iw z3 → D Try.prog ρ' (.sub (.put (.put (.z 34) 0 8 (.v 2) 0 noI) 8 8 (.v 4) 0 noI) 8 8 0 noI) = wd (rs z3) := fun ρ' e2 e4 => by
    show Value.agg ((spl (spl (zeroV Try.prog 34).cells 0 (ρ'.getD 2 undef).cells.toList) 8 (ρ'.getD 4 undef).cells.toList).extract 8 16) = _
    rw [e2, e4, z_pair]
    show Value.agg ((spl (spl (words 0 ++ words 0) 0 (words (rs z1)).toList) 8 (words (rs z3)).toList).extract 8 16) = _
    rw [pair_put, pair_ext]; rfl
  refine ⟨fun _ => l10, den_rq ⟨words_size _, words_one _⟩ (den_rq ?_ (den_eff (vs := [pv (a, b), pv (rs z5, rs z6), pv (rs z7, rs z8), pv (a, rs z9), pv (rs z10, rs z3), pv (rs z1, rs z3)]) (sl_build (cells := ([(a, b), (rs z5, rs z6), (rs z7, rs z8), (a, rs z9), (rs z10, rs z3), (rs z1, rs z3)].flatMap pf).toArray) op_pairs_2_32 (e := 34) (by kernel_rfl) i1 i2 (by rw [i3]; decide) (by rw [i3]; decide) ?_) ?_ ?_))⟩
  · show (D _ _ _).cells.size = 8 ∧ oneAll (D _ _ _).cells
    rw [hsm _ rfl rfl]; exact ⟨words_size _, words_one _⟩
  · rw [i3]
    have := Go.Great.fill_whole (s := 16) (by omega) ([(a, b), (rs z5, rs z6), (rs z7, rs z8), (a, rs z9), (rs z10, rs z3), (rs z1, rs z3)].map pv) (Array.map (fun x => tz.cells[x % tz.cells.size]!) (Array.range (6 * 16))) (fun v hv => by
      obtain ⟨p, _, rfl⟩ := List.mem_map.1 hv
      show (words p.1 ++ words p.2).size = 16
      rw [Array.size_append, words_size, words_size]) (by simp)
    rw [pv_flat] at this
    exact this
  · have h0 : ∀ ρ, (D Try.prog (Value.agg (words a ++ words b ++ dx ++ dy) :: ρ) (.sub (.v 0) 0 8 0 noI)).cells = words a := fun ρ => t0
    have h8 : ∀ ρ, (D Try.prog (Value.agg (words a ++ words b ++ dx ++ dy) :: ρ) (.sub (.v 0) 8 8 0 noI)).cells = words b := fun ρ => t8
    simp only [List.map_cons, List.map_nil]
    rw [put_pair (h0 _) (h8 _), put_pair (p := rs z5) (q := rs z6) rfl rfl, put_pair (p := rs z7) (q := rs z8) rfl rfl, put_pair (p := a) (q := rs z9) (h0 _) rfl, put_pair (p := rs z10) (q := rs z3) rfl (by rw [hsm _ rfl rfl]; rfl), put_pair (p := rs z1) (q := rs z3) rfl rfl]
  · rintro u11 H11 ⟨g, hg, rfl, rfl⟩
    have hg0 : H1 g = none := by
      cases e : H1 g with
      | none => rfl
      | some ob => rw [m10 _ _ e] at hg; cases hg
    refine ⟨fun _ => PH.le_put hg _, den_ret rfl ⟨m10.trans (PH.le_put hg _), _, ⟨?_, .inr ⟨g, 6, _, rfl, hg0, PH.put_self _ _ _, by omega, by simp [maxLen], ?_, ?_⟩⟩, flat_at [(a, b), (rs z5, rs z6), (rs z7, rs z8), (a, rs z9), (rs z10, rs z3), (rs z1, rs z3)]⟩⟩
    · rw [flat_len]; rfl
    · rw [← Array.length_toList, List.toList_toArray, flat_len]; rfl
    · rw [List.toList_toArray, List.take_of_length_le (by rw [flat_len]; simp)]
theorem con_pairs {H : PH} {v : Value} (h : Tw H v) : Con Try.prog 5 [v] H fun u H' => PH.le H H' ∧ Pr H' u 6 :=
  (con_pairsO h).mono fun _ _ ⟨h1, h2⟩ => ⟨h1, h2.pr⟩
end Go.Proofs.Ytimnofpofbnjbaa
namespace Go.Proofs.Ytimnofpofbnjbaa
open Go.RowKit Go.RX Go.WD

theorem told_int (z : Int) : ∃ (n : Nat) (e : Int), told z = .tuple #[wd n, .int .i64 e] := by
  unfold told; split
  · exact ⟨rs z, 0, rfl⟩
  · exact ⟨0, 6, rfl⟩
section
variable {G : Value → PH → Prop} {nx : List (List Value → PH → Prop)} {ρ : List Value} {H H0 : PH} {o o1 o2 : Oper} {x y x2 y2 : Operand} {id i id2 i2 : Nat} {args args2 : List SV} {t : Tree} {v : Value}
theorem ne_self {n : Nat} (ho : o.op = .binOp .neq 24 x y 24) (hx : argEv [x, y] [wd n, wd n] x = wd n) (hy : argEv [x, y] [wd n, wd n] y = wd n) : Yld Try.prog o [wd n, wd n] (.bool false) := by
  have := ne_wide (a := n) (b := n) ho rfl rfl hx hy
  rwa [decide_eq_true rfl] at this
theorem den_plen {n : Nat} (ho : o.op = .call ⟨.builtin .len, #[x], #[32]⟩) (hx : argEv [x] [v] x = v) (h : Pr H v n) (ha : args.map (D Try.prog ρ) = [v]) (k : den Try.prog G t nx (ρ ++ [iv n]) H) : den Try.prog G (.prim id i o args t) nx ρ H := by
  obtain ⟨xs, h1, _⟩ := h
  exact den_prim ((sl_len (e := 34) ho hx (by kernel_rfl) h1).rds H) ha k
theorem den_pat {k : IntKind} {j n : Nat} (ho1 : o1.op = .indexAddr 32 x y) (ho2 : o2.op = .load 34 x2) (hx : argEv [x, y] [v, .int k (j : Nat)] x = v) (hy : argEv [x, y] [v, .int k (j : Nat)] y = .int k (j : Nat)) (hx2 : ∀ p, argEv [x2] [p] x2 = p) (h : Pr H v n) (hj : j < n)
    (ha : args.map (D Try.prog ρ) = [v, .int k (j : Nat)]) (ha2 : ∀ p, args2.map (D Try.prog (ρ ++ [p])) = [p]) (c : ∀ p a b, den Try.prog G t nx (ρ ++ [p] ++ [.agg (words a ++ words b)]) H) : den Try.prog G (.prim id i o1 args (.prim id2 i2 o2 args2 t)) nx ρ H := by
  obtain ⟨xs, hs, hp⟩ := h
  obtain ⟨b, q, cs, T', fz, h1, h2, h3, h4⟩ := sl_at (P := Try.prog) (e := 34) (sz := 16) ho1 hx hy (by kernel_rfl) (by kernel_rfl) (by kernel_rfl) (by omega) hs hj
  obtain ⟨m, l, hml⟩ := hp j hj
  rw [hml] at h4
  have hl := sl_loadN (P := Try.prog) (H := H) ho2 (hx2 _) h2 (by kernel_rfl) (by kernel_rfl) (by kernel_rfl) h3 h4
  rw [show ((words m).toList ++ (words l).toList).toArray = words m ++ words l from by apply Array.ext'; simp] at hl
  exact den_prim (h1.rds H) ha (den_prim hl (ha2 _) (c _ m l))
end
theorem ext0 (a b : Nat) : (words a ++ words b).extract 0 8 = words a := by
  apply Array.ext'
  simp [words_size, List.take_of_length_le]
theorem Tw.rq {H : PH} {v : Value} (h : Tw H v) : v.cells.size = 22 ∧ oneAll v.cells := by
  obtain ⟨a, b, dx, dy, rfl, hdx, hdy⟩ := h
  have rx := hdx.rq
  have ry := hdy.rq
  have rx1 : dx.size = 3 := rx.1
  have ry1 : dy.size = 3 := ry.1
  refine ⟨by show (words a ++ words b ++ dx ++ dy).size = 22; rw [Array.size_append, Array.size_append, Array.size_append, words_size, words_size, rx1, ry1], fun c hc => ?_⟩
  replace hc : c ∈ (words a ++ words b ++ dx ++ dy).toList := hc
  simp only [Array.toList_append, List.mem_append] at hc
  rcases hc with ((hc | hc) | hc) | hc
  · exact words_one a c hc
  · exact words_one b c hc
  · exact rx.2 c hc
  · exact ry.2 c hc
theorem Tw.mono {H H' : PH} {v : Value} (h : Tw H v) (hl : PH.le H H') : Tw H' v := by
  obtain ⟨a, b, dx, dy, h1, hdx, hdy⟩ := h
  exact ⟨a, b, dx, dy, h1, hdx.mono hl, hdy.mono hl⟩
theorem pair_rq (a b : Nat) : (words a ++ words b).size = 16 ∧ oneAll (words a ++ words b) := by
  refine ⟨by rw [Array.size_append, words_size, words_size], fun c hc => ?_⟩
  simp only [Array.toList_append, List.mem_append] at hc
  rcases hc with hc | hc
  · exact words_one a c hc
  · exact words_one b c hc
end Go.Proofs.Ytimnofpofbnjbaa
namespace Go.Proofs.Ytimnofpofbnjbaa
open Go.RowKit Go.RX Go.WD

end Go.Proofs.Ytimnofpofbnjbaa

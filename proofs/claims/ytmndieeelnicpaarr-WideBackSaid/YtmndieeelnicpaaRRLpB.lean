/- The law WideParts of chapter 01: the walk. -/
import Derived.Test.YtmndieeelnicpaaRRLpA
import Derived.Test.YtmndieeelnicpaaRRRfM
namespace Go.Proofs.YtmndieeelnicpaaRR
open Go.RowKit Go.RX Go.WD

theorem divV_form (x y : Int) : ∃ (n m : Nat) (e : Int), divV x y = .tuple #[wd n, wd m, .int .i64 e] := by
  unfold divV; split
  · exact ⟨0, 0, 7, rfl⟩
  · split
    · exact ⟨rs (x / y), rs (x % y), 0, rfl⟩
    · exact ⟨0, 0, 6, rfl⟩
theorem Pr.drop {H : PH} {v : Value} {n i : Nat} {o : Oper} {x lo : Operand} {k : IntKind} {vs : List Value} (h : Pr H v n) (ho : o.op = .slice 32 x (some lo) none none) (hx : argEv [x, lo] vs x = v) (hl : argEv [x, lo] vs lo = .int k (i : Nat)) (h1 : i ≤ n) : ∃ u, Yld Try.prog o vs u ∧ Pr H u (n - i) := by
  obtain ⟨xs, hs, hp⟩ := h
  obtain ⟨u, h2, h3⟩ := sl_drop (P := Try.prog) (e := 34) (sz := 16) ho hx hl (by kernel_rfl) (by kernel_rfl) (by kernel_rfl) hs h1
  refine ⟨u, h2, _, h3, fun j hj => ?_⟩
  obtain ⟨a, b, hab⟩ := hp (i + j) (by omega)
  refine ⟨a, b, ?_⟩
  rw [List.drop_drop, ← Nat.add_mul, hab]
theorem bne_self (k : Int) : Value.bool (k != k) = .bool false := by rw [bne_self_eq_false]
theorem arg_1 (a b : Nat) : [Value.agg ((words a ++ words b).extract 0 8)] = [wd a] := by rw [ext0]; rfl
theorem arg_2 (a b : Nat) : [Value.agg ((words a ++ words b).extract 0 8), Value.agg ((words a ++ words b).extract 8 16)] = [wd a, wd b] := by rw [ext0, pair_ext]; rfl

set_option maxRecDepth 100000 in
set_option maxHeartbeats 1000000 in
theorem con_wideParts {H : PH} {v : Value} (h : Tw H v) : Con Try.prog 3 [v] H fun u H' => u = .bool true ∧ PH.le H H' := by
  have hrq := h.rq
  have h' := h
  obtain ⟨a0, b0, dx, dy, rfl, _, _⟩ := h
  refine con_of_tree mixed tr_WideParts np_WideParts rfl (den_rq hrq (den_call (con_works H) rfl ?_))
  rintro u H1 ⟨rfl, l1⟩
  refine ⟨fun h => (nomatch h), den_rq ⟨_, rfl⟩ (den_false rfl (den_call (con_pairs (h'.mono l1)) rfl ?_))⟩
  rintro u2 H2 ⟨l2, hp⟩
  refine ⟨fun h => (nomatch h), den_plen op_WideParts_3_2 rfl hp rfl ⟨fun vals H' => ∃ i : Nat, vals = [.bool false, iv i] ∧ i ≤ 6 ∧ PH.le H2 H', fun vals _ => (6 - intOf (vals.getD 1 undef)).toNat, ⟨0, rfl, by omega, PH.le.refl _⟩, ?_⟩⟩
  rintro vals H3 - ⟨i, rfl, hi, l3⟩
  simp only [List.cons_append, List.nil_append]
  have lall := l1.trans (l2.trans l3)
  refine den_rq ⟨_, rfl⟩ (den_rq ⟨_, rfl⟩ (den_br (b := decide ((i : Int) < 6)) rfl (fun hb => ?_) (fun hb => ?_)))
  · have hb : i < 6 := by have := of_decide_eq_true hb; omega
    have e1 : IntKind.i64.wrap ((i : Int) + 1) = ((i + 1 : Nat) : Int) := wadd1 (by omega)
    refine den_pat (k := .i64) (j := i) op_WideParts_5_0 op_WideParts_5_1 rfl rfl (fun _ => rfl) (hp.mono l3) hb rfl (fun _ => rfl) fun p a b => ?_
    simp only [List.cons_append, List.nil_append]
    obtain ⟨n1, n2, k1, t1⟩ := divV_form (toI a) (toI b)
    have d1 : Det Try.prog 14 [wd a, wd b] (.tuple #[wd n1, wd n2, .int .i64 k1]) := by rw [← t1]; exact det_Div a b
    refine den_rq (pair_rq a b) (den_det d1 (arg_2 a b) (den_rq ⟨_, rfl, s30⟩ (den_rq ⟨_, rfl, s31⟩ (den_rq ⟨_, rfl, s32⟩ (den_rq ⟨words_size n1, words_one n1⟩ (den_rq ⟨words_size n2, words_one n2⟩ (den_call (con_rDiv a b) (arg_2 a b) ?_)))))))
    rintro v1 H4 ⟨l4, rfl⟩
    rw [t1]
    simp only [List.cons_append, List.nil_append]
    refine ⟨fun h => (nomatch h), den_rq ⟨_, rfl, s30⟩ (den_rq ⟨_, rfl, s31⟩ (den_rq ⟨_, rfl, s32⟩ (den_rq ⟨words_size n1, words_one n1⟩ (den_rq ⟨words_size n2, words_one n2⟩ ?_))))⟩
    refine den_prim ((ne_self (n := n1) op_WideParts_8_2 rfl rfl).rds _) rfl (den_rq ⟨_, rfl⟩ (den_false rfl (den_prim ((ne_self (n := n2) op_WideParts_8_6 rfl rfl).rds _) rfl (den_rq ⟨_, rfl⟩ (den_false rfl (den_rq ⟨k1, rfl⟩ (den_rq ⟨k1, rfl⟩ (den_false (bne_self k1) ⟨⟨i + 1, ?_, by omega, l3.trans l4⟩, ?_⟩))))))))
    · simp only [rxs, iv, e1]
    · simp only [rxs, iv, e1]
      omega
  · refine den_call (con_pairs (h'.mono lall)) rfl ?_
    rintro u4 H4 ⟨l4, hp4⟩
    obtain ⟨u5, y5, hp5⟩ := hp4.drop (i := 2) (k := .i64) (vs := [u4, .int .i64 2]) op_WideParts_11_2 rfl rfl (by omega)
    simp only [List.cons_append, List.nil_append]
    refine ⟨fun h => (nomatch h), den_prim (y5.rds _) rfl (den_plen op_WideParts_11_3 rfl hp5 rfl ⟨fun vals H' => ∃ i : Nat, vals = [.bool false, iv i] ∧ i ≤ 4 ∧ PH.le H4 H', fun vals _ => (4 - intOf (vals.getD 1 undef)).toNat, ⟨0, rfl, by omega, PH.le.refl _⟩, ?_⟩)⟩
    rintro vals H5 - ⟨j, rfl, hj, l5⟩
    simp only [List.cons_append, List.nil_append]
    refine den_rq ⟨_, rfl⟩ (den_rq ⟨_, rfl⟩ (den_br (b := decide ((j : Int) < 4)) rfl (fun hb => ?_) (fun hb => ?_)))
    · have hb : j < 4 := by have := of_decide_eq_true hb; omega
      have e1 : IntKind.i64.wrap ((j : Int) + 1) = ((j + 1 : Nat) : Int) := wadd1 (by omega)
      refine den_pat (k := .i64) (j := j) op_WideParts_13_0 op_WideParts_13_1 rfl rfl (fun _ => rfl) (hp5.mono l5) hb rfl (fun _ => rfl) fun p a b => ?_
      simp only [List.cons_append, List.nil_append]
      obtain ⟨n1, k1, t1⟩ := told_int (Nat.gcd (toI a).natAbs (toI b).natAbs : Nat)
      have d1 : Det Try.prog 16 [wd a, wd b] (.tuple #[wd n1, .int .i64 k1]) := by rw [← t1]; exact det_Gcd a b
      refine den_rq (pair_rq a b) (den_det d1 (arg_2 a b) (den_rq ⟨_, rfl, s20⟩ (den_rq ⟨_, rfl, s21⟩ (den_rq ⟨words_size n1, words_one n1⟩ (den_call (con_rGcd a b) (arg_2 a b) ?_)))))
      rintro v1 H6 ⟨l6, rfl⟩
      rw [t1]
      simp only [List.cons_append, List.nil_append]
      refine ⟨fun h => (nomatch h), den_rq ⟨_, rfl, s20⟩ (den_rq ⟨_, rfl, s21⟩ (den_rq ⟨words_size n1, words_one n1⟩ ?_))⟩
      refine den_prim ((ne_self (n := n1) op_WideParts_16_2 rfl rfl).rds _) rfl (den_rq ⟨_, rfl⟩ (den_false rfl (den_rq ⟨k1, rfl⟩ (den_rq ⟨k1, rfl⟩ (den_false (bne_self k1) ⟨⟨j + 1, ?_, by omega, l5.trans l6⟩, ?_⟩)))))
      · simp only [rxs, iv, e1]
      · simp only [rxs, iv, e1]
        omega
    · exact den_ret rfl ⟨rfl, lall.trans (l4.trans l5)⟩
end Go.Proofs.YtmndieeelnicpaaRR
namespace Go.Proofs.YtmndieeelnicpaaRR
open Go.RowKit Go.RX Go.WD

def kmI (n : Int) (j : Nat) : Int := if j = 0 then n else IntKind.i64.wrap ((IntKind.u64.wrap n).tmod 20)
theorem pow_arg {ρ : List Value} {n : Int} {j : Nat} (h1 : ρ.getD 1 undef = .int .i64 n) (h11 : ρ.getD 11 undef = iv j) (hj : j < 2) :
    D Try.prog ρ (.cell (.put (.put (.z 42) 0 1 (.v 1) 0 noI) 1 1 (.cv .i64 (.op2 .rem .u64 (.cv .u64 (.v 1)) (.k (.int .u64 (20))))) 0 noI) 0 1 (.v 11)) = .int .i64 (kmI n j) := by
  have hz2 : zeroV Try.prog 42 = .agg #[.int .i64 0, .int .i64 0] := by kernel_rfl
  simp only [D, h1, h11, hz2]
  match j, hj with
  | 0, _ => rfl
  | 1, _ => rfl
theorem powV_form (x n : Int) : ∃ (m : Nat) (e : Int), powV x n = .tuple #[wd m, .int .i64 e] := by
  unfold powV; split
  · exact ⟨0, 2, rfl⟩
  · exact told_int _
theorem rootV_form (x : Int) (s : Nat) : ∃ (m : Nat) (e : Int), rootV x s = .tuple #[wd m, .int .i64 e] := by
  unfold rootV; split
  · exact ⟨0, 2, rfl⟩
  · exact ⟨s, 0, rfl⟩
theorem root_both (a : Nat) : ∃ s, Det Try.prog 20 [wd a] (rootV (toI a) s) ∧ ∀ H, Con Try.prog 21 [wd a] H fun u H' => PH.le H H' ∧ u = rootV (toI a) s := by
  by_cases h : toI a < 0
  · refine ⟨0, ?_, fun H => con_rRoot a 0 (fun h' => by omega) (fun h' => by omega)⟩
    have := det_Root_neg a h
    unfold rootV; rw [if_pos h]; exact this
  · obtain ⟨s, h1, h2⟩ := isq_exists (toI a).toNat
    have h1 : (s : Int) * s ≤ toI a := by
      have : ((s * s : Nat) : Int) ≤ toI a := by omega
      rwa [Int.natCast_mul] at this
    have h2 : toI a < ((s : Int) + 1) * ((s : Int) + 1) := by
      have : toI a < (((s + 1) * (s + 1) : Nat) : Int) := by omega
      rwa [Int.natCast_mul] at this
    refine ⟨s, ?_, fun H => con_rRoot a s (fun _ => h1) (fun _ => h2)⟩
    have := det_Root a s (by omega) h1 h2
    unfold rootV; rw [if_neg h]; exact this

set_option maxRecDepth 100000 in
set_option maxHeartbeats 1000000 in
theorem con_widePowers {H : PH} {v : Value} (h : Tw H v) (n : Int) (_ : -9223372036854775808 ≤ n) (_ : n < 9223372036854775808) : Con Try.prog 4 [v, .int .i64 n] H fun u H' => u = .bool true ∧ PH.le H H' := by
  have hrq := h.rq
  have h' := h
  obtain ⟨a0, b0, dx, dy, rfl, _, _⟩ := h
  refine con_of_tree mixed tr_WidePowers np_WidePowers rfl (den_rq hrq (den_call (con_works H) rfl ?_))
  rintro u H1 ⟨rfl, l1⟩
  refine ⟨fun h => (nomatch h), den_rq ⟨_, rfl⟩ (den_false rfl (den_call (con_pairs (h'.mono l1)) rfl ?_))⟩
  rintro u2 H2 ⟨l2, hp⟩
  refine ⟨fun h => (nomatch h), den_plen op_WidePowers_3_2 rfl hp rfl ⟨fun vals H' => ∃ i : Nat, vals = [.bool false, iv i, .agg (words a0 ++ words b0 ++ dx ++ dy)] ∧ i ≤ 6 ∧ PH.le H2 H', fun vals _ => (6 - intOf (vals.getD 1 undef)).toNat, ⟨0, rfl, by omega, PH.le.refl _⟩, ?_⟩⟩
  rintro vals H3 - ⟨i, rfl, hi, l3⟩
  simp only [List.cons_append, List.nil_append]
  have lall := l1.trans (l2.trans l3)
  refine den_rq ⟨_, rfl⟩ (den_rq ⟨_, rfl⟩ (den_br (b := decide ((i : Int) < 6)) rfl (fun hb => ?_) (fun hb => ?_)))
  · have hb : i < 6 := by have := of_decide_eq_true hb; omega
    have e1 : IntKind.i64.wrap ((i : Int) + 1) = ((i + 1 : Nat) : Int) := wadd1 (by omega)
    refine den_pat (k := .i64) (j := i) op_WidePowers_5_0 op_WidePowers_5_1 rfl rfl (fun _ => rfl) (hp.mono l3) hb rfl (fun _ => rfl) fun p a b => ?_
    simp only [List.cons_append, List.nil_append]
    refine den_rq (pair_rq a b) (den_rq ⟨_, rfl⟩ (den_rq ⟨rfl, one_int _ _⟩ ⟨fun vals H' => ∃ j : Nat, vals = [.bool false, iv j] ∧ j ≤ 2 ∧ PH.le H3 H', fun vals _ => (2 - intOf (vals.getD 1 undef)).toNat, ⟨0, rfl, by omega, PH.le.refl _⟩, ?_⟩))
    rintro vals H4 - ⟨j, rfl, hj, l4⟩
    simp only [List.cons_append, List.nil_append]
    refine den_rq ⟨_, rfl⟩ (den_br (b := decide ((j : Int) < 2)) rfl (fun hb => ?_) (fun hb => ?_))
    · have hb : j < 2 := by have := of_decide_eq_true hb; omega
      have e2 : IntKind.i64.wrap ((j : Int) + 1) = ((j + 1 : Nat) : Int) := wadd1 (by omega)
      obtain ⟨n1, k1, t1⟩ := powV_form (toI a) (kmI n j)
      have d1 : Det Try.prog 18 [wd a, .int .i64 (kmI n j)] (.tuple #[wd n1, .int .i64 k1]) := by rw [← t1]; exact det_Pow a _
      have arg : ∀ x : Value, x = .int .i64 (kmI n j) → [Value.agg ((words a ++ words b).extract 0 8), x] = [wd a, .int .i64 (kmI n j)] := fun x hx => by rw [hx, ext0]; rfl
      refine den_rq ⟨_, _, rfl⟩ (den_rq ?_ (den_det d1 (arg _ (pow_arg rfl rfl hb)) (den_rq ⟨_, rfl, s20⟩ (den_rq ⟨_, rfl, s21⟩ (den_rq ⟨words_size n1, words_one n1⟩ (den_call (con_rPow a _) (arg _ (pow_arg rfl rfl hb)) ?_))))))
      · show (0 : Int) ≤ (j : Int) ∧ (j : Int) < 2
        omega
      rintro v1 H5 ⟨l5, rfl⟩
      rw [t1]
      simp only [List.cons_append, List.nil_append]
      refine ⟨fun h => (nomatch h), den_rq ⟨_, rfl, s20⟩ (den_rq ⟨_, rfl, s21⟩ (den_rq ⟨words_size n1, words_one n1⟩ ?_))⟩
      refine den_prim ((ne_self (n := n1) op_WidePowers_11_2 rfl rfl).rds _) rfl (den_rq ⟨_, rfl⟩ (den_false rfl (den_rq ⟨k1, rfl⟩ (den_rq ⟨k1, rfl⟩ (den_false (bne_self k1) ⟨⟨j + 1, ?_, by omega, l4.trans l5⟩, ?_⟩)))))
      · simp only [rxs, iv, e2]
      · simp only [rxs, iv, e2]
        omega
    · obtain ⟨s, dr, cr⟩ := root_both a
      obtain ⟨n1, k1, t1⟩ := rootV_form (toI a) s
      rw [t1] at dr
      refine den_det dr (arg_1 a b) (den_rq ⟨_, rfl, s20⟩ (den_rq ⟨_, rfl, s21⟩ (den_rq ⟨words_size n1, words_one n1⟩ (den_call (cr H4) (arg_1 a b) ?_))))
      rintro v1 H5 ⟨l5, rfl⟩
      rw [t1]
      simp only [List.cons_append, List.nil_append]
      refine ⟨fun h => (nomatch h), den_rq ⟨_, rfl, s20⟩ (den_rq ⟨_, rfl, s21⟩ (den_rq ⟨words_size n1, words_one n1⟩ ?_))⟩
      refine den_prim ((ne_self (n := n1) op_WidePowers_16_2 rfl rfl).rds _) rfl (den_rq ⟨_, rfl⟩ (den_false rfl (den_rq ⟨k1, rfl⟩ (den_rq ⟨k1, rfl⟩ (den_false (bne_self k1) ⟨⟨i + 1, ?_, by omega, l3.trans (l4.trans l5)⟩, ?_⟩)))))
      · simp only [rxs, iv, e1]
      · simp only [rxs, iv, e1]
        omega
  · exact den_ret rfl ⟨rfl, lall⟩
end Go.Proofs.YtmndieeelnicpaaRR
namespace Go.Proofs.YtmndieeelnicpaaRR
open Go.RowKit Go.RX Go.WD

theorem info_pair2 : ∃ i z, Try.prog.info? 34 = some i ∧ i.zero = some z ∧ i.size = 16 ∧ z.cells.size = 16 ∧ i.bytes = 128 := by
  refine ⟨(Try.prog.info? 34).getD default, (((Try.prog.info? 34).getD default).zero).getD default, by kernel_rfl, by kernel_rfl, by kernel_rfl, by kernel_rfl, by kernel_rfl⟩
theorem words_one' (a : Nat) : ∀ c ∈ (words a).toList, c.oneCell' = true := fun c hc => by
  simp only [words, wf, List.mem_cons, List.not_mem_nil, or_false] at hc
  rcases hc with h | h | h | h | h | h | h | h <;> (subst h; rfl)
section
variable {G : Value → PH → Prop} {nx : List (List Value → PH → Prop)} {ρ : List Value} {H H0 : PH} {o o1 o2 : Oper} {x y x2 y2 : Operand} {id i id2 i2 : Nat} {args args2 : List SV} {t : Tree} {v : Value}
/-- A pair is appended. -/
theorem den_ppush {pb : Bool} {p q n : Nat} (ho1 : o1.op = .buildSlice 32 1 #[(0, x)]) (ho2 : o2.op = .call ⟨.builtin .append, #[x2, y2], #[32, 32]⟩) (hx : argEv [x] [pv (p, q)] x = pv (p, q)) (hx2 : ∀ u, argEv [x2, y2] [v, u] x2 = v) (hy2 : ∀ u, argEv [x2, y2] [v, u] y2 = u)
    (hle : PH.le H0 H) (h : PrO H0 H v n) (hn : n ≤ 1000000) (ha : args.map (D Try.prog ρ) = [pv (p, q)]) (ha2 : ∀ u, args2.map (D Try.prog (ρ ++ [u])) = [v, u]) (k : ∀ u v' H', PH.le H0 H' → PrO H0 H' v' (n + 1) → den Try.prog G t nx (ρ ++ [u] ++ [v']) H') :
    den Try.prog G (.eff pb id i o1 args (.eff false id2 i2 o2 args2 t)) nx ρ H := by
  obtain ⟨ti, tz, i1, i2, i3, i4, i5⟩ := info_pair2
  refine den_eff (vs := [pv (p, q)]) (sl_build (cells := (pf (p, q)).toArray) ho1 (e := 34) (by kernel_rfl) i1 i2 (by rw [i3]; decide) (by rw [i3]; decide) ?_) ha ?_
  · rw [i3]
    have := Go.Great.fill_whole (s := 16) (by omega) ([(p, q)].map pv) (Array.map (fun x => tz.cells[x % tz.cells.size]!) (Array.range (1 * 16))) (fun v hv => by
      obtain ⟨p, _, rfl⟩ := List.mem_map.1 hv
      show (words p.1 ++ words p.2).size = 16
      rw [Array.size_append, words_size, words_size]) (by simp)
    rw [pv_flat] at this
    simp only [List.flatMap_cons, List.flatMap_nil, List.append_nil] at this
    simp only [List.map_cons, List.map_nil, hx]
    exact this
  rintro u H1 ⟨g, hg, rfl, rfl⟩
  have l1 := PH.le_put (H := H) hg (.cells (pf (p, q)).toArray 34 (0, 0))
  refine ⟨fun _ => l1, ?_⟩
  obtain ⟨xs, h1, h2⟩ := h.mono l1
  have hs : Sl (H.put g (.cells (pf (p, q)).toArray 34 (0, 0))) 16 (.slice (some ⟨g, 0, none⟩) 1 1) 1 (pf (p, q)) := ⟨rfl, _, 1, rfl, by omega, by simp [maxLen], .inr ⟨g, 0, _, _, _, rfl, PH.put_self _ _ _, rfl⟩⟩
  refine den_eff (own_append ho2 (hx2 _) (hy2 _) (by kernel_rfl) i1 i2 i3 i4 (hle.trans l1) h1 hs (by omega) (fun c hc => ?_) (by simp only [maxLen]; omega) (by rw [i5]; omega)) (ha2 _) ?_
  · rcases List.mem_append.1 hc with hc | hc
    · exact words_one' p c hc
    · exact words_one' q c hc
  rintro v' H2 ⟨h3, h4, _⟩
  refine ⟨fun h => (nomatch h), k _ _ _ h3 ⟨_, h4, fun j hj => ?_⟩⟩
  have hxl : xs.length = n * 16 := h1.1
  rcases Nat.lt_or_ge j n with hj2 | hj2
  · obtain ⟨a, b, hab⟩ := h2 j hj2
    refine ⟨a, b, ?_⟩
    rw [← hab, List.drop_append_of_le_length (by omega), List.take_append_of_le_length (by rw [List.length_drop]; omega)]
  · obtain rfl : j = n := by omega
    exact ⟨p, q, by rw [← hxl, List.drop_left]; rfl⟩
end
theorem told64_form (z : Int) : ∃ n e : Int, told64 z = .tuple #[.int .i64 n, .int .i64 e] := by
  unfold told64; split
  · exact ⟨_, _, rfl⟩
  · exact ⟨_, _, rfl⟩
theorem wrap64 (z : Int) : -9223372036854775808 ≤ IntKind.i64.wrap z ∧ IntKind.i64.wrap z < 9223372036854775808 := by rw [IntKind.wrap_i64]; omega

set_option maxRecDepth 100000 in
set_option maxHeartbeats 1000000 in
theorem con_wideTells {H : PH} {v : Value} (h : Tw H v) (n : Int) (n0 : -9223372036854775808 ≤ n) (n1 : n < 9223372036854775808) : Con Try.prog 9 [v, .int .i64 n] H fun u H' => u = .bool true ∧ PH.le H H' := by
  have hrq := h.rq
  have h' := h
  obtain ⟨a0, b0, dx, dy, rfl, _, _⟩ := h
  refine con_of_tree mixed tr_WideTells np_WideTells rfl (den_rq hrq (den_call (con_works H) rfl ?_))
  rintro u H1 ⟨rfl, l1⟩
  refine ⟨fun h => (nomatch h), den_rq ⟨_, rfl⟩ (den_false rfl (den_det (det_Of n n0 n1) rfl (den_rq ⟨words_size _, words_one _⟩ (den_call (con_rOf n n0 n1) rfl ?_))))⟩
  rintro u2 H2 ⟨l2, rfl⟩
  simp only [List.cons_append, List.nil_append]
  refine ⟨fun _ => l2, den_prim ((ne_self (n := rs n) op_WideTells_4_3 rfl rfl).rds _) rfl (den_rq ⟨_, rfl⟩ (den_false rfl (den_rq ⟨_, rfl⟩ (den_call (con_pairsO (h'.mono (l1.trans l2))) rfl ?_))))⟩
  rintro u3 H3 ⟨l3, hp⟩
  obtain ⟨w0, w1⟩ := wrap64 (0 - n)
  refine ⟨fun _ => l3, den_call (con_rOf _ w0 w1) rfl ?_⟩
  rintro u4 H4 ⟨l4, rfl⟩
  simp only [List.cons_append, List.nil_append]
  refine ⟨fun _ => l4, den_rq ⟨words_size _, words_one _⟩ (den_ppush (p := rs n) (q := rs (IntKind.i64.wrap (0 - n))) op_WideTells_6_7 op_WideTells_6_8 rfl (fun _ => rfl) (fun _ => rfl) (l3.trans l4) (hp.mono l4) (by omega) ?_ (fun _ => rfl) fun u5 v6 H5 l5 hp5 => ?_)⟩
  · simp only [List.map_cons, List.map_nil]
    rw [put_pair (p := rs n) (q := rs (IntKind.i64.wrap (0 - n))) rfl rfl]
  simp only [List.cons_append, List.nil_append]
  have hp6 := hp5.pr
  have lall := l1.trans (l2.trans l5)
  refine den_plen op_WideTells_6_9 rfl hp6 rfl ⟨fun vals H' => ∃ i : Nat, vals = [.bool false, iv i] ∧ i ≤ 7 ∧ PH.le H5 H', fun vals _ => (7 - intOf (vals.getD 1 undef)).toNat, ⟨0, rfl, by omega, PH.le.refl _⟩, ?_⟩
  rintro vals H6 - ⟨i, rfl, hi, l6⟩
  simp only [List.cons_append, List.nil_append]
  refine den_rq ⟨_, rfl⟩ (den_rq ⟨_, rfl⟩ (den_br (b := decide ((i : Int) < 7)) rfl (fun hb => ?_) (fun hb => ?_)))
  · have hb : i < 7 := by have := of_decide_eq_true hb; omega
    have e1 : IntKind.i64.wrap ((i : Int) + 1) = ((i + 1 : Nat) : Int) := wadd1 (by omega)
    refine den_pat (k := .i64) (j := i) op_WideTells_8_0 op_WideTells_8_1 rfl rfl (fun _ => rfl) (hp6.mono l6) hb rfl (fun _ => rfl) fun p a b => ?_
    simp only [List.cons_append, List.nil_append]
    obtain ⟨k1, k2, t1⟩ := told64_form (toI a)
    have d1 := det_Int a
    rw [t1] at d1
    refine den_rq (pair_rq a b) (den_det d1 (arg_1 a b) (den_rq ⟨_, rfl, Nat.zero_lt_succ _⟩ (den_rq ⟨_, rfl, Nat.lt_succ_self _⟩ (den_call (con_rInt a) (arg_1 a b) ?_))))
    rintro v1 H7 ⟨l7, rfl⟩
    rw [t1]
    simp only [List.cons_append, List.nil_append]
    refine ⟨fun h => (nomatch h), den_rq ⟨_, rfl, Nat.zero_lt_succ _⟩ (den_rq ⟨_, rfl, Nat.lt_succ_self _⟩ (den_rq ⟨k1, rfl⟩ (den_rq ⟨k1, rfl⟩ (den_false (bne_self k1) (den_rq ⟨k2, rfl⟩ (den_rq ⟨k2, rfl⟩ (den_false (bne_self k2) (den_det (det_Sign a) (arg_1 a b) (den_call (con_rSign a) (arg_1 a b) ?_)))))))))⟩
    rintro v2 H8 ⟨l8, rfl⟩
    simp only [List.cons_append, List.nil_append]
    refine ⟨fun _ => l8, den_rq ⟨_, rfl⟩ (den_rq ⟨_, rfl⟩ (den_false (bne_self _) (den_det (det_Cmp a b) (arg_2 a b) (den_call (con_rCmp a b) (arg_2 a b) ?_))))⟩
    rintro v3 H9 ⟨l9, rfl⟩
    simp only [List.cons_append, List.nil_append]
    refine ⟨fun _ => l9, den_rq ⟨_, rfl⟩ (den_rq ⟨_, rfl⟩ (den_false (bne_self _) ⟨⟨i + 1, ?_, by omega, l6.trans (l7.trans (l8.trans l9))⟩, ?_⟩))⟩
    · simp only [rxs, iv, e1]
    · simp only [rxs, iv, e1]
      omega
  · exact den_ret rfl ⟨rfl, lall.trans l6⟩
end Go.Proofs.YtmndieeelnicpaaRR

/- The law WideParts of chapter 01: the walk. -/
import Derived.Test.YtmndieeelnicpaaRRLpA
namespace Go.Proofs.YtmndieeelnicpaaRR
open Go.RowKit Go.RX Go.WD

theorem divV_form (x y : Int) : ∃ (n m : Nat) (e : Int), divV x y = .tuple #[wd n, wd m, .int .i64 e] := by
  unfold divV; split
  · exact ⟨0, 0, 7, rfl⟩
  · split
    · exact ⟨rs (x / y), rs (x % y), 0, rfl⟩
    · exact ⟨0, 0, 6, rfl⟩
theorem Pr.drop {H : PH} {v : Value} {n i : Nat} {o : Oper} {x lo : Operand} {k : IntKind} {vs : List Value} (h : Pr H v n) (ho : o.op = .slice 32 x (some lo) none none) (hx : argEv [x, lo] vs x = v) (hl : argEv [x, lo] vs lo = .int k (i : Nat)) (h1 : i ≤ n) : ∃ u, Yld Try.prog o vs u ∧ Pr H u (n - i) := by
  obtain ⟨xs, hs, hp⟩ := h
  obtain ⟨u, h2, h3⟩ := sl_drop (P := Try.prog) (e := 34) (sz := 16) ho hx hl (by kernel_rfl) (by kernel_rfl) (by kernel_rfl) hs h1
  refine ⟨u, h2, _, h3, fun j hj => ?_⟩
  obtain ⟨a, b, hab⟩ := hp (i + j) (by omega)
  refine ⟨a, b, ?_⟩
  rw [List.drop_drop, ← Nat.add_mul, hab]
theorem bne_self (k : Int) : Value.bool (k != k) = .bool false := by rw [bne_self_eq_false]
theorem arg_1 (a b : Nat) : [Value.agg ((words a ++ words b).extract 0 8)] = [wd a] := by rw [ext0]; rfl
theorem arg_2 (a b : Nat) : [Value.agg ((words a ++ words b).extract 0 8), Value.agg ((words a ++ words b).extract 8 16)] = [wd a, wd b] := by rw [ext0, pair_ext]; rfl

set_option maxRecDepth 100000 in
set_option maxHeartbeats 1000000 in
theorem con_wideParts {H : PH} {v : Value} (h : Tw H v) : Con Try.prog 3 [v] H fun u H' => u = .bool true ∧ PH.le H H' := by
  have hrq := h.rq
  have h' := h
  obtain ⟨a0, b0, dx, dy, rfl, _, _⟩ := h
  refine con_of_tree mixed tr_WideParts np_WideParts rfl (den_rq hrq (den_call (con_works H) rfl ?_))
  rintro u H1 ⟨rfl, l1⟩
  refine ⟨fun h => (nomatch h), den_rq ⟨_, rfl⟩ (den_false rfl (den_call (con_pairs (h'.mono l1)) rfl ?_))⟩
  rintro u2 H2 ⟨l2, hp⟩
  refine ⟨fun h => (nomatch h), den_plen op_WideParts_3_2 rfl hp rfl ⟨fun vals H' => ∃ i : Nat, vals = [.bool false, iv i] ∧ i ≤ 6 ∧ PH.le H2 H', fun vals _ => (6 - intOf (vals.getD 1 undef)).toNat, ⟨0, rfl, by omega, PH.le.refl _⟩, ?_⟩⟩
  rintro vals H3 - ⟨i, rfl, hi, l3⟩
  simp only [List.cons_append, List.nil_append]
  have lall := l1.trans (l2.trans l3)
  refine den_rq ⟨_, rfl⟩ (den_rq ⟨_, rfl⟩ (den_br (b := decide ((i : Int) < 6)) rfl (fun hb => ?_) (fun hb => ?_)))
  · have hb : i < 6 := by have := of_decide_eq_true hb; omega
    have e1 : IntKind.i64.wrap ((i : Int) + 1) = ((i + 1 : Nat) : Int) := wadd1 (by omega)
    refine den_pat (k := .i64) (j := i) op_WideParts_5_0 op_WideParts_5_1 rfl rfl (fun _ => rfl) (hp.mono l3) hb rfl (fun _ => rfl) fun p a b => ?_
    simp only [List.cons_append, List.nil_append]
    obtain ⟨n1, n2, k1, t1⟩ := divV_form (toI a) (toI b)
    have d1 : Det Try.prog 14 [wd a, wd b] (.tuple #[wd n1, wd n2, .int .i64 k1]) := by rw [← t1]; exact det_Div a b
    refine den_rq (pair_rq a b) (den_det d1 (arg_2 a b) (den_rq ⟨_, rfl, s30⟩ (den_rq ⟨_, rfl, s31⟩ (den_rq ⟨_, rfl, s32⟩ (den_rq ⟨words_size n1, words_one n1⟩ (den_rq ⟨words_size n2, words_one n2⟩ (den_call (con_rDiv a b) (arg_2 a b) ?_)))))))
    rintro v1 H4 ⟨l4, rfl⟩
    rw [t1]
    simp only [List.cons_append, List.nil_append]
    refine ⟨fun h => (nomatch h), den_rq ⟨_, rfl, s30⟩ (den_rq ⟨_, rfl, s31⟩ (den_rq ⟨_, rfl, s32⟩ (den_rq ⟨words_size n1, words_one n1⟩ (den_rq ⟨words_size n2, words_one n2⟩ ?_))))⟩
    refine den_prim ((ne_self (n := n1) op_WideParts_8_2 rfl rfl).rds _) rfl (den_rq ⟨_, rfl⟩ (den_false rfl (den_prim ((ne_self (n := n2) op_WideParts_8_6 rfl rfl).rds _) rfl (den_rq ⟨_, rfl⟩ (den_false rfl (den_rq ⟨k1, rfl⟩ (den_rq ⟨k1, rfl⟩ (den_false (bne_self k1) ⟨⟨i + 1, ?_, by omega, l3.trans l4⟩, ?_⟩))))))))
    · simp only [rxs, iv, e1]
    · simp only [rxs, iv, e1]
      omega
  · refine den_call (con_pairs (h'.mono lall)) rfl ?_
    rintro u4 H4 ⟨l4, hp4⟩
    obtain ⟨u5, y5, hp5⟩ := hp4.drop (i := 2) (k := .i64) (vs := [u4, .int .i64 2]) op_WideParts_11_2 rfl rfl (by omega)
    simp only [List.cons_append, List.nil_append]
    refine ⟨fun h => (nomatch h), den_prim (y5.rds _) rfl (den_plen op_WideParts_11_3 rfl hp5 rfl ⟨fun vals H' => ∃ i : Nat, vals = [.bool false, iv i] ∧ i ≤ 4 ∧ PH.le H4 H', fun vals _ => (4 - intOf (vals.getD 1 undef)).toNat, ⟨0, rfl, by omega, PH.le.refl _⟩, ?_⟩)⟩
    rintro vals H5 - ⟨j, rfl, hj, l5⟩
    simp only [List.cons_append, List.nil_append]
    refine den_rq ⟨_, rfl⟩ (den_rq ⟨_, rfl⟩ (den_br (b := decide ((j : Int) < 4)) rfl (fun hb => ?_) (fun hb => ?_)))
    · have hb : j < 4 := by have := of_decide_eq_true hb; omega
      have e1 : IntKind.i64.wrap ((j : Int) + 1) = ((j + 1 : Nat) : Int) := wadd1 (by omega)
      refine den_pat (k := .i64) (j := j) op_WideParts_13_0 op_WideParts_13_1 rfl rfl (fun _ => rfl) (hp5.mono l5) hb rfl (fun _ => rfl) fun p a b => ?_
      simp only [List.cons_append, List.nil_append]
      obtain ⟨n1, k1, t1⟩ := told_int (Nat.gcd (toI a).natAbs (toI b).natAbs : Nat)
      have d1 : Det Try.prog 16 [wd a, wd b] (.tuple #[wd n1, .int .i64 k1]) := by rw [← t1]; exact det_Gcd a b
      refine den_rq (pair_rq a b) (den_det d1 (arg_2 a b) (den_rq ⟨_, rfl, s20⟩ (den_rq ⟨_, rfl, s21⟩ (den_rq ⟨words_size n1, words_one n1⟩ (den_call (con_rGcd a b) (arg_2 a b) ?_)))))
      rintro v1 H6 ⟨l6, rfl⟩
      rw [t1]
      simp only [List.cons_append, List.nil_append]
      refine ⟨fun h => (nomatch h), den_rq ⟨_, rfl, s20⟩ (den_rq ⟨_, rfl, s21⟩ (den_rq ⟨words_size n1, words_one n1⟩ ?_))⟩
      refine den_prim ((ne_self (n := n1) op_WideParts_16_2 rfl rfl).rds _) rfl (den_rq ⟨_, rfl⟩ (den_false rfl (den_rq ⟨k1, rfl⟩ (den_rq ⟨k1, rfl⟩ (den_false (bne_self k1) ⟨⟨j + 1, ?_, by omega, l5.trans l6⟩, ?_⟩)))))
      · simp only [rxs, iv, e1]
      · simp only [rxs, iv, e1]
        omega
    · exact den_ret rfl ⟨rfl, lall.trans (l4.trans l5)⟩
end Go.Proofs.YtmndieeelnicpaaRR

/- The law WidePowers of chapter 01: the walk. -/
import Derived.Test.YtmndieeelnicpaaRRLpB
import Derived.Test.YtmndieeelnicpaaRRRfM
namespace Go.Proofs.YtmndieeelnicpaaRR
open Go.RowKit Go.RX Go.WD

def kmI (n : Int) (j : Nat) : Int := if j = 0 then n else IntKind.i64.wrap ((IntKind.u64.wrap n).tmod 20)
theorem pow_arg {ρ : List Value} {n : Int} {j : Nat} (h1 : ρ.getD 1 undef = .int .i64 n) (h11 : ρ.getD 11 undef = iv j) (hj : j < 2) :
    D Try.prog ρ (.cell (.put (.put (.z 42) 0 1 (.v 1) 0 noI) 1 1 (.cv .i64 (.op2 .rem .u64 (.cv .u64 (.v 1)) (.k (.int .u64 (20))))) 0 noI) 0 1 (.v 11)) = .int .i64 (kmI n j) := by
  have hz2 : zeroV Try.prog 42 = .agg #[.int .i64 0, .int .i64 0] := by kernel_rfl
  simp only [D, h1, h11, hz2]
  match j, hj with
  | 0, _ => rfl
  | 1, _ => rfl
theorem powV_form (x n : Int) : ∃ (m : Nat) (e : Int), powV x n = .tuple #[wd m, .int .i64 e] := by
  unfold powV; split
  · exact ⟨0, 2, rfl⟩
  · exact told_int _
theorem rootV_form (x : Int) (s : Nat) : ∃ (m : Nat) (e : Int), rootV x s = .tuple #[wd m, .int .i64 e] := by
  unfold rootV; split
  · exact ⟨0, 2, rfl⟩
  · exact ⟨s, 0, rfl⟩
theorem root_both (a : Nat) : ∃ s, Det Try.prog 20 [wd a] (rootV (toI a) s) ∧ ∀ H, Con Try.prog 21 [wd a] H fun u H' => PH.le H H' ∧ u = rootV (toI a) s := by
  by_cases h : toI a < 0
  · refine ⟨0, ?_, fun H => con_rRoot a 0 (fun h' => by omega) (fun h' => by omega)⟩
    have := det_Root_neg a h
    unfold rootV; rw [if_pos h]; exact this
  · obtain ⟨s, h1, h2⟩ := isq_exists (toI a).toNat
    have h1 : (s : Int) * s ≤ toI a := by
      have : ((s * s : Nat) : Int) ≤ toI a := by omega
      rwa [Int.natCast_mul] at this
    have h2 : toI a < ((s : Int) + 1) * ((s : Int) + 1) := by
      have : toI a < (((s + 1) * (s + 1) : Nat) : Int) := by omega
      rwa [Int.natCast_mul] at this
    refine ⟨s, ?_, fun H => con_rRoot a s (fun _ => h1) (fun _ => h2)⟩
    have := det_Root a s (by omega) h1 h2
    unfold rootV; rw [if_neg h]; exact this

set_option maxRecDepth 100000 in
set_option maxHeartbeats 1000000 in
theorem con_widePowers {H : PH} {v : Value} (h : Tw H v) (n : Int) (_ : -9223372036854775808 ≤ n) (_ : n < 9223372036854775808) : Con Try.prog 4 [v, .int .i64 n] H fun u H' => u = .bool true ∧ PH.le H H' := by
  have hrq := h.rq
  have h' := h
  obtain ⟨a0, b0, dx, dy, rfl, _, _⟩ := h
  refine con_of_tree mixed tr_WidePowers np_WidePowers rfl (den_rq hrq (den_call (con_works H) rfl ?_))
  rintro u H1 ⟨rfl, l1⟩
  refine ⟨fun h => (nomatch h), den_rq ⟨_, rfl⟩ (den_false rfl (den_call (con_pairs (h'.mono l1)) rfl ?_))⟩
  rintro u2 H2 ⟨l2, hp⟩
  refine ⟨fun h => (nomatch h), den_plen op_WidePowers_3_2 rfl hp rfl ⟨fun vals H' => ∃ i : Nat, vals = [.bool false, iv i, .agg (words a0 ++ words b0 ++ dx ++ dy)] ∧ i ≤ 6 ∧ PH.le H2 H', fun vals _ => (6 - intOf (vals.getD 1 undef)).toNat, ⟨0, rfl, by omega, PH.le.refl _⟩, ?_⟩⟩
  rintro vals H3 - ⟨i, rfl, hi, l3⟩
  simp only [List.cons_append, List.nil_append]
  have lall := l1.trans (l2.trans l3)
  refine den_rq ⟨_, rfl⟩ (den_rq ⟨_, rfl⟩ (den_br (b := decide ((i : Int) < 6)) rfl (fun hb => ?_) (fun hb => ?_)))
  · have hb : i < 6 := by have := of_decide_eq_true hb; omega
    have e1 : IntKind.i64.wrap ((i : Int) + 1) = ((i + 1 : Nat) : Int) := wadd1 (by omega)
    refine den_pat (k := .i64) (j := i) op_WidePowers_5_0 op_WidePowers_5_1 rfl rfl (fun _ => rfl) (hp.mono l3) hb rfl (fun _ => rfl) fun p a b => ?_
    simp only [List.cons_append, List.nil_append]
    refine den_rq (pair_rq a b) (den_rq ⟨_, rfl⟩ (den_rq ⟨rfl, one_int _ _⟩ ⟨fun vals H' => ∃ j : Nat, vals = [.bool false, iv j] ∧ j ≤ 2 ∧ PH.le H3 H', fun vals _ => (2 - intOf (vals.getD 1 undef)).toNat, ⟨0, rfl, by omega, PH.le.refl _⟩, ?_⟩))
    rintro vals H4 - ⟨j, rfl, hj, l4⟩
    simp only [List.cons_append, List.nil_append]
    refine den_rq ⟨_, rfl⟩ (den_br (b := decide ((j : Int) < 2)) rfl (fun hb => ?_) (fun hb => ?_))
    · have hb : j < 2 := by have := of_decide_eq_true hb; omega
      have e2 : IntKind.i64.wrap ((j : Int) + 1) = ((j + 1 : Nat) : Int) := wadd1 (by omega)
      obtain ⟨n1, k1, t1⟩ := powV_form (toI a) (kmI n j)
      have d1 : Det Try.prog 18 [wd a, .int .i64 (kmI n j)] (.tuple #[wd n1, .int .i64 k1]) := by rw [← t1]; exact det_Pow a _
      have arg : ∀ x : Value, x = .int .i64 (kmI n j) → [Value.agg ((words a ++ words b).extract 0 8), x] = [wd a, .int .i64 (kmI n j)] := fun x hx => by rw [hx, ext0]; rfl
      refine den_rq ⟨_, _, rfl⟩ (den_rq ?_ (den_det d1 (arg _ (pow_arg rfl rfl hb)) (den_rq ⟨_, rfl, s20⟩ (den_rq ⟨_, rfl, s21⟩ (den_rq ⟨words_size n1, words_one n1⟩ (den_call (con_rPow a _) (arg _ (pow_arg rfl rfl hb)) ?_))))))
      · show (0 : Int) ≤ (j : Int) ∧ (j : Int) < 2
        omega
      rintro v1 H5 ⟨l5, rfl⟩
      rw [t1]
      simp only [List.cons_append, List.nil_append]
      refine ⟨fun h => (nomatch h), den_rq ⟨_, rfl, s20⟩ (den_rq ⟨_, rfl, s21⟩ (den_rq ⟨words_size n1, words_one n1⟩ ?_))⟩
      refine den_prim ((ne_self (n := n1) op_WidePowers_11_2 rfl rfl).rds _) rfl (den_rq ⟨_, rfl⟩ (den_false rfl (den_rq ⟨k1, rfl⟩ (den_rq ⟨k1, rfl⟩ (den_false (bne_self k1) ⟨⟨j + 1, ?_, by omega, l4.trans l5⟩, ?_⟩)))))
      · simp only [rxs, iv, e2]
      · simp only [rxs, iv, e2]
        omega
    · obtain ⟨s, dr, cr⟩ := root_both a
      obtain ⟨n1, k1, t1⟩ := rootV_form (toI a) s
      rw [t1] at dr
      refine den_det dr (arg_1 a b) (den_rq ⟨_, rfl, s20⟩ (den_rq ⟨_, rfl, s21⟩ (den_rq ⟨words_size n1, words_one n1⟩ (den_call (cr H4) (arg_1 a b) ?_))))
      rintro v1 H5 ⟨l5, rfl⟩
      rw [t1]
      simp only [List.cons_append, List.nil_append]
      refine ⟨fun h => (nomatch h), den_rq ⟨_, rfl, s20⟩ (den_rq ⟨_, rfl, s21⟩ (den_rq ⟨words_size n1, words_one n1⟩ ?_))⟩
      refine den_prim ((ne_self (n := n1) op_WidePowers_16_2 rfl rfl).rds _) rfl (den_rq ⟨_, rfl⟩ (den_false rfl (den_rq ⟨k1, rfl⟩ (den_rq ⟨k1, rfl⟩ (den_false (bne_self k1) ⟨⟨i + 1, ?_, by omega, l3.trans (l4.trans l5)⟩, ?_⟩)))))
      · simp only [rxs, iv, e1]
      · simp only [rxs, iv, e1]
        omega
  · exact den_ret rfl ⟨rfl, lall⟩
end Go.Proofs.YtmndieeelnicpaaRR

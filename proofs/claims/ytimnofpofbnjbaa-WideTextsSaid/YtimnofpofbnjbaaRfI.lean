/- The reference of chapter 01: Parts, Divisor, and what the chapter says. -/
import Derived.Test.YtimnofpofbnjbaaRfG
namespace Go.Proofs.Ytimnofpofbnjbaa
open Go.RowKit Go.RX Go.WD

theorem z_bool : zeroV Try.prog 4 = .bool false := by kernel_rfl
theorem z_ints : zeroV Try.prog 63 = .slice none 0 0 := by kernel_rfl
theorem iv_inj : ∀ {a b : List Nat}, a.map iv = b.map iv → a = b
  | [], [], _ => rfl
  | [], _ :: _, h => by simp at h
  | _ :: _, [], h => by simp at h
  | x :: a, y :: b, h => by
    simp only [List.map_cons, List.cons.injEq, iv, Value.int.injEq, true_and] at h
    rw [iv_inj h.2]
    have := h.1
    congr 1
    omega
theorem Nu.uniq {H : PH} {v : Value} {m n : Nat} (h : Nu H v m) (k : Nu H v n) : m = n := by
  obtain ⟨l, ⟨⟨_, a, c, e, _, _, h1⟩, _⟩, _, rfl⟩ := h
  obtain ⟨l', ⟨⟨_, a', c', e', _, _, h2⟩, _⟩, _, rfl⟩ := k
  rw [e, Value.slice.injEq] at e'
  obtain ⟨rfl, hl, rfl⟩ := e'
  congr 1
  rcases h1 with h1 | ⟨b, o, cs, T, fz, h3, h4, h5⟩
  · rw [List.eq_nil_of_length_eq_zero h1, List.eq_nil_of_length_eq_zero (show l'.length = 0 by omega)]
  · rcases h2 with h2 | ⟨b', o', cs', T', fz', h3', h4', h5'⟩
    · rw [List.eq_nil_of_length_eq_zero h2, List.eq_nil_of_length_eq_zero (show l.length = 0 by omega)]
    · rw [h3] at h3'
      simp only [Option.some.injEq, Addr.mk.injEq, and_true] at h3'
      obtain ⟨rfl, rfl⟩ := h3'
      rw [h4] at h4'
      simp only [Option.some.injEq, Obj.cells.injEq] at h4'
      obtain ⟨rfl, rfl, rfl⟩ := h4'
      rw [hl] at h5
      exact iv_inj (h5.symm.trans h5')
open Classical in
/-- The number of a slice. -/
noncomputable def nuOf (H : PH) (v : Value) : Nat := if h : ∃ n, Nu H v n then h.choose else 0
theorem nuOf_eq {H : PH} {v : Value} {n : Nat} (h : Nu H v n) : nuOf H v = n := by
  have : ∃ n, Nu H v n := ⟨n, h⟩
  unfold nuOf; rw [dif_pos this]; exact this.choose_spec.uniq h
section
variable {H : PH} {v x y : Value} {z p q : Int}
theorem lg_nat {w : Value} {n : Nat} (h : Nu H w n) : Lg H (.agg #[.bool false, w]) (n : Int) :=
  ⟨w, by rw [decide_eq_false (by omega)], by rw [Int.natAbs_natCast]; exact h⟩
theorem cat_nat {w : Value} {n : Nat} (h : Nu H w n) : Value.agg ((Value.bool false).cells ++ w.cells) = .agg #[.bool false, w] := by
  rw [h.one.1]; rfl
theorem Lm.nat {n : Nat} (h : n < BP 10000) : Lm (n : Int) := by unfold Lm; rw [Int.natAbs_natCast]; exact h
theorem Lm_one : Lm 1 := by
  unfold Lm
  have := BP_lt_iff.2 (show 0 < 10000 by omega)
  rw [BP_zero] at this
  exact this
end
end Go.Proofs.Ytimnofpofbnjbaa
namespace Go.Proofs.Ytimnofpofbnjbaa
open Go.RowKit Go.RX Go.WD

theorem lm_M {z : Int} (h : z.natAbs < M) : Lm z := by
  unfold Lm
  have := BP_le (show 16 ≤ 10000 by omega)
  rw [BP_M] at this
  omega
theorem lm_toI (a : Nat) : Lm (toI a) := lm_M (toI_abs_lt a)
section
variable {H : PH} {v x y : Value} {z p q : Int}
theorem con_rOf (n : Int) (h0 : -9223372036854775808 ≤ n) (h1 : n < 9223372036854775808) : Con Try.prog 27 [.int .i64 n] H fun u H' => PH.le H H' ∧ u = iw n := by
  refine con_of_tree mixed tr_rOf np_rOf rfl (den_call (con_rLong1 n h0 h1) rfl ?_)
  rintro u H1 ⟨hl1, hu⟩
  refine ⟨fun h => (nomatch h), den_call (con_rOut hu) rfl ?_⟩
  rintro u2 H2 ⟨hl2, rfl⟩
  have hb : (9223372036854775808 : Int) ≤ HM := by
    have := PW_pos 7
    rw [HM_PW]; omega
  rw [told_fits (show -(HM : Int) ≤ n ∧ n < HM by omega)]
  exact ⟨fun h => (nomatch h), den_rq ⟨_, rfl, Nat.zero_lt_succ _⟩ (den_rq ⟨_, rfl, Nat.lt_succ_self _⟩ (den_rq ⟨words_size (rs n), words_one (rs n)⟩ (den_ret rfl ⟨hl1.trans hl2, rfl⟩)))⟩
end
end Go.Proofs.Ytimnofpofbnjbaa

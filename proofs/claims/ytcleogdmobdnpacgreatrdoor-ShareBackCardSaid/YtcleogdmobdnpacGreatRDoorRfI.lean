/- The reference of chapter 01: Parts, Divisor, and what the chapter says. -/
import Derived.Test.YtcleogdmobdnpacGreatRDoorRfG
namespace Go.Proofs.YtcleogdmobdnpacGreatRDoor
open Go.RowKit Go.RX Go.WD

theorem z_bool : zeroV Tryz.prog 4 = .bool false := by kernel_rfl
theorem z_ints : zeroV Tryz.prog 111 = .slice none 0 0 := by kernel_rfl
theorem iv_inj : ∀ {a b : List Nat}, a.map iv = b.map iv → a = b
  | [], [], _ => rfl
  | [], _ :: _, h => by simp at h
  | _ :: _, [], h => by simp at h
  | x :: a, y :: b, h => by
    simp only [List.map_cons, List.cons.injEq, iv, Value.int.injEq, true_and] at h
    rw [iv_inj h.2]
    have := h.1
    congr 1
    omega
theorem Nu.uniq {H : PH} {v : Value} {m n : Nat} (h : Nu H v m) (k : Nu H v n) : m = n := by
  obtain ⟨l, ⟨⟨_, a, c, e, _, _, h1⟩, _⟩, _, rfl⟩ := h
  obtain ⟨l', ⟨⟨_, a', c', e', _, _, h2⟩, _⟩, _, rfl⟩ := k
  rw [e, Value.slice.injEq] at e'
  obtain ⟨rfl, hl, rfl⟩ := e'
  congr 1
  rcases h1 with h1 | ⟨b, o, cs, T, fz, h3, h4, h5⟩
  · rw [List.eq_nil_of_length_eq_zero h1, List.eq_nil_of_length_eq_zero (show l'.length = 0 by omega)]
  · rcases h2 with h2 | ⟨b', o', cs', T', fz', h3', h4', h5'⟩
    · rw [List.eq_nil_of_length_eq_zero h2, List.eq_nil_of_length_eq_zero (show l.length = 0 by omega)]
    · rw [h3] at h3'
      simp only [Option.some.injEq, Addr.mk.injEq, and_true] at h3'
      obtain ⟨rfl, rfl⟩ := h3'
      rw [h4] at h4'
      simp only [Option.some.injEq, Obj.cells.injEq] at h4'
      obtain ⟨rfl, rfl, rfl⟩ := h4'
      rw [hl] at h5
      exact iv_inj (h5.symm.trans h5')
open Classical in
/-- The number of a slice. -/
noncomputable def nuOf (H : PH) (v : Value) : Nat := if h : ∃ n, Nu H v n then h.choose else 0
theorem nuOf_eq {H : PH} {v : Value} {n : Nat} (h : Nu H v n) : nuOf H v = n := by
  have : ∃ n, Nu H v n := ⟨n, h⟩
  unfold nuOf; rw [dif_pos this]; exact this.choose_spec.uniq h
section
variable {H : PH} {v x y : Value} {z p q : Int}
theorem lg_nat {w : Value} {n : Nat} (h : Nu H w n) : Lg H (.agg #[.bool false, w]) (n : Int) :=
  ⟨w, by rw [decide_eq_false (by omega)], by rw [Int.natAbs_natCast]; exact h⟩
theorem cat_nat {w : Value} {n : Nat} (h : Nu H w n) : Value.agg ((Value.bool false).cells ++ w.cells) = .agg #[.bool false, w] := by
  rw [h.one.1]; rfl
theorem Lm.nat {n : Nat} (h : n < BP 10000) : Lm (n : Int) := by unfold Lm; rw [Int.natAbs_natCast]; exact h
theorem Lm_one : Lm 1 := by
  unfold Lm
  have := BP_lt_iff.2 (show 0 < 10000 by omega)
  rw [BP_zero] at this
  exact this
set_option maxRecDepth 100000 in
theorem con_rParts (hx : Lg H x p) (hy : Lg H y q) (hp : Lm p) (hq : Lm q) (hq0 : q ≠ 0) : Con Tryz.prog 144 [x, y] H fun u H' => PH.le H H' ∧ ∃ a b, u = .tuple #[a, b] ∧ Lg H' a (p / q) ∧ Lg H' b (p % q) := by
  have r1 := hx.rq
  have r2 := hy.rq
  obtain ⟨wx, rfl, a, da, ta, va⟩ := hx
  obtain ⟨wy, rfl, b, db, tb, vb⟩ := hy
  unfold Lm at hp hq
  have la : a.length ≤ 10000 := ta _ (by rw [va]; exact hp)
  have lb : b.length ≤ 10000 := tb _ (by rw [vb]; exact hq)
  have hb0 : 0 < vl b := by rw [vb]; omega
  have hR : p.natAbs % q.natAbs < q.natAbs := Nat.mod_lt _ (by omega)
  have hQ : p.natAbs / q.natAbs ≤ p.natAbs := Nat.div_le_self _ _
  obtain ⟨s1, s2⟩ := div_signs p q (p.natAbs / q.natAbs) (p.natAbs % q.natAbs) hq0 hR (by rw [Nat.mul_comm]; exact (Nat.div_add_mod _ _).symm)
  generalize hQd : p.natAbs / q.natAbs = Q at *
  generalize hRd : p.natAbs % q.natAbs = R at *
  refine con_of_tree mixed tr_rParts np_rParts rfl (den_rq r1 (den_rq r2 (den_call (con_rparts da db ta tb hb0 (by omega) (by omega)) rfl ?_)))
  rintro u H1 ⟨hl1, uq, ur, rfl, hq1, hr1⟩
  rw [va, vb, hQd] at hq1
  rw [va, vb, hRd] at hr1
  obtain ⟨lq, dq, tq, vq⟩ := hq1
  obtain ⟨lr, dr, tr, vr⟩ := hr1
  refine ⟨fun h => (nomatch h), den_rq ⟨_, rfl, Nat.zero_lt_succ _⟩ (den_rq ⟨_, rfl, Nat.lt_succ_self _⟩ (den_rq ⟨_, rfl⟩ (den_rq ⟨_, rfl⟩ (den_call (con_rmade (true != (decide (p < 0) == decide (q < 0))) dq) rfl ?_))))⟩
  rintro u3 H2 ⟨rfl, hu3⟩
  rw [vq] at hu3
  refine ⟨fun _ => PH.le.refl _, den_call (con_rmade (decide (p < 0)) dr) rfl ?_⟩
  rintro u4 H3 ⟨rfl, hu4⟩
  rw [vr] at hu4
  have hr3 := hu3.rq
  have hr4 := hu4.rq
  have hu3' := hu3
  have hu4' := hu4
  obtain ⟨w3, rfl, n3⟩ := hu3
  obtain ⟨w4, rfl, n4⟩ := hu4
  refine ⟨fun _ => PH.le.refl _, den_rq hr3 (den_rq hr4 (den_rq ⟨_, rfl⟩ (den_br rfl (fun h => ?_) (fun h => ?_))))⟩
  · have h := of_decide_eq_true h
    have hp0 : p < 0 := by
      rcases Int.lt_or_le p 0 with h1 | h1
      · exact h1
      · exfalso; unfold sn at h; rw [decide_eq_false (show ¬ p < 0 by omega)] at h; simp only [Bool.false_eq_true, if_false] at h; omega
    have hR0 : R ≠ 0 := by
      intro h0; rw [h0] at h; unfold sn at h; split at h <;> omega
    have eR : sn (decide (p < 0)) R = -(R : Int) := by unfold sn; rw [decide_eq_true hp0]; rfl
    simp only [hp0, hR0, decide_true, decide_false, Bool.not_false, Bool.and_true, if_true] at s1 s2
    have nb : Nu H3 wy q.natAbs := ⟨b, db.mono hl1, tb, vb⟩
    have hplus := con_rPlus hu4' (lg_nat nb) (by unfold Lm; rw [eR, Int.natAbs_neg, Int.natAbs_natCast]; omega) (Lm.nat hq)
    refine den_rq nb.one.2 (den_call hplus ?_ ?_)
    · simp only [List.map_cons, List.map_nil]
      congr 2
      show Value.agg ((zeroV Tryz.prog 4).cells ++ wy.cells) = _
      rw [z_bool]; exact cat_nat nb
    rintro u5 H4 ⟨hl4, hu5⟩
    have e5 : sn (decide (p < 0)) R + (q.natAbs : Int) = p % q := by rw [s2, eR]; omega
    rw [e5] at hu5
    have hr5 := hu5.rq
    obtain ⟨w5, rfl, n5⟩ := hu5
    refine ⟨fun h => (nomatch h), den_rq hr5 (den_br rfl (fun h2 => ?_) (fun h2 => ?_))⟩
    · have h2 := of_decide_eq_true h2
      have eQ : sn (true != (decide (p < 0) == decide (q < 0))) Q = (Q : Int) := by unfold sn; rw [decide_eq_true hp0, decide_eq_true h2]; rfl
      refine den_call (con_rLong1 1 (by omega) (by omega)) rfl ?_
      rintro u6 H5 ⟨hl5, hu6⟩
      refine ⟨fun _ => hl5, den_call (con_rPlus (hu3'.mono (hl4.trans hl5)) hu6 (by rw [eQ]; exact Lm.nat (by omega)) Lm_one) rfl ?_⟩
      rintro u7 H6 ⟨hl6, hu7⟩
      have e7 : sn (true != (decide (p < 0) == decide (q < 0))) Q + 1 = p / q := by
        rw [s1, eQ]; simp [h2]
      rw [e7] at hu7
      have hr7 := hu7.rq
      obtain ⟨w7, rfl, n7⟩ := hu7
      exact ⟨fun _ => hl6, den_rq hr7 (den_ret rfl ⟨hl1.trans (hl4.trans (hl5.trans hl6)), _, _, rfl, ⟨w7, rfl, n7⟩, w5, rfl, n5.mono (hl5.trans hl6)⟩)⟩
    · have h2 := of_decide_eq_false h2
      have eQ : sn (true != (decide (p < 0) == decide (q < 0))) Q = -(Q : Int) := by unfold sn; rw [decide_eq_true hp0, decide_eq_false h2]; rfl
      refine den_call (con_rLong1 1 (by omega) (by omega)) rfl ?_
      rintro u6 H5 ⟨hl5, hu6⟩
      refine ⟨fun _ => hl5, den_call (con_rMinus (hu3'.mono (hl4.trans hl5)) hu6 (by rw [eQ]; unfold Lm; rw [Int.natAbs_neg, Int.natAbs_natCast]; omega) Lm_one) rfl ?_⟩
      rintro u7 H6 ⟨hl6, hu7⟩
      have e7 : sn (true != (decide (p < 0) == decide (q < 0))) Q - 1 = p / q := by
        rw [s1, eQ]; simp [h2]; omega
      rw [e7] at hu7
      have hr7 := hu7.rq
      obtain ⟨w7, rfl, n7⟩ := hu7
      exact ⟨fun _ => hl6, den_rq hr7 (den_ret rfl ⟨hl1.trans (hl4.trans (hl5.trans hl6)), _, _, rfl, ⟨w7, rfl, n7⟩, w5, rfl, n5.mono (hl5.trans hl6)⟩)⟩
  · have h := of_decide_eq_false h
    have hc : (decide (p < 0) && !decide (R = 0)) = false := by
      by_cases h1 : p < 0
      · by_cases h2 : R = 0
        · simp [h2]
        · exfalso; apply h; unfold sn; rw [decide_eq_true h1]; simp; omega
      · simp [h1]
    rw [hc] at s1 s2
    simp only [Bool.false_eq_true, if_false] at s1 s2
    have e3 : sn (true != (decide (p < 0) == decide (q < 0))) Q = p / q := by
      rw [s1]; unfold sn
      by_cases h1 : p < 0 <;> by_cases h2 : q < 0 <;> simp [h1, h2]
    have e4 : sn (decide (p < 0)) R = p % q := by
      rw [s2]; unfold sn
      by_cases h1 : p < 0
      · simp [h1] at hc ⊢; omega
      · simp [h1]
    rw [e3] at n3
    rw [e4] at n4
    refine den_ret rfl ⟨hl1, _, _, rfl, ⟨w3, ?_, n3⟩, w4, ?_, n4⟩
    · rw [← e3]; rfl
    · rw [← e4]; rfl
theorem con_rDivisor (hx : Lg H x p) (hy : Lg H y q) (hp : Lm p) (hq : Lm q) : Con Tryz.prog 143 [x, y] H fun u H' => PH.le H H' ∧ Lg H' u (Nat.gcd p.natAbs q.natAbs : Nat) := by
  have r1 := hx.rq
  have r2 := hy.rq
  obtain ⟨wx, rfl, nx⟩ := hx
  obtain ⟨wy, rfl, ny⟩ := hy
  unfold Lm at hp hq
  refine con_of_tree mixed tr_rDivisor np_rDivisor rfl (den_rq r1 (den_rq r2 ⟨fun vals H' => ∃ (m n : Nat) (vm vn : Value), vals = [vm, vn] ∧ PH.le H H' ∧ Nu H' vm m ∧ Nu H' vn n ∧ m < BP 10000 ∧ n < BP 10000 ∧ Nat.gcd m n = Nat.gcd p.natAbs q.natAbs, fun vals H' => nuOf H' (vals.getD 1 undef), ⟨p.natAbs, q.natAbs, wx, wy, rfl, PH.le.refl H, nx, ny, hp, hq, rfl⟩, ?_⟩))
  rintro vals H' - ⟨m, n, vm, vn, rfl, hle, hm, hn, lm, ln, hg⟩
  simp only [List.cons_append, List.nil_append]
  obtain ⟨a, da, ta, va⟩ := id hm
  obtain ⟨b, db, tb, vb⟩ := id hn
  have hpos := tb.pos
  refine den_len op_rDivisor_2_1 rfl db rfl (den_rq ⟨_, rfl⟩ (den_br (b := decide ((b.length : Int) > 0)) rfl (fun h => ?_) (fun h => ?_)))
  · have h := of_decide_eq_true h
    refine den_call (con_rparts da db ta tb (by omega) (Nat.le_trans (ta 10000 (by omega)) (by omega)) (Nat.le_trans (tb 10000 (by omega)) (by omega))) rfl ?_
    rintro u H2 ⟨hl2, uq, ur, rfl, _, hr⟩
    rw [va, vb] at hr
    have hlt : m % n < n := Nat.mod_lt _ (by omega)
    refine ⟨fun h => (nomatch h), den_rq ⟨_, rfl, Nat.zero_lt_succ _⟩ (den_rq ⟨_, rfl, Nat.lt_succ_self _⟩ ⟨⟨n, m % n, vn, ur, rfl, hle.trans hl2, hn.mono hl2, hr, ln, by omega, ?_⟩, ?_⟩)⟩
    · rw [← hg, Nat.gcd_comm n, ← Nat.gcd_rec, Nat.gcd_comm]
    · show nuOf H2 ur < nuOf H' vn
      rw [nuOf_eq hr, nuOf_eq hn]; exact hlt
  · have h := of_decide_eq_false h
    have hn0 : n = 0 := by omega
    subst hn0
    rw [Nat.gcd_zero_right] at hg
    rw [hg] at hm
    refine den_rq hm.one.2 (den_ret rfl ⟨hle, ?_⟩)
    show Lg H' (Value.agg ((zeroV Tryz.prog 4).cells ++ vm.cells)) _
    rw [z_bool, cat_nat hm]; exact lg_nat hm
end
end Go.Proofs.YtcleogdmobdnpacGreatRDoor
namespace Go.Proofs.YtcleogdmobdnpacGreatRDoor
open Go.RowKit Go.RX Go.WD

theorem lm_M {z : Int} (h : z.natAbs < M) : Lm z := by
  unfold Lm
  have := BP_le (show 16 ≤ 10000 by omega)
  rw [BP_M] at this
  omega
theorem lm_toI (a : Nat) : Lm (toI a) := lm_M (toI_abs_lt a)
section
variable {H : PH} {v x y : Value} {z p q : Int}
theorem con_rOf (n : Int) (h0 : -9223372036854775808 ≤ n) (h1 : n < 9223372036854775808) : Con Tryz.prog 36 [.int .i64 n] H fun u H' => PH.le H H' ∧ u = iw n := by
  refine con_of_tree mixed tr_rOf np_rOf rfl (den_call (con_rLong1 n h0 h1) rfl ?_)
  rintro u H1 ⟨hl1, hu⟩
  refine ⟨fun h => (nomatch h), den_call (con_rOut hu) rfl ?_⟩
  rintro u2 H2 ⟨hl2, rfl⟩
  have hb : (9223372036854775808 : Int) ≤ HM := by
    have := PW_pos 7
    rw [HM_PW]; omega
  rw [told_fits (show -(HM : Int) ≤ n ∧ n < HM by omega)]
  exact ⟨fun h => (nomatch h), den_rq ⟨_, rfl, Nat.zero_lt_succ _⟩ (den_rq ⟨_, rfl, Nat.lt_succ_self _⟩ (den_rq ⟨words_size (rs n), words_one (rs n)⟩ (den_ret rfl ⟨hl1.trans hl2, rfl⟩)))⟩
end
end Go.Proofs.YtcleogdmobdnpacGreatRDoor

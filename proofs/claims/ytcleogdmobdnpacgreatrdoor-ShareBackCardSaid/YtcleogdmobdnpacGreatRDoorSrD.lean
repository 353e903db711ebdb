/- The reference of chapter 02: Neg, Abs, Add, Sub, Mul, Div, Min, Max. Printed by mkSrD.py. -/
import Derived.Test.YtcleogdmobdnpacGreatRDoorSrT
import Derived.Test.YtcleogdmobdnpacGreatRDoorSwT
import Derived.Test.YtcleogdmobdnpacGreatRDoorSdA
namespace Go.Proofs.YtcleogdmobdnpacGreatRDoor
open Go.RowKit Go.RX Go.WD

/-- The absolute value. -/
def absQ (r : Rat) : Rat := if r.num < 0 then -r else r
theorem absQ_num (r : Rat) : (absQ r).num = (r.num.natAbs : Int) := by
  unfold absQ; split
  · rw [Rat.neg_num]; omega
  · omega
theorem absQ_den (r : Rat) : (absQ r).den = r.den := by
  unfold absQ; split
  · rw [Rat.neg_den]
  · rfl
theorem sgR_le (r s : Rat) : sgR r s ≤ 0 ↔ r ≤ s := by
  unfold sgR
  split
  · rename_i h; exact ⟨fun _ => Rat.le_of_lt h, fun _ => by omega⟩
  · rename_i h
    split
    · rename_i h2; subst h2; exact ⟨fun _ => Rat.le_refl, fun _ => by omega⟩
    · rename_i h2
      refine ⟨fun h3 => by omega, fun h3 => ?_⟩
      exact absurd (Rat.le_antisymm h3 (Rat.not_lt.1 h)) h2
theorem abs_eq (r : Rat) : -(if sgR (-r) (- -r) ≤ 0 then -r else - -r) = absQ r := by
  unfold absQ
  rw [Rat.neg_neg]
  have key : sgR (-r) r ≤ 0 ↔ 0 ≤ r := by
    rw [sgR_le]
    refine ⟨fun h => ?_, fun h => Rat.le_trans (Rat.neg_le_neg h) (by simpa using h)⟩
    rcases Rat.le_total (a := 0) (b := r) with h0 | h0
    · exact h0
    · have h1 : 0 ≤ -r := by have := Rat.neg_le_neg h0; simpa using this
      exact Rat.le_trans h1 h
  have key2 : r.num < 0 ↔ ¬ 0 ≤ r := by rw [← Rat.num_nonneg]; omega
  by_cases h : 0 ≤ r
  · rw [if_pos (key.2 h), if_neg (fun h2 => key2.1 h2 h), Rat.neg_neg]
  · rw [if_neg (fun h2 => h (key.1 h2)), if_pos (key2.2 h)]
theorem max_eq (r s : Rat) : -(if sgR (-r) (-s) ≤ 0 then -r else -s) = if sgR r s < 0 then s else r := by
  have k1 : sgR r s < 0 ↔ ¬ s ≤ r := by
    unfold sgR
    constructor
    · intro h; split at h
      · rename_i h2; exact Rat.not_le.2 h2
      · split at h <;> omega
    · intro h; rw [if_pos (Rat.not_le.1 h)]; omega
  have k2 : sgR (-r) (-s) ≤ 0 ↔ s ≤ r := by
    rw [sgR_le]
    exact ⟨fun h => by have := Rat.neg_le_neg h; simpa using this, fun h => Rat.neg_le_neg h⟩
  by_cases h : s ≤ r
  · rw [if_pos (k2.2 h), if_neg (fun h2 => k1.1 h2 h), Rat.neg_neg]
  · rw [if_neg (fun h2 => h (k2.1 h2)), if_pos (k1.2 h), Rat.neg_neg]
section
variable {H : PH} {x y : Value} {r s : Rat}
theorem words_rs (n : Nat) : words (rs (toI n)) = words n := by rw [rs_toI]; exact words_mod n
theorem told_ok {n d : Nat} (h : okB n d = true) : toldR (ratOf n d) = .tuple #[shv n d, .int .i64 0] := by
  obtain ⟨e1, e2⟩ := ok_rat h
  have f1 := toI_fits n
  have f2 := toI_fits d
  unfold Fits at f1 f2
  unfold toldR
  rw [e1, e2, if_pos ⟨f1, f2.2⟩]
  unfold shv
  rw [words_rs, words_rs]
end
end Go.Proofs.YtcleogdmobdnpacGreatRDoor
namespace Go.Proofs.YtcleogdmobdnpacGreatRDoor
open Go.RowKit Go.RX Go.WD

section
variable {H : PH} {r s t : Rat}
/-- Fractions of good size. -/
def Rg (r : Rat) : Prop := ∃ k, k ≤ 511 ∧ Rb k r
theorem rg_of {k : Nat} (h : Rb k r) (hk : k ≤ 511) : Rg r := ⟨k, hk, h⟩
theorem rg_ok (h : Rg r) : okB (rs r.num) (rs (r.den : Int)) = true := h.elim fun _ h => (rb_ok h.2 h.1).1
theorem rg_rat (h : Rg r) : ratOf (rs r.num) (rs (r.den : Int)) = r := h.elim fun _ h => (rb_ok h.2 h.1).2
theorem rg_told (h : Rg r) : toldR r = .tuple #[shR r, .int .i64 0] := h.elim fun _ h => told_rb h.2 h.1
theorem go_add (hr : Rg r) (hs : Rg s) (ht : r + s = t) (hT : Rg t) : Con Tryz.prog 25 [shR r, shR s] H fun u H' => PH.le H H' ∧ u = .tuple #[shR t, .int .i64 0] :=
  (con_sAdd _ _ _ _).mono fun u H' ⟨l, h⟩ => ⟨l, by rw [h, rg_ok hr, rg_ok hs, rg_rat hr, rg_rat hs, ht]; exact rg_told hT⟩
theorem go_sub (hr : Rg r) (hs : Rg s) (ht : r - s = t) (hT : Rg t) : Con Tryz.prog 16 [shR r, shR s] H fun u H' => PH.le H H' ∧ u = .tuple #[shR t, .int .i64 0] :=
  (con_sSub _ _ _ _).mono fun u H' ⟨l, h⟩ => ⟨l, by rw [h, rg_ok hr, rg_ok hs, rg_rat hr, rg_rat hs, ht]; exact rg_told hT⟩
theorem go_div (hr : Rg r) (hs : Rg s) : Con Tryz.prog 26 [shR r, shR s] H fun u H' => PH.le H H' ∧ u = divR true r s :=
  (con_sDiv _ _ _ _).mono fun u H' ⟨l, h⟩ => ⟨l, by rw [h, rg_ok hr, rg_ok hs, rg_rat hr, rg_rat hs]; rfl⟩
theorem go_check (hr : Rg r) : Con Tryz.prog 23 [shR r] H fun u H' => PH.le H H' ∧ u = .int .i64 0 :=
  (con_sCheck _ _).mono fun u H' ⟨l, h⟩ => ⟨l, by rw [h, rg_ok hr]; rfl⟩
theorem rs_inj {x y : Int} (hx : Fits x) (hy : Fits y) (h : rs x % M = rs y % M) : x = y := by
  rw [rs_mod, rs_mod] at h
  rw [← toI_rs hx, ← toI_rs hy, h]
theorem rg_fits (h : Rg r) : Fits r.num ∧ Fits (r.den : Int) := by
  obtain ⟨k, hk, h⟩ := h
  have h1 := rb_fits h hk
  exact ⟨h1.1, by have := HM_pos; omega, h1.2⟩
theorem eq_shR {o : Oper} {x y : Operand} (hr : Rg r) (hs : Rg s) (ho : o.op = .binOp .eql 33 x y 33) (hx : ∀ u v, argEv [x, y] [u, v] x = u) (hy : ∀ u v, argEv [x, y] [u, v] y = v) : Yld Tryz.prog o [shR r, shR s] (.bool (decide (r = s))) := by
  have h := eq_share (a := rs r.num) (b := rs (r.den : Int)) (c := rs s.num) (d := rs (s.den : Int)) ho hx hy
  have e : (decide (rs r.num % M = rs s.num % M) && decide (rs (r.den : Int) % M = rs (s.den : Int) % M)) = decide (r = s) := by
    rw [Bool.eq_iff_iff, Bool.and_eq_true, decide_eq_true_iff, decide_eq_true_iff, decide_eq_true_iff]
    constructor
    · rintro ⟨h1, h2⟩
      have e1 := rs_inj (rg_fits hr).1 (rg_fits hs).1 h1
      have e2 := rs_inj (rg_fits hr).2 (rg_fits hs).2 h2
      exact Rat.ext e1 (by omega)
    · rintro rfl; exact ⟨rfl, rfl⟩
  rw [e] at h
  exact h
theorem ne_shR {o : Oper} {x y : Operand} (hr : Rg r) (hs : Rg s) (ho : o.op = .binOp .neq 33 x y 33) (hx : ∀ u v, argEv [x, y] [u, v] x = u) (hy : ∀ u v, argEv [x, y] [u, v] y = v) : Yld Tryz.prog o [shR r, shR s] (.bool (!decide (r = s))) := by
  have h := ne_share (a := rs r.num) (b := rs (r.den : Int)) (c := rs s.num) (d := rs (s.den : Int)) ho hx hy
  have e : (decide (rs r.num % M = rs s.num % M) && decide (rs (r.den : Int) % M = rs (s.den : Int) % M)) = decide (r = s) := by
    rw [Bool.eq_iff_iff, Bool.and_eq_true, decide_eq_true_iff, decide_eq_true_iff, decide_eq_true_iff]
    constructor
    · rintro ⟨h1, h2⟩
      have e1 := rs_inj (rg_fits hr).1 (rg_fits hs).1 h1
      have e2 := rs_inj (rg_fits hr).2 (rg_fits hs).2 h2
      exact Rat.ext e1 (by omega)
    · rintro rfl; exact ⟨rfl, rfl⟩
  rw [e] at h
  exact h
theorem rg_zero : Rg 0 := ⟨1, by omega, by decide, by decide⟩
theorem rg_one : Rg 1 := ⟨1, by omega, by decide, by decide⟩
theorem fits_abs {z : Int} {k : Nat} (h : z.natAbs < 2 ^ k) (hk : k ≤ 511) : Fits z := by
  have := pow_le_HM hk
  unfold Fits; omega
theorem floor_fits (hr : Rg r) : Fits r.floor := by
  obtain ⟨k, hk, h⟩ := hr
  exact fits_abs (floor_abs h) hk
theorem rg_neg (hr : Rg r) : Rg (-r) := by
  obtain ⟨k, hk, h⟩ := hr
  exact ⟨k, hk, h.neg⟩
theorem ceil_fits (hr : Rg r) : Fits (-(-r).floor) := by
  obtain ⟨k, hk, h⟩ := hr
  exact fits_abs (k := k) (by rw [Int.natAbs_neg]; exact floor_abs h.neg) hk
theorem go_floor (hr : Rg r) : Con Tryz.prog 30 [shR r] H fun u H' => PH.le H H' ∧ u = .tuple #[iw r.floor, .int .i64 0] :=
  (con_sFloor _ _).mono fun u H' ⟨l, h⟩ => ⟨l, by rw [h, rg_ok hr, rg_rat hr]; exact told_fits (floor_fits hr)⟩
theorem go_ceil (hr : Rg r) : Con Tryz.prog 31 [shR r] H fun u H' => PH.le H H' ∧ u = .tuple #[iw (-(-r).floor), .int .i64 0] :=
  (con_sCeil _ _).mono fun u H' ⟨l, h⟩ => ⟨l, by rw [h, rg_ok hr, rg_rat hr]; exact told_fits (ceil_fits hr)⟩
theorem go_near (hr : Rg r) (hf : Fits (r + 1 / 2).floor) : Con Tryz.prog 32 [shR r] H fun u H' => PH.le H H' ∧ u = .tuple #[iw (r + 1 / 2).floor, .int .i64 0] :=
  (con_sNear _ _).mono fun u H' ⟨l, h⟩ => ⟨l, by rw [h, rg_ok hr, rg_rat hr]; exact told_fits hf⟩
theorem go_cmp (hr : Rg r) (hs : Rg s) : Con Tryz.prog 19 [shR r, shR s] H fun u H' => PH.le H H' ∧ u = .tuple #[.int .i64 (sgR r s), .int .i64 0] :=
  (con_sCmp _ _ _ _).mono fun u H' ⟨l, h⟩ => ⟨l, by rw [h, rg_ok hr, rg_ok hs, rg_rat hr, rg_rat hs]; rfl⟩
theorem go_max (hr : Rg r) (hs : Rg s) : Con Tryz.prog 28 [shR r, shR s] H fun u H' => PH.le H H' ∧ u = .tuple #[shR (if sgR r s < 0 then s else r), .int .i64 0] :=
  (con_sMax _ _ _ _).mono fun u H' ⟨l, h⟩ => ⟨l, by
    rw [h, rg_ok hr, rg_ok hs, rg_rat hr, rg_rat hs, max_eq]
    refine rg_told ?_
    split
    · exact hs
    · exact hr⟩
theorem rg_abs (hr : Rg r) : Rg (absQ r) := by
  unfold absQ; split
  · exact rg_neg hr
  · exact hr
theorem go_abs (hr : Rg r) : Con Tryz.prog 17 [shR r] H fun u H' => PH.le H H' ∧ u = .tuple #[shR (absQ r), .int .i64 0] :=
  (con_sAbs _ _).mono fun u H' ⟨l, h⟩ => ⟨l, by rw [h, rg_ok hr, rg_rat hr, abs_eq]; exact rg_told (rg_abs hr)⟩
theorem go_make {p q : Int} (hp : Fits p) (hq : Fits q) (h0 : q ≠ 0) (ht : Rat.divInt p q = t) (hT : Rg t) : Con Tryz.prog 15 [iw p, iw q] H fun u H' => PH.le H H' ∧ u = .tuple #[shR t, .int .i64 0] :=
  (con_sMake _ _).mono fun u H' ⟨l, h⟩ => ⟨l, by rw [h, toI_rs hp, toI_rs hq]; unfold makeV; rw [if_neg h0, ht]; exact rg_told hT⟩
theorem divInt_one (z : Int) : Rat.divInt z 1 = (z : Rat) := by
  apply Rat.ext
  · rw [low_num z (by omega), Rat.num_intCast]; simp
  · have := low_den z (show (1 : Int) ≠ 0 by omega)
    rw [Rat.den_intCast]
    simp at this
    omega
theorem rg_int {z : Int} {k : Nat} (h : z.natAbs < 2 ^ k) (h1 : 1 ≤ k) (hk : k ≤ 511) : Rg (z : Rat) := by
  refine ⟨k, hk, ?_, ?_⟩
  · rw [Rat.num_intCast]; exact h
  · rw [Rat.den_intCast]
    exact Nat.lt_of_lt_of_le (show 1 < 2 ^ 1 by omega) (Nat.pow_le_pow_right (by omega) h1)
end
end Go.Proofs.YtcleogdmobdnpacGreatRDoor

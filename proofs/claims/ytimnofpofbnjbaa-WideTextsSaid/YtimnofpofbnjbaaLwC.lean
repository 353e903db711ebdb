/- THE EXAMPLES OF CHAPTER 01: 'works' returns true. (Printed by genworks.py.) -/
import Derived.Test.YtimnofpofbnjbaaLwB
namespace Go.WD
open Go.RX
theorem twoI_nat (n : Nat) : twoI (n : Int) = ((2 ^ n : Nat) : Int) := by unfold twoI; rw [if_neg (by omega), Int.natAbs_natCast]
theorem twoI_neg (n : Nat) (h : 0 < n) : twoI (-(n : Int)) = -((2 ^ n : Nat) : Int) := by unfold twoI; rw [if_pos (by omega), Int.natAbs_neg, Int.natAbs_natCast]
theorem pow_neg_odd (x : Int) : ∀ j : Nat, (-x) ^ (2 * j + 1) = -(x ^ (2 * j + 1))
  | 0 => by rw [Nat.mul_zero, Nat.zero_add, Int.pow_succ, Int.pow_zero, Int.pow_succ, Int.pow_zero]; omega
  | j + 1 => by
    have e : ∀ y : Int, y ^ (2 * (j + 1) + 1) = y ^ (2 * j + 1) * (y * y) := fun y => by
      rw [show 2 * (j + 1) + 1 = (2 * j + 1) + 1 + 1 from by omega, Int.pow_succ, Int.pow_succ, Int.mul_assoc]
    rw [e, e, pow_neg_odd x j, Int.neg_mul_neg, Int.neg_mul]
end Go.WD
namespace Go.Proofs.Ytimnofpofbnjbaa
open Go.RowKit Go.RX Go.WD Go.IntWalk

section
variable (H : PH)
theorem mk_is (a : Nat) : Con Try.prog 19 [wd a] H fun v H' => ∃ b, v = cloV 51 b ∧ PH.le H H' ∧ H' b = some (.cells (words a) 24 (0, 0)) :=
  (con_is H a).mono fun v H' ⟨b, hb, hv, hH⟩ => ⟨b, hv, by rw [hH]; exact PH.le_put hb _, by rw [hH]; exact PH.put_self _ _ _⟩
theorem mk_fails (n : Int) : Con Try.prog 15 [.int .i64 n] H fun v H' => ∃ b, v = cloV 48 b ∧ PH.le H H' ∧ H' b = some (.cells #[.int .i64 n] 38 (0, 0)) :=
  (con_fails H n).mono fun v H' ⟨b, hb, hv, hH⟩ => ⟨b, hv, by rw [hH]; exact PH.le_put hb _, by rw [hH]; exact PH.put_self _ _ _⟩
theorem mk_says (n : Int) : Con Try.prog 11 [.int .i64 n] H fun v H' => ∃ b, v = cloV 46 b ∧ PH.le H H' ∧ H' b = some (.cells #[.int .i64 n] 3 (0, 0)) :=
  (con_says H n).mono fun v H' ⟨b, hb, hv, hH⟩ => ⟨b, hv, by rw [hH]; exact PH.le_put hb _, by rw [hH]; exact PH.put_self _ _ _⟩
theorem mk_stops (n : Int) : Con Try.prog 13 [.int .i64 n] H fun v H' => ∃ b, v = cloV 47 b ∧ PH.le H H' ∧ H' b = some (.cells #[.int .i64 n] 38 (0, 0)) :=
  (con_stops H n).mono fun v H' ⟨b, hb, hv, hH⟩ => ⟨b, hv, by rw [hH]; exact PH.le_put hb _, by rw [hH]; exact PH.put_self _ _ _⟩
theorem mk_ends (n : Int) : Con Try.prog 23 [.int .i64 n] H fun v H' => ∃ b, v = cloV 55 b ∧ PH.le H H' ∧ H' b = some (.cells #[.int .i64 n] 38 (0, 0)) :=
  (con_ends H n).mono fun v H' ⟨b, hb, hv, hH⟩ => ⟨b, hv, by rw [hH]; exact PH.le_put hb _, by rw [hH]; exact PH.put_self _ _ _⟩
theorem mk_parts (n m : Int) : Con Try.prog 21 [.int .i64 n, .int .i64 m] H fun v H' => ∃ b c, v = .func (.func 52) #[] #[ptr b, ptr c] ∧ PH.le H H' ∧ H' b = some (.cells #[.int .i64 n] 3 (0, 0)) ∧ H' c = some (.cells #[.int .i64 m] 3 (0, 0)) :=
  (con_parts H n m).mono fun v H' ⟨b, c, hb, hc, hne, hv, hH⟩ => ⟨b, c, hv, by
    rw [hH]
    exact (PH.le_put hb _).trans (PH.le_put (by rw [PH.put_ne _ _ (fun e => hne e.symm)]; exact hc) _), by rw [hH, PH.put_ne _ _ hne]; exact PH.put_self _ _ _, by rw [hH]; exact PH.put_self _ _ _⟩
end
theorem ent_is1 : entB Try.prog 51 = true := by kernel_rfl
theorem ent_fails1 : entB Try.prog 48 = true := by kernel_rfl
theorem ent_says1 : entB Try.prog 46 = true := by kernel_rfl
theorem ent_stops1 : entB Try.prog 47 = true := by kernel_rfl
theorem ent_ends1 : entB Try.prog 55 = true := by kernel_rfl
theorem ent_parts1 : entB Try.prog 52 = true := by kernel_rfl

/-! ### What the examples give -/
theorem bigE {z : Int} (h : ¬ (-(HM : Int) ≤ z ∧ z < HM)) : told z = .tuple #[wd 0, .int .i64 6] := told_big h
theorem e_int1 : Det Try.prog 12 [iw (-1)] (.tuple #[.int .i64 (-1), .int .i64 0]) := Int_iw (fitsS (by omega) (by omega))
theorem e_int2 : Det Try.prog 12 [iw (twoI 63)] (.tuple #[.int .i64 0, .int .i64 6]) := Int_iw (x := twoI 63) (fits_two (by omega) (by omega))
theorem e_add : Det Try.prog 16 [iw ((HM : Int) - 1), iw 1] (.tuple #[wd 0, .int .i64 6]) := by
  have := Add_iw fits_most (fitsS (n := 1) (by omega) (by omega)); rwa [bigE (by omega)] at this
theorem e_neg : Det Try.prog 18 [iw (-(HM : Int))] (.tuple #[wd 0, .int .i64 6]) := by
  have := Neg_iw fits_least; rwa [bigE (by omega)] at this
theorem e_mul1 : Det Try.prog 20 [iw (twoI 255), iw (twoI 255)] (.tuple #[iw (twoI 510), .int .i64 0]) := by
  obtain ⟨k, hk⟩ : ∃ k : Nat, k = 510 := ⟨_, rfl⟩
  have h1 := Mul_iw (x := twoI ((255 : Nat) : Int)) (y := twoI ((255 : Nat) : Int)) (fits_two (by omega) (by omega)) (fits_two (by omega) (by omega))
  have e : twoI ((255 : Nat) : Int) * twoI ((255 : Nat) : Int) = twoI (k : Int) := by
    rw [twoI_nat, twoI_nat, ← Int.natCast_mul, pow_sum (a := 255) (b := 255) (k := k) (by omega)]
  rw [e, told_fits (fits_two (by omega) (by omega))] at h1
  subst hk
  exact h1
theorem e_mul2 : Det Try.prog 20 [iw (twoI 256), iw (twoI (-255))] (.tuple #[iw (-(HM : Int)), .int .i64 0]) := by
  obtain ⟨k, hk⟩ : ∃ k : Nat, k = 511 := ⟨_, rfl⟩
  have h1 := Mul_iw (x := twoI ((256 : Nat) : Int)) (y := twoI (-((255 : Nat) : Int))) (fits_two (by omega) (by omega)) (fits_two (by omega) (by omega))
  have e : twoI ((256 : Nat) : Int) * twoI (-((255 : Nat) : Int)) = -(HM : Int) := by
    rw [twoI_nat, twoI_neg 255 (by omega), mpn, pow_sum (a := 256) (b := 255) (k := k) (by omega), ← pow_HM hk]
  rw [e, told_fits fits_least] at h1
  exact h1
theorem divV_fits {x y : Int} (h0 : y ≠ 0) (h : Fits (x / y)) : divV x y = .tuple #[iw (x / y), iw (x % y), .int .i64 0] := by unfold Fits at h; unfold divV; rw [if_neg h0, if_pos h]
theorem e_div1 : Det Try.prog 22 [iw (-7), iw 2] (.tuple #[iw (-4), iw 1, .int .i64 0]) := by
  have h := Div_iw (x := -7) (y := 2) (fitsS (by omega) (by omega)) (fitsS (by omega) (by omega))
  rw [divV_fits (by omega) (show Fits _ from by rw [show (-7 : Int) / 2 = -4 from by decide]; exact fitsS (by omega) (by omega)), show (-7 : Int) / 2 = -4 from by decide, show (-7 : Int) % 2 = 1 from by decide] at h
  exact h
theorem e_div2 : Det Try.prog 22 [iw 7, iw (-2)] (.tuple #[iw (-3), iw 1, .int .i64 0]) := by
  have h := Div_iw (x := 7) (y := -2) (fitsS (by omega) (by omega)) (fitsS (by omega) (by omega))
  rw [divV_fits (by omega) (show Fits _ from by rw [show (7 : Int) / -2 = -3 from by decide]; exact fitsS (by omega) (by omega)), show (7 : Int) / -2 = -3 from by decide, show (7 : Int) % -2 = 1 from by decide] at h
  exact h
theorem e_div3 : Det Try.prog 22 [iw (-7), iw (-2)] (.tuple #[iw 4, iw 1, .int .i64 0]) := by
  have h := Div_iw (x := -7) (y := -2) (fitsS (by omega) (by omega)) (fitsS (by omega) (by omega))
  rw [divV_fits (by omega) (show Fits _ from by rw [show (-7 : Int) / -2 = 4 from by decide]; exact fitsS (by omega) (by omega)), show (-7 : Int) / -2 = 4 from by decide, show (-7 : Int) % -2 = 1 from by decide] at h
  exact h
theorem e_div4 : Det Try.prog 22 [iw (-(HM : Int)), iw (-1)] (.tuple #[wd 0, wd 0, .int .i64 6]) := by
  have h := Div_iw (y := -1) fits_least (fitsS (by omega) (by omega))
  unfold divV at h
  rw [if_neg (by omega), show (-(HM : Int)) / -1 = (HM : Int) from by rw [Int.ediv_neg, Int.ediv_one, Int.neg_neg], if_neg (by omega)] at h
  exact h
theorem e_div5 : Det Try.prog 22 [iw 1, wd 0] (.tuple #[wd 0, wd 0, .int .i64 7]) := by
  have h := Div_iw (x := 1) (y := 0) (fitsS (by omega) (by omega)) (fitsS (by omega) (by omega))
  unfold divV at h
  rw [if_pos rfl] at h
  exact h
theorem e_gcd1 : Det Try.prog 24 [iw (-12), iw 18] (.tuple #[iw 6, .int .i64 0]) := by
  have h := Gcd_iw (x := -12) (y := 18) (fitsS (by omega) (by omega)) (fitsS (by omega) (by omega))
  rw [show Nat.gcd (-12 : Int).natAbs (18 : Int).natAbs = 6 from by decide, told_fits (fitsS (n := ((6 : Nat) : Int)) (by omega) (by omega))] at h
  exact h
theorem e_gcd2 : Det Try.prog 24 [iw (-(HM : Int)), wd 0] (.tuple #[wd 0, .int .i64 6]) := by
  have h := Gcd_iw (y := 0) fits_least (fitsS (by omega) (by omega))
  rw [Int.natAbs_neg, Int.natAbs_natCast, Int.natAbs_zero, Nat.gcd_zero_right, bigE (by omega)] at h
  exact h
theorem e_pow1 : Det Try.prog 25 [iw (-2), .int .i64 511] (.tuple #[iw (-(HM : Int)), .int .i64 0]) := by
  have h := Pow_iw (x := -2) 511 (fitsS (by omega) (by omega))
  unfold powV at h
  rw [if_neg (by omega)] at h
  obtain ⟨k, hk⟩ : ∃ k : Nat, k = 511 := ⟨_, rfl⟩
  rw [show Int.toNat 511 = k from by rw [hk]; rfl, show (-2 : Int) ^ k = -(HM : Int) from by
    rw [show k = 2 * 255 + 1 from by omega, pow_neg_odd, show 2 * 255 + 1 = k from by omega, pow_HM hk, Int.natCast_pow]; rfl, told_fits fits_least] at h
  exact h
theorem e_pow2 : Det Try.prog 25 [iw 2, .int .i64 511] (.tuple #[wd 0, .int .i64 6]) := by
  have h := Pow_iw (x := 2) 511 (fitsS (by omega) (by omega))
  unfold powV at h
  rw [if_neg (by omega)] at h
  obtain ⟨k, hk⟩ : ∃ k : Nat, k = 511 := ⟨_, rfl⟩
  rw [show Int.toNat 511 = k from by rw [hk]; rfl, show (2 : Int) ^ k = (HM : Int) from by rw [pow_HM hk, Int.natCast_pow]; rfl, bigE (by omega)] at h
  exact h
theorem e_pow3 : Det Try.prog 25 [wd 0, .int .i64 0] (.tuple #[iw 1, .int .i64 0]) := by
  have h := Pow_iw (x := 0) 0 (fitsS (by omega) (by omega))
  unfold powV at h
  rw [if_neg (by omega), show (0 : Int) ^ Int.toNat 0 = 1 from rfl, told_fits (fitsS (n := 1) (by omega) (by omega))] at h
  exact h
theorem e_root1 : Det Try.prog 26 [iw 80] (.tuple #[wd 8, .int .i64 0]) := Root_iw 8 (fitsS (by omega) (by omega)) (by omega) (by decide) (by decide)
theorem e_root2 : Det Try.prog 26 [iw 81] (.tuple #[wd 9, .int .i64 0]) := Root_iw 9 (fitsS (by omega) (by omega)) (by omega) (by decide) (by decide)
theorem e_root3 : Det Try.prog 26 [iw (-1)] (.tuple #[wd 0, .int .i64 2]) := Root_iw_neg (fitsS (by omega) (by omega)) (by omega)
theorem e_parse : Det Try.prog 8 [st [45, 49, 55]] (.tuple #[iw (-17), .int .i64 0]) := by
  have h := det_Parse [45, 49, 55] (by decide)
  unfold parseV at h
  rw [if_pos (by decide), show numL [45, 49, 55] = -17 from by decide, told_fits (fitsS (by omega) (by omega))] at h
  exact h
theorem e_bad (l : List UInt8) (hl : l.length ≤ 9223372036854775807) (h : rightB l = false) : Det Try.prog 8 [st l] (.tuple #[wd 0, .int .i64 5]) := by
  have h1 := det_Parse l hl
  unfold parseV at h1
  rw [if_neg (by rw [h]; simp)] at h1
  exact h1
theorem least_eq2 : Value.agg (spl (words 0) 7 [.int .u64 9223372036854775808]) = iw (-(HM : Int)) := by
  rw [limit_words]; unfold iw; rw [rs_least]; rfl
def sK : Nat → List UInt8
  | 0 => [45, 48]
  | 1 => [48, 49, 55]
  | _ => []
theorem z3s : zeroV Try.prog 60 = .agg #[st [], st [], st []] := by kernel_rfl
theorem arr3 {k : Nat} (h : k < 3) : (spl (spl (spl (zeroV Try.prog 60).cells 0 [st [45, 48]]) 1 [st [48, 49, 55]]) 2 [st []]).getD k undef = st (sK k) := by
  rw [z3s]
  rcases (show k = 0 ∨ k = 1 ∨ k = 2 by omega) with h | h | h <;> subst h <;> rfl
theorem sK_bad (k : Nat) : rightB (sK k) = false := by
  unfold sK
  split <;> decide
theorem sK_len (k : Nat) : (sK k).length ≤ 9223372036854775807 := by
  unfold sK
  split <;> decide
theorem rs_small {n : Nat} (h : n < 18446744073709551616) : rs (n : Int) = n := by
  have := M_big
  rw [rs_pos (by omega) (by omega), Int.toNat_natCast]
theorem cell_minus {i : Nat} (h : i < 8) : (words (rs (-1))).getD i undef = .int .u64 18446744073709551615 := by
  rw [words_small (by omega) (by omega), wf_get _ h]
  congr 1
  split
  · rfl
  · rfl

set_option maxRecDepth 100000 in
set_option maxHeartbeats 8000000 in
theorem con_works (H : PH) : Con Try.prog 4 [] H fun v H' => v = .bool true ∧ PH.le H H' := by
  refine con_of_tree mixed tr_works np_works rfl (den_det (det_Of (1) (by omega) (by omega)) rfl (den_rq ⟨words_size _, words_one _⟩ (den_det (det_Of (-1) (by omega) (by omega)) rfl (den_rq ⟨words_size _, words_one _⟩ ?_))))
  simp only [List.cons_append, List.nil_append]
  refine ⟨fun l H' => ∃ k : Nat, k ≤ 8 ∧ l = [.bool false, .int .i64 (k : Nat)] ∧ H' = H, fun l _ => (8 - intOf (l.getD 1 undef)).toNat, ⟨0, by omega, rfl, rfl⟩, ?_⟩
  rintro vals H' - ⟨k, hk, rfl, hHH⟩
  subst hHH
  simp only [List.cons_append, List.nil_append]
  refine den_rq ⟨_, rfl⟩ (den_br (b := decide ((k : Int) < 8)) rfl (fun hl => ?_) (fun hl => ?_))
  · have hl : k < 8 := by simp at hl; omega
    have e3 : IntKind.i64.wrap ((k : Int) + 1) = ((k + 1 : Nat) : Int) := i64n (k + 1) (by omega)
    refine den_rq ⟨_, _, rfl⟩ (den_rq ⟨?_, ?_⟩ (den_rq ⟨18446744073709551615, ?_⟩ (den_rq ?_ ⟨⟨k + 1, by omega, ?_, rfl⟩, ?_⟩)))
    · show (0 : Int) ≤ (k : Int); omega
    · show (k : Int) < 8; omega
    · simp only [rxs, iw, cell_minus hl]
    · simp only [Rq.holds, rxs, iw, cell_minus hl]; rfl
    · simp only [rxs, e3]
    · simp only [rxs, e3]; omega
  clear hl hk
  have hL := PH.le.refl H'
  refine den_call (mk_says _ (-1)) rfl ?_
  rintro _ H1 ⟨b, rfl, hle, hb⟩
  refine ⟨fun _ => hle, ?_⟩
  replace hL := hL.trans hle
  clear hle
  refine den_det (e_int1) rfl ?_
  refine den_rq ⟨_, rfl, by decide⟩ (den_rq ⟨_, rfl, by decide⟩ (?_))
  refine den_eff (opn_callv (f := 46) (caps := #[ptr b]) (vs := [.int .i64 (-1), .int .i64 0]) op_works_9_5 rfl rfl ent_says1 (con_says1 _ _ _ hb)) rfl ?_
  rintro _ H2 ⟨rfl, rfl⟩
  refine ⟨fun _ => PH.le.refl _, den_rq (show Value.bool _ = Value.bool true from congrArg Value.bool (by decide)) ?_⟩
  clear hb
  simp only [List.cons_append, List.nil_append]
  refine den_call (mk_stops _ (6)) rfl ?_
  rintro _ H1 ⟨b, rfl, hle, hb⟩
  refine ⟨fun _ => hle, ?_⟩
  replace hL := hL.trans hle
  clear hle
  refine den_det (det_two (63) (by omega) (by omega)) rfl ?_
  refine den_det (e_int2) rfl ?_
  refine den_rq ⟨_, rfl, by decide⟩ (den_rq ⟨_, rfl, by decide⟩ (?_))
  refine den_eff (opn_callv (f := 47) (caps := #[ptr b]) (vs := [.int .i64 0, .int .i64 6]) op_works_9_12 rfl rfl ent_stops1 (con_stops1 _ _ _ hb)) rfl ?_
  rintro _ H2 ⟨rfl, rfl⟩
  refine ⟨fun _ => PH.le.refl _, den_rq (show Value.bool _ = Value.bool true from congrArg Value.bool (by decide)) ?_⟩
  clear hb
  simp only [List.cons_append, List.nil_append]
  refine den_call (mk_fails _ (6)) rfl ?_
  rintro _ H1 ⟨b, rfl, hle, hb⟩
  refine ⟨fun _ => hle, ?_⟩
  replace hL := hL.trans hle
  clear hle
  refine den_det (det_most) rfl ?_
  refine den_det (e_add) rfl ?_
  refine den_rq ⟨_, rfl, by decide⟩ (den_rq ⟨_, rfl, by decide⟩ (?_))
  refine den_eff (opn_callv (f := 48) (caps := #[ptr b]) (vs := [wd 0, .int .i64 6]) op_works_9_21 rfl rfl ent_fails1 (con_fails1 _ _ _ hb)) rfl ?_
  rintro _ H2 ⟨rfl, rfl⟩
  refine ⟨fun _ => PH.le.refl _, den_rq (show Value.bool _ = Value.bool true from congrArg Value.bool (by simp)) ?_⟩
  clear hb
  simp only [List.cons_append, List.nil_append]
  refine den_call (mk_fails _ (6)) rfl ?_
  rintro _ H1 ⟨b, rfl, hle, hb⟩
  refine ⟨fun _ => hle, ?_⟩
  replace hL := hL.trans hle
  clear hle
  refine den_det (e_neg) (by simp only [rxs, least_eq]; try rfl) ?_
  refine den_rq ⟨_, rfl, by decide⟩ (den_rq ⟨_, rfl, by decide⟩ (?_))
  refine den_eff (opn_callv (f := 48) (caps := #[ptr b]) (vs := [wd 0, .int .i64 6]) op_works_9_29 rfl rfl ent_fails1 (con_fails1 _ _ _ hb)) rfl ?_
  rintro _ H2 ⟨rfl, rfl⟩
  refine ⟨fun _ => PH.le.refl _, den_rq (show Value.bool _ = Value.bool true from congrArg Value.bool (by simp)) ?_⟩
  clear hb
  simp only [List.cons_append, List.nil_append]
  refine den_det (det_two (510) (by omega) (by omega)) rfl ?_
  refine den_call (mk_is _ (rs (twoI 510))) rfl ?_
  rintro _ H1 ⟨b, rfl, hle, hb⟩
  refine ⟨fun _ => hle, ?_⟩
  replace hL := hL.trans hle
  clear hle
  refine den_det (det_two (255) (by omega) (by omega)) rfl ?_
  refine den_det (det_two (255) (by omega) (by omega)) rfl ?_
  refine den_det (e_mul1) rfl ?_
  refine den_rq ⟨_, rfl, by decide⟩ (den_rq ⟨_, rfl, by decide⟩ (?_))
  refine den_eff (opn_callv (f := 51) (caps := #[ptr b]) (vs := [iw (twoI 510), .int .i64 0]) op_works_9_39 rfl rfl ent_is1 (con_is1 _ _ _ hb)) rfl ?_
  rintro _ H2 ⟨rfl, rfl⟩
  refine ⟨fun _ => PH.le.refl _, den_rq (show Value.bool _ = Value.bool true from congrArg Value.bool (by simp)) ?_⟩
  clear hb
  simp only [List.cons_append, List.nil_append]
  refine den_call (mk_is _ (rs (-(HM : Int)))) (by simp only [rxs, least_eq]; try rfl) ?_
  rintro _ H1 ⟨b, rfl, hle, hb⟩
  refine ⟨fun _ => hle, ?_⟩
  replace hL := hL.trans hle
  clear hle
  refine den_det (det_two (256) (by omega) (by omega)) rfl ?_
  refine den_det (det_two (-255) (by omega) (by omega)) rfl ?_
  refine den_det (e_mul2) rfl ?_
  refine den_rq ⟨_, rfl, by decide⟩ (den_rq ⟨_, rfl, by decide⟩ (?_))
  refine den_eff (opn_callv (f := 51) (caps := #[ptr b]) (vs := [iw (-(HM : Int)), .int .i64 0]) op_works_9_49 rfl rfl ent_is1 (con_is1 _ _ _ hb)) rfl ?_
  rintro _ H2 ⟨rfl, rfl⟩
  refine ⟨fun _ => PH.le.refl _, den_rq (show Value.bool _ = Value.bool true from congrArg Value.bool (by simp)) ?_⟩
  clear hb
  simp only [List.cons_append, List.nil_append]
  refine den_call (mk_parts _ (-4) 1) rfl ?_
  rintro _ H1 ⟨b, c, rfl, hle, hb, hc⟩
  refine ⟨fun _ => hle, ?_⟩
  replace hL := hL.trans hle
  clear hle
  refine den_det (det_Of (-7) (by omega) (by omega)) rfl ?_
  refine den_det (det_Of (2) (by omega) (by omega)) rfl ?_
  refine den_det (e_div1) rfl ?_
  refine den_rq ⟨_, rfl, by decide⟩ (den_rq ⟨_, rfl, by decide⟩ (den_rq ⟨_, rfl, by decide⟩ (?_)))
  refine den_eff (opn_callv (f := 52) (caps := #[ptr b, ptr c]) (vs := [iw (-4), iw 1, .int .i64 0]) op_works_10_9 rfl rfl ent_parts1 (con_parts1 _ _ _ _ _ ⟨by omega, by omega⟩ ⟨by omega, by omega⟩ hb hc)) rfl ?_
  rintro _ H2 ⟨rfl, rfl⟩
  refine ⟨fun _ => PH.le.refl _, den_rq (show Value.bool _ = Value.bool true from congrArg Value.bool (by simp)) ?_⟩
  clear hb hc
  simp only [List.cons_append, List.nil_append]
  refine den_call (mk_parts _ (-3) 1) rfl ?_
  rintro _ H1 ⟨b, c, rfl, hle, hb, hc⟩
  refine ⟨fun _ => hle, ?_⟩
  replace hL := hL.trans hle
  clear hle
  refine den_det (det_Of (7) (by omega) (by omega)) rfl ?_
  refine den_det (det_Of (-2) (by omega) (by omega)) rfl ?_
  refine den_det (e_div2) rfl ?_
  refine den_rq ⟨_, rfl, by decide⟩ (den_rq ⟨_, rfl, by decide⟩ (den_rq ⟨_, rfl, by decide⟩ (?_)))
  refine den_eff (opn_callv (f := 52) (caps := #[ptr b, ptr c]) (vs := [iw (-3), iw 1, .int .i64 0]) op_works_10_19 rfl rfl ent_parts1 (con_parts1 _ _ _ _ _ ⟨by omega, by omega⟩ ⟨by omega, by omega⟩ hb hc)) rfl ?_
  rintro _ H2 ⟨rfl, rfl⟩
  refine ⟨fun _ => PH.le.refl _, den_rq (show Value.bool _ = Value.bool true from congrArg Value.bool (by simp)) ?_⟩
  clear hb hc
  simp only [List.cons_append, List.nil_append]
  refine den_call (mk_parts _ 4 1) rfl ?_
  rintro _ H1 ⟨b, c, rfl, hle, hb, hc⟩
  refine ⟨fun _ => hle, ?_⟩
  replace hL := hL.trans hle
  clear hle
  refine den_det (det_Of (-7) (by omega) (by omega)) rfl ?_
  refine den_det (det_Of (-2) (by omega) (by omega)) rfl ?_
  refine den_det (e_div3) rfl ?_
  refine den_rq ⟨_, rfl, by decide⟩ (den_rq ⟨_, rfl, by decide⟩ (den_rq ⟨_, rfl, by decide⟩ (?_)))
  refine den_eff (opn_callv (f := 52) (caps := #[ptr b, ptr c]) (vs := [iw 4, iw 1, .int .i64 0]) op_works_10_29 rfl rfl ent_parts1 (con_parts1 _ _ _ _ _ ⟨by omega, by omega⟩ ⟨by omega, by omega⟩ hb hc)) rfl ?_
  rintro _ H2 ⟨rfl, rfl⟩
  refine ⟨fun _ => PH.le.refl _, den_rq (show Value.bool _ = Value.bool true from congrArg Value.bool (by simp)) ?_⟩
  clear hb hc
  simp only [List.cons_append, List.nil_append]
  refine den_call (mk_ends _ (6)) rfl ?_
  rintro _ H1 ⟨b, rfl, hle, hb⟩
  refine ⟨fun _ => hle, ?_⟩
  replace hL := hL.trans hle
  clear hle
  refine den_det (e_div4) (by simp only [rxs, least_eq]; try rfl) ?_
  refine den_rq ⟨_, rfl, by decide⟩ (den_rq ⟨_, rfl, by decide⟩ (den_rq ⟨_, rfl, by decide⟩ (?_)))
  refine den_eff (opn_callv (f := 55) (caps := #[ptr b]) (vs := [wd 0, wd 0, .int .i64 6]) op_works_10_39 rfl rfl ent_ends1 (con_ends1 _ _ _ _ hb)) rfl ?_
  rintro _ H2 ⟨rfl, rfl⟩
  refine ⟨fun _ => PH.le.refl _, den_rq (show Value.bool _ = Value.bool true from congrArg Value.bool (by simp)) ?_⟩
  clear hb
  simp only [List.cons_append, List.nil_append]
  refine den_call (mk_ends _ (7)) rfl ?_
  rintro _ H1 ⟨b, rfl, hle, hb⟩
  refine ⟨fun _ => hle, ?_⟩
  replace hL := hL.trans hle
  clear hle
  refine den_det (e_div5) (by simp only [rxs, z_wide]; try rfl) ?_
  refine den_rq ⟨_, rfl, by decide⟩ (den_rq ⟨_, rfl, by decide⟩ (den_rq ⟨_, rfl, by decide⟩ (?_)))
  refine den_eff (opn_callv (f := 55) (caps := #[ptr b]) (vs := [wd 0, wd 0, .int .i64 7]) op_works_10_49 rfl rfl ent_ends1 (con_ends1 _ _ _ _ hb)) rfl ?_
  rintro _ H2 ⟨rfl, rfl⟩
  refine ⟨fun _ => PH.le.refl _, den_rq (show Value.bool _ = Value.bool true from congrArg Value.bool (by simp)) ?_⟩
  clear hb
  simp only [List.cons_append, List.nil_append]
  refine den_det (det_Of (6) (by omega) (by omega)) rfl ?_
  refine den_call (mk_is _ (rs 6)) rfl ?_
  rintro _ H1 ⟨b, rfl, hle, hb⟩
  refine ⟨fun _ => hle, ?_⟩
  replace hL := hL.trans hle
  clear hle
  refine den_det (det_Of (-12) (by omega) (by omega)) rfl ?_
  refine den_det (det_Of (18) (by omega) (by omega)) rfl ?_
  refine den_det (e_gcd1) rfl ?_
  refine den_rq ⟨_, rfl, by decide⟩ (den_rq ⟨_, rfl, by decide⟩ (?_))
  refine den_eff (opn_callv (f := 51) (caps := #[ptr b]) (vs := [iw 6, .int .i64 0]) op_works_11_9 rfl rfl ent_is1 (con_is1 _ _ _ hb)) rfl ?_
  rintro _ H2 ⟨rfl, rfl⟩
  refine ⟨fun _ => PH.le.refl _, den_rq (show Value.bool _ = Value.bool true from congrArg Value.bool (by simp)) ?_⟩
  clear hb
  simp only [List.cons_append, List.nil_append]
  refine den_call (mk_fails _ (6)) rfl ?_
  rintro _ H1 ⟨b, rfl, hle, hb⟩
  refine ⟨fun _ => hle, ?_⟩
  replace hL := hL.trans hle
  clear hle
  refine den_det (e_gcd2) (by simp only [rxs, z_wide, least_eq2]; try rfl) ?_
  refine den_rq ⟨_, rfl, by decide⟩ (den_rq ⟨_, rfl, by decide⟩ (?_))
  refine den_eff (opn_callv (f := 48) (caps := #[ptr b]) (vs := [wd 0, .int .i64 6]) op_works_11_18 rfl rfl ent_fails1 (con_fails1 _ _ _ hb)) rfl ?_
  rintro _ H2 ⟨rfl, rfl⟩
  refine ⟨fun _ => PH.le.refl _, den_rq (show Value.bool _ = Value.bool true from congrArg Value.bool (by simp)) ?_⟩
  clear hb
  simp only [List.cons_append, List.nil_append]
  refine den_call (mk_is _ (rs (-(HM : Int)))) (by simp only [rxs, least_eq]; try rfl) ?_
  rintro _ H1 ⟨b, rfl, hle, hb⟩
  refine ⟨fun _ => hle, ?_⟩
  replace hL := hL.trans hle
  clear hle
  refine den_det (det_Of (-2) (by omega) (by omega)) rfl ?_
  refine den_det (e_pow1) rfl ?_
  refine den_rq ⟨_, rfl, by decide⟩ (den_rq ⟨_, rfl, by decide⟩ (?_))
  refine den_eff (opn_callv (f := 51) (caps := #[ptr b]) (vs := [iw (-(HM : Int)), .int .i64 0]) op_works_11_27 rfl rfl ent_is1 (con_is1 _ _ _ hb)) rfl ?_
  rintro _ H2 ⟨rfl, rfl⟩
  refine ⟨fun _ => PH.le.refl _, den_rq (show Value.bool _ = Value.bool true from congrArg Value.bool (by simp)) ?_⟩
  clear hb
  simp only [List.cons_append, List.nil_append]
  refine den_call (mk_fails _ (6)) rfl ?_
  rintro _ H1 ⟨b, rfl, hle, hb⟩
  refine ⟨fun _ => hle, ?_⟩
  replace hL := hL.trans hle
  clear hle
  refine den_det (det_Of (2) (by omega) (by omega)) rfl ?_
  refine den_det (e_pow2) rfl ?_
  refine den_rq ⟨_, rfl, by decide⟩ (den_rq ⟨_, rfl, by decide⟩ (?_))
  refine den_eff (opn_callv (f := 48) (caps := #[ptr b]) (vs := [wd 0, .int .i64 6]) op_works_11_35 rfl rfl ent_fails1 (con_fails1 _ _ _ hb)) rfl ?_
  rintro _ H2 ⟨rfl, rfl⟩
  refine ⟨fun _ => PH.le.refl _, den_rq (show Value.bool _ = Value.bool true from congrArg Value.bool (by simp)) ?_⟩
  clear hb
  simp only [List.cons_append, List.nil_append]
  refine den_call (mk_is _ (rs 1)) rfl ?_
  rintro _ H1 ⟨b, rfl, hle, hb⟩
  refine ⟨fun _ => hle, ?_⟩
  replace hL := hL.trans hle
  clear hle
  refine den_det (e_pow3) (by simp only [rxs, z_wide]; try rfl) ?_
  refine den_rq ⟨_, rfl, by decide⟩ (den_rq ⟨_, rfl, by decide⟩ (?_))
  refine den_eff (opn_callv (f := 51) (caps := #[ptr b]) (vs := [iw 1, .int .i64 0]) op_works_11_44 rfl rfl ent_is1 (con_is1 _ _ _ hb)) rfl ?_
  rintro _ H2 ⟨rfl, rfl⟩
  refine ⟨fun _ => PH.le.refl _, den_rq (show Value.bool _ = Value.bool true from congrArg Value.bool (by simp)) ?_⟩
  clear hb
  simp only [List.cons_append, List.nil_append]
  refine den_det (det_Of (8) (by omega) (by omega)) rfl ?_
  refine den_call (mk_is _ (rs 8)) rfl ?_
  rintro _ H1 ⟨b, rfl, hle, hb⟩
  refine ⟨fun _ => hle, ?_⟩
  replace hL := hL.trans hle
  clear hle
  refine den_det (det_Of (80) (by omega) (by omega)) rfl ?_
  refine den_det (e_root1) rfl ?_
  refine den_rq ⟨_, rfl, by decide⟩ (den_rq ⟨_, rfl, by decide⟩ (?_))
  refine den_eff (opn_callv (f := 51) (caps := #[ptr b]) (vs := [wd 8, .int .i64 0]) op_works_12_8 rfl rfl ent_is1 (con_is1 _ _ _ hb)) rfl ?_
  rintro _ H2 ⟨rfl, rfl⟩
  refine ⟨fun _ => PH.le.refl _, den_rq (show Value.bool _ = Value.bool true from congrArg Value.bool (by rw [show rs 8 = 8 from rs_small (n := 8) (by omega)]; simp)) ?_⟩
  clear hb
  simp only [List.cons_append, List.nil_append]
  refine den_det (det_Of (9) (by omega) (by omega)) rfl ?_
  refine den_call (mk_is _ (rs 9)) rfl ?_
  rintro _ H1 ⟨b, rfl, hle, hb⟩
  refine ⟨fun _ => hle, ?_⟩
  replace hL := hL.trans hle
  clear hle
  refine den_det (det_Of (81) (by omega) (by omega)) rfl ?_
  refine den_det (e_root2) rfl ?_
  refine den_rq ⟨_, rfl, by decide⟩ (den_rq ⟨_, rfl, by decide⟩ (?_))
  refine den_eff (opn_callv (f := 51) (caps := #[ptr b]) (vs := [wd 9, .int .i64 0]) op_works_12_17 rfl rfl ent_is1 (con_is1 _ _ _ hb)) rfl ?_
  rintro _ H2 ⟨rfl, rfl⟩
  refine ⟨fun _ => PH.le.refl _, den_rq (show Value.bool _ = Value.bool true from congrArg Value.bool (by rw [show rs 9 = 9 from rs_small (n := 9) (by omega)]; simp)) ?_⟩
  clear hb
  simp only [List.cons_append, List.nil_append]
  refine den_call (mk_fails _ (2)) rfl ?_
  rintro _ H1 ⟨b, rfl, hle, hb⟩
  refine ⟨fun _ => hle, ?_⟩
  replace hL := hL.trans hle
  clear hle
  refine den_det (e_root3) rfl ?_
  refine den_rq ⟨_, rfl, by decide⟩ (den_rq ⟨_, rfl, by decide⟩ (?_))
  refine den_eff (opn_callv (f := 48) (caps := #[ptr b]) (vs := [wd 0, .int .i64 2]) op_works_12_25 rfl rfl ent_fails1 (con_fails1 _ _ _ hb)) rfl ?_
  rintro _ H2 ⟨rfl, rfl⟩
  refine ⟨fun _ => PH.le.refl _, den_rq (show Value.bool _ = Value.bool true from congrArg Value.bool (by simp)) ?_⟩
  clear hb
  simp only [List.cons_append, List.nil_append]
  refine den_det (det_Of (-17) (by omega) (by omega)) rfl ?_
  refine den_call (mk_is _ (rs (-17))) rfl ?_
  rintro _ H1 ⟨b, rfl, hle, hb⟩
  refine ⟨fun _ => hle, ?_⟩
  replace hL := hL.trans hle
  clear hle
  refine den_det (e_parse) rfl ?_
  refine den_rq ⟨_, rfl, by decide⟩ (den_rq ⟨_, rfl, by decide⟩ (?_))
  refine den_eff (opn_callv (f := 51) (caps := #[ptr b]) (vs := [iw (-17), .int .i64 0]) op_works_12_33 rfl rfl ent_is1 (con_is1 _ _ _ hb)) rfl ?_
  rintro v H2 ⟨hv, rfl⟩
  refine ⟨fun _ => PH.le.refl _, ?_⟩
  have hv : v = .bool true := by rw [hv]; simp
  subst hv
  clear hb
  simp only [List.cons_append, List.nil_append]
  refine ⟨fun l h' => ∃ k : Nat, k ≤ 3 ∧ l = [.bool false, .int .i64 (k : Nat)] ∧ PH.le H' h', fun l _ => (3 - intOf (l.getD 1 undef)).toNat, ⟨0, by omega, rfl, hL⟩, ?_⟩
  rintro vals H3 - ⟨k, hk, rfl, hL⟩
  simp only [List.cons_append, List.nil_append]
  refine den_rq ⟨_, rfl⟩ (den_br (b := decide ((k : Int) < 3)) rfl (fun hl => ?_) (fun hl => ?_))
  · have hl : k < 3 := by simp at hl; omega
    have e3 : IntKind.i64.wrap ((k : Int) + 1) = ((k + 1 : Nat) : Int) := i64n (k + 1) (by omega)
    refine den_rq ⟨_, _, rfl⟩ (den_rq ⟨?_, ?_⟩ (den_call (mk_fails _ 5) rfl ?_))
    · show (0 : Int) ≤ (k : Int); omega
    · show (k : Int) < 3; omega
    rintro _ H4 ⟨b, rfl, hle, hb⟩
    refine ⟨(fun h => nomatch h), den_det (e_bad (sK k) (sK_len k) (sK_bad k)) ?_ (den_rq ⟨_, rfl, by decide⟩ (den_rq ⟨_, rfl, by decide⟩ ?_))⟩
    · show [(spl (spl (spl (zeroV Try.prog 60).cells 0 [st [45, 48]]) 1 [st [48, 49, 55]]) 2 [st []]).getD (0 + 1 * ((k : Nat) : Int).toNat) undef] = _
      rw [Int.toNat_natCast, Nat.one_mul, Nat.zero_add, arr3 hl]
    refine den_eff (opn_callv (f := 48) (caps := #[ptr b]) (vs := [wd 0, .int .i64 5]) op_works_16_5 rfl rfl ent_fails1 (con_fails1 _ _ _ hb)) rfl ?_
    rintro v H5 ⟨hv, rfl⟩
    refine ⟨(fun h => nomatch h), ?_⟩
    have hv : v = .bool true := by rw [hv]; simp
    subst hv
    refine den_rq ⟨_, rfl⟩ (den_rq rfl ⟨⟨k + 1, by omega, ?_, hL.trans hle⟩, ?_⟩)
    · simp only [rxs, e3]
    · simp only [rxs, e3]; omega
  · exact den_ret rfl ⟨rfl, hL⟩
end Go.Proofs.Ytimnofpofbnjbaa

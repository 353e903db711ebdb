/- Laws of chapter 01 with drafts: the walks. Made by mkLoA.sh. -/
import Derived.Test.YtmndieeelnicpaaRRLpB
import Derived.Test.YtmndieeelnicpaaRRLoT
namespace Go.Proofs.YtmndieeelnicpaaRR
open Go.RowKit Go.RX Go.WD

section
variable {o : Oper} {x y : Operand} {va vb : Value} {a b : Nat}
theorem eqw_yes (ho : o.op = .binOp .eql 24 x y 24) (hva : va = wd a) (hvb : vb = wd b) (hx : argEv [x, y] [va, vb] x = va) (hy : argEv [x, y] [va, vb] y = vb) (h : a % M = b % M) : Yld Try.prog o [va, vb] (.bool true) := by
  have := eq_wide ho hva hvb hx hy
  rwa [decide_eq_true h] at this
theorem new_no (ho : o.op = .binOp .neq 24 x y 24) (hva : va = wd a) (hvb : vb = wd b) (hx : argEv [x, y] [va, vb] x = va) (hy : argEv [x, y] [va, vb] y = vb) (h : a % M = b % M) : Yld Try.prog o [va, vb] (.bool false) := by
  have := ne_wide ho hva hvb hx hy
  rwa [decide_eq_true h] at this
end
theorem win_lt {L : Nat} {z : Int} (h : Win L z) (hL : 2 ≤ L) : z.natAbs < 2 ^ (L + 1) := by
  have h4 : 2 ^ 2 ≤ 2 ^ L := Nat.pow_le_pow_right (by omega) hL
  rw [Nat.pow_succ]; unfold Win at h; omega
theorem fits_abs {z : Int} {k : Nat} (h : z.natAbs < 2 ^ k) (hk : k ≤ 511) : Fits z := by
  have := pow_le_HM hk; unfold Fits; omega
theorem abs_mul {x y : Int} {i j : Nat} (hx : x.natAbs < 2 ^ i) (hy : y.natAbs < 2 ^ j) : (x * y).natAbs < 2 ^ (i + j) := by
  rw [Int.natAbs_mul, Nat.pow_add]; exact Nat.mul_lt_mul'' hx hy
theorem abs_add {x y : Int} {i : Nat} (hx : x.natAbs < 2 ^ i) (hy : y.natAbs < 2 ^ i) : (x + y).natAbs < 2 ^ (i + 1) := by rw [Nat.pow_succ]; omega
theorem abs_up {x : Int} {i j : Nat} (hx : x.natAbs < 2 ^ i) (h : i ≤ j) : x.natAbs < 2 ^ j := Nat.lt_of_lt_of_le hx (Nat.pow_le_pow_right (by omega) h)
theorem rs_zero {c : Int} (h : Fits c) : rs c % M = 0 % M ↔ c = 0 := by
  rw [rs_mod, Nat.zero_mod, ← rs_inj h (show Fits 0 from fitsS (by omega) (by omega))]
  rfl
theorem Sub_iw {x y : Int} (hx : Fits x) (hy : Fits y) : Det Try.prog 28 [iw x, iw y] (told (x - y)) := by
  have := det_Sub (rs x) (rs y); rwa [toI_rs hx, toI_rs hy] at this
theorem Abs_iw {x : Int} (hx : Fits x) : Det Try.prog 24 [iw x] (told (x.natAbs : Int)) := by
  have := det_Abs (rs x); rwa [toI_rs hx] at this
theorem Sign_iw {x : Int} (hx : Fits x) : Det Try.prog 39 [iw x] (.int .i64 (sgI x 0)) := by
  have := det_Sign (rs x); rwa [toI_rs hx] at this
theorem fmul {x y : Int} {i j : Nat} (hx : x.natAbs < 2 ^ i) (hy : y.natAbs < 2 ^ j) (h : i + j ≤ 511) : Fits (x * y) := fits_abs (abs_mul hx hy) h
theorem fring {x y z : Int} {i j : Nat} (hx : x.natAbs < 2 ^ i) (hy : y.natAbs < 2 ^ i) (hz : z.natAbs < 2 ^ j) (h : i + j + 1 ≤ 511) : Fits (x * z + y * z) := fits_abs (abs_add (abs_mul hx hz) (abs_mul hy hz)) h
/-- What divides both. -/
theorem gcd_zero {a b : Int} (h : ((Nat.gcd a.natAbs b.natAbs : Nat) : Int) = 0) : a = 0 ∧ b = 0 := by
  have h : Nat.gcd a.natAbs b.natAbs = 0 := by omega
  have := Nat.gcd_eq_zero_iff.1 h
  omega
theorem gcd_times (a b c : Int) : Nat.gcd (a * c).natAbs (b * c).natAbs = (((Nat.gcd a.natAbs b.natAbs : Nat) : Int) * c).natAbs := by
  rw [Int.natAbs_mul, Int.natAbs_mul, Int.natAbs_mul, Nat.gcd_mul_right, Int.natAbs_natCast]
theorem gcd_le' {a b : Int} {k : Nat} (ha : a.natAbs < 2 ^ k) (hb : b.natAbs < 2 ^ k) : Nat.gcd a.natAbs b.natAbs < 2 ^ k := by
  rcases Nat.eq_zero_or_pos a.natAbs with h | h
  · rw [h, Nat.gcd_zero_left]; exact hb
  · exact Nat.lt_of_le_of_lt (Nat.gcd_le_left _ h) ha

set_option maxRecDepth 100000 in
set_option maxHeartbeats 1000000 in
theorem con_wideDivides {H : PH} {v0 v1 v2 : Value} (h0 : Dr H v0) (h1 : Dr H v1) (h2 : Dr H v2) : Con Try.prog 8 [v0, v1, v2] H fun u H' => u = .bool true ∧ PH.le H H' := by
  have r0 := h0.rq
  have r1 := h1.rq
  have r2 := h2.rq
  obtain ⟨b0, w0, q0, k0, rfl, -, -⟩ := id h0
  obtain ⟨b1, w1, q1, k1, rfl, -, -⟩ := id h1
  obtain ⟨b2, w2, q2, k2, rfl, -, -⟩ := id h2
  refine con_of_tree mixed tr_WideDivides np_WideDivides rfl (den_rq r0 (den_rq r1 (den_rq r2 (den_call (con_works H) rfl ?_))))
  rintro _ H1 ⟨rfl, l1⟩
  simp only [List.cons_append, List.nil_append]
  refine ⟨fun _ => l1, den_rq ⟨_, rfl⟩ (den_rq rfl (den_call (con_rWithin 200 (by omega) (by omega) (h0.mono l1)) rfl ?_))⟩
  rintro _ H2 ⟨l2, a, rfl, wa⟩
  simp only [List.cons_append, List.nil_append]
  refine ⟨fun _ => l2, den_call (con_rWithin 200 (by omega) (by omega) (h1.mono (l1.trans l2))) rfl ?_⟩
  rintro _ H3 ⟨l3, b, rfl, wb⟩
  simp only [List.cons_append, List.nil_append]
  refine ⟨fun _ => l3, den_call (con_rSmall (h2.mono (l1.trans (l2.trans l3)))) rfl ?_⟩
  rintro _ H4 ⟨rfl, c, rfl, c0, c1⟩
  simp only [List.cons_append, List.nil_append]
  have la := win_lt wa (by omega)
  have lb := win_lt wb (by omega)
  have lc : c.natAbs < 2 ^ 20 := by omega
  have fa := fits_abs la (by omega)
  have fb := fits_abs lb (by omega)
  have fc := fits_abs lc (by omega)
  have hgl := gcd_le' la lb
  have hgt := gcd_times a b c
  have hg0 := gcd_zero (a := a) (b := b)
  have hga : ((Nat.gcd a.natAbs b.natAbs : Nat) : Int) ∣ a := Int.ofNat_dvd_left.2 (Nat.gcd_dvd_left _ _)
  have hgb : ((Nat.gcd a.natAbs b.natAbs : Nat) : Int) ∣ b := Int.ofNat_dvd_left.2 (Nat.gcd_dvd_right _ _)
  have dg := Gcd_iw fa fb
  generalize Nat.gcd a.natAbs b.natAbs = g at hgl hgt hg0 hga hgb dg
  have lg : ((g : Int)).natAbs < 2 ^ (200 + 1) := by rw [Int.natAbs_natCast]; exact hgl
  have fg := fits_abs lg (by omega)
  rw [tok fg] at dg
  have fac := fmul la lc (by omega)
  have fbc := fmul lb lc (by omega)
  have fgc := fmul lg lc (by omega)
  have dac := Mul_iw fa fc
  rw [tok fac] at dac
  have dbc := Mul_iw fb fc
  rw [tok fbc] at dbc
  have dgc := Mul_iw fg fc
  rw [tok fgc] at dgc
  have dG := Gcd_iw fac fbc
  rw [hgt] at dG
  have dA := Abs_iw fgc
  have fG : Fits ((((g : Int) * c).natAbs : Nat) : Int) := fits_abs (k := 200 + 1 + 20) (by rw [Int.natAbs_natCast]; exact abs_mul lg lc) (by omega)
  rw [tok fG] at dG
  rw [tok fG] at dA
  refine ⟨fun _ => PH.le.refl _, den_det (det_Of c (by omega) (by omega)) rfl (den_rq ⟨words_size _, words_one _⟩ (den_rq ⟨words_size _, words_one _⟩ (den_rq ⟨words_size _, words_one _⟩ (den_det (dg) rfl (den_rq ⟨_, rfl, s20⟩ (den_rq ⟨_, rfl, s21⟩ (den_rq ⟨words_size _, words_one _⟩ (den_rq ⟨_, rfl⟩ (den_rq rfl (den_prim ((eq_wide (a := rs (g : Int)) (b := 0) op_WideDivides_7_2 rfl z_wide rfl rfl).rds _) rfl (den_rq ⟨_, rfl⟩ (den_br (b := decide (rs (g : Int) % M = 0 % M)) rfl (fun hb => ?_) (fun hb => ?_)))))))))))))⟩
  · have hz := (rs_zero fg).1 (of_decide_eq_true hb)
    obtain ⟨za, zb⟩ := hg0 hz
    exact den_prim ((eqw_yes (a := rs a) (b := rs (g : Int)) op_WideDivides_8_2 rfl rfl rfl rfl (by rw [za, hz])).rds _) rfl (den_rq rfl (den_prim ((eqw_yes (a := rs b) (b := rs (g : Int)) op_WideDivides_8_6 rfl rfl rfl rfl (by rw [zb, hz])).rds _) rfl (den_ret rfl ⟨rfl, l1.trans (l2.trans l3)⟩)))
  · have hz : (g : Int) ≠ 0 := fun e => of_decide_eq_false hb ((rs_zero fg).2 e)
    have da := Div_iw fa fg
    rw [divV_fits hz (fits_abs (Nat.lt_of_le_of_lt (Int.natAbs_ediv_le_natAbs a g) la) (by omega)), Int.emod_eq_zero_of_dvd hga] at da
    have db := Div_iw fb fg
    rw [divV_fits hz (fits_abs (Nat.lt_of_le_of_lt (Int.natAbs_ediv_le_natAbs b g) lb) (by omega)), Int.emod_eq_zero_of_dvd hgb] at db
    have ds := Sign_iw fg
    rw [show sgI (g : Int) 0 = 1 from by unfold sgI; rw [if_neg (by omega), if_neg hz]] at ds
    refine den_det (da) rfl (den_rq ⟨_, rfl, s30⟩ (den_rq ⟨_, rfl, s31⟩ (den_rq ⟨_, rfl, s32⟩ (den_rq ⟨words_size _, words_one _⟩ (den_rq ⟨words_size _, words_one _⟩ (den_det (db) rfl (den_rq ⟨_, rfl, s30⟩ (den_rq ⟨_, rfl, s31⟩ (den_rq ⟨_, rfl, s32⟩ (den_rq ⟨words_size _, words_one _⟩ (den_rq ⟨words_size _, words_one _⟩ (den_det (dac) rfl (den_rq ⟨_, rfl, s20⟩ (den_rq ⟨_, rfl, s21⟩ (den_rq ⟨words_size _, words_one _⟩ (den_det (dbc) rfl (?_)))))))))))))))))
    simp only [List.cons_append, List.nil_append]
    refine den_rq ⟨_, rfl, s20⟩ (den_rq ⟨_, rfl, s21⟩ (den_rq ⟨words_size _, words_one _⟩ (den_det (dG) rfl (den_rq ⟨_, rfl, s20⟩ (den_rq ⟨_, rfl, s21⟩ (den_rq ⟨words_size _, words_one _⟩ (den_det (dgc) rfl (den_rq ⟨_, rfl, s20⟩ (den_rq ⟨_, rfl, s21⟩ (den_rq ⟨words_size _, words_one _⟩ (den_det (dA) rfl (den_rq ⟨_, rfl, s20⟩ (den_rq ⟨_, rfl, s21⟩ (den_rq ⟨words_size _, words_one _⟩ (den_rq ⟨_, rfl⟩ (den_rq rfl (den_rq ⟨_, rfl⟩ (den_rq rfl (den_rq ⟨_, rfl⟩ (den_rq rfl (den_rq ⟨_, rfl⟩ (den_rq rfl (den_rq ⟨_, rfl⟩ (den_rq rfl (den_rq ⟨_, rfl⟩ (den_rq rfl (den_rq ⟨_, rfl⟩ (den_rq rfl (den_prim ((eqw_yes (a := rs 0) (b := 0) op_WideDivides_16_29 rfl z_wide rfl rfl rfl).rds _) rfl (?_))))))))))))))))))))))))))))))
    simp only [List.cons_append, List.nil_append]
    exact den_rq rfl (den_prim ((eqw_yes (a := rs 0) (b := 0) op_WideDivides_16_34 rfl z_wide rfl rfl rfl).rds _) rfl (den_rq rfl (den_prim ((eqw_yes (a := rs ((((g : Int) * c).natAbs : Nat) : Int)) (b := rs ((((g : Int) * c).natAbs : Nat) : Int)) op_WideDivides_16_39 rfl rfl rfl rfl rfl).rds _) rfl (den_rq rfl (den_det (ds) rfl (den_rq ⟨_, rfl⟩ (den_ret rfl ⟨rfl, l1.trans (l2.trans l3)⟩)))))))
theorem div_back (a c : Int) (fa : Fits a) : ∃ (q r : Nat) (e : Int), divV (a * c) c = .tuple #[wd q, wd r, .int .i64 e] ∧ (c = 0 → q = 0 ∧ r = 0 ∧ e = 7) ∧ (c ≠ 0 → q = rs a ∧ r = rs 0 ∧ e = 0) := by
  by_cases hc : c = 0
  · refine ⟨0, 0, 7, ?_, fun _ => ⟨rfl, rfl, rfl⟩, fun h => absurd hc h⟩
    unfold divV; rw [if_pos hc]
  · refine ⟨rs a, rs 0, 0, ?_, fun h => absurd h hc, fun _ => ⟨rfl, rfl, rfl⟩⟩
    have e1 : a * c / c = a := Int.mul_ediv_cancel a hc
    rw [divV_fits hc (by rw [e1]; exact fa), e1, Int.mul_emod_left]
    rfl

set_option maxRecDepth 100000 in
set_option maxHeartbeats 1000000 in
theorem con_wideRing {H : PH} {v0 v1 v2 : Value} (h0 : Dr H v0) (h1 : Dr H v1) (h2 : Dr H v2) : Con Try.prog 10 [v0, v1, v2] H fun u H' => u = .bool true ∧ PH.le H H' := by
  have r0 := h0.rq
  have r1 := h1.rq
  have r2 := h2.rq
  obtain ⟨b0, w0, q0, k0, rfl, -, -⟩ := id h0
  obtain ⟨b1, w1, q1, k1, rfl, -, -⟩ := id h1
  obtain ⟨b2, w2, q2, k2, rfl, -, -⟩ := id h2
  refine con_of_tree mixed tr_WideRing np_WideRing rfl (den_rq r0 (den_rq r1 (den_rq r2 (den_call (con_works H) rfl ?_))))
  rintro _ H1 ⟨rfl, l1⟩
  simp only [List.cons_append, List.nil_append]
  refine ⟨fun _ => l1, den_rq ⟨_, rfl⟩ (den_rq rfl (den_call (con_rWithin 240 (by omega) (by omega) (h0.mono l1)) rfl ?_))⟩
  rintro _ H2 ⟨l2, a, rfl, wa⟩
  simp only [List.cons_append, List.nil_append]
  refine ⟨fun _ => l2, den_call (con_rWithin 240 (by omega) (by omega) (h1.mono (l1.trans l2))) rfl ?_⟩
  rintro _ H3 ⟨l3, b, rfl, wb⟩
  simp only [List.cons_append, List.nil_append]
  refine ⟨fun _ => l3, den_call (con_rWithin 250 (by omega) (by omega) (h2.mono (l1.trans (l2.trans l3)))) rfl ?_⟩
  rintro _ H4 ⟨l4, c, rfl, wc⟩
  simp only [List.cons_append, List.nil_append]
  refine ⟨fun _ => l4, den_rq ⟨words_size _, words_one _⟩ (den_rq ⟨words_size _, words_one _⟩ (den_rq ⟨words_size _, words_one _⟩ (?_)))⟩
  have la := win_lt wa (by omega)
  have lb := win_lt wb (by omega)
  have lc := win_lt wc (by omega)
  have lS := abs_add la lb
  have fa := fits_abs la (by omega)
  have fb := fits_abs lb (by omega)
  have fc := fits_abs lc (by omega)
  have fS := fits_abs lS (by omega)
  have fac := fmul la lc (by omega)
  have fbc := fmul lb lc (by omega)
  have fP := fring la lb lc (by omega)
  have d1 := Add_iw fa fb
  rw [tok fS] at d1
  have d2 := Add_iw fb fa
  rw [Int.add_comm b a, tok fS] at d2
  have d3 := Sub_iw fS fb
  rw [show a + b - b = a from by omega, tok fa] at d3
  have d4 := Mul_iw fa fc
  rw [tok fac] at d4
  have d5 := Mul_iw fc fa
  rw [Int.mul_comm c a, tok fac] at d5
  have d6 := Mul_iw fb fc
  rw [tok fbc] at d6
  have d7 := Add_iw fac fbc
  rw [tok fP] at d7
  have d8 := Mul_iw fS fc
  rw [Int.add_mul, tok fP] at d8
  obtain ⟨q, r, e, hqr, hq0, hq1⟩ : ∃ (q r : Nat) (e : Int), divV (a * c) c = .tuple #[wd q, wd r, .int .i64 e] ∧ (c = 0 → q = 0 ∧ r = 0 ∧ e = 7) ∧ (c ≠ 0 → q = rs a ∧ r = rs 0 ∧ e = 0) := div_back a c fa
  have d9 := Div_iw fac fc
  rw [hqr] at d9
  refine den_det (d1) rfl (den_rq ⟨_, rfl, s20⟩ (den_rq ⟨_, rfl, s21⟩ (den_rq ⟨words_size _, words_one _⟩ (den_det (d2) rfl (den_rq ⟨_, rfl, s20⟩ (den_rq ⟨_, rfl, s21⟩ (den_rq ⟨words_size _, words_one _⟩ (den_det (d3) rfl (den_rq ⟨_, rfl, s20⟩ (den_rq ⟨_, rfl, s21⟩ (den_rq ⟨words_size _, words_one _⟩ (den_rq ⟨_, rfl⟩ (den_rq rfl (den_rq ⟨_, rfl⟩ (den_rq rfl (den_rq ⟨_, rfl⟩ (den_rq rfl (den_prim ((new_no (a := rs (a + b)) (b := rs (a + b)) op_WideRing_7_13 rfl rfl rfl rfl rfl).rds _) rfl (?_)))))))))))))))))))
  simp only [List.cons_append, List.nil_append]
  refine den_rq rfl (den_prim ((new_no (a := rs a) (b := rs a) op_WideRing_7_18 rfl rfl rfl rfl rfl).rds _) rfl (den_rq rfl (den_det (d4) rfl (den_rq ⟨_, rfl, s20⟩ (den_rq ⟨_, rfl, s21⟩ (den_rq ⟨words_size _, words_one _⟩ (den_det (d5) rfl (den_rq ⟨_, rfl, s20⟩ (den_rq ⟨_, rfl, s21⟩ (den_rq ⟨words_size _, words_one _⟩ (den_det (d6) rfl (den_rq ⟨_, rfl, s20⟩ (den_rq ⟨_, rfl, s21⟩ (den_rq ⟨words_size _, words_one _⟩ (den_det (d7) rfl (?_))))))))))))))))
  simp only [List.cons_append, List.nil_append]
  refine den_rq ⟨_, rfl, s20⟩ (den_rq ⟨_, rfl, s21⟩ (den_rq ⟨words_size _, words_one _⟩ (den_det (d8) rfl (den_rq ⟨_, rfl, s20⟩ (den_rq ⟨_, rfl, s21⟩ (den_rq ⟨words_size _, words_one _⟩ (den_rq ⟨_, rfl⟩ (den_rq rfl (den_rq ⟨_, rfl⟩ (den_rq rfl (den_rq ⟨_, rfl⟩ (den_rq rfl (den_rq ⟨_, rfl⟩ (den_rq rfl (den_rq ⟨_, rfl⟩ (den_rq rfl (den_prim ((new_no (a := rs (a * c)) (b := rs (a * c)) op_WideRing_14_21 rfl rfl rfl rfl rfl).rds _) rfl (?_))))))))))))))))))
  simp only [List.cons_append, List.nil_append]
  refine den_rq rfl (den_prim ((new_no (a := rs (a * c + b * c)) (b := rs (a * c + b * c)) op_WideRing_14_26 rfl rfl rfl rfl rfl).rds _) rfl (den_rq rfl (den_det (d9) rfl (den_rq ⟨_, rfl, s30⟩ (den_rq ⟨_, rfl, s31⟩ (den_rq ⟨_, rfl, s32⟩ (den_rq ⟨words_size _, words_one _⟩ (den_rq ⟨words_size _, words_one _⟩ (den_prim ((eq_wide (a := rs c) (b := 0) op_WideRing_17_2 rfl z_wide rfl rfl).rds _) rfl (den_rq ⟨_, rfl⟩ (den_br (b := decide (rs c % M = 0 % M)) rfl (fun hb => ?_) (fun hb => ?_))))))))))))
  · obtain ⟨rfl, rfl, rfl⟩ := hq0 ((rs_zero fc).1 (of_decide_eq_true hb))
    refine den_call (mk_ends _ 7) rfl ?_
    rintro _ H5 ⟨cb, rfl, hle, hbk⟩
    simp only [List.cons_append, List.nil_append]
    refine ⟨fun _ => hle, den_eff (opn_callv (f := 80) (caps := #[ptr cb]) (vs := [wd 0, wd 0, .int .i64 7]) op_WideRing_18_4 rfl rfl ent_ends1 (con_ends1 _ _ _ _ hbk)) rfl ?_⟩
    rintro v H6 ⟨hv, rfl⟩
    simp only [List.cons_append, List.nil_append]
    exact ⟨fun _ => PH.le.refl _, den_ret rfl ⟨by show v = _; rw [hv]; simp, l1.trans (l2.trans (l3.trans (l4.trans hle)))⟩⟩
  · have hz : c ≠ 0 := fun e => of_decide_eq_false hb ((rs_zero fc).2 e)
    obtain ⟨rfl, rfl, rfl⟩ := hq1 hz
    have lq := Nat.lt_of_le_of_lt (Int.natAbs_ediv_le_natAbs a c) la
    have fq := fits_abs lq (by omega)
    have em := Int.emod_nonneg a hz
    have el := Int.emod_lt a hz
    have ee : a / c * c + a % c = a := by rw [Int.mul_comm]; exact Int.mul_ediv_add_emod a c
    have hHM := pow_le_HM (show 500 ≤ 511 by omega)
    have ffr : Fits (a % c) := by unfold Fits at fc ⊢; omega
    have ffq := fmul lq lc (by omega)
    have fn : Fits ((c.natAbs : Nat) : Int) := fits_abs (by rw [Int.natAbs_natCast]; exact lc) (by omega)
    have g1 := Div_iw fa fc
    rw [divV_fits hz fq] at g1
    have g2 := Mul_iw fq fc
    rw [tok ffq] at g2
    have g3 := Add_iw ffq ffr
    rw [ee, tok fa] at g3
    have g4 := Abs_iw fc
    rw [tok fn] at g4
    have g5 := Sign_iw ffr
    have g6 := Cmp_iw ffr fn
    have hsg : sgI (a % c) 0 ≥ 0 := by unfold sgI; rw [if_neg (by omega)]; split <;> omega
    have hsl : sgI (a % c) ((c.natAbs : Nat) : Int) < 0 := by unfold sgI; rw [if_pos (by omega)]; omega
    refine den_det (g1) rfl (den_rq ⟨_, rfl, s30⟩ (den_rq ⟨_, rfl, s31⟩ (den_rq ⟨_, rfl, s32⟩ (den_rq ⟨words_size _, words_one _⟩ (den_rq ⟨words_size _, words_one _⟩ (den_det (g2) rfl (den_rq ⟨_, rfl, s20⟩ (den_rq ⟨_, rfl, s21⟩ (den_rq ⟨words_size _, words_one _⟩ (den_det (g3) rfl (den_rq ⟨_, rfl, s20⟩ (den_rq ⟨_, rfl, s21⟩ (den_rq ⟨words_size _, words_one _⟩ (den_det (g4) rfl (?_)))))))))))))))
    simp only [List.cons_append, List.nil_append]
    refine den_rq ⟨_, rfl, s20⟩ (den_rq ⟨_, rfl, s21⟩ (den_rq ⟨words_size _, words_one _⟩ (den_rq ⟨_, rfl⟩ (den_rq rfl (den_rq ⟨_, rfl⟩ (den_rq rfl (den_rq ⟨_, rfl⟩ (den_rq rfl (den_rq ⟨_, rfl⟩ (den_rq rfl (den_rq ⟨_, rfl⟩ (den_rq rfl (den_prim ((eqw_yes (a := rs a) (b := rs a) op_WideRing_23_21 rfl rfl rfl rfl rfl).rds _) rfl (den_rq rfl (den_prim ((eqw_yes (a := rs 0) (b := 0) op_WideRing_23_26 rfl z_wide rfl rfl rfl).rds _) rfl (?_))))))))))))))))
    simp only [List.cons_append, List.nil_append]
    exact den_rq rfl (den_prim ((eqw_yes (a := rs a) (b := rs a) op_WideRing_23_31 rfl rfl rfl rfl rfl).rds _) rfl (den_rq rfl (den_det (g5) rfl (den_rq ⟨_, rfl⟩ (den_rq (congrArg Value.bool (decide_eq_true hsg)) (den_det (g6) rfl (den_rq ⟨_, rfl⟩ (den_ret rfl ⟨congrArg Value.bool (decide_eq_true hsl), l1.trans (l2.trans (l3.trans l4))⟩))))))))

theorem abs_pow {b : Int} {n : Nat} (hb : b.natAbs ≤ 2 ^ 10) {k : Nat} (hk : k = 10 * n) : (b ^ n).natAbs ≤ 2 ^ k := by
  subst hk
  rw [Int.natAbs_pow, Nat.pow_mul]
  exact Nat.pow_le_pow_left hb n
theorem fits_pow {b : Int} {n : Nat} (hb : b.natAbs ≤ 2 ^ 10) (hn : n ≤ 50) : Fits (b ^ n) := by
  have h1 := abs_pow (n := n) hb rfl
  have h2 := pow_lt_HM (show 10 * n < 511 by omega)
  unfold Fits; omega
theorem powV_ok {b : Int} {n : Nat} (hb : b.natAbs ≤ 2 ^ 10) (hn : n ≤ 50) : powV b (n : Int) = .tuple #[iw (b ^ n), .int .i64 0] := by
  unfold powV; rw [if_neg (by omega), Int.toNat_natCast, tok (fits_pow hb hn)]
theorem one_lt_pow (k : Nat) : (1 : Int).natAbs < 2 ^ (k + 1) := by
  have := Nat.pow_pos (n := k) (show 0 < 2 by omega)
  rw [Nat.pow_succ]
  show 1 < _
  omega
theorem iw_nat {s : Nat} (h : s < M) : iw (s : Int) = wd s := by
  unfold iw; rw [rs_pos (by omega) (by omega), Int.toNat_natCast]
set_option maxRecDepth 100000 in
set_option maxHeartbeats 1000000 in
theorem con_wideRoots {H : PH} {v0 : Value} (h0 : Dr H v0) (n : Nat) (hn : n < 256) (m : Nat) (hm : m < 256) : Con Try.prog 7 [v0, .int .u8 (n : Nat), .int .u8 (m : Nat)] H fun u H' => u = .bool true ∧ PH.le H H' := by
  have r0 := h0.rq
  obtain ⟨b0, w0, q0, k0, rfl, -, -⟩ := id h0
  refine con_of_tree mixed tr_WideRoots np_WideRoots rfl (den_rq r0 (den_call (con_works H) rfl ?_))
  rintro _ H1 ⟨rfl, l1⟩
  simp only [List.cons_append, List.nil_append]
  refine ⟨fun _ => l1, den_rq ⟨_, rfl⟩ (den_rq rfl (den_call (con_rWithin 250 (by omega) (by omega) (h0.mono l1)) rfl ?_))⟩
  rintro _ H2 ⟨l2, a, rfl, wa⟩
  simp only [List.cons_append, List.nil_append]
  refine ⟨fun _ => l2, den_rq ⟨words_size _, words_one _⟩ (?_)⟩
  have la := win_lt wa (by omega)
  have fa := fits_abs la (by omega)
  obtain ⟨N, hN⟩ : ∃ N, N = a.natAbs := ⟨_, rfl⟩
  obtain ⟨s, s1, s2⟩ := isq_exists N
  have lN : ((N : Int)).natAbs < 2 ^ (250 + 1) := by rw [Int.natAbs_natCast, hN]; exact la
  have fN := fits_abs lN (by omega)
  have hsN : s ≤ N := Nat.le_trans (Nat.le_mul_self s) s1
  have ls : ((s : Int)).natAbs < 2 ^ (250 + 1) := by rw [Int.natAbs_natCast] at lN ⊢; omega
  have fs := fits_abs ls (by omega)
  have ls1 : ((s : Int) + 1).natAbs < 2 ^ (250 + 1 + 1) := abs_add ls (one_lt_pow 250)
  have fs1 := fits_abs ls1 (by omega)
  have f1 : Fits 1 := fitsS (by omega) (by omega)
  have fss := fmul ls ls (by omega)
  have fs11 := fmul ls1 ls1 (by omega)
  have faa := fmul la la (by omega)
  have S1 : (s : Int) * s ≤ (N : Int) := by exact_mod_cast s1
  have S2 : (N : Int) < ((s : Int) + 1) * ((s : Int) + 1) := by exact_mod_cast s2
  have eaa : a * a = (N : Int) * N := by rw [hN]; exact (Int.natAbs_mul_self (a := a)).symm
  have hsM : s < M := by have := M_HM; unfold Fits at fs; omega
  have hNM : N < M := by have := M_HM; unfold Fits at fN; omega
  have d1 := Abs_iw fa
  rw [← hN, tok fN] at d1
  have d2 := Root_iw s fN (by omega) S1 S2
  rw [← iw_nat hsM] at d2
  have d3 := Add_iw fs f1
  rw [tok fs1] at d3
  have d4 := Mul_iw fs fs
  rw [tok fss] at d4
  have d5 := Mul_iw fs1 fs1
  rw [tok fs11] at d5
  have d6 := Mul_iw fa fa
  rw [tok faa] at d6
  have hN1 : (N : Int) * N < ((N : Int) + 1) * ((N : Int) + 1) := by exact_mod_cast Nat.mul_lt_mul'' (Nat.lt_succ_self N) (Nat.lt_succ_self N)
  have d7 := Root_iw N faa (by rw [eaa]; exact Int.mul_nonneg (by omega) (by omega)) (by rw [eaa]; exact Int.le_refl _) (by rw [eaa]; exact hN1)
  rw [← iw_nat hNM] at d7
  have d8 := Cmp_iw fss fN
  have d9 := Cmp_iw fs11 fN
  have hc1 : ¬ sgI ((s : Int) * s) (N : Int) > 0 := fun h => by have := sgI_gt.1 h; omega
  have hc2 : ¬ sgI (((s : Int) + 1) * ((s : Int) + 1)) (N : Int) ≤ 0 := fun h => by have := sgI_gt.2 S2; omega
  refine den_det (d1) rfl (den_rq ⟨_, rfl, s20⟩ (den_rq ⟨_, rfl, s21⟩ (den_rq ⟨words_size _, words_one _⟩ (den_det (d2) rfl (den_rq ⟨_, rfl, s20⟩ (den_rq ⟨_, rfl, s21⟩ (den_rq ⟨words_size _, words_one _⟩ (den_det (det_Of 1 (by omega) (by omega)) rfl (den_det (d3) rfl (den_rq ⟨_, rfl, s20⟩ (den_rq ⟨_, rfl, s21⟩ (den_rq ⟨words_size _, words_one _⟩ (den_det (d4) rfl (?_))))))))))))))
  simp only [List.cons_append, List.nil_append]
  refine den_rq ⟨_, rfl, s20⟩ (den_rq ⟨_, rfl, s21⟩ (den_rq ⟨words_size _, words_one _⟩ (den_det (d5) rfl (den_rq ⟨_, rfl, s20⟩ (den_rq ⟨_, rfl, s21⟩ (den_rq ⟨words_size _, words_one _⟩ (den_det (d6) rfl (den_rq ⟨_, rfl, s20⟩ (den_rq ⟨_, rfl, s21⟩ (den_rq ⟨words_size _, words_one _⟩ (den_det (d7) rfl (den_rq ⟨_, rfl, s20⟩ (den_rq ⟨_, rfl, s21⟩ (den_rq ⟨words_size _, words_one _⟩ (den_rq ⟨_, rfl⟩ (den_rq rfl (den_rq ⟨_, rfl⟩ (den_rq rfl (den_rq ⟨_, rfl⟩ (den_rq rfl (den_rq ⟨_, rfl⟩ (den_rq rfl (den_rq ⟨_, rfl⟩ (den_rq rfl (den_rq ⟨_, rfl⟩ (den_rq rfl (den_rq ⟨_, rfl⟩ (den_rq rfl (den_det (d8) rfl (?_))))))))))))))))))))))))))))))
  simp only [List.cons_append, List.nil_append]
  refine den_rq ⟨_, rfl⟩ (den_rq (congrArg Value.bool (decide_eq_false hc1)) (den_det (d9) rfl (den_rq ⟨_, rfl⟩ (den_rq (congrArg Value.bool (decide_eq_false hc2)) (den_prim ((new_no (a := rs (N : Int)) (b := rs (N : Int)) op_WideRoots_11_41 rfl rfl rfl rfl rfl).rds _) rfl (den_rq rfl (den_call (con_rSmall (h0.mono (l1.trans l2))) rfl ?_)))))))
  rintro _ H3 ⟨rfl, z, rfl, z0, z1⟩
  simp only [List.cons_append, List.nil_append]
  refine ⟨fun _ => PH.le.refl _, den_rq ⟨_, rfl⟩ (?_)⟩
  obtain ⟨b, hb⟩ : ∃ b, b = z.tmod 1000 := ⟨_, rfl⟩
  have hb1 : b.natAbs < 1000 := by rw [hb, Int.natAbs_tmod]; exact Nat.mod_lt _ (by decide)
  have fb : Fits b := fitsS (by omega) (by omega)
  have p1 := Pow_iw ((n % 25 : Nat) : Int) fb
  rw [powV_ok (by omega) (by omega)] at p1
  have p2 := Pow_iw ((m % 25 : Nat) : Int) fb
  rw [powV_ok (by omega) (by omega)] at p2
  have p3 := Mul_iw (fits_pow (b := b) (n := n % 25) (by omega) (by omega)) (fits_pow (b := b) (n := m % 25) (by omega) (by omega))
  rw [← Int.pow_add, tok (fits_pow (by omega) (by omega))] at p3
  have p4 := Pow_iw ((n % 25 + m % 25 : Nat) : Int) fb
  rw [powV_ok (by omega) (by omega)] at p4
  have a1 : IntKind.i64.wrap ((n : Int).tmod 25) = ((n % 25 : Nat) : Int) := by rw [show (25 : Int) = ((25 : Nat) : Int) from rfl, tmodn, wn (by omega)]
  have a2 : IntKind.i64.wrap ((m : Int).tmod 25) = ((m % 25 : Nat) : Int) := by rw [show (25 : Int) = ((25 : Nat) : Int) from rfl, tmodn, wn (by omega)]
  have a3 : IntKind.i64.wrap (((n % 25 : Nat) : Int) + ((m % 25 : Nat) : Int)) = ((n % 25 + m % 25 : Nat) : Int) := wadd (by omega)
  refine den_det (det_Of b (by omega) (by omega)) (by simp only [rxs, ← hb]) (den_rq ⟨words_size _, words_one _⟩ (den_rq ⟨_, rfl⟩ (den_det (p1) (by simp only [rxs, a1]; rfl) (den_rq ⟨_, rfl, s20⟩ (den_rq ⟨_, rfl, s21⟩ (den_rq ⟨words_size _, words_one _⟩ (den_rq ⟨_, rfl⟩ (den_det (p2) (by simp only [rxs, a2]; rfl) (den_rq ⟨_, rfl, s20⟩ (den_rq ⟨_, rfl, s21⟩ (den_rq ⟨words_size _, words_one _⟩ (den_det (p3) rfl (den_rq ⟨_, rfl, s20⟩ (den_rq ⟨_, rfl, s21⟩ (den_rq ⟨words_size _, words_one _⟩ (den_det (p4) (by simp only [rxs, a1, a2, a3]; rfl) (?_)))))))))))))))))
  simp only [List.cons_append, List.nil_append]
  exact den_rq ⟨_, rfl, s20⟩ (den_rq ⟨_, rfl, s21⟩ (den_rq ⟨words_size _, words_one _⟩ (den_rq ⟨_, rfl⟩ (den_rq rfl (den_rq ⟨_, rfl⟩ (den_rq rfl (den_rq ⟨_, rfl⟩ (den_rq rfl (den_rq ⟨_, rfl⟩ (den_rq rfl (den_prim ((eqw_yes (a := rs (b ^ (n % 25 + m % 25))) (b := rs (b ^ (n % 25 + m % 25))) op_WideRoots_18_17 rfl rfl rfl rfl rfl).rds _) rfl (den_ret rfl ⟨rfl, l1.trans l2⟩))))))))))))
end Go.Proofs.YtmndieeelnicpaaRR

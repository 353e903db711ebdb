/- Fractions: plain; package share: fractions of integers of any length. -/
import Derived.Test.YtcleogdmobdnpacGreatRDoorLgC
import Derived.Test.YtcleogdmobdnpacGreatRDoorShT
namespace Go.WD
open Go.RX
/-- Below 2^k, the numerator without its sign and the denominator. -/
def Rb (k : Nat) (r : Rat) : Prop := r.num.natAbs < 2 ^ k ∧ r.den < 2 ^ k
theorem Rb.le {j k : Nat} {r : Rat} (h : Rb j r) (hk : j ≤ k) : Rb k r := ⟨Nat.lt_of_lt_of_le h.1 (Nat.pow_le_pow_right (by omega) hk), Nat.lt_of_lt_of_le h.2 (Nat.pow_le_pow_right (by omega) hk)⟩
theorem mul_pow2 {a b i j : Nat} (ha : a < 2 ^ i) (hb : b < 2 ^ j) : a * b < 2 ^ (i + j) := by
  rw [Nat.pow_add]; exact Nat.mul_lt_mul'' ha hb
theorem low_num (n : Int) {d : Int} (hd : d ≠ 0) : (Rat.divInt n d).num = if d / (Nat.gcd n.natAbs d.natAbs : Nat) < 0 then -(n / (Nat.gcd n.natAbs d.natAbs : Nat)) else n / (Nat.gcd n.natAbs d.natAbs : Nat) := by
  have hg : 0 < Nat.gcd n.natAbs d.natAbs := Nat.gcd_pos_of_pos_right _ (by omega)
  have hgn : ((Nat.gcd n.natAbs d.natAbs : Nat) : Int) ∣ n := Int.ofNat_dvd_left.2 (Nat.gcd_dvd_left _ _)
  rw [Rat.num_divInt]
  have e : (d.gcd n : Nat) = Nat.gcd n.natAbs d.natAbs := by unfold Int.gcd; exact Nat.gcd_comm _ _
  rw [e]
  obtain ⟨m, hm⟩ := hgn
  have hdv : ((Nat.gcd n.natAbs d.natAbs : Nat) : Int) ∣ d := Int.ofNat_dvd_left.2 (Nat.gcd_dvd_right _ _)
  obtain ⟨c, hc⟩ := hdv
  generalize Nat.gcd n.natAbs d.natAbs = g at hg hm hc
  have hg' : (g : Int) ≠ 0 := by omega
  have e1 : n / (g : Int) = m := by rw [hm]; exact Int.mul_ediv_cancel_left _ hg'
  have e2 : d / (g : Int) = c := by rw [hc]; exact Int.mul_ediv_cancel_left _ hg'
  rw [e1, e2]
  rcases Int.lt_or_gt_of_ne hd with h | h
  · have hcn : c < 0 := by
      rcases Int.lt_or_le c 0 with h1 | h1
      · exact h1
      · have := Int.mul_nonneg (show (0 : Int) ≤ g by omega) h1; omega
    rw [if_pos hcn, Int.sign_eq_neg_one_of_neg h, hm, Int.neg_one_mul, ← Int.mul_neg]
    exact Int.mul_ediv_cancel_left _ hg'
  · have hcn : ¬ c < 0 := fun h1 => by
      have := Int.mul_neg_of_pos_of_neg (show (0 : Int) < g by omega) h1; omega
    rw [if_neg hcn, Int.sign_eq_one_of_pos h, Int.one_mul, hm]
    exact Int.mul_ediv_cancel_left _ hg'
theorem low_den (n : Int) {d : Int} (hd : d ≠ 0) : ((Rat.divInt n d).den : Int) = if d / (Nat.gcd n.natAbs d.natAbs : Nat) < 0 then -(d / (Nat.gcd n.natAbs d.natAbs : Nat)) else d / (Nat.gcd n.natAbs d.natAbs : Nat) := by
  have hg : 0 < Nat.gcd n.natAbs d.natAbs := Nat.gcd_pos_of_pos_right _ (by omega)
  rw [Rat.den_divInt, if_neg hd]
  have e : (d.gcd n : Nat) = Nat.gcd n.natAbs d.natAbs := by unfold Int.gcd; exact Nat.gcd_comm _ _
  rw [e]
  have hdv : ((Nat.gcd n.natAbs d.natAbs : Nat) : Int) ∣ d := Int.ofNat_dvd_left.2 (Nat.gcd_dvd_right _ _)
  obtain ⟨c, hc⟩ := hdv
  generalize Nat.gcd n.natAbs d.natAbs = g at hg hc
  have e2 : d / (g : Int) = c := by rw [hc]; exact Int.mul_ediv_cancel_left _ (by omega)
  have e3 : d.natAbs / g = c.natAbs := by rw [hc, Int.natAbs_mul, Int.natAbs_natCast]; exact Nat.mul_div_cancel_left _ hg
  rw [e2, e3]
  split <;> omega
theorem rat_add (r s : Rat) : Rat.divInt (r.num * s.den + s.num * r.den) ((r.den : Int) * s.den) = r + s := by
  rw [Rat.add_def', ← Int.natCast_mul, Rat.divInt_ofNat]
theorem rat_mul (r s : Rat) : Rat.divInt (r.num * s.num) ((r.den : Int) * s.den) = r * s := by
  rw [Rat.mul_def', ← Int.natCast_mul, Rat.divInt_ofNat]
theorem rat_div (r s : Rat) : Rat.divInt (r.num * s.den) ((r.den : Int) * s.num) = r / s := by
  have h1 := Rat.num_divInt_den r
  rw [Rat.div_def, Rat.inv_def]
  conv => rhs; rw [← h1]
  rw [Rat.divInt_mul_divInt]
theorem rat_half (r : Rat) : Rat.divInt (r.num + r.num + r.den) ((r.den : Int) + r.den) = r + 1 / 2 := by
  have h1 := Rat.num_divInt_den r
  have hd : (r.den : Int) ≠ 0 := by have := r.den_nz; omega
  have h2 : (1 / 2 : Rat) = Rat.divInt 1 2 := by rw [Rat.divInt_eq_div]; rfl
  conv => rhs; rw [← h1, h2]
  rw [Rat.divInt_add_divInt _ _ hd (by omega), show r.num + r.num + (r.den : Int) = r.num * 2 + 1 * r.den from by omega, show (r.den : Int) + r.den = r.den * 2 from by omega]
/-- The order of two fractions. -/
def sgR (r s : Rat) : Int := if r < s then -1 else if r = s then 0 else 1
theorem sgR_eq (r s : Rat) : sgI (r.num * s.den) (s.num * r.den) = sgR r s := by
  unfold sgI sgR
  have h1 := Rat.lt_iff r s
  have h2 := Rat.eq_iff_mul_eq_mul (p := r) (q := s)
  by_cases a : r < s
  · rw [if_pos a, if_pos (h1.1 a)]
  · rw [if_neg a, if_neg (fun h => a (h1.2 h))]
    by_cases b : r = s
    · rw [if_pos b, if_pos (h2.1 b)]
    · rw [if_neg b, if_neg (fun h => b (h2.2 h))]
theorem low_bound {n d : Int} {k : Nat} (hd : d ≠ 0) (hn : n.natAbs < 2 ^ k) (hdk : d.natAbs < 2 ^ k) : Rb k (Rat.divInt n d) := by
  have hg : 0 < Nat.gcd n.natAbs d.natAbs := Nat.gcd_pos_of_pos_right _ (by omega)
  constructor
  · have h1 : (n / (Nat.gcd n.natAbs d.natAbs : Nat)).natAbs ≤ n.natAbs := Int.natAbs_ediv_le_natAbs _ _
    rw [low_num n hd]
    split
    · rw [Int.natAbs_neg]; omega
    · omega
  · have h2 := low_den n hd
    have h3 : (d / (Nat.gcd n.natAbs d.natAbs : Nat)).natAbs ≤ d.natAbs := Int.natAbs_ediv_le_natAbs _ _
    split at h2 <;> omega
theorem den_abs (r : Rat) : ((r.den : Nat) : Int).natAbs = r.den := Int.natAbs_natCast _
theorem Rb.add {j k m : Nat} {r s : Rat} (hr : Rb j r) (hs : Rb k s) (hm : j + k + 1 ≤ m) : Rb m (r + s) := by
  have hd : (r.den : Int) * s.den ≠ 0 := Int.mul_ne_zero (by have := r.den_nz; omega) (by have := s.den_nz; omega)
  have h1 := mul_pow2 hr.1 hs.2
  have h2 := mul_pow2 hs.1 hr.2
  have h3 := mul_pow2 hr.2 hs.2
  rw [Nat.add_comm k j] at h2
  have h4 : (r.num * s.den + s.num * r.den).natAbs ≤ r.num.natAbs * s.den + s.num.natAbs * r.den := by
    refine Nat.le_trans (Int.natAbs_add_le _ _) ?_
    rw [Int.natAbs_mul, Int.natAbs_mul, den_abs, den_abs]
    exact Nat.le_refl _
  have h5 : 2 ^ (j + k + 1) ≤ 2 ^ m := Nat.pow_le_pow_right (by omega) hm
  rw [Nat.pow_succ] at h5
  rw [← rat_add]
  refine low_bound hd (by omega) ?_
  rw [Int.natAbs_mul, den_abs, den_abs]
  omega
theorem Rb.mul {j k m : Nat} {r s : Rat} (hr : Rb j r) (hs : Rb k s) (hm : j + k ≤ m) : Rb m (r * s) := by
  have hd : (r.den : Int) * s.den ≠ 0 := Int.mul_ne_zero (by have := r.den_nz; omega) (by have := s.den_nz; omega)
  have h1 := mul_pow2 hr.1 hs.1
  have h3 := mul_pow2 hr.2 hs.2
  have h5 : 2 ^ (j + k) ≤ 2 ^ m := Nat.pow_le_pow_right (by omega) hm
  rw [← rat_mul]
  refine low_bound hd (by rw [Int.natAbs_mul]; omega) ?_
  rw [Int.natAbs_mul, den_abs, den_abs]
  omega
theorem Rb.neg {k : Nat} {r : Rat} (h : Rb k r) : Rb k (-r) := ⟨by rw [Rat.neg_num, Int.natAbs_neg]; exact h.1, by rw [Rat.neg_den]; exact h.2⟩
theorem BP_two (k : Nat) : BP k = 2 ^ (32 * k) := by unfold BP; rfl
end Go.WD
namespace Go.Proofs.YtcleogdmobdnpacGreatRDoor
open Go.RowKit Go.RX Go.WD

theorem Lm.two {z : Int} {k : Nat} (h : z.natAbs < 2 ^ k) (hk : k ≤ 320000) : Lm z := by
  unfold Lm
  obtain ⟨K, hK⟩ : ∃ K, K = 10000 := ⟨_, rfl⟩
  rw [← hK, BP_two]
  exact Nat.lt_of_lt_of_le h (Nat.pow_le_pow_right (by omega) (by omega))
theorem Lm.add2 {y z : Int} {j k : Nat} (hy : y.natAbs < 2 ^ j) (hz : z.natAbs < 2 ^ k) {m : Nat} (h1 : j + 1 ≤ m) (h2 : k + 1 ≤ m) : (y + z).natAbs < 2 ^ m := by
  have h3 := Int.natAbs_add_le y z
  have h4 : 2 ^ (j + 1) ≤ 2 ^ m := Nat.pow_le_pow_right (by omega) h1
  have h5 : 2 ^ (k + 1) ≤ 2 ^ m := Nat.pow_le_pow_right (by omega) h2
  rw [Nat.pow_succ] at h4 h5
  omega
theorem mul_abs {y z : Int} {j k : Nat} (hy : y.natAbs < 2 ^ j) (hz : z.natAbs < 2 ^ k) : (y * z).natAbs < 2 ^ (j + k) := by rw [Int.natAbs_mul]; exact mul_pow2 hy hz
/-- A fraction in memory: package share. -/
def Rp (H : PH) (v : Value) (r : Rat) : Prop := ∃ w1 w2, v = .agg #[.bool (decide (r.num < 0)), w1, .bool false, w2] ∧ Mu H w1 r.num.natAbs ∧ Mu H w2 r.den
theorem Rp.mono {H H' : PH} {v : Value} {r : Rat} (h : Rp H v r) (hl : PH.le H H') : Rp H' v r := by
  obtain ⟨w1, w2, h1, h2, h3⟩ := h; exact ⟨w1, w2, h1, h2.mono hl, h3.mono hl⟩
theorem one4 {b c : Bool} {w1 w2 : Value} {H : PH} {m n : Nat} (h1 : Mu H w1 m) (h2 : Mu H w2 n) : (Value.agg #[.bool b, w1, .bool c, w2]).cells.size = 4 ∧ oneAll (Value.agg #[.bool b, w1, .bool c, w2]).cells := by
  refine ⟨rfl, fun x hx => ?_⟩
  have g1 := h1.one.2.2
  have g2 := h2.one.2.2
  rw [h1.one.1] at g1
  rw [h2.one.1] at g2
  rw [cells_agg] at hx
  simp only [List.mem_cons, List.not_mem_nil, or_false] at hx
  rcases hx with h | h | h | h
  · rw [h]; rfl
  · rw [h]; exact g1 _ (by simp)
  · rw [h]; rfl
  · rw [h]; exact g2 _ (by simp)
theorem Rp.rq {H : PH} {v : Value} {r : Rat} (h : Rp H v r) : v.cells.size = 4 ∧ oneAll v.cells := by
  obtain ⟨w1, w2, rfl, h1, h2⟩ := h; exact one4 h1 h2
theorem Lw.den {H : PH} {w : Value} {n : Nat} (h : Mu H w n) : Lw H (.agg #[.bool false, w]) (n : Int) := lw_nat h
theorem ex02 (a b c d : Value) : (#[a, b, c, d] : Array Value).extract 0 2 = #[a, b] := rfl
theorem ex24 (a b c d : Value) : (#[a, b, c, d] : Array Value).extract 2 4 = #[c, d] := rfl
theorem ap22 (a b c d : Value) : (#[a, b] : Array Value) ++ #[c, d] = #[a, b, c, d] := rfl
theorem z_long : zeroV Tryz.prog 75 = .agg #[.bool false, .slice none 0 0] := by kernel_rfl
theorem put22 (a b c d e f : Value) : spl ((#[a, b] : Array Value) ++ #[c, d]) 2 [e, f] = #[a, b, e, f] := rfl
section
variable {H : PH} {x y : Value} {p q : Int} {r s : Rat} {i j k : Nat}
set_option maxRecDepth 100000 in
theorem con_sLowest (hx : Lw H x p) (hy : Lw H y q) (hp : Lm p) (hq : Lm q) (hq0 : q ≠ 0) : Con Tryz.prog 58 [x, y] H fun u H' => PH.le H H' ∧ Rp H' u (Rat.divInt p q) := by
  have r1 := hx.rq
  have r2 := hy.rq
  have hx' := hx
  have hy' := hy
  obtain ⟨wx, rfl, _⟩ := hx
  obtain ⟨wy, rfl, _⟩ := hy
  have hn := low_num p hq0
  have hd := low_den p hq0
  obtain ⟨g, hg⟩ : ∃ g, g = Nat.gcd p.natAbs q.natAbs := ⟨_, rfl⟩
  have hg0 : 0 < g := by rw [hg]; exact Nat.gcd_pos_of_pos_right _ (by omega)
  have hgm : Lm (g : Int) := by
    unfold Lm at hq ⊢
    rw [Int.natAbs_natCast, hg]
    exact Nat.lt_of_le_of_lt (Nat.gcd_le_right _ (by omega)) hq
  rw [← hg] at hn hd
  refine con_of_tree mixed tr_sLowest np_sLowest rfl (den_rq r1 (den_rq r2 (den_call (con_gCommon hx' hy' hp hq) rfl ?_)))
  rintro u1 H1 ⟨l1, hu1⟩
  rw [← hg] at hu1
  have hr1 := hu1.rq
  have hu1' := hu1
  obtain ⟨w1, rfl, _⟩ := hu1
  simp only [List.cons_append, List.nil_append]
  refine ⟨fun h => (nomatch h), den_rq hr1 (den_call (con_gParts (hx'.mono l1) hu1' hp hgm (by omega)) rfl ?_)⟩
  rintro u2 H2 ⟨l2, a1, b1, rfl, ha1, hb1⟩
  have ra := ha1.rq
  have rb := hb1.rq
  have ha1' := ha1
  obtain ⟨w2, rfl, n2⟩ := ha1
  obtain ⟨w3, rfl, _⟩ := hb1
  simp only [List.cons_append, List.nil_append]
  refine ⟨fun h => (nomatch h), den_rq ⟨_, rfl, Nat.zero_lt_succ _⟩ (den_rq ⟨_, rfl, Nat.lt_succ_self _⟩ (den_rq ra (den_rq rb (den_call (con_gParts (hy'.mono (l1.trans l2)) (hu1'.mono l2) hq hgm (by omega)) rfl ?_))))⟩
  rintro u3 H3 ⟨l3, a2, b2, rfl, ha2, hb2⟩
  have rc := ha2.rq
  have rd := hb2.rq
  have ha2' := ha2
  obtain ⟨w4, rfl, n4⟩ := ha2
  obtain ⟨w5, rfl, _⟩ := hb2
  simp only [List.cons_append, List.nil_append]
  refine ⟨fun h => (nomatch h), den_rq ⟨_, rfl, Nat.zero_lt_succ _⟩ (den_rq ⟨_, rfl, Nat.lt_succ_self _⟩ (den_rq rc (den_rq rd (den_rq ⟨_, rfl⟩ (den_br (b := decide (q / (g : Int) < 0)) rfl (fun h => ?_) (fun h => ?_))))))⟩
  · have h := of_decide_eq_true h
    rw [if_pos h] at hn hd
    refine den_call (con_gTurned (ha1'.mono l3)) rfl ?_
    rintro u4 H4 ⟨rfl, hu4⟩
    have re := hu4.rq
    obtain ⟨w6, rfl, n6⟩ := hu4
    simp only [List.cons_append, List.nil_append]
    refine ⟨fun _ => PH.le.refl _, den_call (con_gTurned ha2') rfl ?_⟩
    rintro u5 H5 ⟨rfl, hu5⟩
    have rf := hu5.rq
    obtain ⟨w7, rfl, n7⟩ := hu5
    refine ⟨fun _ => PH.le.refl _, den_rq re (den_rq rf (den_ret rfl ⟨l1.trans (l2.trans l3), w6, w7, ?_, ?_, ?_⟩))⟩
    · rw [hn]
      show Value.agg #[.bool (decide (-(p / (g : Int)) < 0)), w6, .bool (decide (-(q / (g : Int)) < 0)), w7] = _
      rw [decide_eq_false (show ¬ -(q / (g : Int)) < 0 by omega)]
    · rw [hn]; exact n6
    · rw [show (Rat.divInt p q).den = (-(q / (g : Int))).natAbs from by omega]; exact n7
  · have h := of_decide_eq_false h
    rw [if_neg h] at hn hd
    refine den_ret rfl ⟨l1.trans (l2.trans l3), w2, w4, ?_, ?_, ?_⟩
    · rw [hn]
      show Value.agg #[.bool (decide (p / (g : Int) < 0)), w2, .bool (decide (q / (g : Int) < 0)), w4] = _
      rw [decide_eq_false h]
    · rw [hn]; exact n2.mono l3
    · rw [show (Rat.divInt p q).den = (q / (g : Int)).natAbs from by omega]; exact n4
end
end Go.Proofs.YtcleogdmobdnpacGreatRDoor

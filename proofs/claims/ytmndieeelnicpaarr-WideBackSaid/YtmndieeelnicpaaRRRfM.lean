/- The reference of chapter 01: Pow, Floor, Root, Integer, Int. -/
import Derived.Test.YtmndieeelnicpaaRRRfK
namespace Go.WD
/-- One bit of a root. -/
theorem root_bit {s e v : Nat} (h : v = s / 2 ^ (e + 1) * 2 ^ (e + 1)) : (v + 2 ^ e ≤ s → v + 2 ^ e = s / 2 ^ e * 2 ^ e) ∧ (s < v + 2 ^ e → v = s / 2 ^ e * 2 ^ e) := by
  have hp : 0 < 2 ^ e := Nat.pow_pos (by omega)
  have e1 : s / 2 ^ (e + 1) = s / 2 ^ e / 2 := by rw [Nat.pow_succ, Nat.div_div_eq_div_mul]
  have e2 := Nat.div_add_mod s (2 ^ e)
  have e3 := Nat.mod_lt s hp
  rw [e1, Nat.pow_succ] at h
  generalize s / 2 ^ e = q at h e2
  generalize s % 2 ^ e = r at e2 e3
  generalize 2 ^ e = p at h e2 e3 hp
  have hv : v = q / 2 * 2 * p := by rw [h, Nat.mul_comm p 2, Nat.mul_assoc]
  rcases Nat.mod_two_eq_zero_or_one q with hq | hq
  · have e4 : q / 2 * 2 = q := by omega
    rw [e4] at hv
    rw [Nat.mul_comm] at e2
    exact ⟨fun h => by omega, fun _ => hv⟩
  · have e4 : q = q / 2 * 2 + 1 := by omega
    have e5 : q * p = q / 2 * 2 * p + p := by rw [← Nat.succ_mul, Nat.succ_eq_add_one, ← e4]
    rw [Nat.mul_comm] at e2
    exact ⟨fun _ => by omega, fun h => by omega⟩
theorem lt_of_sq {s n N : Nat} (h1 : s * s ≤ N) (h2 : N < n * n) : s < n := by
  rcases Nat.lt_or_ge s n with h | h
  · exact h
  · have := Nat.mul_le_mul h h; omega
theorem sq_iff {s x N : Nat} (h1 : s * s ≤ N) (h2 : N < (s + 1) * (s + 1)) : x * x ≤ N ↔ x ≤ s := by
  constructor
  · intro h
    have := lt_of_sq h h2
    omega
  · intro h
    have := Nat.mul_le_mul h h; omega
theorem big_pow {x : Int} {i d B : Nat} (h : B ≤ (x ^ i).natAbs) (hB : 1 < B) : B ≤ (x ^ (i + d)).natAbs := by
  rw [Int.pow_add, Int.natAbs_mul]
  have hx : x ≠ 0 := fun e => by
    subst e
    cases i with
    | zero => rw [Int.pow_zero] at h; omega
    | succ i => rw [Int.pow_succ, Int.mul_zero] at h; simp at h; omega
  have : 0 < (x ^ d).natAbs := Int.natAbs_pos.2 (Int.pow_ne_zero hx)
  exact Nat.le_trans h (Nat.le_mul_of_pos_right _ this)
end Go.WD
namespace Go.Proofs.YtmndieeelnicpaaRR
open Go.RowKit Go.RX Go.WD

section
variable {H : PH} {v x y : Value} {z p q : Int}
theorem told_form2 (z : Int) : ∃ (n : Nat) (e : Int), told z = .tuple #[wd n, .int .i64 e] := by
  unfold told; split
  · exact ⟨rs z, 0, rfl⟩
  · exact ⟨0, 6, rfl⟩
theorem nat_len {H : PH} {v : Value} {n k : Nat} {l : List Nat} (hd : Ds H v l) (ht : Tm l) (hv : vl l = n) : l.length ≤ k ↔ n < BP k := by
  subst hv
  exact ⟨fun h => Nat.lt_of_lt_of_le (vl_lt hd.2) (BP_le h), ht k⟩
set_option maxRecDepth 100000 in
theorem con_rPow (a : Nat) (n : Int) : Con Try.prog 19 [wd a, .int .i64 n] H fun u H' => PH.le H H' ∧ u = powV (toI a) n := by
  have hM := M_HM
  have hbig := M_big
  refine con_of_tree mixed tr_rPow np_rPow rfl (den_rq ⟨words_size a, words_one a⟩ ⟨fun vals H' => vals = [.bool (decide (n < 0 ∨ 600 < n))] ∧ H' = H, ?_, ?_⟩)
  · refine den_rq ⟨_, rfl⟩ (den_br (b := decide (n < 0)) rfl (fun h => ?_) (fun h => ?_))
    · have h := of_decide_eq_true h
      exact ⟨by rw [decide_eq_true (show n < 0 ∨ 600 < n by omega)]; rfl, rfl⟩
    · have h := of_decide_eq_false h
      refine ⟨?_, rfl⟩
      show [Value.bool (decide (n > 600))] = _
      congr 2
      rw [decide_eq_decide]; omega
  rintro vals H' - ⟨rfl, rfl⟩
  simp only [List.cons_append, List.nil_append]
  refine den_rq ⟨_, rfl⟩ (den_br rfl (fun h => ?_) (fun h => ?_))
  · have h := of_decide_eq_true h
    refine den_ret rfl ⟨PH.le.refl _, ?_⟩
    unfold powV; rw [if_pos h]
    simp only [rxs, retV, z_wide]
  have h := of_decide_eq_false h
  obtain ⟨N, rfl⟩ : ∃ N : Nat, n = (N : Int) := ⟨n.toNat, by omega⟩
  have hP : powV (toI a) (N : Int) = told (toI a ^ N) := by unfold powV; rw [if_neg (by omega), Int.toNat_natCast]
  rw [hP]
  refine den_call (con_rIn a) rfl ?_
  rintro u1 H1 ⟨l1, hu1⟩
  refine ⟨fun h => (nomatch h), den_call (con_rLong1 1 (by omega) (by omega)) rfl ?_⟩
  rintro u2 H2 ⟨l2, hu2⟩
  simp only [List.cons_append, List.nil_append]
  have hx := lm_toI a
  have hI := hu1.mono l2
  have rI := hI.rq
  have hI' := hI
  obtain ⟨w1, rfl, -⟩ := hI
  obtain ⟨m, hm⟩ : ∃ m, m = 17 := ⟨17, rfl⟩
  have h17 : BP m < BP 1000 := BP_lt_iff.2 (by omega)
  refine ⟨fun h => (nomatch h), den_rq rI (den_rq hu2.rq ⟨fun vals H' => ∃ (i : Nat) (o : Value), vals = [.int .i64 0, iv i, o] ∧ i ≤ N ∧ PH.le H2 H' ∧ Lg H' o (toI a ^ i) ∧ (toI a ^ i).natAbs < BP m, fun vals _ => (N - intOf (vals.getD 1 undef)).toNat, ⟨0, u2, rfl, by omega, PH.le.refl _, by rw [Int.pow_zero]; exact hu2, ?_⟩, ?_⟩)⟩
  · rw [Int.pow_zero]
    have : BP 0 < BP m := BP_lt_iff.2 (by omega)
    rw [BP_zero] at this
    exact this
  rintro vals H3 - ⟨i, o, rfl, hi, hle, ho, hb⟩
  simp only [List.cons_append, List.nil_append]
  have ho' := ho
  obtain ⟨wo, rfl, no⟩ := ho
  refine den_rq ⟨_, rfl⟩ (den_rq ⟨_, rfl⟩ (den_br (b := decide ((i : Int) < N)) rfl (fun h => ?_) (fun h => ?_)))
  · have h : i < N := by have := of_decide_eq_true h; omega
    have e1 : IntKind.i64.wrap ((i : Int) + 1) = ((i + 1 : Nat) : Int) := wadd1 (by omega)
    refine den_call (con_rTimes ho' (hI'.mono hle) (Nat.lt_trans hb h17) hx) rfl ?_
    rintro u3 H4 ⟨l4, hu3⟩
    rw [← Int.pow_succ] at hu3
    have hu3' := hu3
    have r3 := hu3.rq
    obtain ⟨w3, rfl, l, hd, ht, hv⟩ := hu3
    have hlen := nat_len (k := m) hd ht hv
    refine ⟨fun h => (nomatch h), den_rq r3 (den_len op_rPow_8_2 rfl hd rfl (den_rq ⟨_, rfl⟩ (den_br (b := decide ((l.length : Int) > 17)) rfl (fun hb2 => ?_) (fun hb2 => ?_))))⟩
    · have hb2 := of_decide_eq_true hb2
      refine den_ret rfl ⟨l1.trans (l2.trans (hle.trans l4)), ?_⟩
      have h1 : BP m ≤ (toI a ^ (i + 1)).natAbs := by
        rcases Nat.lt_or_ge (toI a ^ (i + 1)).natAbs (BP m) with h | h
        · have := hlen.2 h; omega
        · exact h
      have hMm : M < BP m := by rw [← BP_M]; exact BP_lt_iff.2 (by omega)
      obtain ⟨d, rfl⟩ := Nat.exists_eq_add_of_lt h
      have h2 := big_pow (d := d) h1 (by omega)
      rw [show i + d + 1 = i + 1 + d from by omega, told_big (by omega)]
      simp only [rxs, retV, z_wide]
    · have hb2 := of_decide_eq_false hb2
      refine ⟨⟨i + 1, _, ?_, by omega, hle.trans l4, hu3', hlen.1 (by omega)⟩, ?_⟩
      · simp only [rxs, iv, e1]
      · simp only [rxs, iv, e1]
        omega
  · have h : i = N := by have := of_decide_eq_false h; omega
    subst h
    refine den_call (con_rOut ho') rfl ?_
    rintro u4 H4 ⟨l4, rfl⟩
    obtain ⟨n1, k1, t1⟩ := told_form2 (toI a ^ i)
    rw [t1]
    exact ⟨fun h => (nomatch h), den_rq ⟨_, rfl, Nat.zero_lt_succ _⟩ (den_rq ⟨_, rfl, Nat.lt_succ_self _⟩ (den_rq ⟨words_size _, words_one _⟩ (den_ret rfl ⟨l1.trans (l2.trans (hle.trans l4)), rfl⟩)))⟩
theorem fit_bit {q k : Nat} (hk : k < 32) (hq : q < 4294967296) (hmod : q % 2 ^ (k + 1) = 0) : q + 2 ^ k < 4294967296 := by
  have h32 : (2 : Nat) ^ (k + 1) ∣ 4294967296 := by
    rw [show (4294967296 : Nat) = 2 ^ 32 from rfl]; exact Nat.pow_dvd_pow 2 (by omega)
  have hpk : 0 < 2 ^ k := Nat.pow_pos (by omega)
  obtain ⟨z1, hz1⟩ := h32
  obtain ⟨z2, hz2⟩ := Nat.dvd_of_mod_eq_zero hmod
  rw [hz2, hz1] at hq
  have hlt := Nat.lt_of_mul_lt_mul_left hq
  have := Nat.mul_le_mul_left (2 ^ (k + 1)) (show z2 + 1 ≤ z1 from hlt)
  rw [Nat.mul_add, Nat.mul_one, ← hz1, ← hz2, Nat.pow_succ] at this
  omega
theorem mod_down {q k : Nat} (h : q % 2 ^ (k + 1) = 0) : q % 2 ^ k = 0 := by
  rw [Nat.pow_succ] at h
  obtain ⟨t, rfl⟩ := Nat.dvd_of_mod_eq_zero h
  rw [Nat.mul_assoc]; exact Nat.mul_mod_right _ _
theorem BP_bit (j k : Nat) : BP j * 2 ^ k = 2 ^ (32 * j + k) := by rw [BP_pow, Nat.pow_add]
set_option maxRecDepth 100000 in
set_option maxHeartbeats 1000000 in
theorem con_rFloor (N s : Nat) (hx : Lg H x (N : Int)) (hN : N < BP 1000) (h1 : s * s ≤ N) (h2 : N < (s + 1) * (s + 1)) : Con Try.prog 68 [x] H fun u H' => PH.le H H' ∧ Lg H' u (s : Int) := by
  have hrq := hx.rq
  obtain ⟨w, rfl, l, hd, ht, hv⟩ := hx
  rw [Int.natAbs_natCast] at hv
  have hlen : l.length ≤ 1000 := (nat_len hd ht hv).2 hN
  obtain ⟨n, hn⟩ : ∃ n, n = (l.length + 1) / 2 := ⟨_, rfl⟩
  have hsn : s < BP n := by
    refine lt_of_sq h1 ?_
    rw [← BP_add, ← hv]
    exact Nat.lt_of_lt_of_le (vl_lt hd.2) (BP_le (by omega))
  have e1 : IntKind.i64.wrap ((l.length : Int) + 1) = ((l.length + 1 : Nat) : Int) := wadd1 (by omega)
  have e2 : IntKind.i64.wrap (((l.length + 1 : Nat) : Int).tdiv 2) = (n : Int) := by
    rw [show (2 : Int) = ((2 : Nat) : Int) from rfl, tdivn, wn (by omega), hn]
  have e3 : IntKind.i64.wrap ((n : Int) - 1) = (n : Int) - 1 := wfit (by omega) (by omega)
  refine con_of_tree mixed tr_rFloor np_rFloor rfl (den_rq hrq (den_len op_rFloor_1_2 rfl hd rfl (den_rq ⟨_, rfl⟩ (den_make (kl := .i64) (kc := .i64) (m := n) op_rFloor_2_1 rfl rfl (by omega) (by simp only [rxs, iv, e1, e2]) fun vq H1 l1 hq1 => ?_))))
  simp only [List.cons_append, List.nil_append]
  refine ⟨fun vals H' => ∃ (i : Nat) (lo : List Nat), vals = [.int .i64 ((i : Int) - 1), .agg #[.bool (decide ((N : Int) < 0)), w], zeroV Try.prog 81] ∧ i ≤ n ∧ PH.le H H' ∧ Od H H' vq lo ∧ lo.length = n ∧ (∀ k, k < i → lo.getD k 0 = 0) ∧ vl lo = s / 2 ^ (32 * i) * 2 ^ (32 * i), fun vals _ => (intOf (vals.getD 0 undef) + 1).toNat, ⟨n, List.replicate n 0, ?_, Nat.le_refl _, l1, hq1, by simp, fun k _ => at_zeros _ k, ?_⟩, ?_⟩
  · simp only [rxs, iv, e1, e2, e3]
  · rw [vl_zeros, ← BP_pow, Nat.div_eq_of_lt hsn, Nat.zero_mul]
  rintro vals H2 - ⟨i, lo, rfl, hi, l2, hq, hlo, hz, hvl⟩
  simp only [List.cons_append, List.nil_append]
  refine den_rq ⟨_, rfl⟩ (den_br (b := decide ((i : Int) - 1 ≥ 0)) rfl (fun hi2 => ?_) (fun hi2 => ?_))
  · have hi2 := of_decide_eq_true hi2
    obtain ⟨j, rfl⟩ : ∃ j, i = j + 1 := ⟨i - 1, by omega⟩
    have ej : ((j + 1 : Nat) : Int) - 1 = (j : Int) := by omega
    rw [ej]
    have e4 : IntKind.i64.wrap ((j : Int) - 1) = (j : Int) - 1 := wfit (by omega) (by omega)
    refine ⟨fun vals H' => ∃ (k : Nat) (lo : List Nat), vals = [.int .i64 ((k : Int) - 1)] ∧ k ≤ 32 ∧ PH.le H H' ∧ Od H H' vq lo ∧ lo.length = n ∧ (∀ k, k < j → lo.getD k 0 = 0) ∧ lo.getD j 0 % 2 ^ k = 0 ∧ vl lo = s / 2 ^ (32 * j + k) * 2 ^ (32 * j + k), fun vals _ => (intOf (vals.getD 0 undef) + 1).toNat, ⟨32, lo, rfl, by omega, l2, hq, hlo, fun k hk => hz k (by omega), by rw [hz j (by omega)], ?_⟩, ?_⟩
    · rw [show 32 * j + 32 = 32 * (j + 1) from by omega]; exact hvl
    clear hz hvl hq hlo l2
    rintro vals H3 - ⟨k, lo, rfl, hk, l3, hq, hlo, hz, hmod, hvl⟩
    simp only [List.cons_append, List.nil_append]
    refine den_rq ⟨_, rfl⟩ (den_br (b := decide ((k : Int) - 1 ≥ 0)) rfl (fun hk2 => ?_) (fun hk2 => ?_))
    · have hk2 := of_decide_eq_true hk2
      obtain ⟨k, rfl⟩ : ∃ j, k = j + 1 := ⟨k - 1, by omega⟩
      have ek : ((k + 1 : Nat) : Int) - 1 = (k : Int) := by omega
      rw [ek]
      have e5 : IntKind.i64.wrap ((k : Int) - 1) = (k : Int) - 1 := wfit (by omega) (by omega)
      have hfit := fit_bit (k := k) (by omega) (hq.2.at j) hmod
      obtain ⟨d, hd0⟩ : ∃ d, d = lo.getD j 0 := ⟨_, rfl⟩
      rw [← hd0] at hfit hmod
      have e6 : IntKind.i64.wrap ((d : Int) + ((2 ^ k : Nat) : Int)) = ((d + 2 ^ k : Nat) : Int) := wadd (by omega)
      have e7 : IntKind.i64.wrap (((d + 2 ^ k : Nat) : Int) - ((2 ^ k : Nat) : Int)) = (d : Int) := by rw [wfit (by omega) (by omega)]; omega
      refine den_at (k := .i64) (j := j) op_rFloor_9_4 op_rFloor_9_5 rfl rfl (fun _ => rfl) hq.ds (by omega) rfl (fun _ => rfl) fun p => den_rq ⟨_, _, rfl⟩ (den_rq ?_ (den_rq ⟨_, rfl⟩ ?_))
      · show (0 : Int) ≤ (k : Int); omega
      simp only [List.cons_append, List.nil_append]
      rw [← hd0]
      refine den_set (k := .i64) (j := j) (d := d + 2 ^ k) op_rFloor_9_9 op_rFloor_9_10 rfl rfl (fun _ => rfl) (fun _ => rfl) l3 hq (by omega) hfit rfl (fun p => by simp only [rxs, iv, one_shl (show k < 32 by omega), e6]) rfl fun p2 u2 H4 l4 hq4 _ => ?_
      simp only [List.cons_append, List.nil_append]
      have hlo4 : (lo.set j (d + 2 ^ k)).length = n := by rw [List.length_set, hlo]
      have hv4 : vl (lo.set j (d + 2 ^ k)) = vl lo + 2 ^ (32 * j + k) := by
        have := vl_set (l := lo) (k := j) (d + 2 ^ k) (by omega)
        rw [← hd0, Nat.mul_add, BP_bit] at this
        omega
      have hz4 : ∀ k', k' < j → (lo.set j (d + 2 ^ k)).getD k' 0 = 0 := fun k' hk' => by rw [at_set_ne (by omega)]; exact hz k' hk'
      have hat4 : (lo.set j (d + 2 ^ k)).getD j 0 = d + 2 ^ k := at_set_self (by omega)
      generalize lo.set j (d + 2 ^ k) = lo4 at hq4 hlo4 hv4 hz4 hat4
      refine den_build0 op_rFloor_10_0 rfl fun ev H5 l5 hq5 => den_append op_rFloor_10_2 rfl rfl l5 hq5 (hq4.mono l5).ds (by simp; omega) rfl rfl fun v6 H6 l6 hq6 _ => ?_
      rw [List.nil_append] at hq6
      simp only [List.cons_append, List.nil_append]
      refine den_call (con_rcut hq6.ds) rfl ?_
      rintro u7 H7 ⟨rfl, l7, hd7, ht7, hv7⟩
      have hb7 : l7.length ≤ n := ht7 _ (by rw [hv7]; have := vl_lt hq4.2; rw [hlo4] at this; exact this)
      refine ⟨fun h => (nomatch h), den_call (con_rproduct hd7 hd7 (by omega) (by omega)) rfl ?_⟩
      rintro u8 H8 ⟨l8, l8', hd8, ht8, hv8⟩
      have lH8 := l4.trans (l6.trans l8)
      have hq8 := hq4.mono (l6.trans l8)
      refine ⟨fun _ => l8, den_call (con_rorder hd8 (hd.mono lH8) ht8 ht) rfl ?_⟩
      rintro u9 H9 ⟨rfl, c, rfl, hc1, hc2⟩
      obtain ⟨hb1, hb2⟩ := root_bit (e := 32 * j + k) hvl
      rw [← hv4] at hb1 hb2
      simp only [List.cons_append, List.nil_append]
      refine ⟨fun _ => PH.le.refl _, den_rq ⟨_, rfl⟩ (den_br (b := decide (c > 0)) rfl (fun hc => ?_) (fun hc => ?_))⟩
      · have hc := of_decide_eq_true hc
        have hgt : s < vl lo4 := by
          have h3 : ¬ vl lo4 * vl lo4 ≤ N := by rw [hv8, hv7, hv] at hc1 hc2; omega
          rw [sq_iff h1 h2] at h3; omega
        refine den_at (k := .i64) (j := j) op_rFloor_12_4 op_rFloor_12_5 rfl rfl (fun _ => rfl) hq8.ds (by omega) rfl (fun _ => rfl) fun p => den_rq ⟨_, rfl⟩ ?_
        simp only [List.cons_append, List.nil_append]
        rw [hat4]
        refine den_set (k := .i64) (j := j) (d := d) op_rFloor_12_9 op_rFloor_12_10 rfl rfl (fun _ => rfl) (fun _ => rfl) lH8 hq8 (by omega) (by omega) rfl (fun p => by simp only [rxs, iv, one_shl (show k < 32 by omega), e7]) rfl fun p2 u2 H10 l10 hq10 _ => ⟨⟨k, _, ?_, by omega, l10, hq10, by rw [List.length_set, hlo4], fun k' hk' => by rw [at_set_ne (by omega)]; exact hz4 k' hk', ?_, ?_⟩, ?_⟩
        · simp only [rxs, iv, e5]
        · rw [at_set_self (by omega)]; exact mod_down hmod
        · have h3 := vl_set (l := lo4) (k := j) d (by omega)
          rw [hat4, Nat.mul_add, BP_bit] at h3
          rw [← hb2 hgt]
          omega
        · simp only [rxs, iv, e5]
          omega
      · have hc := of_decide_eq_false hc
        have hle : vl lo4 ≤ s := by
          have h3 : vl lo4 * vl lo4 ≤ N := by rw [hv8, hv7, hv] at hc1 hc2; omega
          rw [sq_iff h1 h2] at h3; omega
        refine ⟨⟨k, lo4, ?_, by omega, lH8, hq8, hlo4, hz4, ?_, hv4.symm ▸ (hv4 ▸ hb1) (by omega)⟩, ?_⟩
        · simp only [rxs, iv, e5]
        · rw [hat4, Nat.add_mod_right]; exact mod_down hmod
        · simp only [rxs, iv, e5]
          omega
    · have hk2 := of_decide_eq_false hk2
      have hk0 : k = 0 := by omega
      subst hk0
      refine ⟨⟨j, lo, ?_, by omega, l3, hq, hlo, hz, hvl⟩, ?_⟩
      · simp only [rxs, iv, e4]
      · simp only [rxs, iv, e4]
        omega
  · have hi2 := of_decide_eq_false hi2
    have hi0 : i = 0 := by omega
    subst hi0
    refine den_call (con_rmade false hq.ds) rfl ?_
    rintro u H5 ⟨rfl, hu⟩
    rw [hvl] at hu
    have hu : Lg H5 u (s : Int) := by simpa [sn] using hu
    have hr := hu.rq
    obtain ⟨w', rfl, hw'⟩ := hu
    exact ⟨fun h => (nomatch h), den_rq hr (den_ret rfl ⟨l2, w', rfl, hw'⟩)⟩
/-- What Root gives. -/
def rootV (x : Int) (s : Nat) : Value := if x < 0 then .tuple #[wd 0, .int .i64 2] else .tuple #[wd s, .int .i64 0]
theorem con_rRoot (a s : Nat) (h1 : 0 ≤ toI a → (s : Int) * s ≤ toI a) (h2 : 0 ≤ toI a → toI a < ((s : Int) + 1) * ((s : Int) + 1)) : Con Try.prog 21 [wd a] H fun u H' => PH.le H H' ∧ u = rootV (toI a) s := by
  refine con_of_tree mixed tr_rRoot np_rRoot rfl (den_rq ⟨words_size a, words_one a⟩ (den_call (con_rIn a) rfl ?_))
  rintro u1 H1 ⟨l1, hu⟩
  have r1 := hu.rq
  have hu' := hu
  obtain ⟨w, rfl, nw⟩ := hu
  refine ⟨fun h => (nomatch h), den_rq r1 (den_rq ⟨_, rfl⟩ (den_br (b := decide (toI a < 0)) rfl (fun h => ?_) (fun h => ?_)))⟩
  · have h := of_decide_eq_true h
    refine den_ret rfl ⟨l1, ?_⟩
    unfold rootV; rw [if_pos h]
    simp only [rxs, retV, z_wide]
  · have h := of_decide_eq_false h
    have hf := toI_fits a
    obtain ⟨N, hN⟩ : ∃ N : Nat, toI a = (N : Int) := ⟨(toI a).toNat, by omega⟩
    have g1 := h1 (by omega)
    have g2 := h2 (by omega)
    have hl := lm_toI a
    rw [hN] at g1 g2 hu' hf hl
    have g1 : s * s ≤ N := by exact_mod_cast g1
    have g2 : N < (s + 1) * (s + 1) := by exact_mod_cast g2
    have hs : s ≤ N := Nat.le_trans (Nat.le_mul_self s) g1
    rw [show (Value.agg #[.bool (decide (toI a < 0)), w]) = Value.agg #[.bool (decide ((N : Int) < 0)), w] from by rw [hN]]
    refine den_call (con_rFloor N s hu' hl g1 g2) rfl ?_
    rintro u2 H2 ⟨l2, hu2⟩
    refine ⟨fun h => (nomatch h), den_call (con_rOut hu2) rfl ?_⟩
    rintro u3 H3 ⟨l3, rfl⟩
    unfold Fits at hf
    have hw : iw (s : Int) = wd s := by unfold iw; rw [rs_pos (by omega) (by have := M_HM; omega), Int.toNat_natCast]
    rw [told_fits (by omega), hw]
    refine ⟨fun h => (nomatch h), den_rq ⟨_, rfl, Nat.zero_lt_succ _⟩ (den_rq ⟨_, rfl, Nat.lt_succ_self _⟩ (den_rq ⟨words_size _, words_one _⟩ (den_ret rfl ⟨l1.trans (l2.trans l3), ?_⟩)))⟩
    unfold rootV; rw [if_neg (by omega)]
    rfl
theorem vl_drop_le (l : List Nat) (i : Nat) (h : i ≤ l.length) : vl (l.drop i) ≤ vl l := by
  have h1 := vl_split l h
  have h2 := Nat.mul_le_mul_right (vl (l.drop i)) (BP_pos i)
  omega
theorem sgI_lt {p q : Int} : sgI p q < 0 ↔ p < q := by unfold sgI; split <;> (try split) <;> omega
theorem sgI_gt {p q : Int} : 0 < sgI p q ↔ q < p := by unfold sgI; split <;> (try split) <;> omega
set_option maxRecDepth 100000 in
theorem con_rInteger (hx : Lg H x z) (hz : Lm z) : Con Try.prog 78 [x] H fun u H' => PH.le H H' ∧ u = told64 z := by
  have hrq := hx.rq
  have hx' := hx
  have lm64 : ∀ q : Int, -9223372036854775808 ≤ q → q < 9223372036854775808 → Lm q := fun q h1 h2 => lm_M (by have := M_big; omega)
  obtain ⟨w, rfl, l, hd, ht, hv⟩ := hx
  refine con_of_tree mixed tr_rInteger np_rInteger rfl (den_rq hrq ⟨fun vals H' => vals = [.bool (decide (z < -9223372036854775808 ∨ 9223372036854775807 < z))] ∧ PH.le H H', ?_, ?_⟩)
  · refine den_call (con_rLong1 (-9223372036854775808) (by omega) (by omega)) rfl ?_
    rintro u1 H1 ⟨l1, hu1⟩
    refine ⟨fun _ => l1, den_call (con_rOrder (hx'.mono l1) hu1 hz (lm64 _ (by omega) (by omega))) rfl ?_⟩
    rintro u2 H2 ⟨l2, rfl⟩
    simp only [List.cons_append, List.nil_append]
    refine ⟨fun _ => l2, den_rq ⟨_, rfl⟩ (den_br (b := decide (sgI z (-9223372036854775808) < 0)) rfl (fun h => ?_) (fun h => ?_))⟩
    · have h := sgI_lt.1 (of_decide_eq_true h)
      exact ⟨by rw [decide_eq_true (show z < -9223372036854775808 ∨ 9223372036854775807 < z by omega)]; rfl, l1.trans l2⟩
    · have h : ¬ z < -9223372036854775808 := fun e => of_decide_eq_false h (sgI_lt.2 e)
      refine den_call (con_rLong1 9223372036854775807 (by omega) (by omega)) rfl ?_
      rintro u3 H3 ⟨l3, hu3⟩
      have l13 := l1.trans (l2.trans l3)
      refine ⟨fun _ => l3, den_call (con_rOrder (hx'.mono l13) hu3 hz (lm64 _ (by omega) (by omega))) rfl ?_⟩
      rintro u4 H4 ⟨l4, rfl⟩
      simp only [List.cons_append, List.nil_append]
      refine ⟨fun _ => l4, den_rq ⟨_, rfl⟩ ⟨?_, l13.trans l4⟩⟩
      show [Value.bool (decide (sgI z 9223372036854775807 > 0))] = _
      congr 2
      rw [decide_eq_decide]
      have := sgI_gt (p := z) (q := 9223372036854775807)
      omega
  rintro vals H1 - ⟨rfl, l1⟩
  simp only [List.cons_append, List.nil_append]
  refine den_rq ⟨_, rfl⟩ (den_br rfl (fun h => ?_) (fun h => ?_))
  · have h := of_decide_eq_true h
    refine den_ret rfl ⟨l1, ?_⟩
    unfold told64; rw [if_neg (by omega)]; rfl
  have h := of_decide_eq_false h
  have hT : told64 z = .tuple #[.int .i64 z, .int .i64 0] := by unfold told64; rw [if_pos (by omega)]
  rw [hT]
  have hN : vl l ≤ 9223372036854775808 := by omega
  have hlen : l.length ≤ 1000 := (nat_len hd ht hv).2 hz
  have e1 : IntKind.i64.wrap ((l.length : Int) - 1) = (l.length : Int) - 1 := wfit (by omega) (by omega)
  refine den_len op_rInteger_4_2 rfl (hd.mono l1) rfl (den_rq ⟨_, rfl⟩ ⟨fun vals H' => ∃ i : Nat, vals = [.int .u64 (vl (l.drop i) : Nat), .int .i64 ((i : Int) - 1)] ∧ i ≤ l.length ∧ H' = H1, fun vals _ => (intOf (vals.getD 1 undef) + 1).toNat, ⟨l.length, ?_, Nat.le_refl _, rfl⟩, ?_⟩)
  · rw [List.drop_of_length_le (Nat.le_refl _)]
    simp only [rxs, iv, e1]
    rfl
  rintro vals H2 - ⟨i, rfl, hi, rfl⟩
  simp only [List.cons_append, List.nil_append]
  refine den_rq ⟨_, rfl⟩ (den_br (b := decide ((i : Int) - 1 ≥ 0)) rfl (fun hi2 => ?_) (fun hi2 => ?_))
  · have hi2 := of_decide_eq_true hi2
    obtain ⟨j, rfl⟩ : ∃ j, i = j + 1 := ⟨i - 1, by omega⟩
    have ej : ((j + 1 : Nat) : Int) - 1 = (j : Int) := by omega
    rw [ej]
    have e2 : IntKind.i64.wrap ((j : Int) - 1) = (j : Int) - 1 := wfit (by omega) (by omega)
    have hs := vl_drop_at (l := l) (k := j) (by omega)
    have hb := vl_drop_le l j (by omega)
    have e3 : IntKind.u64.wrap (IntKind.u64.wrap (((vl (l.drop (j + 1)) : Nat) : Int) * 4294967296) + IntKind.u64.wrap ((l.getD j 0 : Nat) : Int)) = ((vl (l.drop j) : Nat) : Int) := by
      rw [IntKind.wrap_u64, IntKind.wrap_u64, IntKind.wrap_u64, hs]; omega
    refine den_rq ⟨_, rfl⟩ (den_at (k := .i64) (j := j) op_rInteger_7_5 op_rInteger_7_6 rfl rfl (fun _ => rfl) (hd.mono l1) (by omega) rfl (fun _ => rfl) fun p => den_rq ⟨_, rfl⟩ ⟨⟨j, ?_, by omega, rfl⟩, ?_⟩)
    · simp only [rxs, iv, e2, e3]
    · simp only [rxs, iv, e2]
      omega
  · have hi2 := of_decide_eq_false hi2
    have hi0 : i = 0 := by omega
    subst hi0
    rw [List.drop_zero, hv]
    refine ⟨fun vals H' => vals = [.int .u64 (z % 18446744073709551616)] ∧ H' = H2, ?_, ?_⟩
    · refine den_rq ⟨_, rfl⟩ (den_br (b := decide (z < 0)) rfl (fun h3 => ?_) (fun h3 => ?_))
      · have h3 := of_decide_eq_true h3
        have e4 : IntKind.u64.wrap (0 - ((z.natAbs : Nat) : Int)) = z % 18446744073709551616 := by rw [IntKind.wrap_u64]; omega
        refine den_rq ⟨_, rfl⟩ ⟨?_, rfl⟩
        simp only [rxs, unV, e4]
      · have h3 := of_decide_eq_false h3
        refine ⟨?_, rfl⟩
        show [Value.int .u64 ((z.natAbs : Nat) : Int)] = _
        congr 2
        omega
    rintro vals H3 - ⟨rfl, rfl⟩
    have e5 : IntKind.i64.wrap (z % 18446744073709551616) = z := by rw [IntKind.wrap_i64]; omega
    refine den_rq ⟨_, rfl⟩ (den_ret ?_ ⟨l1, rfl⟩)
    simp only [List.cons_append, List.nil_append, rxs, retV, e5]
theorem con_rInt (a : Nat) : Con Try.prog 42 [wd a] H fun u H' => PH.le H H' ∧ u = told64 (toI a) := by
  refine con_of_tree mixed tr_rInt np_rInt rfl (den_rq ⟨words_size a, words_one a⟩ (den_call (con_rIn a) rfl ?_))
  rintro u1 H1 ⟨l1, hu⟩
  refine ⟨fun h => (nomatch h), den_call (con_rInteger hu (lm_toI a)) rfl ?_⟩
  rintro u2 H2 ⟨l2, rfl⟩
  obtain ⟨n, e, ht⟩ : ∃ n e : Int, told64 (toI a) = .tuple #[.int .i64 n, .int .i64 e] := by
    unfold told64; split
    · exact ⟨_, _, rfl⟩
    · exact ⟨_, _, rfl⟩
  rw [ht]
  exact ⟨fun h => (nomatch h), den_rq ⟨_, rfl, Nat.zero_lt_succ _⟩ (den_rq ⟨_, rfl, Nat.lt_succ_self _⟩ (den_ret rfl ⟨l1.trans l2, rfl⟩))⟩
end
end Go.Proofs.YtmndieeelnicpaaRR

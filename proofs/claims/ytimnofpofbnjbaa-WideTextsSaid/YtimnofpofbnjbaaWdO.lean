/- Contracts: short, shifted, Over, Common. -/
import Derived.Test.YtimnofpofbnjbaaWdL
namespace Go.Proofs.Ytimnofpofbnjbaa
open Go.RowKit Go.RX Go.WD Go.IntWalk

theorem wf_ge (f g : Nat → Nat) (k i : Nat) : (if i = k then f k else if k + 1 ≤ i then f i else g i) = if k ≤ i then f i else g i := by
  by_cases h1 : i = k
  · subst h1; rw [if_pos rfl, if_pos (Nat.le_refl _)]
  · rw [if_neg h1]
    by_cases h2 : k ≤ i
    · rw [if_pos (by omega), if_pos h2]
    · rw [if_neg (by omega), if_neg h2]
theorem sub1 (m : Nat) (h : m ≤ 9223372036854775807) : IntKind.i64.wrap ((m : Int) - 1) = (m : Int) - 1 := i64_in _ ⟨by omega, by omega⟩
theorem det_short (A d : Nat) (hA : A < M) (hd : 0 < d) (h64 : d < 18446744073709551616) : Det Try.prog 35 [wd A, .int .u64 d] (.tuple #[wd (A / d), .int .u64 ((A % d : Nat) : Int)]) := by
  refine det_of_tree mixed tr_short np_short rfl (pd_rq ⟨words_size A, words_one A⟩ ?_)
  refine ⟨fun l => ∃ k, k ≤ 8 ∧ l = [.int .u64 ((A / PW k % d : Nat) : Int), .int .i64 ((k : Int) - 1), .agg (wf fun j => if k ≤ j then dig (A / d) j else dig A j)], fun l => (intOf (l.getD 1 undef) + 1).toNat, ⟨8, by omega, ?_⟩, ?_⟩
  · rw [Nat.div_eq_of_lt (by rw [← M_def]; exact hA), Nat.zero_mod]
    rfl
  rintro vals - ⟨k, hk, rfl⟩
  refine pd_rq ⟨_, rfl⟩ (pd_br (b := decide ((k : Int) - 1 ≥ 0)) rfl (fun h => ?_) (fun h => ?_))
  · have hk0 : 0 < k := by simp at h; omega
    obtain ⟨m, rfl⟩ : ∃ m, k = m + 1 := ⟨k - 1, by omega⟩
    have hm : m < 8 := by omega
    have em : ((m + 1 : Nat) : Int) - 1 = (m : Int) := by omega
    rw [em]
    obtain ⟨s1, s2⟩ := short_step A d m hd h64
    have hdv := det_div64 (A / PW (m + 1) % d) (dig A m) d (Nat.mod_lt _ hd) (dig_lt A m) h64
    rw [s1, s2] at hdv
    refine pd_rq ⟨_, _, rfl⟩ (pd_rq ⟨?_, ?_⟩ (pd_call hdv ?_ ?_))
    · show (0 : Int) ≤ (m : Int); omega
    · show (m : Int) < 8; omega
    · simp only [rxs, wf_get _ hm]
      rw [if_neg (by omega)]
    · refine pd_rq ⟨_, rfl, Nat.zero_lt_succ _⟩ (pd_rq ⟨_, rfl, Nat.lt_succ_self _⟩ (pd_rq ⟨rfl, one_int _ _⟩ ?_))
      refine ⟨⟨m, by omega, ?_⟩, ?_⟩
      · simp only [rxs, sub1 m (by omega)]
        rw [wf_spl _ hm, wf_congr (g := fun j => if m ≤ j then dig (A / d) j else dig A j) (fun i _ => wf_ge _ _ m i)]
      · simp only [rxs, sub1 m (by omega)]
        omega
  · have hk0 : k = 0 := by simp at h; omega
    subst hk0
    refine pd_ret ?_ rfl
    simp only [rxs, retV, PW_zero, Nat.div_one]
    rw [wf_words (n := A / d) (fun i _ => by rw [if_pos (Nat.zero_le i)])]
    rfl
theorem quoI (k : Nat) (hk : k ≤ 9223372036854775807) : IntKind.i64.wrap ((k : Int).tdiv 64) = ((k / 64 : Nat) : Int) := by
  rw [show (64 : Int) = ((64 : Nat) : Int) from rfl, ← Int.ofNat_tdiv, i64n _ (by omega)]
theorem remI (k : Nat) : (k : Int).tmod 64 = ((k % 64 : Nat) : Int) := by
  rw [show (64 : Int) = ((64 : Nat) : Int) from rfl, ← Int.ofNat_tmod]
set_option maxHeartbeats 1000000 in
theorem det_shifted (A k : Nat) (hk : k < 512) : Det Try.prog 79 [wd A, .int .i64 k] (wd (A * 2 ^ k)) := by
  have hsp := shift_split A (k / 64) (k % 64)
  rw [show 64 * (k / 64) + k % 64 = k from by omega] at hsp
  have hr : k % 64 ≤ 64 := by omega
  have hq : k / 64 < 8 := by omega
  generalize hqd : k / 64 = q at hsp hq
  generalize hrd : k % 64 = r at hsp hr
  have hr64 : r < 64 := by omega
  rw [hsp]
  have hQ := quoI k (by omega)
  have hR := remI k
  rw [hqd] at hQ
  rw [hrd] at hR
  refine det_of_tree mixed tr_shifted np_shifted rfl (pd_rq ⟨words_size A, words_one A⟩ (pd_rq ⟨_, rfl⟩ ?_))
  refine ⟨fun l => ∃ i, q ≤ i ∧ i ≤ 8 ∧ l = [.int .i64 (i : Nat), .agg (wf fun j => if j < i then dig (A * 2 ^ r * PW q) j else 0)], fun l => (8 - intOf (l.getD 0 undef)).toNat, ⟨q, Nat.le_refl _, by omega, ?_⟩, ?_⟩
  · simp only [rxs, hQ, z_size, wd]
    congr 3
    refine wf_congr fun i _ => ?_
    rw [dig_zero]
    split
    · rename_i h; exact (dig_shift_lt _ h).symm
    · rfl
  rintro vals - ⟨i, hqi, hi, rfl⟩
  refine pd_rq ⟨_, rfl⟩ (pd_br (b := decide ((i : Int) < 8)) rfl (fun h => ?_) (fun h => ?_))
  · have hi : i < 8 := by simp at h; omega
    obtain ⟨j, rfl⟩ := Nat.exists_eq_add_of_le hqi
    have hj : j < 8 := by omega
    have e1 : IntKind.i64.wrap (((q + j : Nat) : Int) - (q : Int)) = (j : Int) := by
      rw [show ((q + j : Nat) : Int) - (q : Int) = (j : Int) from by omega]; exact i64n j (by omega)
    have e2 : IntKind.i64.wrap (((q + j : Nat) : Int) + 1) = ((q + j + 1 : Nat) : Int) := i64n (q + j + 1) (by omega)
    have hdg : dig (A * 2 ^ r * PW q) (q + j) = dig (A * 2 ^ r) j := dig_shift _ _ _
    have hnext : ∀ v : Nat, v = dig (A * 2 ^ r) j → (∃ i', q ≤ i' ∧ i' ≤ 8 ∧ [Value.int .i64 ((q + j + 1 : Nat) : Int), .agg (wf fun t => if t = q + j then v else if t < q + j then dig (A * 2 ^ r * PW q) t else 0)] = [.int .i64 (i' : Nat), .agg (wf fun t => if t < i' then dig (A * 2 ^ r * PW q) t else 0)]) ∧ (8 - ((q + j + 1 : Nat) : Int)).toNat < (8 - ((q + j : Nat) : Int)).toNat := fun v hv => by
      refine ⟨⟨q + j + 1, by omega, by omega, ?_⟩, by omega⟩
      congr 3
      refine wf_congr fun t _ => ?_
      rw [hv, ← hdg]
      exact ite_step (dig (A * 2 ^ r * PW q)) (fun _ => 0) (q + j) t
    refine pd_rq ⟨?_, ?_⟩ (pd_rq ⟨dig A j, ?_⟩ (pd_rq ?_ (pd_rq ⟨_, _, rfl⟩ (pd_rq ⟨?_, ?_⟩ ?_))))
    · simp only [rxs, hQ, e1]; omega
    · simp only [rxs, hQ, e1]; omega
    · simp only [rxs, hQ, e1, words_get A hj]
    · show (0 : Int) ≤ (k : Int).tmod 64; rw [hR]; omega
    · show (0 : Int) ≤ ((q + j : Nat) : Int); omega
    · show ((q + j : Nat) : Int) < 8; omega
    · have hshl := shlN (dig A j) r hr
      refine pd_br (b := decide (1 ≤ j)) ?_ (fun h1 => ?_) (fun h1 => ?_)
      · simp only [rxs, hQ, e1, sub1 j (by omega)]
        congr 1
        rw [Bool.eq_iff_iff, decide_eq_true_iff, decide_eq_true_iff]; omega
      · have h1 := of_decide_eq_true h1
        obtain ⟨m, rfl⟩ : ∃ m, j = m + 1 := ⟨j - 1, by omega⟩
        have em : ((m + 1 : Nat) : Int) - 1 = (m : Int) := by omega
        have hm : m < 8 := by omega
        refine pd_br (b := decide (0 < r)) ?_ (fun h2 => ?_) (fun h2 => ?_)
        · simp only [rxs, hR]
          congr 1
          rw [Bool.eq_iff_iff, decide_eq_true_iff, decide_eq_true_iff]; omega
        · have h2 := of_decide_eq_true h2
          have e64 : IntKind.i64.wrap ((64 : Int) - (r : Int)) = ((64 - r : Nat) : Int) := by
            rw [show (64 : Int) - (r : Int) = ((64 - r : Nat) : Int) from by omega]; exact i64n _ (by omega)
          have hsub : IntKind.i64.wrap (((m + 1 : Nat) : Int) - 1) = (m : Int) := by rw [em]; exact i64n m (by omega)
          refine pd_rq ⟨?_, ?_⟩ (pd_rq ⟨dig A m, ?_⟩ (pd_rq ?_ (pd_rq ⟨((dig A (m + 1) * 2 ^ r % 18446744073709551616 : Nat) : Int), ?_⟩ ?_)))
          · simp only [rxs, hQ, e1, hsub]; omega
          · simp only [rxs, hQ, e1, hsub]; omega
          · simp only [rxs, hQ, e1, hsub, words_get A hm]
          · simp only [Rq.holds, rxs, hR, e64]; omega
          · simp only [rxs, hQ, hR, e1, words_get A hj, hshl]
            rw [wf_spl _ hi, wf_get _ hi, if_pos rfl]
          · have hor := or_u64 (dig A (m + 1) * 2 ^ r % 18446744073709551616) (dig A m / 2 ^ (64 - r)) (Nat.mod_lt _ (by omega)) (Nat.lt_of_le_of_lt (Nat.div_le_self _ _) (dig_lt A m))
            rw [dig_shl_or A m hr] at hor
            have hh := hnext _ rfl
            simp only [pd, List.nil_append, List.getD_cons_zero, rxs, hQ, hR, e1, e2, e64, hsub, words_get A hj, words_get A hm, hshl]
            rw [wf_spl _ hi, wf_get _ hi, if_pos rfl]
            simp only [intOf]
            rw [shr_u64 (dig A m) (64 - r) (by omega), hor, wf_spl _ hi]
            rw [wf_congr (g := fun t => if t = q + (m + 1) then dig (A * 2 ^ r) (m + 1) else if t < q + (m + 1) then dig (A * 2 ^ r * PW q) t else 0) (fun t _ => by
              by_cases ht : t = q + (m + 1)
              · rw [if_pos ht, if_pos ht]
              · rw [if_neg ht, if_neg ht, if_neg ht])]
            exact hh
        · have h2 := of_decide_eq_false h2
          have h0 : r = 0 := by omega
          have hh := hnext (dig A (m + 1) * 2 ^ r % 18446744073709551616) (by rw [h0, Nat.pow_zero, Nat.mul_one, Nat.mul_one, Nat.mod_eq_of_lt (dig_lt _ _)])
          simp only [pd, List.nil_append, List.getD_cons_zero, rxs, hQ, hR, e1, e2, words_get A hj, hshl]
          rw [wf_spl _ hi]
          exact hh
      · have h1 := of_decide_eq_false h1
        have h0 : j = 0 := by omega
        have hh := hnext (dig A j * 2 ^ r % 18446744073709551616) (by rw [h0]; exact (dig_shl0 A r).symm)
        simp only [pd, List.nil_append, List.getD_cons_zero, rxs, hQ, hR, e1, e2, words_get A hj, hshl]
        rw [wf_spl _ hi]
        exact hh
  · have hi : i = 8 := by simp at h; omega
    subst hi
    refine pd_ret ?_ rfl
    simp only [rxs, retV]
    rw [wf_words (n := A * 2 ^ r * PW q) (fun i hi => by rw [if_pos hi])]
    rfl

/-! ### Quotients -/
theorem pow_div_PW {k B n : Nat} (h : k + blen B ≤ 64 * n) : B * 2 ^ k < PW n := by
  have h1 := blen_lt B
  have h2 : B * 2 ^ k < 2 ^ blen B * 2 ^ k := Nat.mul_lt_mul_of_lt_of_le h1 (Nat.le_refl _) (Nat.pow_pos (by omega))
  rw [← Nat.pow_add] at h2
  rw [PW_pow]
  exact Nat.lt_of_lt_of_le h2 (Nat.pow_le_pow_right (by omega) (by omega))
theorem pow_div_M {k B : Nat} (h : k + blen B ≤ 512) : B * 2 ^ k < M := by
  rw [M_def]; exact pow_div_PW (by omega)
theorem sb_sub {a b : Nat} (ha : a < M) (hb : b ≤ a) : sb a b % M = (a - b) % M := by
  unfold sb
  rw [Nat.mod_eq_of_lt (show b < M by omega), show a + (M - b) = (a - b) + M from by omega, Nat.add_mod_right]
theorem bit_u64 (r : Nat) (h : r < 64) : IntKind.u64.wrap ((1 : Int) * 2 ^ min r (IntKind.bits .u64)) = ((2 ^ r : Nat) : Int) := by
  have := shlN 1 r (by omega)
  rw [Nat.one_mul, Nat.mod_eq_of_lt (by rw [W_pow]; exact Nat.pow_lt_pow_right (by omega) h)] at this
  exact this
theorem blen_PW {A k : Nat} (h : A < PW k) : blen A ≤ 64 * k := blen_le (by rw [PW_pow] at h; exact h)
theorem blen_M {A : Nat} (h : A < M) : blen A ≤ 512 := by rw [M_def] at h; have := blen_PW h; omega
theorem put_word (t : Nat) (h : t < 18446744073709551616) : spl (words 0) 0 [.int .u64 (t : Int)] = words t := by
  rw [put0]
  exact wf_words fun i _ => (dig_word h i).symm
set_option maxHeartbeats 1000000 in
theorem det_over (A B : Nat) (hA : A < M) (hB : B < M) (h0 : 0 < B) : Det Try.prog 53 [wd A, wd B] (.tuple #[wd (A / B), wd (A % B)]) := by
  have hbA := det_bits A
  have hbB := det_bits B
  rw [Nat.mod_eq_of_lt hA] at hbA
  rw [Nat.mod_eq_of_lt hB] at hbB
  have lA := blen_M hA
  have lB := blen_M hB
  refine det_of_tree mixed tr_over np_over rfl (pd_rq ⟨words_size A, words_one A⟩ (pd_rq ⟨words_size B, words_one B⟩ (pd_call hbB rfl (pd_rq ⟨_, rfl⟩ (pd_br (b := decide ((blen B : Int) ≤ 64)) rfl (fun h => ?_) (fun h => ?_))))))
  · have h := of_decide_eq_true h
    have hb64 : B < 18446744073709551616 := by
      rw [W_pow]; exact Nat.lt_of_lt_of_le (blen_lt B) (Nat.pow_le_pow_right (by omega) (by omega))
    have hmod := Nat.mod_lt A h0
    refine pd_call (det_short A B hA h0 hb64) ?_ (pd_rq ⟨_, rfl, Nat.zero_lt_succ _⟩ (pd_rq ⟨_, rfl, Nat.lt_succ_self _⟩ (pd_rq ⟨words_size _, words_one _⟩ (pd_rq ⟨rfl, one_int _ _⟩ (pd_ret ?_ rfl)))))
    · simp only [rxs, words_get B (show 0 < 8 by omega), dig_p0, Nat.mod_eq_of_lt hb64]
      rfl
    · simp only [rxs, retV, z_size, put_word (A % B) (by omega)]
      rfl
  have h := of_decide_eq_false h
  obtain ⟨p1, p2⟩ := blen_pos (x := B) (by omega)
  refine pd_call hbA rfl (pd_call hbB rfl (pd_rq ⟨_, rfl⟩ (pd_rq ⟨_, rfl⟩ ?_)))
  simp only [List.cons_append, List.nil_append]
  refine ⟨fun l => ∃ (t : Int) (q r : Nat), l = [.int .i64 t, wd q, wd r] ∧ -1000 ≤ t ∧ t ≤ 1000 ∧ A = q * B + r ∧ ((t < 0 ∧ r < B) ∨ (0 ≤ t ∧ r < B * 2 ^ (t.toNat + 1) ∧ 2 ^ (t.toNat + 1) ∣ q ∧ t.toNat + blen B ≤ 512)), fun l => (intOf (l.getD 0 undef) + 1).toNat, ⟨(blen A : Int) - (blen B : Int), 0, A, ?_, by omega, by omega, by omega, ?_⟩, ?_⟩
  · simp only [rxs, z_size, i64_in _ (show -9223372036854775808 ≤ (blen A : Int) - (blen B : Int) ∧ (blen A : Int) - (blen B : Int) ≤ 9223372036854775807 from by omega)]
    rfl
  · have hlA := blen_lt A
    by_cases hlt : blen A < blen B
    · left
      refine ⟨by omega, ?_⟩
      have : 2 ^ blen A ≤ 2 ^ (blen B - 1) := Nat.pow_le_pow_right (by omega) (by omega)
      omega
    · right
      refine ⟨by omega, ?_, Nat.dvd_zero _, by omega⟩
      rw [show ((blen A : Int) - (blen B : Int)).toNat + 1 = blen A - blen B + 1 from by omega]
      have h3 := Nat.mul_le_mul_right (2 ^ (blen A - blen B + 1)) p2
      rw [← Nat.pow_add, show blen B - 1 + (blen A - blen B + 1) = blen A from by omega] at h3
      omega
  rintro vals - ⟨t, q, r, rfl, ht1, ht2, hqr, hcase⟩
  simp only [List.cons_append, List.nil_append]
  refine pd_rq ⟨_, rfl⟩ (pd_br (b := decide (t ≥ 0)) rfl (fun ht => ?_) (fun ht => ?_))
  · have ht := of_decide_eq_true ht
    obtain ⟨k, rfl⟩ : ∃ k : Nat, t = (k : Int) := ⟨t.toNat, by omega⟩
    rw [Int.toNat_natCast] at hcase
    obtain ⟨_, hr, hdv, hk⟩ := hcase.resolve_left (by omega)
    have hrA : r < M := by
      have : r ≤ A := by omega
      omega
    have hBk := pow_div_M hk
    have hkb : k < 512 := by omega
    have e1 := sub1 k (by omega)
    have hQ := quoI k (by omega)
    have hR := remI k
    have ho := det_order r (B * 2 ^ k)
    rw [Nat.mod_eq_of_lt hrA, Nat.mod_eq_of_lt hBk] at ho
    have hpk : 2 ^ (k + 1) = 2 * 2 ^ k := by rw [Nat.pow_succ, Nat.mul_comm]
    -- what is left for the next round
    have hnext : ∀ q' r' : Nat, A = q' * B + r' → r' < B * 2 ^ k → 2 ^ k ∣ q' → (∃ (t : Int) (q r : Nat), [Value.int .i64 ((k : Int) - 1), wd q', wd r'] = [.int .i64 t, wd q, wd r] ∧ -1000 ≤ t ∧ t ≤ 1000 ∧ A = q * B + r ∧ ((t < 0 ∧ r < B) ∨ (0 ≤ t ∧ r < B * 2 ^ (t.toNat + 1) ∧ 2 ^ (t.toNat + 1) ∣ q ∧ t.toNat + blen B ≤ 512))) ∧ ((k : Int) - 1 + 1).toNat < ((k : Int) + 1).toNat := fun q' r' g1 g2 g3 => by
      refine ⟨⟨(k : Int) - 1, q', r', rfl, by omega, by omega, g1, ?_⟩, by omega⟩
      by_cases hk0 : k = 0
      · left
        subst hk0
        rw [Nat.pow_zero, Nat.mul_one] at g2
        exact ⟨by omega, g2⟩
      · right
        rw [show ((k : Int) - 1).toNat + 1 = k from by omega]
        exact ⟨by omega, g2, g3, by omega⟩
    refine pd_call (det_shifted B k hkb) rfl (pd_rq ⟨words_size _, words_one _⟩ (pd_call ho rfl (pd_rq ⟨_, rfl⟩ (pd_br (b := decide (sg r (B * 2 ^ k) ≥ 0)) rfl (fun hc => ?_) (fun hc => ?_)))))
    · have hc := sg_nonneg.1 (of_decide_eq_true hc)
      refine pd_call (det_minus r (B * 2 ^ k)) rfl (pd_rq ⟨_, rfl, Nat.zero_lt_succ _⟩ (pd_rq ⟨_, rfl, Nat.lt_succ_self _⟩ (pd_rq ⟨words_size _, words_one _⟩ (pd_rq ⟨?_, ?_⟩ (pd_rq ?_ (pd_rq ⟨dig q (k / 64), ?_⟩ ?_))))))
      · simp only [rxs, hQ]; omega
      · simp only [rxs, hQ]; omega
      · simp only [Rq.holds, rxs, hR]; omega
      · simp only [rxs, hQ, words_get q (show k / 64 < 8 by omega)]
      · have hh := hnext (q + 2 ^ k) (r - B * 2 ^ k) (by rw [Nat.add_mul, Nat.mul_comm (2 ^ k)]; omega) (by rw [hpk] at hr; rw [← Nat.mul_assoc, Nat.mul_comm B 2, Nat.mul_assoc] at hr; omega) ((Nat.dvd_add_right (Nat.dvd_trans ⟨2, by rw [hpk, Nat.mul_comm]⟩ hdv)).2 (Nat.dvd_refl _))
        have hor := or_u64 (dig q (k / 64)) (2 ^ (k % 64)) (dig_lt _ _) (by rw [W_pow]; exact Nat.pow_lt_pow_right (by omega) (by omega))
        simp only [pd, List.nil_append, List.getD_cons_zero, rxs, hQ, hR, e1, words_get q (show k / 64 < 8 by omega), bit_u64 (k % 64) (by omega), hor, words_bit hdv hkb]
        rw [show wd (sb r (B * 2 ^ k)) = wd (r - B * 2 ^ k) from wd_congr (sb_sub hrA hc)]
        exact hh
    · have hc : ¬ B * 2 ^ k ≤ r := fun e => of_decide_eq_false hc (sg_nonneg.2 e)
      have hh := hnext q r hqr (by omega) (Nat.dvd_trans ⟨2, by rw [hpk, Nat.mul_comm]⟩ hdv)
      simp only [pd, List.nil_append, List.getD_cons_zero, rxs, e1]
      exact hh
  · have ht := of_decide_eq_false ht
    obtain ⟨_, hr⟩ := hcase.resolve_right (by omega)
    refine pd_ret ?_ rfl
    have e : A = r + B * q := by rw [Nat.mul_comm]; omega
    simp only [rxs, retV]
    rw [show A / B = q from by rw [e, Nat.add_mul_div_left _ _ h0, Nat.div_eq_of_lt hr, Nat.zero_add], show A % B = r from by rw [e, Nat.add_mul_mod_self_left, Nat.mod_eq_of_lt hr]]
    rfl

/-! ### The greatest common divisor -/
def numK (v : Value) : Nat → Nat
  | 0 => 0
  | k + 1 => numK v k + PW k * (intOf (v.cells.getD k undef)).toNat
theorem numK_wd (n : Nat) : ∀ k, k ≤ 8 → numK (wd n) k = n % PW k
  | 0, _ => by rw [numK, PW_zero, Nat.mod_one]
  | k + 1, h => by
    rw [numK, numK_wd n k (by omega), wd_cells, words_get n (by omega), mod_succ]
    rfl
theorem numK_M {n : Nat} (h : n < M) : numK (wd n) 8 = n := by rw [numK_wd n 8 (by omega), ← M_def, Nat.mod_eq_of_lt h]
theorem det_common (A B : Nat) (hA : A < M) (hB : B < M) : Det Try.prog 56 [wd A, wd B] (wd (Nat.gcd A B)) := by
  refine det_of_tree mixed tr_common np_common rfl (pd_rq ⟨words_size A, words_one A⟩ (pd_rq ⟨words_size B, words_one B⟩ ?_))
  refine ⟨fun l => ∃ x y, l = [wd x, wd y] ∧ x < M ∧ y < M ∧ Nat.gcd x y = Nat.gcd A B, fun l => numK (l.getD 1 undef) 8, ⟨A, B, rfl, hA, hB, rfl⟩, ?_⟩
  rintro vals - ⟨x, y, rfl, hx, hy, hg⟩
  refine pd_call (det_zero y) rfl (pd_rq ⟨_, rfl⟩ (pd_br (b := !decide (y % M = 0)) rfl (fun h => ?_) (fun h => ?_)))
  · have h : y ≠ 0 := by rw [Nat.mod_eq_of_lt hy] at h; simpa using h
    have hlt := Nat.mod_lt x (show 0 < y by omega)
    refine pd_call (det_over x y hx hy (by omega)) rfl (pd_rq ⟨_, rfl, Nat.zero_lt_succ _⟩ (pd_rq ⟨_, rfl, Nat.lt_succ_self _⟩ (pd_rq ⟨words_size _, words_one _⟩ (pd_rq ⟨words_size _, words_one _⟩ ?_))))
    refine ⟨⟨y, x % y, rfl, hy, by omega, ?_⟩, ?_⟩
    · rw [← hg, Nat.gcd_comm x y, Nat.gcd_rec y x, Nat.gcd_comm]
    · show numK (wd (x % y)) 8 < numK (wd y) 8
      rw [numK_M (by omega), numK_M hy]
      exact hlt
  · have h : y = 0 := by rw [Nat.mod_eq_of_lt hy] at h; simpa using h
    subst h
    refine pd_ret ?_ rfl
    rw [← hg, Nat.gcd_zero_right]
    rfl
end Go.Proofs.Ytimnofpofbnjbaa

/- Contracts: short, shifted, Over, Common. -/
import Derived.Test.YtcleogdmobdnpacGreatRDoorWdL
namespace Go.Proofs.YtcleogdmobdnpacGreatRDoor
open Go.RowKit Go.RX Go.WD Go.IntWalk

theorem wf_ge (f g : Nat → Nat) (k i : Nat) : (if i = k then f k else if k + 1 ≤ i then f i else g i) = if k ≤ i then f i else g i := by
  by_cases h1 : i = k
  · subst h1; rw [if_pos rfl, if_pos (Nat.le_refl _)]
  · rw [if_neg h1]
    by_cases h2 : k ≤ i
    · rw [if_pos (by omega), if_pos h2]
    · rw [if_neg (by omega), if_neg h2]
theorem sub1 (m : Nat) (h : m ≤ 9223372036854775807) : IntKind.i64.wrap ((m : Int) - 1) = (m : Int) - 1 := i64_in _ ⟨by omega, by omega⟩
theorem det_short (A d : Nat) (hA : A < M) (hd : 0 < d) (h64 : d < 18446744073709551616) : Det Tryz.prog 92 [wd A, .int .u64 d] (.tuple #[wd (A / d), .int .u64 ((A % d : Nat) : Int)]) := by
  refine det_of_tree mixed tr_short np_short rfl (pd_rq ⟨words_size A, words_one A⟩ ?_)
  refine ⟨fun l => ∃ k, k ≤ 8 ∧ l = [.int .u64 ((A / PW k % d : Nat) : Int), .int .i64 ((k : Int) - 1), .agg (wf fun j => if k ≤ j then dig (A / d) j else dig A j)], fun l => (intOf (l.getD 1 undef) + 1).toNat, ⟨8, by omega, ?_⟩, ?_⟩
  · rw [Nat.div_eq_of_lt (by rw [← M_def]; exact hA), Nat.zero_mod]
    rfl
  rintro vals - ⟨k, hk, rfl⟩
  refine pd_rq ⟨_, rfl⟩ (pd_br (b := decide ((k : Int) - 1 ≥ 0)) rfl (fun h => ?_) (fun h => ?_))
  · have hk0 : 0 < k := by simp at h; omega
    obtain ⟨m, rfl⟩ : ∃ m, k = m + 1 := ⟨k - 1, by omega⟩
    have hm : m < 8 := by omega
    have em : ((m + 1 : Nat) : Int) - 1 = (m : Int) := by omega
    rw [em]
    obtain ⟨s1, s2⟩ := short_step A d m hd h64
    have hdv := det_div64 (A / PW (m + 1) % d) (dig A m) d (Nat.mod_lt _ hd) (dig_lt A m) h64
    rw [s1, s2] at hdv
    refine pd_rq ⟨_, _, rfl⟩ (pd_rq ⟨?_, ?_⟩ (pd_call hdv ?_ ?_))
    · show (0 : Int) ≤ (m : Int); omega
    · show (m : Int) < 8; omega
    · simp only [rxs, wf_get _ hm]
      rw [if_neg (by omega)]
    · refine pd_rq ⟨_, rfl, Nat.zero_lt_succ _⟩ (pd_rq ⟨_, rfl, Nat.lt_succ_self _⟩ (pd_rq ⟨rfl, one_int _ _⟩ ?_))
      refine ⟨⟨m, by omega, ?_⟩, ?_⟩
      · simp only [rxs, sub1 m (by omega)]
        rw [wf_spl _ hm, wf_congr (g := fun j => if m ≤ j then dig (A / d) j else dig A j) (fun i _ => wf_ge _ _ m i)]
      · simp only [rxs, sub1 m (by omega)]
        omega
  · have hk0 : k = 0 := by simp at h; omega
    subst hk0
    refine pd_ret ?_ rfl
    simp only [rxs, retV, PW_zero, Nat.div_one]
    rw [wf_words (n := A / d) (fun i _ => by rw [if_pos (Nat.zero_le i)])]
    rfl
theorem quoI (k : Nat) (hk : k ≤ 9223372036854775807) : IntKind.i64.wrap ((k : Int).tdiv 64) = ((k / 64 : Nat) : Int) := by
  rw [show (64 : Int) = ((64 : Nat) : Int) from rfl, ← Int.ofNat_tdiv, i64n _ (by omega)]
theorem remI (k : Nat) : (k : Int).tmod 64 = ((k % 64 : Nat) : Int) := by
  rw [show (64 : Int) = ((64 : Nat) : Int) from rfl, ← Int.ofNat_tmod]
/-! ### Quotients -/
theorem pow_div_PW {k B n : Nat} (h : k + blen B ≤ 64 * n) : B * 2 ^ k < PW n := by
  have h1 := blen_lt B
  have h2 : B * 2 ^ k < 2 ^ blen B * 2 ^ k := Nat.mul_lt_mul_of_lt_of_le h1 (Nat.le_refl _) (Nat.pow_pos (by omega))
  rw [← Nat.pow_add] at h2
  rw [PW_pow]
  exact Nat.lt_of_lt_of_le h2 (Nat.pow_le_pow_right (by omega) (by omega))
theorem pow_div_M {k B : Nat} (h : k + blen B ≤ 512) : B * 2 ^ k < M := by
  rw [M_def]; exact pow_div_PW (by omega)
theorem sb_sub {a b : Nat} (ha : a < M) (hb : b ≤ a) : sb a b % M = (a - b) % M := by
  unfold sb
  rw [Nat.mod_eq_of_lt (show b < M by omega), show a + (M - b) = (a - b) + M from by omega, Nat.add_mod_right]
theorem bit_u64 (r : Nat) (h : r < 64) : IntKind.u64.wrap ((1 : Int) * 2 ^ min r (IntKind.bits .u64)) = ((2 ^ r : Nat) : Int) := by
  have := shlN 1 r (by omega)
  rw [Nat.one_mul, Nat.mod_eq_of_lt (by rw [W_pow]; exact Nat.pow_lt_pow_right (by omega) h)] at this
  exact this
theorem blen_PW {A k : Nat} (h : A < PW k) : blen A ≤ 64 * k := blen_le (by rw [PW_pow] at h; exact h)
theorem blen_M {A : Nat} (h : A < M) : blen A ≤ 512 := by rw [M_def] at h; have := blen_PW h; omega
theorem put_word (t : Nat) (h : t < 18446744073709551616) : spl (words 0) 0 [.int .u64 (t : Int)] = words t := by
  rw [put0]
  exact wf_words fun i _ => (dig_word h i).symm
/-! ### The greatest common divisor -/
def numK (v : Value) : Nat → Nat
  | 0 => 0
  | k + 1 => numK v k + PW k * (intOf (v.cells.getD k undef)).toNat
theorem numK_wd (n : Nat) : ∀ k, k ≤ 8 → numK (wd n) k = n % PW k
  | 0, _ => by rw [numK, PW_zero, Nat.mod_one]
  | k + 1, h => by
    rw [numK, numK_wd n k (by omega), wd_cells, words_get n (by omega), mod_succ]
    rfl
theorem numK_M {n : Nat} (h : n < M) : numK (wd n) 8 = n := by rw [numK_wd n 8 (by omega), ← M_def, Nat.mod_eq_of_lt h]
end Go.Proofs.YtcleogdmobdnpacGreatRDoor

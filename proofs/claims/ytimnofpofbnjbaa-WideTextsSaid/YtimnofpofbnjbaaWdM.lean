/- Products of words: plain. -/
import Derived.Test.YtimnofpofbnjbaaWdA
import Derived.Lib.Mul64
namespace Go.WD
open Go.RX

/-! ### n words -/
def wa (n : Nat) (f : Nat → Nat) : Array Value := ((List.range n).map fun i => Value.int .u64 (f i)).toArray
theorem wa_size (n : Nat) (f : Nat → Nat) : (wa n f).size = n := by simp [wa]
theorem wa_get {n : Nat} (f : Nat → Nat) {i : Nat} (h : i < n) : (wa n f).getD i undef = .int .u64 (f i) := by
  simp [wa, Array.getD_eq_getD_getElem?, h]
theorem wa_one (n : Nat) (f : Nat → Nat) : oneAll (wa n f) := by
  intro c hc
  simp [wa] at hc
  obtain ⟨i, _, rfl⟩ := hc
  rfl
theorem wa_congr {n : Nat} {f g : Nat → Nat} (h : ∀ i, i < n → f i = g i) : wa n f = wa n g := by
  unfold wa
  congr 1
  exact List.map_congr_left fun i hi => by rw [h i (List.mem_range.1 hi)]
theorem wa_set {n : Nat} (f : Nat → Nat) {i : Nat} (h : i < n) (d : Nat) : (wa n f).setIfInBounds i (.int .u64 d) = wa n (fun j => if j = i then d else f j) := by
  unfold wa
  rw [List.setIfInBounds_toArray]
  congr 1
  apply List.ext_getElem?
  intro j
  rw [List.getElem?_set, List.getElem?_map, List.getElem?_map]
  by_cases e : i = j
  · subst e; simp [h]
  · rw [if_neg e]
    by_cases hj : j < n
    · simp [hj]; rw [if_neg (fun e' : j = i => e e'.symm)]
    · simp [hj]
theorem wa_spl {n : Nat} (f : Nat → Nat) {i : Nat} (h : i < n) (d : Nat) : spl (wa n f) i [.int .u64 d] = wa n (fun j => if j = i then d else f j) := wa_set f h d
theorem wa_eight (f : Nat → Nat) : wa 8 f = wf f := rfl

/-! ### Adding a product of two words at a place -/
theorem dig_shift (p c i : Nat) : dig (p * PW c) (c + i) = dig p i := by
  unfold dig
  rw [PW_add, Nat.mul_comm p, Nat.mul_div_mul_left _ _ (PW_pos c)]
theorem dig_shift_lt (p : Nat) {c i : Nat} (h : i < c) : dig (p * PW c) i = 0 := by
  obtain ⟨d, rfl⟩ := Nat.exists_eq_add_of_lt h
  unfold dig
  rw [show i + d + 1 = (d + 1) + i from by omega, PW_add, ← Nat.mul_assoc, Nat.mul_div_cancel _ (PW_pos i), PW_succ, ← Nat.mul_assoc, Nat.mul_mod_left]
theorem cr_shift (N p : Nat) {c i : Nat} (h : i ≤ c) : cr N (p * PW c) i = 0 := by
  unfold cr
  rw [Nat.mod_eq_zero_of_dvd (Nat.dvd_trans (PW_dvd h) (Nat.dvd_mul_left _ _)), Nat.add_zero]
  exact Nat.div_eq_of_lt (Nat.mod_lt _ (PW_pos i))
theorem PW_one : PW 1 = 18446744073709551616 := by rw [PW_succ, PW_zero, Nat.one_mul]
theorem PW_two : PW 2 = 18446744073709551616 * 18446744073709551616 := by rw [PW_succ, PW_one]
theorem dig_small {p i : Nat} (h : p < PW i) : dig p i = 0 := by
  unfold dig; rw [Nat.div_eq_of_lt h]
theorem dig_p0 (p : Nat) : dig p 0 = p % 18446744073709551616 := by unfold dig; rw [PW_zero, Nat.div_one]
theorem mul_lt_PW2 {x y : Nat} (hx : x < 18446744073709551616) (hy : y < 18446744073709551616) : x * y < PW 2 := by
  rw [PW_two]; exact Nat.mul_lt_mul'' hx hy
theorem dig_p1 {p : Nat} (h : p < PW 2) : dig p 1 = p / 18446744073709551616 := by
  unfold dig
  rw [PW_one]
  refine Nat.mod_eq_of_lt ?_
  rw [PW_two] at h
  exact (Nat.div_lt_iff_lt_mul (by omega)).2 h
theorem dig_p2 {p i : Nat} (h : p < PW 2) (hi : 2 ≤ i) : dig p i = 0 := dig_small (Nat.lt_of_lt_of_le h (PW_le hi))
section
variable {N p c : Nat}
theorem g0 : (dig N c + p % 18446744073709551616 + 0) % 18446744073709551616 = dig (N + p * PW c) c ∧ (dig N c + p % 18446744073709551616 + 0) / 18446744073709551616 = cr N (p * PW c) (c + 1) := by
  have h1 := dig_add N (p * PW c) c
  have h2 := cr_succ N (p * PW c) c
  have h3 := dig_shift p c 0
  rw [Nat.add_zero, dig_p0] at h3
  rw [h3, cr_shift N p (Nat.le_refl c)] at h1 h2
  exact ⟨h1.symm, h2.symm⟩
theorem g1 (hp : p < PW 2) : (dig N (c + 1) + p / 18446744073709551616 + cr N (p * PW c) (c + 1)) % 18446744073709551616 = dig (N + p * PW c) (c + 1) ∧ (dig N (c + 1) + p / 18446744073709551616 + cr N (p * PW c) (c + 1)) / 18446744073709551616 = cr N (p * PW c) (c + 2) := by
  have h1 := dig_add N (p * PW c) (c + 1)
  have h2 := cr_succ N (p * PW c) (c + 1)
  rw [dig_shift p c 1, dig_p1 hp] at h1 h2
  exact ⟨h1.symm, h2.symm⟩
theorem gk (hp : p < PW 2) {k : Nat} (hk : c + 2 ≤ k) : (dig N k + 0 + cr N (p * PW c) k) % 18446744073709551616 = dig (N + p * PW c) k ∧ (dig N k + 0 + cr N (p * PW c) k) / 18446744073709551616 = cr N (p * PW c) (k + 1) := by
  have h1 := dig_add N (p * PW c) k
  have h2 := cr_succ N (p * PW c) k
  obtain ⟨d, rfl⟩ := Nat.exists_eq_add_of_le hk
  rw [show c + 2 + d = c + (2 + d) from by omega] at h1 h2 ⊢
  rw [dig_shift p c (2 + d), dig_p2 hp (by omega)] at h1 h2
  exact ⟨h1.symm, h2.symm⟩
theorem gend (hp : p < PW 2) {k : Nat} (hk : c + 2 ≤ k) (h0 : cr N (p * PW c) k = 0) : ∀ i, k ≤ i → cr N (p * PW c) i = 0 ∧ dig (N + p * PW c) i = dig N i := by
  have key : ∀ j, cr N (p * PW c) (k + j) = 0 := by
    intro j
    induction j with
    | zero => exact h0
    | succ j ih =>
      have := (gk (N := N) hp (show c + 2 ≤ k + j by omega)).2
      rw [ih] at this
      have hl := dig_lt N (k + j)
      rw [← Nat.add_assoc, ← this]
      exact Nat.div_eq_of_lt (by omega)
  intro i hi
  obtain ⟨j, rfl⟩ := Nat.exists_eq_add_of_le hi
  refine ⟨key j, ?_⟩
  have := (gk (N := N) hp (show c + 2 ≤ k + j by omega)).1
  rw [key j] at this
  have hl := dig_lt N (k + j)
  rw [← this, Nat.add_zero, Nat.mod_eq_of_lt hl]
end

/-! ### Products -/
def acc (A B i j : Nat) : Nat := (A % PW i) * B + dig A i * PW i * (B % PW j)
theorem acc_zero (A B : Nat) : acc A B 0 0 = 0 := by simp [acc, PW_zero, Nat.mod_one]
theorem acc_step (A B i j : Nat) : acc A B i j + dig A i * dig B j * PW (i + j) = acc A B i (j + 1) := by
  unfold acc
  rw [mod_succ B j, PW_add, Nat.mul_add, ← Nat.add_assoc]
  congr 1
  rw [show dig A i * PW i * (PW j * dig B j) = dig A i * dig B j * (PW i * PW j) from by
    rw [Nat.mul_assoc (dig A i), Nat.mul_assoc (dig A i), ← Nat.mul_assoc (PW i), Nat.mul_comm (PW i * PW j)]]
theorem acc_next (A B i : Nat) (hB : B < PW 8) : acc A B i 8 = acc A B (i + 1) 0 := by
  unfold acc
  rw [Nat.mod_eq_of_lt hB, PW_zero, Nat.mod_one, Nat.mul_zero, Nat.add_zero, mod_succ A i, Nat.add_mul, Nat.mul_comm (PW i) (dig A i)]
theorem acc_end (A B : Nat) (hA : A < PW 8) : acc A B 8 0 = A * B := by
  unfold acc
  rw [PW_zero, Nat.mod_one, Nat.mul_zero, Nat.add_zero, Nat.mod_eq_of_lt hA]

/-! ### What is above -/
def orn (N : Nat) : Nat → Nat
  | 0 => 0
  | k + 1 => orn N k ||| dig N (8 + k)
theorem orn_lt (N : Nat) : ∀ k, orn N k < 18446744073709551616
  | 0 => by simp [orn]
  | k + 1 => by
    have h1 := orn_lt N k
    have h2 := dig_lt N (8 + k)
    exact Nat.or_lt_two_pow (n := 64) h1 h2
theorem orn_zero (N : Nat) : ∀ k, orn N k = 0 ↔ ∀ i, i < k → dig N (8 + i) = 0
  | 0 => by simp [orn]
  | k + 1 => by
    have ih := orn_zero N k
    simp only [orn, Nat.or_eq_zero_iff, ih]
    constructor
    · intro ⟨h1, h2⟩ i hi
      rcases Nat.lt_or_eq_of_le (Nat.le_of_lt_succ hi) with h | h
      · exact h1 i h
      · subst h; exact h2
    · intro h
      exact ⟨fun i hi => h i (by omega), h k (by omega)⟩
theorem orn_eight {N : Nat} (h : N < PW 16) : orn N 8 = 0 ↔ N < M := by
  rw [orn_zero, M_def]
  constructor
  · intro h0
    have : N % PW 16 = (N % PW 8) % PW 16 := mod_of_dig fun i hi => by
      by_cases h8 : i < 8
      · rw [dig_mod N h8]
      · rw [dig_small (Nat.lt_of_lt_of_le (Nat.mod_lt N (PW_pos 8)) (PW_le (show 8 ≤ i by omega)))]
        have := h0 (i - 8) (by omega)
        rwa [show 8 + (i - 8) = i from by omega] at this
    rw [Nat.mod_eq_of_lt h, Nat.mod_eq_of_lt (Nat.lt_of_lt_of_le (Nat.mod_lt N (PW_pos 8)) (PW_le (by omega)))] at this
    rw [this]; exact Nat.mod_lt N (PW_pos 8)
  · intro hlt i _
    exact dig_small (Nat.lt_of_lt_of_le hlt (PW_le (by omega)))
theorem orn_small {N : Nat} (h : N < PW 9) : orn N 8 = N / M := by
  have h0 : ∀ k, orn N (k + 1) = dig N 8 := by
    intro k
    induction k with
    | zero => simp [orn]
    | succ k ih =>
      rw [orn, ih, dig_small (Nat.lt_of_lt_of_le h (PW_le (show 9 ≤ 8 + (k + 1) by omega))), Nat.or_zero]
  rw [h0 7, M_def]
  unfold dig
  refine Nat.mod_eq_of_lt ?_
  rw [PW_succ] at h
  exact (Nat.div_lt_iff_lt_mul (PW_pos 8)).2 (by rw [Nat.mul_comm]; exact h)
theorem or_u64 (a b : Nat) (ha : a < 18446744073709551616) (hb : b < 18446744073709551616) : IntKind.u64.wrap ((BitVec.ofInt (IntKind.bits .u64) (a : Int) ||| BitVec.ofInt (IntKind.bits .u64) (b : Int)).toNat : Int) = ((a ||| b : Nat) : Int) := by
  have h := Nat.or_lt_two_pow (n := 64) ha hb
  have e : (BitVec.ofInt 64 (a : Int) ||| BitVec.ofInt 64 (b : Int)).toNat = a ||| b := by
    rw [BitVec.toNat_or, BitVec.toNat_ofInt, BitVec.toNat_ofInt]
    congr 1 <;> omega
  show IntKind.u64.wrap ((BitVec.ofInt 64 (a : Int) ||| BitVec.ofInt 64 (b : Int)).toNat : Int) = _
  rw [e, IntKind.wrap_u64]
  omega
theorem mask32 (a : Nat) (ha : a < 18446744073709551616) : IntKind.u64.wrap ((BitVec.ofInt (IntKind.bits .u64) (a : Int) &&& BitVec.ofInt (IntKind.bits .u64) 4294967295).toNat : Int) = ((a % 4294967296 : Nat) : Int) := by
  have e : (BitVec.ofInt 64 (a : Int) &&& BitVec.ofInt 64 4294967295).toNat = a % 4294967296 := by
    rw [BitVec.toNat_and, BitVec.toNat_ofInt, BitVec.toNat_ofInt, show ((4294967295 : Int) % (2 ^ 64 : Nat)).toNat = 2 ^ 32 - 1 from by decide, Nat.and_two_pow_sub_one_eq_mod]
    omega
  show IntKind.u64.wrap ((BitVec.ofInt 64 (a : Int) &&& BitVec.ofInt 64 4294967295).toNat : Int) = _
  rw [e, IntKind.wrap_u64]
  omega
theorem shr_u64 (a k : Nat) (hk : k ≤ 64) : (a : Int).fdiv (2 ^ min k (IntKind.bits .u64)) = ((a / 2 ^ k : Nat) : Int) := by
  rw [show min k (IntKind.bits .u64) = k from Nat.min_eq_left hk, show (2 : Int) ^ k = ((2 ^ k : Nat) : Int) from by simp, Int.fdiv_eq_ediv_of_nonneg _ (Int.natCast_nonneg _)]
  exact (Int.natCast_ediv a (2 ^ k)).symm
end Go.WD

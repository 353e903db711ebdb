/- Numbers of eight words. -/
import Derived.Test.YtcleogdmobdnpacGreatRDoorRxH
namespace Go.WD
open Go.RX

theorem tup20 (a b : Value) : tupV 0 (.tuple #[a, b]) = a := rfl
theorem tup21 (a b : Value) : tupV 1 (.tuple #[a, b]) = b := rfl
theorem tup30 (a b c : Value) : tupV 0 (.tuple #[a, b, c]) = a := rfl
theorem tup31 (a b c : Value) : tupV 1 (.tuple #[a, b, c]) = b := rfl
theorem tup32 (a b c : Value) : tupV 2 (.tuple #[a, b, c]) = c := rfl
theorem cl_int (k : IntKind) (n : Int) : (Value.int k n).cells.toList = [.int k n] := rfl
theorem one_int (k : IntKind) (n : Int) : oneAll (Value.int k n).cells := by intro c hc; simp [cells_int] at hc; subst hc; rfl

/-- 2 to the power 64 k. -/
@[irreducible] def PW (k : Nat) : Nat := 2 ^ (64 * k)
theorem PW_zero : PW 0 = 1 := by unfold PW; rfl
theorem PW_succ (k : Nat) : PW (k + 1) = PW k * 18446744073709551616 := by
  unfold PW; rw [Nat.mul_succ, Nat.pow_add]
theorem PW_pos (k : Nat) : 0 < PW k := by unfold PW; exact Nat.pow_pos (by omega)
theorem PW_add (i j : Nat) : PW (i + j) = PW i * PW j := by unfold PW; rw [Nat.mul_add, Nat.pow_add]
theorem PW_le {i j : Nat} (h : i ≤ j) : PW i ≤ PW j := by unfold PW; exact Nat.pow_le_pow_right (by omega) (by omega)
theorem PW_dvd {i j : Nat} (h : i ≤ j) : PW i ∣ PW j := by
  obtain ⟨d, rfl⟩ := Nat.exists_eq_add_of_le h
  rw [PW_add]; exact Nat.dvd_mul_right _ _
/-- 2 to the power 512. -/
@[irreducible] def M : Nat := PW 8
theorem M_def : M = PW 8 := by unfold M; rfl
theorem M_pos : 0 < M := by rw [M_def]; exact PW_pos 8

def dig (n i : Nat) : Nat := n / PW i % 18446744073709551616
theorem dig_lt (n i : Nat) : dig n i < 18446744073709551616 := Nat.mod_lt _ (by omega)
theorem mod_succ (n k : Nat) : n % PW (k + 1) = n % PW k + PW k * dig n k := by rw [PW_succ, Nat.mod_mul]; rfl
theorem mod_of_dig {a b : Nat} : ∀ {k : Nat}, (∀ i, i < k → dig a i = dig b i) → a % PW k = b % PW k := by
  intro k
  induction k with
  | zero => intro _; rw [PW_zero, Nat.mod_one, Nat.mod_one]
  | succ k ih => intro h; rw [mod_succ, mod_succ, ih (fun i hi => h i (by omega)), h k (by omega)]
theorem dig_mod (a : Nat) {i k : Nat} (h : i < k) : dig (a % PW k) i = dig a i := by
  obtain ⟨d, rfl⟩ := Nat.exists_eq_add_of_lt h
  have e : PW (i + d + 1) = PW i * PW (d + 1) := by rw [Nat.add_assoc, PW_add]
  unfold dig
  rw [e, Nat.mod_mul_right_div_self, PW_succ, Nat.mul_comm (PW d), Nat.mod_mul_right_mod]
theorem dig_congr {a b k i : Nat} (h : a % PW k = b % PW k) (hi : i < k) : dig a i = dig b i := by
  rw [← dig_mod a hi, h, dig_mod b hi]
theorem dig_zero (i : Nat) : dig 0 i = 0 := by simp [dig]

/-! ### Arrays of eight words -/
def wf (f : Nat → Nat) : Array Value := #[.int .u64 (f 0), .int .u64 (f 1), .int .u64 (f 2), .int .u64 (f 3), .int .u64 (f 4), .int .u64 (f 5), .int .u64 (f 6), .int .u64 (f 7)]
theorem wf_size (f : Nat → Nat) : (wf f).size = 8 := rfl
theorem wf_one (f : Nat → Nat) : oneAll (wf f) := by
  intro c hc
  simp [wf] at hc
  rcases hc with h | h | h | h | h | h | h | h <;> subst h <;> rfl
theorem cases8 {i : Nat} (h : i < 8) : i = 0 ∨ i = 1 ∨ i = 2 ∨ i = 3 ∨ i = 4 ∨ i = 5 ∨ i = 6 ∨ i = 7 := by omega
theorem wf_get (f : Nat → Nat) {i : Nat} (h : i < 8) : (wf f).getD i undef = .int .u64 (f i) := by
  rcases cases8 h with h | h | h | h | h | h | h | h <;> subst h <;> rfl
theorem wf_congr {f g : Nat → Nat} (h : ∀ i, i < 8 → f i = g i) : wf f = wf g := by
  unfold wf
  rw [h 0 (by omega), h 1 (by omega), h 2 (by omega), h 3 (by omega), h 4 (by omega), h 5 (by omega), h 6 (by omega), h 7 (by omega)]
theorem wf_inj {f g : Nat → Nat} (h : wf f = wf g) : ∀ i, i < 8 → f i = g i := by
  intro i hi
  have := (wf_get f hi).symm.trans ((congrArg (fun a => Array.getD a i undef) h).trans (wf_get g hi))
  simp only [Value.int.injEq, true_and] at this
  omega
theorem wf_set (f : Nat → Nat) {i : Nat} (h : i < 8) (d : Nat) : (wf f).setIfInBounds i (.int .u64 d) = wf (fun j => if j = i then d else f j) := by
  rcases cases8 h with h | h | h | h | h | h | h | h <;> subst h <;> rfl
theorem wf_spl (f : Nat → Nat) {i : Nat} (h : i < 8) (d : Nat) : spl (wf f) i [.int .u64 d] = wf (fun j => if j = i then d else f j) := wf_set f h d

def words (n : Nat) : Array Value := wf (dig n)
def wd (n : Nat) : Value := .agg (words n)
def nb (b : Bool) (n : Nat) : Value := .agg (#[.bool b] ++ words n)
theorem wd_cells (n : Nat) : (wd n).cells = words n := rfl
theorem words_size (n : Nat) : (words n).size = 8 := rfl
theorem words_one (n : Nat) : oneAll (words n) := wf_one _
theorem words_get (n : Nat) {i : Nat} (h : i < 8) : (words n).getD i undef = .int .u64 (dig n i) := wf_get _ h
theorem words_congr {a b : Nat} (h : a % M = b % M) : words a = words b := by rw [M_def] at h; exact wf_congr fun _ hi => dig_congr h hi
theorem words_inj {a b : Nat} (h : words a = words b) : a % M = b % M := by rw [M_def]; exact mod_of_dig (wf_inj h)
theorem wf_words {f : Nat → Nat} {n : Nat} (h : ∀ i, i < 8 → f i = dig n i) : wf f = words n := wf_congr h
theorem words_mod (n : Nat) : words (n % M) = words n := words_congr (Nat.mod_mod _ _)

/-- What terms mean, all at once. -/
theorem rxs : (∀ (f : SV → Value) (a : SV) (l : List SV), List.map f (a :: l) = f a :: List.map f l) ∧
    (∀ f : SV → Value, List.map f [] = []) ∧
    (∀ (a : Value) (l m : List Value), (a :: l) ++ m = a :: (l ++ m)) ∧
    (∀ l : List Value, [] ++ l = l) ∧
    (∀ (a : Value) (l : List Value) (d : Value), (a :: l).getD 0 d = a) ∧
    (∀ (a : Value) (l : List Value) (n : Nat) (d : Value), (a :: l).getD (n + 1) d = l.getD n d) ∧
    (∀ P ρ i, D P ρ (.v i) = ρ.getD i undef) ∧
    (∀ P ρ c, D P ρ (.k c) = c) ∧
    (∀ P ρ t, D P ρ (.z t) = zeroV P t) ∧
    (∀ P ρ x, D P ρ (.ag x) = .agg (D P ρ x).cells) ∧
    (∀ P ρ x o s i, D P ρ (.cell x o s i) = (D P ρ x).cells.getD (o + s * ixOf (D P ρ i)) undef) ∧
    (∀ P ρ x o n s i, D P ρ (.sub x o n s i) = .agg ((D P ρ x).cells.extract (o + s * ixOf (D P ρ i)) (o + s * ixOf (D P ρ i) + n))) ∧
    (∀ P ρ x o n y s i, D P ρ (.put x o n y s i) = .agg (spl (D P ρ x).cells (o + s * ixOf (D P ρ i)) (D P ρ y).cells.toList)) ∧
    (∀ P ρ x n y, D P ρ (.cat x n y) = .agg ((D P ρ x).cells ++ (D P ρ y).cells)) ∧
    (∀ P ρ x i, D P ρ (.proj x i) = tupV i (D P ρ x)) ∧
    (∀ P ρ o k x y, D P ρ (.op2 o k x y) = binV o k (Go.RowKit.intOf (D P ρ x)) (Go.RowKit.intOf (D P ρ y))) ∧
    (∀ P ρ o k x, D P ρ (.op1 o k x) = unV o k (Go.RowKit.intOf (D P ρ x))) ∧
    (∀ P ρ x, D P ρ (.nt x) = .bool (!boolOf (D P ρ x))) ∧
    (∀ P ρ k x, D P ρ (.cv k x) = .int k (k.wrap (Go.RowKit.intOf (D P ρ x)))) ∧
    (∀ P ρ c x y, D P ρ (.ite c x y) = if boolOf (D P ρ c) then D P ρ x else D P ρ y) ∧
    (∀ P ρ n x y, D P ρ (.eqb n x y) = .bool (n != (boolOf (D P ρ x) == boolOf (D P ρ y)))) ∧
    (∀ v, ixOf v = (Go.RowKit.intOf v).toNat) ∧
    (∀ k n, Go.RowKit.intOf (.int k n) = n) ∧
    (∀ b, boolOf (.bool b) = b) ∧
    (∀ (k : IntKind) (a b : Int), binV .add k a b = .int k (k.wrap (a + b))) ∧
    (∀ (k : IntKind) (a b : Int), binV .sub k a b = .int k (k.wrap (a - b))) ∧
    (∀ (k : IntKind) (a b : Int), binV .mul k a b = .int k (k.wrap (a * b))) ∧
    (∀ (k : IntKind) (a b : Int), binV .quo k a b = .int k (k.wrap (a.tdiv b))) ∧
    (∀ (k : IntKind) (a b : Int), binV .rem k a b = .int k (a.tmod b)) ∧
    (∀ (k : IntKind) (a b : Int), binV .and k a b = .int k (k.wrap (BitVec.ofInt k.bits a &&& BitVec.ofInt k.bits b).toNat)) ∧
    (∀ (k : IntKind) (a b : Int), binV .or k a b = .int k (k.wrap (BitVec.ofInt k.bits a ||| BitVec.ofInt k.bits b).toNat)) ∧
    (∀ (k : IntKind) (a b : Int), binV .xor k a b = .int k (k.wrap (BitVec.ofInt k.bits a ^^^ BitVec.ofInt k.bits b).toNat)) ∧
    (∀ (k : IntKind) (a b : Int), binV .andNot k a b = .int k (k.wrap (BitVec.ofInt k.bits a &&& ~~~ BitVec.ofInt k.bits b).toNat)) ∧
    (∀ (k : IntKind) (a b : Int), binV .shl k a b = .int k (k.wrap (a * 2 ^ (min b.toNat k.bits)))) ∧
    (∀ (k : IntKind) (a b : Int), binV .shr k a b = .int k (a.fdiv (2 ^ (min b.toNat k.bits)))) ∧
    (∀ (k : IntKind) (a b : Int), binV .eql k a b = .bool (a == b)) ∧
    (∀ (k : IntKind) (a b : Int), binV .neq k a b = .bool (a != b)) ∧
    (∀ (k : IntKind) (a b : Int), binV .lss k a b = .bool (a < b)) ∧
    (∀ (k : IntKind) (a b : Int), binV .leq k a b = .bool (a ≤ b)) ∧
    (∀ (k : IntKind) (a b : Int), binV .gtr k a b = .bool (a > b)) ∧
    (∀ (k : IntKind) (a b : Int), binV .geq k a b = .bool (a ≥ b)) ∧
    (∀ cs : Array Value, (Value.agg cs).cells = cs) ∧
    (∀ n, (wd n).cells = words n) ∧
    (∀ n : Nat, 0 + n = n) ∧
    (∀ n : Nat, 1 * n = n) ∧
    (∀ n : Nat, n + 0 = n) ∧
    (∀ n : Nat, 0 * n = 0) ∧
    (∀ n : Nat, (n : Int).toNat = n) ∧
    (∀ a b : Value, tupV 0 (.tuple #[a, b]) = a) ∧
    (∀ a b : Value, tupV 1 (.tuple #[a, b]) = b) ∧
    (∀ a b c : Value, tupV 0 (.tuple #[a, b, c]) = a) ∧
    (∀ a b c : Value, tupV 1 (.tuple #[a, b, c]) = b) ∧
    (∀ a b c : Value, tupV 2 (.tuple #[a, b, c]) = c) ∧
    (∀ (k : IntKind) (n : Int), (Value.int k n).cells.toList = [.int k n]) := by
  and_intros <;> intros <;> first | rfl | simp
/-! ### Sums -/
/-- The carry into word k. -/
def cr (a b k : Nat) : Nat := (a % PW k + b % PW k) / PW k
theorem cr_zero (a b : Nat) : cr a b 0 = 0 := by simp [cr, PW_zero, Nat.mod_one]
theorem cr_le (a b k : Nat) : cr a b k ≤ 1 := by
  unfold cr
  have h1 := Nat.mod_lt a (PW_pos k)
  have h2 := Nat.mod_lt b (PW_pos k)
  have : a % PW k + b % PW k < 2 * PW k := by omega
  have := (Nat.div_lt_iff_lt_mul (PW_pos k)).2 this
  omega
theorem cr_succ (a b k : Nat) : cr a b (k + 1) = (dig a k + dig b k + cr a b k) / 18446744073709551616 := by
  unfold cr
  rw [mod_succ, mod_succ, PW_succ, ← Nat.div_div_eq_div_mul]
  congr 1
  rw [show a % PW k + PW k * dig a k + (b % PW k + PW k * dig b k) = (a % PW k + b % PW k) + PW k * (dig a k + dig b k) from by rw [Nat.mul_add]; omega, Nat.add_mul_div_left _ _ (PW_pos k)]
  omega
theorem add_div_PW (a b k : Nat) : (a + b) / PW k = a / PW k + b / PW k + cr a b k := by
  unfold cr
  have h1 := Nat.div_add_mod a (PW k)
  have h2 := Nat.div_add_mod b (PW k)
  rw [show a + b = (a % PW k + b % PW k) + PW k * (a / PW k + b / PW k) from by rw [Nat.mul_add]; omega, Nat.add_mul_div_left _ _ (PW_pos k)]
  omega
theorem dig_add (a b k : Nat) : dig (a + b) k = (dig a k + dig b k + cr a b k) % 18446744073709551616 := by
  unfold dig; rw [add_div_PW]; omega

/-! ### Differences -/
/-- The borrow into word k. -/
def bw (a b k : Nat) : Nat := if a % PW k < b % PW k then 1 else 0
theorem bw_zero (a b : Nat) : bw a b 0 = 0 := by simp [bw, PW_zero, Nat.mod_one]
theorem bw_le (a b k : Nat) : bw a b k ≤ 1 := by unfold bw; split <;> omega
theorem lex_lt {p x y A B : Nat} (hA : A < p) (hB : B < p) : A + p * x < B + p * y ↔ x < y + (if A < B then 1 else 0) := by
  constructor
  · intro h
    rcases Nat.lt_trichotomy x y with h1 | h1 | h1
    · split <;> omega
    · subst h1; rw [if_pos (by omega)]; omega
    · exfalso
      have : p * (y + 1) ≤ p * x := Nat.mul_le_mul_left _ h1
      rw [Nat.mul_succ] at this; omega
  · intro h
    split at h
    · rename_i hlt
      rcases Nat.lt_or_ge x y with h1 | h1
      · have : p * (x + 1) ≤ p * y := Nat.mul_le_mul_left _ h1
        rw [Nat.mul_succ] at this; omega
      · have : x = y := by omega
        subst this; omega
    · have : p * (x + 1) ≤ p * y := Nat.mul_le_mul_left _ (by omega)
      rw [Nat.mul_succ] at this; omega
theorem bw_succ (a b k : Nat) : bw a b (k + 1) = if dig a k < dig b k + bw a b k then 1 else 0 := by
  unfold bw
  rw [mod_succ, mod_succ]
  simp only [lex_lt (Nat.mod_lt a (PW_pos k)) (Nat.mod_lt b (PW_pos k))]
theorem lt_of_dig {a b m : Nat} (hm : m < 8) (hs : ∀ j, m < j → j < 8 → dig a j = dig b j) (h : dig a m < dig b m) : a % M < b % M := by
  have key : ∀ t, m + 1 + t ≤ 8 → a % PW (m + 1 + t) < b % PW (m + 1 + t) := by
    intro t
    induction t with
    | zero =>
      intro _
      rw [Nat.add_zero, mod_succ, mod_succ, lex_lt (Nat.mod_lt a (PW_pos m)) (Nat.mod_lt b (PW_pos m))]
      omega
    | succ t ih =>
      intro ht
      rw [← Nat.add_assoc, mod_succ, mod_succ, hs (m + 1 + t) (by omega) (by omega)]
      have := ih (by omega)
      omega
  have := key (8 - (m + 1)) (by omega)
  rw [show m + 1 + (8 - (m + 1)) = 8 from by omega] at this
  rw [M_def]; exact this
/-- a - b, modulo 2^512. -/
def sb (a b : Nat) : Nat := a + (M - b % M)
theorem dig_sb (a b : Nat) {k : Nat} (hk : k < 8) : dig (sb a b) k = (dig a k + 18446744073709551616 - dig b k - bw a b k) % 18446744073709551616 := by
  -- the sum of a - b and b has the digits of a
  have hs : (sb a b + b) % M = a % M := by
    unfold sb
    have := Nat.mod_lt b M_pos
    have e := Nat.div_add_mod b M
    rw [show a + (M - b % M) + b = a + M * (b / M + 1) from by rw [Nat.mul_succ]; omega, Nat.add_mul_mod_self_left]
  have hd : dig (sb a b + b) k = dig a k := dig_congr (by rw [← M_def]; exact hs) hk
  have hc : cr (sb a b) b k = bw a b k := by
    have hle : k ≤ 8 := by omega
    have hdv : PW k ∣ M := by rw [M_def]; exact PW_dvd hle
    have h1 : (sb a b + b) % PW k = a % PW k := by
      rw [← Nat.mod_mod_of_dvd _ hdv, hs, Nat.mod_mod_of_dvd _ hdv]
    have h2 : ((sb a b) % PW k + b % PW k) % PW k = a % PW k := by rw [← Nat.add_mod]; exact h1
    have hA := Nat.mod_lt (sb a b) (PW_pos k)
    have hB := Nat.mod_lt b (PW_pos k)
    unfold cr bw
    rcases Nat.lt_or_ge ((sb a b) % PW k + b % PW k) (PW k) with h | h
    · rw [Nat.mod_eq_of_lt h] at h2
      rw [Nat.div_eq_of_lt h, if_neg (by omega)]
    · have e := Nat.mod_eq_sub_mod h
      rw [e, Nat.mod_eq_of_lt (by omega)] at h2
      rw [if_pos (by omega)]
      rw [Nat.div_eq_sub_div (PW_pos k) h, Nat.div_eq_of_lt (by omega)]
  rw [dig_add, hc] at hd
  have h1 := dig_lt (sb a b) k
  have h2 := dig_lt b k
  have h3 := dig_lt a k
  have h4 := bw_le a b k
  omega
end Go.WD
namespace Go.WD
open Go.RX

/-- -1, 0 or 1. -/
def sg (a b : Nat) : Int := if a < b then -1 else if a = b then 0 else 1
/-- 2 to the power 511. -/
@[irreducible] def HM : Nat := 9223372036854775808 * PW 7
theorem HM_PW : HM = 9223372036854775808 * PW 7 := by unfold HM; rfl
theorem M_HM : M = 2 * HM := by rw [M_def, HM_PW, show (8 : Nat) = 7 + 1 from rfl, PW_succ]; omega
theorem HM_pos : 0 < HM := by rw [HM_PW]; have := PW_pos 7; omega
/-- An integer, modulo 2^512. -/
def rs (z : Int) : Nat := (z % (M : Int)).toNat
theorem rs_lt (z : Int) : rs z < M := by
  unfold rs
  have := M_pos
  have h := Int.emod_lt_of_pos z (show (0 : Int) < M by omega)
  have h' := Int.emod_nonneg z (show (M : Int) ≠ 0 by omega)
  omega
theorem rs_cast (z : Int) : ((rs z : Nat) : Int) = z % (M : Int) := by
  unfold rs
  have := M_pos
  have h' := Int.emod_nonneg z (show (M : Int) ≠ 0 by omega)
  omega
def iw (z : Int) : Value := wd (rs z)
def nm (z : Int) : Value := nb (decide (z < 0)) z.natAbs
/-- The integer of a wide value. -/
def toI (a : Nat) : Int := if a % M < HM then (a % M : Nat) else (a % M : Nat) - (M : Int)
def Fits (z : Int) : Prop := -(HM : Int) ≤ z ∧ z < HM
theorem toI_fits (a : Nat) : Fits (toI a) := by
  have h := Nat.mod_lt a M_pos
  have := M_HM
  unfold Fits toI; split <;> omega
theorem rs_pos {z : Int} (h0 : 0 ≤ z) (h : z < M) : rs z = z.toNat := by
  unfold rs; rw [Int.emod_eq_of_lt h0 h]
theorem rs_neg {z : Int} (h0 : z < 0) (h : -(M : Int) ≤ z) : rs z = (z + M).toNat := by
  unfold rs
  have := M_pos
  rw [← Int.add_emod_right, Int.emod_eq_of_lt (by omega) (by omega)]
theorem rs_toI (a : Nat) : rs (toI a) = a % M := by
  have h := Nat.mod_lt a M_pos
  have := M_HM
  unfold toI
  split
  · rw [rs_pos (by omega) (by omega)]; omega
  · rw [rs_neg (by omega) (by omega)]; omega
theorem wd_toI (a : Nat) : wd a = iw (toI a) := by
  unfold iw wd; rw [rs_toI, words_mod]
theorem toI_rs {z : Int} (h : Fits z) : toI (rs z) = z := by
  have hM := M_HM
  have hl := rs_lt z
  obtain ⟨h1, h2⟩ := h
  unfold toI
  rw [Nat.mod_eq_of_lt hl]
  by_cases h0 : 0 ≤ z
  · rw [rs_pos h0 (by omega)]
    split <;> omega
  · rw [rs_neg (by omega) (by omega)]
    split <;> omega
theorem rs_mod (z : Int) : rs z % M = rs z := Nat.mod_eq_of_lt (rs_lt z)
theorem rs_inj {x y : Int} (hx : Fits x) (hy : Fits y) : rs x = rs y ↔ x = y :=
  ⟨fun h => by rw [← toI_rs hx, ← toI_rs hy, h], fun h => by rw [h]⟩
/-- The top word tells the sign. -/
theorem top_bit (a : Nat) : dig a 7 < 9223372036854775808 ↔ a % M < HM := by
  have e : a % M = a % PW 7 + PW 7 * dig a 7 := by rw [M_def]; exact mod_succ a 7
  have hlt := Nat.mod_lt a (PW_pos 7)
  rw [e, HM_PW]
  constructor
  · intro h
    have := Nat.mul_le_mul_left (PW 7) (show dig a 7 + 1 ≤ 9223372036854775808 by omega)
    rw [Nat.mul_succ] at this
    rw [Nat.mul_comm 9223372036854775808]; omega
  · intro h
    rcases Nat.lt_or_ge (dig a 7) 9223372036854775808 with h1 | h1
    · exact h1
    · have := Nat.mul_le_mul_left (PW 7) h1
      rw [Nat.mul_comm 9223372036854775808] at h; omega
theorem nb_congr {b b' : Bool} {m n : Nat} (h : b = b') (hm : m % M = n % M) : nb b m = nb b' n := by unfold nb; rw [h, words_congr hm]
theorem wd_congr {m n : Nat} (hm : m % M = n % M) : wd m = wd n := by unfold wd; rw [words_congr hm]
theorem dig_HM {i : Nat} (h : i < 8) : dig HM i = if i = 7 then 9223372036854775808 else 0 := by
  unfold dig
  rw [HM_PW]
  split
  · rename_i e; subst e
    rw [Nat.mul_div_cancel _ (PW_pos 7)]
  · obtain ⟨d, hd⟩ : ∃ d, 7 = (d + 1) + i := ⟨7 - i - 1, by omega⟩
    rw [hd, PW_add, ← Nat.mul_assoc, Nat.mul_div_cancel _ (PW_pos i), PW_succ, ← Nat.mul_assoc, Nat.mul_mod_left]
theorem HM_lt : HM < M := by have := M_HM; have := HM_pos; omega
theorem limit_words : spl (words 0) 7 [.int .u64 9223372036854775808] = words HM := by
  have := wf_spl (dig 0) (show 7 < 8 by omega) 9223372036854775808
  refine Eq.trans this (wf_words fun i hi => ?_)
  rw [dig_HM hi, dig_zero]
theorem sb_zero_neg' {z : Int} (h : z < 0) (hm : z.natAbs < M) : wd (sb 0 z.natAbs) = iw z := by
  unfold iw
  refine wd_congr ?_
  rw [rs_neg h (by omega)]
  unfold sb
  rw [Nat.mod_eq_of_lt hm]
  congr 1
  omega
theorem iw_nonneg {z : Int} (h : 0 ≤ z) (hm : z.natAbs < M) : wd z.natAbs = iw z := by
  unfold iw
  rw [rs_pos h (by omega)]
  congr 1
  omega
theorem sg_pos {a b : Nat} : sg a b > 0 ↔ b < a := by unfold sg; split <;> (try split) <;> omega
theorem sg_zero {a b : Nat} : sg a b = 0 ↔ a = b := by unfold sg; split <;> (try split) <;> omega
theorem sg_nonneg {a b : Nat} : sg a b ≥ 0 ↔ b ≤ a := by unfold sg; split <;> (try split) <;> omega
end Go.WD

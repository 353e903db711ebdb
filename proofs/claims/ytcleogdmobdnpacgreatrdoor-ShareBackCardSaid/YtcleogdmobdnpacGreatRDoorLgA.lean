/- Words to the base 2^64: plain. -/
import Derived.Test.YtcleogdmobdnpacGreatRDoorRfA
namespace Go.WD
open Go.RX

theorem PW_lt_iff {i j : Nat} : PW i < PW j ↔ i < j := by
  constructor
  · intro h; rcases Nat.lt_or_ge i j with h1 | h1
    · exact h1
    · have := PW_le h1; omega
  · intro h
    have h1 := PW_le (show i + 1 ≤ j from h)
    have h2 := PW_pos i
    rw [PW_succ] at h1; omega
/-- The number of digits. -/
def ul : List Nat → Nat
  | [] => 0
  | d :: l => d + 18446744073709551616 * ul l
def Eg (l : List Nat) : Prop := ∀ d ∈ l, d < 18446744073709551616
theorem Eg.nil : Eg [] := fun _ h => by cases h
theorem Eg.append {a b : List Nat} (ha : Eg a) (hb : Eg b) : Eg (a ++ b) := fun d hd => by
  rcases List.mem_append.1 hd with h | h
  · exact ha d h
  · exact hb d h
theorem Eg.one {d : Nat} (h : d < 18446744073709551616) : Eg [d] := fun e he => by rw [List.mem_singleton] at he; omega
theorem Eg.take {l : List Nat} (h : Eg l) (k : Nat) : Eg (l.take k) := fun d hd => h d (List.mem_of_mem_take hd)
theorem Eg.drop {l : List Nat} (h : Eg l) (k : Nat) : Eg (l.drop k) := fun d hd => h d (List.mem_of_mem_drop hd)
theorem Eg.set {l : List Nat} (h : Eg l) (k : Nat) {x : Nat} (hx : x < 18446744073709551616) : Eg (l.set k x) := fun d hd => by
  rcases List.mem_or_eq_of_mem_set hd with h1 | h1
  · exact h d h1
  · omega
theorem Eg.zeros (n : Nat) : Eg (List.replicate n 0) := fun d hd => by rw [List.mem_replicate] at hd; omega
theorem Eg.at {l : List Nat} (h : Eg l) (k : Nat) : l.getD k 0 < 18446744073709551616 := by
  rw [List.getD_eq_getElem?_getD]
  cases e : l[k]? with
  | none => simp
  | some d => exact h d (List.mem_of_getElem? e)
theorem ul_append : ∀ (a b : List Nat), ul (a ++ b) = ul a + PW a.length * ul b
  | [], b => by simp [ul, PW_zero]
  | d :: a, b => by
    rw [List.cons_append, ul, ul, ul_append a b, List.length_cons, PW_succ, Nat.mul_add, ← Nat.add_assoc, ← Nat.mul_assoc, Nat.mul_comm (PW a.length)]
theorem ul_one (d : Nat) : ul [d] = d := by simp [ul]
theorem ul_lt : ∀ {l : List Nat}, Eg l → ul l < PW l.length
  | [], _ => by simp [ul, PW_zero]
  | d :: l, h => by
    have h1 := ul_lt (l := l) fun e he => h e (by simp [he])
    have h2 := h d (by simp)
    rw [ul, List.length_cons, PW_succ]
    omega
theorem ul_zeros : ∀ n, ul (List.replicate n 0) = 0
  | 0 => rfl
  | n + 1 => by rw [List.replicate_succ, ul, ul_zeros n]
theorem ul_take_succ {l : List Nat} {k : Nat} (h : k < l.length) : ul (l.take (k + 1)) = ul (l.take k) + PW k * l.getD k 0 := by
  rw [take_succ' h, ul_append, ul_one, List.length_take, Nat.min_eq_left (by omega)]
theorem ul_drop_at {l : List Nat} {k : Nat} (h : k < l.length) : ul (l.drop k) = l.getD k 0 + 18446744073709551616 * ul (l.drop (k + 1)) := by
  rw [drop_at h]; rfl
theorem ul_split (l : List Nat) {k : Nat} (h : k ≤ l.length) : ul l = ul (l.take k) + PW k * ul (l.drop k) := by
  have := ul_append (l.take k) (l.drop k)
  rwa [List.take_append_drop, List.length_take, Nat.min_eq_left h] at this
theorem ul_set : ∀ {l : List Nat} {k : Nat} (x : Nat), k < l.length → ul (l.set k x) + PW k * l.getD k 0 = ul l + PW k * x
  | [], k, x, h => by simp at h
  | d :: l, 0, x, _ => by simp [ul, PW_zero]; omega
  | d :: l, k + 1, x, h => by
    have ih := ul_set (l := l) (k := k) x (by simpa using h)
    have e : (d :: l).getD (k + 1) 0 = l.getD k 0 := rfl
    rw [List.set_cons_succ, ul, ul, e, PW_succ, Nat.mul_comm (PW k), Nat.mul_assoc, Nat.mul_assoc]
    have h1 : 18446744073709551616 * ul (l.set k x) + 18446744073709551616 * (PW k * l.getD k 0) = 18446744073709551616 * ul l + 18446744073709551616 * (PW k * x) := by rw [← Nat.mul_add, ih, Nat.mul_add]
    omega
/-- No 0 at the end. -/
def Um (l : List Nat) : Prop := ∀ k, ul l < PW k → l.length ≤ k
theorem Um.nil : Um [] := fun _ _ => Nat.zero_le _
theorem ul_ge {l : List Nat} {n : Nat} (hl : l.length = n + 1) (h : l.getD n 0 ≠ 0) : PW n ≤ ul l := by
  have h1 := ul_take_succ (l := l) (k := n) (by omega)
  rw [List.take_of_length_le (by omega)] at h1
  have := Nat.mul_le_mul_left (PW n) (show 1 ≤ l.getD n 0 by omega)
  omega
theorem Um.of {l : List Nat} {n : Nat} (hl : l.length = n + 1) (h : l.getD n 0 ≠ 0) : Um l := fun k hk => by
  have := PW_lt_iff.1 (Nat.lt_of_le_of_lt (ul_ge hl h) hk)
  omega
theorem Um.ge {l : List Nat} (h : Um l) {n : Nat} (hl : l.length = n + 1) : PW n ≤ ul l := by
  rcases Nat.lt_or_ge (ul l) (PW n) with h1 | h1
  · have := h n h1; omega
  · exact h1
theorem Um.len_le {a b : List Nat} (ha : Um a) (hb : Eg b) (h : ul a ≤ ul b) : a.length ≤ b.length := ha _ (Nat.lt_of_le_of_lt h (ul_lt hb))
theorem Um.lt_of_len {a b : List Nat} (ha : Eg a) (hb : Um b) (h : a.length < b.length) : ul a < ul b := by
  obtain ⟨n, hn⟩ : ∃ n, b.length = n + 1 := ⟨b.length - 1, by omega⟩
  exact Nat.lt_of_lt_of_le (ul_lt ha) (Nat.le_trans (PW_le (by omega)) (hb.ge hn))
theorem Um.pos {l : List Nat} (h : Um l) : 0 < l.length ↔ 0 < ul l := by
  constructor
  · intro hl
    obtain ⟨n, hn⟩ : ∃ n, l.length = n + 1 := ⟨l.length - 1, by omega⟩
    exact Nat.lt_of_lt_of_le (PW_pos n) (h.ge hn)
  · intro hv
    cases l with
    | nil => simp [ul] at hv
    | cons d l => simp
/-- Digits without a 0 at the end are told by their number. -/
theorem ul_inj : ∀ {a b : List Nat}, Eg a → Eg b → a.length = b.length → ul a = ul b → a = b
  | [], [], _, _, _, _ => rfl
  | [], _ :: _, _, _, h, _ => by simp at h
  | _ :: _, [], _, _, h, _ => by simp at h
  | d :: a, e :: b, ha, hb, hl, h => by
    have h1 := ha d (by simp)
    have h2 := hb e (by simp)
    simp only [ul] at h
    have : ul a = ul b := by omega
    rw [ul_inj (fun x hx => ha x (by simp [hx])) (fun x hx => hb x (by simp [hx])) (by simpa using hl) this]
    congr 1
    omega
/-- The highest digit that differs tells the order. -/
theorem ul_order {a b : List Nat} {i : Nat} (ha : Eg a) (hb : Eg b) (hia : i < a.length) (hib : i < b.length) (hd : a.drop (i + 1) = b.drop (i + 1)) (h : a.getD i 0 < b.getD i 0) : ul a < ul b := by
  have e1 := ul_split a (show i + 1 ≤ a.length by omega)
  have e2 := ul_split b (show i + 1 ≤ b.length by omega)
  have f1 := ul_take_succ hia
  have f2 := ul_take_succ hib
  have g1 := ul_lt (ha.take i)
  rw [List.length_take, Nat.min_eq_left (by omega)] at g1
  have h2 := Nat.mul_le_mul_left (PW i) (show a.getD i 0 + 1 ≤ b.getD i 0 from h)
  rw [Nat.mul_add] at h2
  rw [hd] at e1
  omega
end Go.WD

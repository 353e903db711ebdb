/- Digits to the base 2^32: plain. -/
import Derived.Test.YtcleogdmobdnpacGreatRDoorWdA
namespace Go.WD
open Go.RX

/-- 2 to the power 32 k. -/
@[irreducible] def BP (k : Nat) : Nat := 2 ^ (32 * k)
theorem BP_zero : BP 0 = 1 := by unfold BP; rfl
theorem BP_succ (k : Nat) : BP (k + 1) = BP k * 4294967296 := by unfold BP; rw [Nat.mul_succ, Nat.pow_add]
theorem BP_pos (k : Nat) : 0 < BP k := by unfold BP; exact Nat.pow_pos (by omega)
theorem BP_add (i j : Nat) : BP (i + j) = BP i * BP j := by unfold BP; rw [Nat.mul_add, Nat.pow_add]
theorem BP_le {i j : Nat} (h : i ≤ j) : BP i ≤ BP j := by unfold BP; exact Nat.pow_le_pow_right (by omega) (by omega)
theorem BP_lt_iff {i j : Nat} : BP i < BP j ↔ i < j := by
  constructor
  · intro h; rcases Nat.lt_or_ge i j with h1 | h1
    · exact h1
    · have := BP_le h1; omega
  · intro h
    have h1 := BP_le (show i + 1 ≤ j from h)
    have h2 := BP_pos i
    rw [BP_succ] at h1; omega
theorem BP_PW (k : Nat) : BP (2 * k) = PW k := by unfold BP PW; rw [← Nat.mul_assoc]
theorem BP_M : BP 16 = M := by rw [M_def, ← BP_PW]

/-- The number of digits. -/
def vl : List Nat → Nat
  | [] => 0
  | d :: l => d + 4294967296 * vl l
def Dg (l : List Nat) : Prop := ∀ d ∈ l, d < 4294967296
theorem Dg.nil : Dg [] := fun _ h => by cases h
theorem Dg.append {a b : List Nat} (ha : Dg a) (hb : Dg b) : Dg (a ++ b) := fun d hd => by
  rcases List.mem_append.1 hd with h | h
  · exact ha d h
  · exact hb d h
theorem Dg.one {d : Nat} (h : d < 4294967296) : Dg [d] := fun e he => by rw [List.mem_singleton] at he; omega
theorem Dg.take {l : List Nat} (h : Dg l) (k : Nat) : Dg (l.take k) := fun d hd => h d (List.mem_of_mem_take hd)
theorem Dg.drop {l : List Nat} (h : Dg l) (k : Nat) : Dg (l.drop k) := fun d hd => h d (List.mem_of_mem_drop hd)
theorem Dg.set {l : List Nat} (h : Dg l) (k : Nat) {x : Nat} (hx : x < 4294967296) : Dg (l.set k x) := fun d hd => by
  rcases List.mem_or_eq_of_mem_set hd with h1 | h1
  · exact h d h1
  · omega
theorem Dg.zeros (n : Nat) : Dg (List.replicate n 0) := fun d hd => by rw [List.mem_replicate] at hd; omega
theorem Dg.at {l : List Nat} (h : Dg l) (k : Nat) : l.getD k 0 < 4294967296 := by
  rw [List.getD_eq_getElem?_getD]
  cases e : l[k]? with
  | none => simp
  | some d => exact h d (List.mem_of_getElem? e)
theorem vl_append : ∀ (a b : List Nat), vl (a ++ b) = vl a + BP a.length * vl b
  | [], b => by simp [vl, BP_zero]
  | d :: a, b => by
    rw [List.cons_append, vl, vl, vl_append a b, List.length_cons, BP_succ, Nat.mul_add, ← Nat.add_assoc, ← Nat.mul_assoc, Nat.mul_comm (BP a.length)]
theorem vl_one (d : Nat) : vl [d] = d := by simp [vl]
theorem vl_lt : ∀ {l : List Nat}, Dg l → vl l < BP l.length
  | [], _ => by simp [vl, BP_zero]
  | d :: l, h => by
    have h1 := vl_lt (l := l) fun e he => h e (by simp [he])
    have h2 := h d (by simp)
    rw [vl, List.length_cons, BP_succ]
    omega
theorem vl_zeros : ∀ n, vl (List.replicate n 0) = 0
  | 0 => rfl
  | n + 1 => by rw [List.replicate_succ, vl, vl_zeros n]
theorem at_some {l : List Nat} {k : Nat} (h : k < l.length) : l[k]? = some (l.getD k 0) := by
  rw [List.getD_eq_getElem?_getD, List.getElem?_eq_getElem h]; rfl
theorem take_succ' {l : List Nat} {k : Nat} (h : k < l.length) : l.take (k + 1) = l.take k ++ [l.getD k 0] := by
  rw [List.take_add_one, at_some h]; rfl
theorem drop_at {l : List Nat} {k : Nat} (h : k < l.length) : l.drop k = l.getD k 0 :: l.drop (k + 1) := by
  have := List.drop_eq_getElem_cons h
  rw [this]
  congr 1
  rw [List.getD_eq_getElem?_getD, List.getElem?_eq_getElem h]; rfl
theorem vl_take_succ {l : List Nat} {k : Nat} (h : k < l.length) : vl (l.take (k + 1)) = vl (l.take k) + BP k * l.getD k 0 := by
  rw [take_succ' h, vl_append, vl_one, List.length_take, Nat.min_eq_left (by omega)]
theorem vl_drop_at {l : List Nat} {k : Nat} (h : k < l.length) : vl (l.drop k) = l.getD k 0 + 4294967296 * vl (l.drop (k + 1)) := by
  rw [drop_at h]; rfl
theorem vl_split (l : List Nat) {k : Nat} (h : k ≤ l.length) : vl l = vl (l.take k) + BP k * vl (l.drop k) := by
  have := vl_append (l.take k) (l.drop k)
  rwa [List.take_append_drop, List.length_take, Nat.min_eq_left h] at this
theorem vl_set : ∀ {l : List Nat} {k : Nat} (x : Nat), k < l.length → vl (l.set k x) + BP k * l.getD k 0 = vl l + BP k * x
  | [], k, x, h => by simp at h
  | d :: l, 0, x, _ => by simp [vl, BP_zero]; omega
  | d :: l, k + 1, x, h => by
    have ih := vl_set (l := l) (k := k) x (by simpa using h)
    have e : (d :: l).getD (k + 1) 0 = l.getD k 0 := rfl
    rw [List.set_cons_succ, vl, vl, e, BP_succ, Nat.mul_comm (BP k), Nat.mul_assoc, Nat.mul_assoc]
    have h1 : 4294967296 * vl (l.set k x) + 4294967296 * (BP k * l.getD k 0) = 4294967296 * vl l + 4294967296 * (BP k * x) := by rw [← Nat.mul_add, ih, Nat.mul_add]
    omega
theorem at_set_self {l : List Nat} {k x : Nat} (h : k < l.length) : (l.set k x).getD k 0 = x := by
  rw [List.getD_eq_getElem?_getD, List.getElem?_set, if_pos rfl, if_pos h]; rfl
theorem at_set_ne {l : List Nat} {k j x : Nat} (h : j ≠ k) : (l.set k x).getD j 0 = l.getD j 0 := by
  rw [List.getD_eq_getElem?_getD, List.getD_eq_getElem?_getD, List.getElem?_set, if_neg (fun e => h e.symm)]
theorem drop_set {l : List Nat} {k j x : Nat} (h : k < j) : (l.set k x).drop j = l.drop j := by
  apply List.ext_getElem?
  intro i
  rw [List.getElem?_drop, List.getElem?_drop, List.getElem?_set, if_neg (by omega)]
theorem at_zeros (n k : Nat) : (List.replicate n 0).getD k 0 = 0 := by
  rw [List.getD_eq_getElem?_getD, List.getElem?_replicate]; split <;> rfl
theorem at_out {l : List Nat} {k : Nat} (h : l.length ≤ k) : l.getD k 0 = 0 := by
  rw [List.getD_eq_getElem?_getD, List.getElem?_eq_none h]; rfl

/-- No 0 at the end. -/
def Tm (l : List Nat) : Prop := ∀ k, vl l < BP k → l.length ≤ k
theorem Tm.nil : Tm [] := fun _ _ => Nat.zero_le _
theorem vl_ge {l : List Nat} {n : Nat} (hl : l.length = n + 1) (h : l.getD n 0 ≠ 0) : BP n ≤ vl l := by
  have h1 := vl_take_succ (l := l) (k := n) (by omega)
  rw [List.take_of_length_le (by omega)] at h1
  have := Nat.mul_le_mul_left (BP n) (show 1 ≤ l.getD n 0 by omega)
  omega
theorem Tm.of {l : List Nat} {n : Nat} (hl : l.length = n + 1) (h : l.getD n 0 ≠ 0) : Tm l := fun k hk => by
  have := BP_lt_iff.1 (Nat.lt_of_le_of_lt (vl_ge hl h) hk)
  omega
theorem Tm.ge {l : List Nat} (h : Tm l) {n : Nat} (hl : l.length = n + 1) : BP n ≤ vl l := by
  rcases Nat.lt_or_ge (vl l) (BP n) with h1 | h1
  · have := h n h1; omega
  · exact h1
theorem Tm.len_le {a b : List Nat} (ha : Tm a) (hb : Dg b) (h : vl a ≤ vl b) : a.length ≤ b.length := ha _ (Nat.lt_of_le_of_lt h (vl_lt hb))
theorem Tm.lt_of_len {a b : List Nat} (ha : Dg a) (hb : Tm b) (h : a.length < b.length) : vl a < vl b := by
  obtain ⟨n, hn⟩ : ∃ n, b.length = n + 1 := ⟨b.length - 1, by omega⟩
  exact Nat.lt_of_lt_of_le (vl_lt ha) (Nat.le_trans (BP_le (by omega)) (hb.ge hn))
theorem Tm.pos {l : List Nat} (h : Tm l) : 0 < l.length ↔ 0 < vl l := by
  constructor
  · intro hl
    obtain ⟨n, hn⟩ : ∃ n, l.length = n + 1 := ⟨l.length - 1, by omega⟩
    exact Nat.lt_of_lt_of_le (BP_pos n) (h.ge hn)
  · intro hv
    cases l with
    | nil => simp [vl] at hv
    | cons d l => simp
/-- Digits without a 0 at the end are told by their number. -/
theorem vl_inj : ∀ {a b : List Nat}, Dg a → Dg b → a.length = b.length → vl a = vl b → a = b
  | [], [], _, _, _, _ => rfl
  | [], _ :: _, _, _, h, _ => by simp at h
  | _ :: _, [], _, _, h, _ => by simp at h
  | d :: a, e :: b, ha, hb, hl, h => by
    have h1 := ha d (by simp)
    have h2 := hb e (by simp)
    simp only [vl] at h
    have : vl a = vl b := by omega
    rw [vl_inj (fun x hx => ha x (by simp [hx])) (fun x hx => hb x (by simp [hx])) (by simpa using hl) this]
    congr 1
    omega
/-- The highest digit that differs tells the order. -/
theorem vl_order {a b : List Nat} {i : Nat} (ha : Dg a) (hb : Dg b) (hia : i < a.length) (hib : i < b.length) (hd : a.drop (i + 1) = b.drop (i + 1)) (h : a.getD i 0 < b.getD i 0) : vl a < vl b := by
  have e1 := vl_split a (show i + 1 ≤ a.length by omega)
  have e2 := vl_split b (show i + 1 ≤ b.length by omega)
  have f1 := vl_take_succ hia
  have f2 := vl_take_succ hib
  have g1 := vl_lt (ha.take i)
  rw [List.length_take, Nat.min_eq_left (by omega)] at g1
  have h2 := Nat.mul_le_mul_left (BP i) (show a.getD i 0 + 1 ≤ b.getD i 0 from h)
  rw [Nat.mul_add] at h2
  rw [hd] at e1
  omega
end Go.WD

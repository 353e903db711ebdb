/- MADE BY rxgen.py: the trees of the texts of the reference of chapter 01, and of the law WideTexts. -/
import Derived.Test.YtcleogdmobdnpacGreatRDoorWdT
import Derived.Test.YtcleogdmobdnpacGreatRDoorRfG
import Derived.Test.YtcleogdmobdnpacGreatRDoorRfI
import Derived.Test.YtcleogdmobdnpacGreatRDoorBdA
import Derived.Test.YtcleogdmobdnpacGreatRDoorRxV
namespace Go.Proofs.YtcleogdmobdnpacGreatRDoor
open Go.RowKit Go.RX
end Go.Proofs.YtcleogdmobdnpacGreatRDoor
namespace Go.WD
open Go.RX
/-- The digits of a number, none of 0. -/
def dz (n : Nat) : List UInt8 := if n = 0 then [] else dr n
theorem dz_step {n : Nat} (h : 0 < n) : dz n = dz (n / 10) ++ [UInt8.ofNat (48 + n % 10)] := by
  unfold dz; rw [if_neg (by omega)]
  by_cases h10 : n < 10
  · rw [if_pos (by omega), dr_small h10, Nat.mod_eq_of_lt h10]; rfl
  · rw [if_neg (by omega), dr_big h10]
theorem dz_nil {n : Nat} : dz n = [] ↔ n = 0 := by
  unfold dz
  constructor
  · intro h
    by_cases e : n = 0
    · exact e
    · rw [if_neg e] at h
      exact absurd h (dr_spec (n + 1) n (by omega)).2.2.1
  · intro h; rw [if_pos h]
def strL : Value → Nat | .string s => s.size | _ => 0
theorem strL_st (l : List UInt8) : strL (st l) = l.length := ba_size l
theorem valL_lt : ∀ (k : Nat) (l : List UInt8), l.length ≤ k → l.all digB = true → valL l < 10 ^ l.length := by
  intro k
  induction k with
  | zero =>
    intro l h _
    obtain rfl : l = [] := List.eq_nil_of_length_eq_zero (by omega)
    simp [valL]
  | succ k ih =>
    intro l h ha
    rcases List.eq_nil_or_concat l with e | ⟨l', c, e⟩
    · subst e; simp [valL]
    · rw [List.concat_eq_append] at e
      subst e
      rw [List.all_append, Bool.and_eq_true] at ha
      have hc : digB c = true := by simpa using ha.2
      have hv := digB_val hc
      have := ih l' (by simp at h; omega) ha.1
      rw [valL_snoc, List.length_append, List.length_singleton, Nat.pow_succ]
      omega
theorem ten_BP (k : Nat) : 10 ^ k ≤ BP k := by
  unfold BP
  rw [Nat.pow_mul]
  exact Nat.pow_le_pow_left (by decide) k
end Go.WD
namespace Go.Proofs.YtcleogdmobdnpacGreatRDoor
open Go.RowKit Go.RX Go.WD

section
variable {G : Value → PH → Prop} {nx : List (List Value → PH → Prop)} {ρ : List Value} {H H0 : PH} {o o1 o2 : Oper} {x y x2 y2 : Operand} {id i id2 i2 : Nat} {args args2 : List SV} {t : Tree} {v : Value} {l : List UInt8}
/-- string([]byte{c}). -/
theorem den_bstr {c : UInt8} {pb : Bool} (ho1 : o1.op = .buildSlice 124 1 #[(0, x)]) (ho2 : o2.op = .convert 124 9 x2) (hx : argEv [x] [bv c] x = bv c) (hx2 : ∀ p, argEv [x2] [p] x2 = p) (ha : args.map (D Tryz.prog ρ) = [bv c]) (ha2 : ∀ p, args2.map (D Tryz.prog (ρ ++ [p])) = [p])
    (n : ∀ p H', PH.le H H' → den Tryz.prog G t nx (ρ ++ [p] ++ [st [c]]) H') : den Tryz.prog G (.eff pb id i o1 args (.prim id2 i2 o2 args2 t)) nx ρ H := by
  obtain ⟨ti, i1, i2, i3, i4⟩ := info_byte
  refine den_eff (vs := [bv c]) (sl_build (cells := #[bv c]) ho1 und_bytes i1 i2 (by rw [i3]; decide) (by rw [i3]; decide) (by rw [i3]; simp only [List.map_cons, List.map_nil, hx]; exact fillb _ c)) ha ?_
  rintro u H2 ⟨g, hg, rfl, rfl⟩
  have l2 := PH.le_put (H := H) hg (.cells #[bv c] 5 (0, 0))
  have hs : Sl (H.put g (.cells #[bv c] 5 (0, 0))) 1 (.slice (some ⟨g, 0, none⟩) 1 1) [c].length ([c].map bv) := ⟨rfl, _, 1, rfl, by simp, by simp [maxLen], .inr ⟨g, 0, _, _, _, rfl, PH.put_self _ _ _, rfl⟩⟩
  exact ⟨fun _ => l2, den_prim (st_of_bytes ho2 (hx2 _) und_bytes (by kernel_rfl) uStr hs) (ha2 _) (n _ _ l2)⟩
end
theorem tm_ten : Tm [10] := Tm.of (n := 0) rfl (by decide)
theorem dg_ten : Dg [10] := Dg.one (by omega)
theorem u8_dig {d : Nat} (h : d < 10) : Value.int .u8 (IntKind.u8.wrap (IntKind.i64.wrap (48 + ((d : Nat) : Int)))) = bv (UInt8.ofNat (48 + d)) := by
  unfold bv
  congr 1
  rw [UInt8.toNat_ofNat', IntKind.wrap_u8, IntKind.wrap_i64]
  omega
section
variable {H : PH} {x : Value} {z : Int}
theorem dz_len (n k : Nat) (h : n < 10 ^ (k + 1)) : (dz n).length ≤ k + 1 := by
  unfold dz
  split
  · simp
  · unfold dr; rw [List.length_reverse]; exact dl_len k n h
end
/-! ### Right, Value, Parse -/
def frm (l : List UInt8) : Nat := if ng l then 1 else 0
theorem frm_le (l : List UInt8) : frm l ≤ l.length := by
  unfold frm; split
  · rename_i h
    cases l with
    | nil => cases h
    | cons _ _ => simp
  · omega
theorem dg_drop (l : List UInt8) : dg l = l.drop (frm l) := by
  unfold dg frm; split <;> rfl
theorem at_drop (l : List UInt8) (i j : Nat) : (l.drop i).getD j 0 = l.getD (i + j) 0 := by
  rw [List.getD_eq_getElem?_getD, List.getD_eq_getElem?_getD, List.getElem?_drop]
theorem bad_eq (l : List UInt8) : badB l = (decide (l.length = frm l) || ((l.getD (frm l) 0 == 48) && decide (1 < l.length))) := by
  have h1 := frm_le l
  unfold badB
  rw [dg_drop, at_drop, Nat.add_zero]
  congr 1
  rw [Bool.eq_iff_iff, beq_iff_eq, decide_eq_true_iff, List.drop_eq_nil_iff]
  omega
theorem all_of {l : List UInt8} {f : Nat} (h : ∀ k, f ≤ k → k < l.length → digB (l.getD k 0) = true) : (l.drop f).all digB = true := by
  rw [List.all_eq_true]
  intro c hc
  obtain ⟨k, hk, rfl⟩ := List.getElem_of_mem hc
  have := h (f + k) (by omega) (by simp at hk; omega)
  rw [List.getElem_drop]
  rw [List.getD_eq_getElem?_getD, List.getElem?_eq_getElem (by simp at hk; omega)] at this
  exact this
theorem all_not {l : List UInt8} {f k : Nat} (hf : f ≤ k) (hk : k < l.length) (h : digB (l.getD k 0) = false) : (l.drop f).all digB = false := by
  rw [List.all_eq_false]
  refine ⟨l.getD k 0, ?_, by rw [h]; simp⟩
  rw [List.getD_eq_getElem?_getD, List.getElem?_eq_getElem hk]
  rw [List.mem_iff_getElem]
  refine ⟨k - f, by simp; omega, ?_⟩
  simp only [List.getElem_drop, Option.getD_some]
  congr 1
  omega
theorem dig_lo (c : UInt8) (h : (c.toNat : Int) < 48) : (!digB c) = true := by unfold digB; simp; omega
theorem dig_hi (c : UInt8) (h : ¬ (c.toNat : Int) < 48) : Value.bool (decide ((c.toNat : Int) > 57)) = .bool (!digB c) := by
  congr 1
  unfold digB
  rw [Bool.eq_iff_iff]
  simp
  omega
theorem take_next (l : List UInt8) {f i : Nat} (hf : f ≤ i) (hi : i < l.length) : (l.drop f).take (i + 1 - f) = (l.drop f).take (i - f) ++ [l.getD i 0] := by
  rw [show i + 1 - f = (i - f) + 1 from by omega, take_snoc (by simp; omega), at_drop, show f + (i - f) = i from by omega]
theorem lm_ten {n k : Nat} (h : n < 10 ^ k) (hk : k ≤ 10000) : Lm (n : Int) := by
  unfold Lm
  rw [Int.natAbs_natCast]
  have := ten_BP k
  have := BP_le hk
  omega
theorem z_lg (H : PH) : Lg H (Value.agg ((zeroV Tryz.prog 4).cells ++ (zeroV Tryz.prog 111).cells)) 0 := by
  have h1 : (zeroV Tryz.prog 4) = .bool false := by kernel_rfl
  have h2 : (zeroV Tryz.prog 111) = .slice none 0 0 := by kernel_rfl
  rw [h1, h2]
  exact ⟨_, rfl, Nu.zero H⟩
section
variable {H : PH}
theorem long_big {l : List UInt8} (hr : rightB l = true) (hl : 200 < l.length) : ¬ (-(HM : Int) ≤ numL l ∧ numL l < HM) := fun h => by
  have := txt_len (z := numL l) h
  rw [right_txt l hr] at this
  omega
end
end Go.Proofs.YtcleogdmobdnpacGreatRDoor

/- Arguments of the laws as values. -/
import Derived.Test.YtcleogdmobdnpacGreatRDoorLwA
import Derived.WalkKit
import Derived.ProofKit
import Derived.OpenShut
import Derived.ShutString
import Derived.ChangeOld
import Derived.Below
import Derived.Test.YtcleogdmobdnpacGreatRDoorRfK
import Derived.Test.YtcleogdmobdnpacGreatRDoorRxV
import Derived.Deep.Slices
import Derived.Deep.Strs
namespace Go.WD
open Go.RX
/-! ### Any eight words are those of a number -/
def numF (f : Nat → Nat) : Nat → Nat
  | 0 => 0
  | k + 1 => numF f k + f k * PW k
theorem numF_lt (f : Nat → Nat) : ∀ k, (∀ i, i < k → f i < 18446744073709551616) → numF f k < PW k
  | 0, _ => by rw [PW_zero]; exact Nat.zero_lt_one
  | k + 1, h => by
    have h1 := numF_lt f k (fun i hi => h i (by omega))
    have h2 := Nat.mul_le_mul_right (PW k) (show f k + 1 ≤ 18446744073709551616 from h k (by omega))
    rw [numF, PW_succ, Nat.mul_comm (PW k)]
    rw [Nat.add_mul, Nat.one_mul] at h2
    omega
theorem dig_numF (f : Nat → Nat) : ∀ k, (∀ i, i < k → f i < 18446744073709551616) → ∀ i, i < k → dig (numF f k) i = f i
  | 0, _, i, hi => by omega
  | k + 1, h, i, hi => by
    have h1 := numF_lt f k (fun i hi => h i (by omega))
    rcases Nat.lt_or_eq_of_le (Nat.le_of_lt_succ hi) with hlt | rfl
    · rw [← dig_numF f k (fun i hi => h i (by omega)) i hlt]
      refine dig_congr (k := k) ?_ hlt
      rw [numF, Nat.add_mul_mod_self_right]
    · unfold dig
      rw [numF, Nat.add_mul_div_right _ _ (PW_pos i), Nat.div_eq_of_lt h1, Nat.zero_add, Nat.mod_eq_of_lt (h i (by omega))]
theorem exists_words (f : Nat → Nat) (h : ∀ i, i < 8 → f i < 18446744073709551616) : ∃ a, wf f = words a :=
  ⟨numF f 8, wf_words fun i hi => (dig_numF f 8 h i hi).symm⟩
end Go.WD
namespace Go.Proofs.YtcleogdmobdnpacGreatRDoor
open Go.ChangeShapes Go.WideShapes Go.ChangeAt Go.RowKit Go.RX Go.WD
open Go.ChangeMaps (open_string shut_string)

theorem walk_of {P : Program} {f : FuncId} {args : List Value} {H : PH} {W : World} (h : Con P f args H fun v H' => v = .bool true ∧ PH.le H H') (hW : H.In W) : Calls P f args.toArray W fun e W' => e = .returned (.bool true) ∧ Below W.heap.size W W' :=
  (h W hW).mono fun _ _ ⟨_, _, he, hs, hv, hl⟩ => ⟨by rw [he, hv], hs.toExt hW hl⟩
theorem own : ownKnob Tryz.prog.godebug = none := by kernel_rfl
theorem laidOut : laidOutB Tryz.prog = true := by kernel_rfl
theorem okWide_array {P : Program} {w : World} {r : Reach} {base : Nat} {t e : TypeId} {n : Nat} {v : Value} (ht : P.underlying t = some (.array n e)) (h : Value.okWide P w r base t v) : ∃ cs, v = .agg cs ∧ cs.size = P.cellsOf t := by
  simp only [Value.okWide, ht] at h
  obtain ⟨cs, h1, h2, _⟩ := h
  exact ⟨cs, h1, h2⟩
theorem wf_u64 {n : Int} (h : (Lit.int .u64 n).wf = true) : 0 ≤ n ∧ n < 18446744073709551616 := by
  have := bounds_u64 h
  omega
/-- Eight words that are read are those of a number. -/
theorem words_of_cells {cs : List Value} (h8 : cs.length = 8) (h : ∀ i, i < 8 → ∃ n : Int, (cs.drop i).take 1 = [.int .u64 n] ∧ (Lit.int .u64 n).wf = true) : ∃ a, cs.toArray = words a := by
  match cs, h8 with
  | [c0, c1, c2, c3, c4, c5, c6, c7], _ =>
    have key : ∀ i (hi : i < 8), ∃ m : Nat, [c0, c1, c2, c3, c4, c5, c6, c7][i]? = some (.int .u64 m) ∧ m < 18446744073709551616 := fun i hi => by
      obtain ⟨n, hn, hw⟩ := h i hi
      obtain ⟨b0, b1⟩ := wf_u64 hw
      refine ⟨n.toNat, ?_, by omega⟩
      have : ([c0, c1, c2, c3, c4, c5, c6, c7].drop i)[0]? = some (.int .u64 n) := by
        have := congrArg (fun l : List Value => l[0]?) hn
        simpa [List.getElem?_take] using this
      rw [List.getElem?_drop, Nat.add_zero] at this
      rw [this, show ((n.toNat : Nat) : Int) = n from by omega]
    obtain ⟨f, hf⟩ : ∃ f : Nat → Nat, ∀ i, i < 8 → [c0, c1, c2, c3, c4, c5, c6, c7][i]? = some (.int .u64 (f i)) ∧ f i < 18446744073709551616 :=
      ⟨fun i => match [c0, c1, c2, c3, c4, c5, c6, c7][i]? with | some (.int _ n) => n.toNat | _ => 0, fun i hi => by
        obtain ⟨m, hm, hlt⟩ := key i hi
        simp only [hm, Int.toNat_natCast]
        exact ⟨trivial, hlt⟩⟩
    obtain ⟨a, ha⟩ := exists_words f (fun i hi => (hf i hi).2)
    refine ⟨a, ?_⟩
    rw [← ha]
    have g0 := (hf 0 (by omega)).1
    have g1 := (hf 1 (by omega)).1
    have g2 := (hf 2 (by omega)).1
    have g3 := (hf 3 (by omega)).1
    have g4 := (hf 4 (by omega)).1
    have g5 := (hf 5 (by omega)).1
    have g6 := (hf 6 (by omega)).1
    have g7 := (hf 7 (by omega)).1
    simp only [List.getElem?_cons_zero, List.getElem?_cons_succ, Option.some.injEq] at g0 g1 g2 g3 g4 g5 g6 g7
    rw [g0, g1, g2, g3, g4, g5, g6, g7]
    rfl
section
variable {H : Type} {enc : TypeId × Value → H} {W : World} {base : Nat} {spare : Nat → Bool} {held : Bool} {fuel : Nat}
theorem trod_wide {cs : List Value} {x : DataW H × List MemPlace} (h : DataW.trod enc Tryz.prog W base spare held fuel 31 cs = some x) : (∃ a, cs.toArray = words a) ∧ x.2 = [] := by
  have hu : Tryz.prog.underlying 31 = some (.array 8 29) := by kernel_rfl
  have he : Tryz.prog.underlying 29 = some (.int .u64) := by kernel_rfl
  have hc : Tryz.prog.cellsOf 29 = 1 := by kernel_rfl
  have hc8 : Tryz.prog.cellsOf 31 = 8 := by kernel_rfl
  obtain ⟨xs, m, rfl, rfl, hl, hx, hi⟩ := DataW.trod_array hu h
  rw [hc] at hi
  have hone : ∀ i, i < 8 → ∃ n : Int, (cs.drop i).take 1 = [.int .u64 n] ∧ xs[i]? = some (.lit (.int .u64 n), []) ∧ (Lit.int .u64 n).wf = true := fun i hi8 => by
    have h1 := hi i hi8
    rw [Nat.mul_one] at h1
    have hlt : i < xs.length := by omega
    rw [List.getElem?_eq_getElem hlt] at h1
    obtain ⟨n, h2, h3, h4⟩ := DataW.trod_int he h1
    exact ⟨n, h2, by rw [List.getElem?_eq_getElem hlt, h3], h4⟩
  refine ⟨words_of_cells (by rw [hl, hc8]) (fun i hi8 => let ⟨n, h1, _, h3⟩ := hone i hi8; ⟨n, h1, h3⟩), ?_⟩
  show xs.flatMap (·.2) = []
  rw [List.flatMap_eq_nil_iff]
  intro y hy
  obtain ⟨i, hi2⟩ := List.getElem?_of_mem hy
  have hlt : i < 8 := by have := (List.getElem?_eq_some_iff.1 hi2).1; omega
  obtain ⟨n, _, h2, _⟩ := hone i hlt
  rw [hi2] at h2
  rw [Option.some.inj h2]
set_option maxRecDepth 100000 in
theorem open_wide {r : Reach} {b0 : Nat} {v : Value} {d : DataW H} {p : List MemPlace} (hv : Value.okWide Tryz.prog W r b0 31 v) (h : DataW.Trod enc Tryz.prog W base spare held 31 v d p) : ∃ a, v = wd a := by
  obtain ⟨cs, rfl, _⟩ := okWide_array (n := 8) (e := 29) (by kernel_rfl) hv
  obtain ⟨m, hm⟩ := h
  obtain ⟨⟨a, ha⟩, _⟩ := trod_wide hm
  refine ⟨a, ?_⟩
  simp only [Value.cells, Array.toArray_toList] at ha
  rw [ha]; rfl
end
end Go.Proofs.YtcleogdmobdnpacGreatRDoor
namespace Go.Proofs.YtcleogdmobdnpacGreatRDoor
open Go.ChangeShapes Go.WideShapes Go.ChangeAt Go.RowKit Go.RX Go.WD

theorem plain_of_cell {w : World} {a : Addr} {v : Value} (h : w.cell? a = some v) : ∃ b q cs T fz, a = ⟨b, q, none⟩ ∧ w.heap[b]? = some (.cells cs T fz) ∧ cs[q]? = some v := by
  obtain ⟨b, q, sp⟩ := a
  unfold World.cell? at h
  split at h
  · rename_i c T fz hh
    cases sp with
    | some s => simp at h
    | none => exact ⟨b, q, c, T, fz, rfl, hh, by simpa using h⟩
  · cases h
theorem plain_add {a : Addr} {b q : Nat} (h : a.add 0 = ⟨b, q, none⟩) : a = ⟨b, q, none⟩ := by
  obtain ⟨b', q', sp⟩ := a
  cases sp with
  | none => rw [add_blk] at h; simpa using h
  | some s => unfold Addr.add at h; split at h <;> simp_all
section
variable {H : Type} {enc : TypeId × Value → H} {W : World} {base : Nat} {spare : Nat → Bool} {held : Bool} {fuel : Nat}
theorem trod_us {cs : List Value} {x : DataW H × List MemPlace} (h : DataW.trod enc Tryz.prog W base spare held fuel 22 cs = some x) : ∃ w l, cs = [w] ∧ Us (fun b => W.heap[b]?) w l := by
  have he : Tryz.prog.underlying 114 = some (.int .u16) := by kernel_rfl
  rcases Go.Deep.open_slice1 (e := 114) (by kernel_rfl) (by kernel_rfl) h with ⟨rfl, _⟩ | ⟨a, len, cap, m, n, V, D, Pl, rfl, _, hlc, hcm, hm, _, hV⟩
  · exact ⟨_, [], rfl, ⟨⟨rfl, none, 0, rfl, by simp, by simp [maxLen], .inl rfl⟩, fun d hd => by cases hd⟩⟩
  · have hlm : len ≤ m := by rw [hm]; split <;> omega
    have key : ∀ i, i < len → ∃ k : Nat, V i = .int .u16 (k : Nat) ∧ k < 65536 := fun i hi => by
      obtain ⟨k, h1, _, h3⟩ := DataW.trod_int he (hV i (by omega)).2
      have := bounds_u16 h3
      refine ⟨k.toNat, ?_, by omega⟩
      rw [List.singleton_inj] at h1
      rw [h1, show ((k.toNat : Nat) : Int) = k from by omega]
    have hl : ∃ f : Nat → Nat, ∀ i, i < len → V i = .int .u16 (f i : Nat) ∧ f i < 65536 :=
      ⟨fun i => (intOf (V i)).toNat, fun i hi => by
        obtain ⟨k, h1, h2⟩ := key i hi
        have : (intOf (V i)).toNat = k := by rw [h1]; rfl
        show V i = .int .u16 (((intOf (V i)).toNat : Nat) : Int) ∧ (intOf (V i)).toNat < 65536
        rw [this]; exact ⟨h1, h2⟩⟩
    obtain ⟨f, hf⟩ := hl
    refine ⟨_, (List.range len).map f, rfl, ⟨by simp, a, cap, by simp, by simpa using hlc, hcm, ?_⟩, fun d hd => ?_⟩
    · by_cases h0 : len = 0
      · left; simpa using h0
      · right
        obtain ⟨b, q, cs, T, fz, ha, hb, _⟩ := plain_of_cell (hV 0 (by omega)).1
        have ha := plain_add ha
        subst ha
        refine ⟨b, q, cs, T, fz, rfl, hb, ?_⟩
        apply List.ext_getElem?
        intro i
        rw [List.getElem?_take]
        simp only [List.length_map, List.length_range, Nat.mul_one]
        split
        · rename_i hi
          have hc := (hV i (by omega)).1
          rw [add_blk] at hc
          obtain ⟨b2, q2, cs2, T2, fz2, e1, e2, e3⟩ := plain_of_cell hc
          simp only [Addr.mk.injEq, and_true] at e1
          obtain ⟨rfl, rfl⟩ := e1
          rw [hb] at e2
          simp only [Option.some.injEq, Obj.cells.injEq] at e2
          obtain ⟨rfl, rfl, rfl⟩ := e2
          rw [List.getElem?_drop, Array.getElem?_toList, e3, (hf i hi).1]
          simp [hi, u16v]
        · rename_i hi
          simp [hi]
    · obtain ⟨i, hi, rfl⟩ := List.mem_map.1 hd
      exact (hf i (List.mem_range.1 hi)).2
theorem trod_field {t : TypeId} {cs : List Value} {x : DataW H × List MemPlace} {k T o c : Nat} (i : Nat) (ht : Tryz.prog.underlying t = some (.struct (fieldsOf Tryz.prog t))) (hk : (fieldsOf Tryz.prog t).size = k) (hi : i < k) (hT : (fieldAt Tryz.prog t i).type = T) (ho : (fieldAt Tryz.prog t i).offset = o) (hc : Tryz.prog.cellsOf T = c) (h : DataW.trod enc Tryz.prog W base spare held fuel t cs = some x) :
    ∃ y n, DataW.trod enc Tryz.prog W base spare held n T ((cs.drop o).take c) = some y := by
  obtain ⟨xs, n, _, rfl, hl, hlen, hf⟩ := DataW.trod_struct ht h
  have hfi : (fieldsOf Tryz.prog t)[i]? = some (fieldAt Tryz.prog t i) := by
    unfold fieldAt
    rw [Array.getElem?_eq_getElem (by omega)]; rfl
  have := hf i _ hfi
  rw [hT, ho, hc] at this
  rw [List.getElem?_eq_getElem (by omega)] at this
  exact ⟨_, n, this⟩
set_option maxRecDepth 100000 in
theorem trod_dr {cs : List Value} {x : DataW H × List MemPlace} (h : DataW.trod enc Tryz.prog W base spare held fuel 25 cs = some x) : Dr (fun b => W.heap[b]?) (.agg cs.toArray) := by
  have ht : Tryz.prog.underlying 25 = some (.struct (fieldsOf Tryz.prog 25)) := by kernel_rfl
  have hl : cs.length = 3 := by
    obtain ⟨xs, n, _, rfl, hl, hlen, hf⟩ := DataW.trod_struct ht h
    rw [hl]; kernel_rfl
  obtain ⟨y0, m0, h0⟩ := trod_field (k := 3) (T := 4) (o := 0) (c := 1) 0 ht (by kernel_rfl) (by omega) (by kernel_rfl) (by kernel_rfl) (by kernel_rfl) h
  obtain ⟨y1, m1, h1⟩ := trod_field (k := 3) (T := 22) (o := 1) (c := 1) 1 ht (by kernel_rfl) (by omega) (by kernel_rfl) (by kernel_rfl) (by kernel_rfl) h
  obtain ⟨y2, m2, h2⟩ := trod_field (k := 3) (T := 23) (o := 2) (c := 1) 2 ht (by kernel_rfl) (by omega) (by kernel_rfl) (by kernel_rfl) (by kernel_rfl) h
  obtain ⟨b, e0, _⟩ := DataW.trod_bool (by kernel_rfl) h0
  obtain ⟨w, l, e1, hu⟩ := trod_us h1
  obtain ⟨k, e2, _, hw⟩ := DataW.trod_int (k := .u32) (by kernel_rfl) h2
  have hb := bounds_u32 hw
  match cs, hl with
  | [c0, c1, c2], _ =>
    simp only [List.drop_zero, List.drop_succ_cons, List.take_succ_cons, List.take_zero, List.singleton_inj] at e0 e1 e2
    subst e0; subst e1; subst e2
    refine ⟨b, c1, l, k.toNat, ?_, hu, by omega⟩
    rw [show ((k.toNat : Nat) : Int) = k from by omega]
theorem okWide_struct {P : Program} {w : World} {r : Reach} {base : Nat} {t : TypeId} {fs : Array Field} {v : Value} (ht : P.underlying t = some (.struct fs)) (h : Value.okWide P w r base t v) : ∃ cs, v = .agg cs := by
  simp only [Value.okWide, ht] at h
  obtain ⟨cs, h1, _⟩ := h
  exact ⟨cs, h1⟩
set_option maxRecDepth 100000 in
theorem open_draft {r : Reach} {b0 : Nat} {v : Value} {d : DataW H} {p : List MemPlace} (hv : Value.okWide Tryz.prog W r b0 25 v) (h : DataW.Trod enc Tryz.prog W base spare held 25 v d p) : Dr (fun b => W.heap[b]?) v := by
  obtain ⟨cs, rfl⟩ := okWide_struct (fs := fieldsOf Tryz.prog 25) (by kernel_rfl) hv
  obtain ⟨m, hm⟩ := h
  have := trod_dr hm
  simpa only [Value.cells, Array.toArray_toList] using this
end
theorem nat_u8 {n : Int} (h : (Lit.int .u8 n).wf = true) : ∃ m : Nat, n = (m : Int) ∧ m < 256 := by
  have := bounds_u8 h
  exact ⟨n.toNat, by omega, by omega⟩
theorem nat_u16 {n : Int} (h : (Lit.int .u16 n).wf = true) : ∃ m : Nat, n = (m : Int) ∧ m < 65536 := by
  have := bounds_u16 h
  exact ⟨n.toNat, by omega, by omega⟩
theorem bytes_of {s : ByteArray} (h : s.size ≤ maxLen) : ∃ l : List UInt8, s = ba l ∧ l.length ≤ maxLen := by
  obtain ⟨⟨l⟩⟩ := s
  exact ⟨l, rfl, h⟩
end Go.Proofs.YtcleogdmobdnpacGreatRDoor

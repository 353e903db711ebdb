/- Arguments with drafts as values. -/
import Derived.Test.YtcleogdmobdnpaaGreatRfK
import Derived.Test.YtcleogdmobdnpaaGreatLwF
import Derived.Test.YtcleogdmobdnpaaGreatRxV
import Derived.Deep.Slices
import Derived.Deep.Strs
namespace Go.Proofs.YtcleogdmobdnpaaGreat
open Go.ChangeShapes Go.WideShapes Go.ChangeAt Go.RowKit Go.RX Go.WD

theorem plain_of_cell {w : World} {a : Addr} {v : Value} (h : w.cell? a = some v) : ∃ b q cs T fz, a = ⟨b, q, none⟩ ∧ w.heap[b]? = some (.cells cs T fz) ∧ cs[q]? = some v := by
  obtain ⟨b, q, sp⟩ := a
  unfold World.cell? at h
  split at h
  · rename_i c T fz hh
    cases sp with
    | some s => simp at h
    | none => exact ⟨b, q, c, T, fz, rfl, hh, by simpa using h⟩
  · cases h
theorem plain_add {a : Addr} {b q : Nat} (h : a.add 0 = ⟨b, q, none⟩) : a = ⟨b, q, none⟩ := by
  obtain ⟨b', q', sp⟩ := a
  cases sp with
  | none => rw [add_blk] at h; simpa using h
  | some s => unfold Addr.add at h; split at h <;> simp_all
section
variable {H : Type} {enc : TypeId × Value → H} {W : World} {base : Nat} {spare : Nat → Bool} {held : Bool} {fuel : Nat}
theorem trod_us {cs : List Value} {x : DataW H × List MemPlace} (h : DataW.trod enc Tryz.prog W base spare held fuel 27 cs = some x) : ∃ w l, cs = [w] ∧ Us (fun b => W.heap[b]?) w l := by
  have he : Tryz.prog.underlying 46 = some (.int .u16) := by kernel_rfl
  rcases Go.Deep.open_slice1 (e := 46) (by kernel_rfl) (by kernel_rfl) h with ⟨rfl, _⟩ | ⟨a, len, cap, m, n, V, D, Pl, rfl, _, hlc, hcm, hm, _, hV⟩
  · exact ⟨_, [], rfl, ⟨⟨rfl, none, 0, rfl, by simp, by simp [maxLen], .inl rfl⟩, fun d hd => by cases hd⟩⟩
  · have hlm : len ≤ m := by rw [hm]; split <;> omega
    have key : ∀ i, i < len → ∃ k : Nat, V i = .int .u16 (k : Nat) ∧ k < 65536 := fun i hi => by
      obtain ⟨k, h1, _, h3⟩ := DataW.trod_int he (hV i (by omega)).2
      have := bounds_u16 h3
      refine ⟨k.toNat, ?_, by omega⟩
      rw [List.singleton_inj] at h1
      rw [h1, show ((k.toNat : Nat) : Int) = k from by omega]
    have hl : ∃ f : Nat → Nat, ∀ i, i < len → V i = .int .u16 (f i : Nat) ∧ f i < 65536 :=
      ⟨fun i => (intOf (V i)).toNat, fun i hi => by
        obtain ⟨k, h1, h2⟩ := key i hi
        have : (intOf (V i)).toNat = k := by rw [h1]; rfl
        show V i = .int .u16 (((intOf (V i)).toNat : Nat) : Int) ∧ (intOf (V i)).toNat < 65536
        rw [this]; exact ⟨h1, h2⟩⟩
    obtain ⟨f, hf⟩ := hl
    refine ⟨_, (List.range len).map f, rfl, ⟨by simp, a, cap, by simp, by simpa using hlc, hcm, ?_⟩, fun d hd => ?_⟩
    · by_cases h0 : len = 0
      · left; simpa using h0
      · right
        obtain ⟨b, q, cs, T, fz, ha, hb, _⟩ := plain_of_cell (hV 0 (by omega)).1
        have ha := plain_add ha
        subst ha
        refine ⟨b, q, cs, T, fz, rfl, hb, ?_⟩
        apply List.ext_getElem?
        intro i
        rw [List.getElem?_take]
        simp only [List.length_map, List.length_range, Nat.mul_one]
        split
        · rename_i hi
          have hc := (hV i (by omega)).1
          rw [add_blk] at hc
          obtain ⟨b2, q2, cs2, T2, fz2, e1, e2, e3⟩ := plain_of_cell hc
          simp only [Addr.mk.injEq, and_true] at e1
          obtain ⟨rfl, rfl⟩ := e1
          rw [hb] at e2
          simp only [Option.some.injEq, Obj.cells.injEq] at e2
          obtain ⟨rfl, rfl, rfl⟩ := e2
          rw [List.getElem?_drop, Array.getElem?_toList, e3, (hf i hi).1]
          simp [hi, u16v]
        · rename_i hi
          simp [hi]
    · obtain ⟨i, hi, rfl⟩ := List.mem_map.1 hd
      exact (hf i (List.mem_range.1 hi)).2
theorem trod_field {t : TypeId} {cs : List Value} {x : DataW H × List MemPlace} {k T o c : Nat} (i : Nat) (ht : Tryz.prog.underlying t = some (.struct (fieldsOf Tryz.prog t))) (hk : (fieldsOf Tryz.prog t).size = k) (hi : i < k) (hT : (fieldAt Tryz.prog t i).type = T) (ho : (fieldAt Tryz.prog t i).offset = o) (hc : Tryz.prog.cellsOf T = c) (h : DataW.trod enc Tryz.prog W base spare held fuel t cs = some x) :
    ∃ y n, DataW.trod enc Tryz.prog W base spare held n T ((cs.drop o).take c) = some y := by
  obtain ⟨xs, n, _, rfl, hl, hlen, hf⟩ := DataW.trod_struct ht h
  have hfi : (fieldsOf Tryz.prog t)[i]? = some (fieldAt Tryz.prog t i) := by
    unfold fieldAt
    rw [Array.getElem?_eq_getElem (by omega)]; rfl
  have := hf i _ hfi
  rw [hT, ho, hc] at this
  rw [List.getElem?_eq_getElem (by omega)] at this
  exact ⟨_, n, this⟩
set_option maxRecDepth 100000 in
theorem trod_dr {cs : List Value} {x : DataW H × List MemPlace} (h : DataW.trod enc Tryz.prog W base spare held fuel 30 cs = some x) : Dr (fun b => W.heap[b]?) (.agg cs.toArray) := by
  have ht : Tryz.prog.underlying 30 = some (.struct (fieldsOf Tryz.prog 30)) := by kernel_rfl
  have hl : cs.length = 3 := by
    obtain ⟨xs, n, _, rfl, hl, hlen, hf⟩ := DataW.trod_struct ht h
    rw [hl]; kernel_rfl
  obtain ⟨y0, m0, h0⟩ := trod_field (k := 3) (T := 4) (o := 0) (c := 1) 0 ht (by kernel_rfl) (by omega) (by kernel_rfl) (by kernel_rfl) (by kernel_rfl) h
  obtain ⟨y1, m1, h1⟩ := trod_field (k := 3) (T := 27) (o := 1) (c := 1) 1 ht (by kernel_rfl) (by omega) (by kernel_rfl) (by kernel_rfl) (by kernel_rfl) h
  obtain ⟨y2, m2, h2⟩ := trod_field (k := 3) (T := 28) (o := 2) (c := 1) 2 ht (by kernel_rfl) (by omega) (by kernel_rfl) (by kernel_rfl) (by kernel_rfl) h
  obtain ⟨b, e0, _⟩ := DataW.trod_bool (by kernel_rfl) h0
  obtain ⟨w, l, e1, hu⟩ := trod_us h1
  obtain ⟨k, e2, _, hw⟩ := DataW.trod_int (k := .u32) (by kernel_rfl) h2
  have hb := bounds_u32 hw
  match cs, hl with
  | [c0, c1, c2], _ =>
    simp only [List.drop_zero, List.drop_succ_cons, List.take_succ_cons, List.take_zero, List.singleton_inj] at e0 e1 e2
    subst e0; subst e1; subst e2
    refine ⟨b, c1, l, k.toNat, ?_, hu, by omega⟩
    rw [show ((k.toNat : Nat) : Int) = k from by omega]
theorem okWide_struct {P : Program} {w : World} {r : Reach} {base : Nat} {t : TypeId} {fs : Array Field} {v : Value} (ht : P.underlying t = some (.struct fs)) (h : Value.okWide P w r base t v) : ∃ cs, v = .agg cs := by
  simp only [Value.okWide, ht] at h
  obtain ⟨cs, h1, _⟩ := h
  exact ⟨cs, h1⟩
set_option maxRecDepth 100000 in
theorem open_draft {r : Reach} {b0 : Nat} {v : Value} {d : DataW H} {p : List MemPlace} (hv : Value.okWide Tryz.prog W r b0 30 v) (h : DataW.Trod enc Tryz.prog W base spare held 30 v d p) : Dr (fun b => W.heap[b]?) v := by
  obtain ⟨cs, rfl⟩ := okWide_struct (fs := fieldsOf Tryz.prog 30) (by kernel_rfl) hv
  obtain ⟨m, hm⟩ := h
  have := trod_dr hm
  simpa only [Value.cells, Array.toArray_toList] using this
end
theorem nat_u8 {n : Int} (h : (Lit.int .u8 n).wf = true) : ∃ m : Nat, n = (m : Int) ∧ m < 256 := by
  have := bounds_u8 h
  exact ⟨n.toNat, by omega, by omega⟩
theorem nat_u16 {n : Int} (h : (Lit.int .u16 n).wf = true) : ∃ m : Nat, n = (m : Int) ∧ m < 65536 := by
  have := bounds_u16 h
  exact ⟨n.toNat, by omega, by omega⟩
theorem bytes_of {s : ByteArray} (h : s.size ≤ maxLen) : ∃ l : List UInt8, s = ba l ∧ l.length ≤ maxLen := by
  obtain ⟨⟨l⟩⟩ := s
  exact ⟨l, rfl, h⟩
end Go.Proofs.YtcleogdmobdnpaaGreat

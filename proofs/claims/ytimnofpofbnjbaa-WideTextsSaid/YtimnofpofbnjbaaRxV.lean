/- Operations on pointers; bytes; unsafe.String. -/
import Derived.Test.YtimnofpofbnjbaaRxT
import Derived.Test.YtimnofpofbnjbaaRxN
import Derived.Lib.Builder
import Derived.Lib.UnsafeStr
import Derived.LaidEqlPtr
namespace Go.RX
open Go.RowKit

/-- The fields of a struct type. -/
def fieldsOf (P : Program) (t : TypeId) : Array Field := match P.underlying t with | some (.struct fs) => fs | _ => #[]
def fieldAt (P : Program) (t : TypeId) (i : Nat) : Field := ((fieldsOf P t)[i]?).getD default
theorem fieldAt_get {P : Program} {t : TypeId} {i : Nat} (h : i < (fieldsOf P t).size) : (fieldsOf P t)[i]? = some (fieldAt P t i) := by
  unfold fieldAt
  rw [Array.getElem?_eq_getElem h]; rfl
theorem PH.put_same {H : PH} {b : Nat} {ob : Obj} (h : H b = some ob) : H.put b ob = H := by
  funext k
  unfold PH.put
  split
  · rename_i e; rw [e, h]
  · rfl
section
variable {P : Program} {H : PH} {o : Oper} {x y : Operand} {vs : List Value}
theorem yld_nilCheck {a : Addr} (ho : o.op = .nilCheck x) (hx : argEv [x] vs x = .pointer (some a)) : Yld P o vs (.pointer (some a)) := fun w => by
  have hos : o.op.operands.toList = [x] := by simp [ho, Op.operands]
  rw [hos]
  simp only [execOp, ho, hx]
  rfl
theorem yld_fieldAddr {S T : TypeId} {i b q off : Nat} (ho : o.op = .fieldAddr S x i) (hx : argEv [x] vs x = .pointer (some ⟨b, q, none⟩)) (hS : P.underlying S = some (.struct (fieldsOf P S))) (hi : i < (fieldsOf P S).size) (hT : (fieldAt P S i).type = T) (hof : (fieldAt P S i).offset = off) (hT' : hasT P T = true) (hc : P.cellsOf T = 1) : Yld P o vs (.pointer (some ⟨b, q + off, none⟩)) := fun w => by
  have hos : o.op.operands.toList = [x] := by simp [ho, Op.operands]
  rw [hos]
  simp only [execOp, ho, hx, Sem.run_bind]
  rw [run_fieldAt hS (fieldAt_get hi) (by rw [hT]; exact hT') (by rw [hT, hc]; decide), hof]
  rfl
theorem yld_eqNil {t t' e : TypeId} {p : Option Addr} (ho : o.op = .binOp .eql t x y t') (hx : argEv [x, y] vs x = .pointer p) (hy : argEv [x, y] vs y = .pointer none) (hu : P.underlying t = some (.pointer e)) : Yld P o vs (.bool p.isNone) := fun w => by
  have hos : o.op.operands.toList = [x, y] := by simp [ho, Op.operands]
  rw [hos]
  have h : ∀ d : Nat, (Op.equalIn (d + 1) t (.pointer p) (.pointer none)).run P w = .ok p.isNone w := fun d => by
    cases p <;> simp [Op.equalIn, run_underlying hu]
  have hb : (binOp .eql t (.pointer p) (.pointer none)).run P w = .ok (.bool p.isNone) w := by
    simp only [binOp]
    simp [Op.equal, Op.maxDepth, h 9999]
  simp only [execOp, ho, hx, hy, Sem.run_bind, eqGuard]
  simp [hb]
theorem yld_neSelf {t t' e : TypeId} {j : TypeInfo} {a : Addr} (ho : o.op = .binOp .neq t x y t') (hx : argEv [x, y] vs x = .pointer (some a)) (hy : argEv [x, y] vs y = .pointer (some a)) (hu : P.underlying t = some (.pointer e)) (hj : P.info? e = some j) : Yld P o vs (.bool false) := fun w => by
  have hos : o.op.operands.toList = [x, y] := by simp [ho, Op.operands]
  rw [hos]
  have := Go.Lib.run_neq_ptr_same (P := P) w a hu hj
  simp only [execOp, ho, hx, hy, Sem.run_bind, eqGuard]
  simp [this]
theorem rds_toUnsafe {src dst t T : TypeId} {j : TypeInfo} {b q : Nat} {cs : Array Value} {fz : Nat × Nat} (ho : o.op = .convert src dst x) (hx : argEv [x] vs x = .pointer (some ⟨b, q, none⟩)) (hs : P.underlying src = some (.pointer t)) (hd : P.underlying dst = some .unsafePointer) (ht : P.info? t = some j) (hj : j.size ≠ 0) (hH : H b = some (.cells cs T fz)) (hq : q < cs.size) : Rds P o vs H (.pointer (some ⟨b, q, none⟩)) := fun w hw => by
  have hos : o.op.operands.toList = [x] := by simp [ho, Op.operands]
  rw [hos]
  have hb := hw _ _ hH
  have := Go.Lib.run_to_unsafe (P := P) w (e := T) (cells := cs.size) ⟨b, q, none⟩ hs hd ht hj (by simp [World.shape?, hb]) hq
  simp only [execOp, ho, hx, Sem.run_bind]
  rw [this]
  rfl
theorem rds_fromUnsafe {src dst u T : TypeId} {j : TypeInfo} {b q : Nat} {cs : Array Value} {fz : Nat × Nat} (ho : o.op = .convert src dst x) (hx : argEv [x] vs x = .pointer (some ⟨b, q, none⟩)) (hs : P.underlying src = some .unsafePointer) (hd : P.underlying dst = some (.pointer u)) (hu : P.info? u = some j) (hH : H b = some (.cells cs T fz)) (hl : liesAt P P.depth T (cs.size / P.cellsOf T) q u 1 = true) : Rds P o vs H (.pointer (some ⟨b, q, none⟩)) := fun w hw => by
  have hos : o.op.operands.toList = [x] := by simp [ho, Op.operands]
  rw [hos]
  have hb := hw _ _ hH
  have := Go.Lib.run_from_unsafe (P := P) w (e := T) (cells := cs.size) ⟨b, q, none⟩ hs hd hu (by simp [World.shape?, hb]) hl
  simp only [execOp, ho, hx, Sem.run_bind]
  rw [this]
  rfl
theorem yld_sliceData {t : TypeId} {a : Addr} {n c : Nat} (ho : o.op = .call ⟨.builtin .unsafeSliceData, #[x], #[t]⟩) (hx : argEv [x] vs x = .slice (some a) n c) (hc : c ≠ 0) : Yld P o vs (.pointer (some a)) := fun w => by
  have hos : o.op.operands.toList = [x] := by simp [ho, Op.operands, Call.operands]
  rw [hos]
  simp only [execOp, ho, resolve, invoke, Sem.run_bind, Sem.run_pure, Result.andThen_ok, List.map_toArray, List.map_cons, List.map_nil, hx, builtin]
  rw [Go.Lib.run_unsafeSliceData_row w _ _ a n c hc]
  rfl
/-- Bytes. -/
def bv (c : UInt8) : Value := .int .u8 (c.toNat : Nat)
theorem freeze_set {w : World} {g n : Nat} {cs : Array Value} {T : TypeId} {fz : Nat × Nat} (h : w.heap[g]? = some (.cells cs T fz)) : ∃ fz', w.freeze ⟨g, 0, none⟩ n = { w with heap := w.heap.setIfInBounds g (.cells cs T fz') } := by
  obtain ⟨lo, hi⟩ := fz
  have hlt := lt_of_get h
  unfold World.freeze
  split
  · refine ⟨(lo, hi), ?_⟩
    have : w.heap.setIfInBounds g (.cells cs T (lo, hi)) = w.heap := by
      apply Array.ext_getElem?
      intro i
      rw [Array.getElem?_setIfInBounds]
      split
      · rename_i e; subst e; simp [h]
      · rfl
    rw [this]
  · refine ⟨if lo == hi then (0, 0 + n) else (min lo 0, max hi (0 + n)), ?_⟩
    congr 1
    apply Array.ext_getElem?
    intro i
    rw [Array.getElem?_setIfInBounds, Array.getElem?_modify]
    by_cases e : g = i
    · subst e
      rw [if_pos rfl, if_pos rfl, if_pos hlt, h]
      rfl
    · rw [if_neg e, if_neg e]
/-- unsafe.String over the head of a row of bytes. -/
theorem opn_unsafeString {pt it e : TypeId} {g : Nat} {cs : Array Value} {fz : Nat × Nat} {l : List UInt8} (ho : o.op = .call ⟨.builtin .unsafeString, #[x, y], #[pt, it]⟩) (hx : argEv [x, y] vs x = .pointer (some ⟨g, 0, none⟩)) (hy : argEv [x, y] vs y = .int .i64 (l.length : Nat)) (hp : P.underlying pt = some (.pointer e)) (hc : P.cellsOf e = 1) (hH : H g = some (.cells cs e fz)) (h0 : l ≠ []) (h63 : l.length ≤ 9223372036854775807) (hl : cs.toList.take l.length = l.map bv) :
    Opn P o vs H fun u H' => u = st l ∧ ∃ ob, H' = H.put g ob := fun w hw => by
  have hos : o.op.operands.toList = [x, y] := by simp [ho, Op.operands, Call.operands]
  have hb := hw _ _ hH
  have hn : l.length ≤ cs.size := by
    have := congrArg List.length hl
    have h2 : cs.toList.length = cs.size := Array.length_toList
    rw [List.length_take, List.length_map] at this
    omega
  have hr := Go.Lib.run_unsafeString_row (P := P) w pt it o.type e hp hc g cs.size (by simp [World.shape?, hb]) l h0 hn h63 (fun j c hj => cell_in (n := l.length) (q := 0) (news := l.map bv) hb (by rw [List.drop_zero]; exact hl) j (bv c) (by rw [List.getElem?_map, hj]; rfl))
  obtain ⟨fz', hz⟩ := freeze_set (n := l.length) hb
  unfold Stp
  rw [hos]
  simp only [execOp, ho, resolve, invoke, Sem.run_bind, Sem.run_pure, Result.andThen_ok, List.map_toArray, List.map_cons, List.map_nil, hx, hy, builtin]
  rw [hr]
  simp only [Result.andThen_ok, hz]
  exact ⟨_, Step.setB hw hH _, rfl, _, rfl⟩
end
end Go.RX

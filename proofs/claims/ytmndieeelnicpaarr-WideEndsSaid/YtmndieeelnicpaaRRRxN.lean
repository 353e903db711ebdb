/- Operations on strings. -/
import Derived.Test.YtmndieeelnicpaaRRRxL
import Derived.Laws.Strings
import Derived.Test.YtmndieeelnicpaaRRRxM
namespace Go.RX
open Go.RowKit

section
variable {P : Program} {H : PH} {o : Oper} {x y : Operand}
theorem yld_indexStr {T : TypeId} {s : ByteArray} {k : IntKind} {m : Nat} {vs : List Value} (ho : o.op = .index T x y) (hx : argEv [x, y] vs x = .string s) (hy : argEv [x, y] vs y = .int k (m : Nat)) (hu : P.underlying T = some .string) (h1 : m < s.size) :
    Yld P o vs (.int .u8 ((s.data.getD m 0).toNat : Nat)) := fun w => by
  have hos : o.op.operands.toList = [x, y] := by simp [ho, Op.operands]
  rw [hos]
  simp only [execOp, ho, hx, hy, Sem.run_bind, Instr.index, asIntOf, Sem.run_pure, Result.andThen_ok, run_underlying hu]
  rw [if_pos (by omega), Int.toNat_natCast, getElem?_pos s m h1]
  have h2 : m < s.data.size := h1
  simp only [Sem.run_pure, Result.andThen_ok]
  rw [show s.data.getD m 0 = s[m] from by rw [Array.getD_eq_getD_getElem?, Array.getElem?_eq_getElem h2]; rfl]
theorem yld_lenStr {t : TypeId} {s : ByteArray} {vs : List Value} (ho : o.op = .call ⟨.builtin .len, #[x], #[t]⟩) (hx : argEv [x] vs x = .string s) (hu : P.underlying t = some .string) : Yld P o vs (.int .i64 s.size) := fun w => by
  have hos : o.op.operands.toList = [x] := by simp [ho, Op.operands, Call.operands]
  rw [hos]
  simp only [execOp, ho, resolve, invoke, Sem.run_bind, Sem.run_pure, Result.andThen_ok, List.map_toArray, List.map_cons, List.map_nil, hx]
  simp only [builtin, Sem.run_bind, run_len_string w t _ s hu, Result.andThen_ok]
  rfl
theorem yld_sliceStr_l {T : TypeId} {s : ByteArray} {k : IntKind} {l : Nat} {lo : Operand} {vs : List Value} (ho : o.op = .slice T x (some lo) none none) (hx : argEv [x, lo] vs x = .string s) (hl : argEv [x, lo] vs lo = .int k (l : Nat)) (hu : P.underlying T = some .string) (h1 : l ≤ s.size) : Yld P o vs (.string (s.extract l s.size)) := fun w => by
  have hos : o.op.operands.toList = [x, lo] := by simp [ho, Op.operands]
  rw [hos]
  simp only [execOp, ho, hx, Option.map_some, Option.map_none, hl, Instr.sliceAt, Sem.run_bind, run_underlying hu, Result.andThen_ok]
  rw [run_slice_string_l w T s hu k (l : Int) (by omega) (by omega)]
  rfl
theorem yld_sliceStr_h {T : TypeId} {s : ByteArray} {k : IntKind} {l : Nat} {hi : Operand} {vs : List Value} (ho : o.op = .slice T x none (some hi) none) (hx : argEv [x, hi] vs x = .string s) (hl : argEv [x, hi] vs hi = .int k (l : Nat)) (hu : P.underlying T = some .string) (h1 : l ≤ s.size) : Yld P o vs (.string (s.extract 0 l)) := fun w => by
  have hos : o.op.operands.toList = [x, hi] := by simp [ho, Op.operands]
  rw [hos]
  simp only [execOp, ho, hx, Option.map_some, Option.map_none, hl, Instr.sliceAt, Sem.run_bind, run_underlying hu, Result.andThen_ok]
  rw [run_slice_string_h w T s hu k (l : Int) (by omega) (by omega)]
  rfl
theorem opn_range {T : TypeId} {s : ByteArray} {vs : List Value} (ho : o.op = .range T x) (hx : argEv [x] vs x = .string s) (hu : P.underlying T = some .string) : Opn P o vs H fun v H' => ∃ r, H r = none ∧ v = .pointer (some ⟨r, 0, none⟩) ∧ H' = H.put r (.stringIter s 0) := fun w hw => by
  have hos : o.op.operands.toList = [x] := by simp [ho, Op.operands]
  unfold Stp
  rw [hos]
  simp only [execOp, ho, hx, Sem.run_bind, Instr.range, run_underlying hu, Result.andThen_ok, Sem.run_pure]
  rw [show (newObj (.stringIter s 0)).run P w = .ok w.heap.size (w.alloc (.stringIter s 0)) from rfl]
  exact ⟨_, Step.newB hw _, _, hw.fresh, rfl, rfl⟩
theorem opn_next {s : ByteArray} {p r : Nat} {vs : List Value} (ho : o.op = .next x true) (hx : argEv [x] vs x = .pointer (some ⟨r, 0, none⟩)) (hH : H r = some (.stringIter s p)) (hp : p < s.size) : Opn P o vs H fun v H' => v = .tuple #[.bool true, .int .i64 p, .int .i32 ((Utf8.decode s p).1 : Nat)] ∧ H' = H.put r (.stringIter s (p + (Utf8.decode s p).2)) := fun w hw => by
  have hos : o.op.operands.toList = [x] := by simp [ho, Op.operands]
  have hb := hw _ _ hH
  have hg : (getObj r).run P w = .ok (.stringIter s p) w := by simp [getObj, Sem.run, hb]
  have hs : ∀ ob, (setObj r ob).run P w = .ok () { w with heap := w.heap.setIfInBounds r ob } := fun ob => by simp [setObj, Sem.run, hb]
  unfold Stp
  rw [hos]
  simp only [execOp, ho, hx, Sem.run_bind, Instr.next, Result.andThen_ok, hg, Sem.run_pure]
  rw [if_pos hp]
  simp only [Sem.run_bind, hs, Result.andThen_ok, Sem.run_pure]
  exact ⟨_, Step.setB hw hH _, rfl, rfl⟩
theorem opn_over {s : ByteArray} {p r : Nat} {vs : List Value} (ho : o.op = .next x true) (hx : argEv [x] vs x = .pointer (some ⟨r, 0, none⟩)) (hH : H r = some (.stringIter s p)) (hp : ¬ p < s.size) : Opn P o vs H fun v H' => v = .tuple #[.bool false] ∧ H' = H := fun w hw => by
  have hos : o.op.operands.toList = [x] := by simp [ho, Op.operands]
  have hb := hw _ _ hH
  have hg : (getObj r).run P w = .ok (.stringIter s p) w := by simp [getObj, Sem.run, hb]
  unfold Stp
  rw [hos]
  simp only [execOp, ho, hx, Sem.run_bind, Instr.next, Result.andThen_ok, hg, Sem.run_pure]
  rw [if_neg hp]
  simp only [Sem.run_pure, Result.andThen_ok]
  exact ⟨_, Step.refl hw, trivial, rfl⟩
theorem yld_eqStr {t t' : TypeId} {a b : ByteArray} {vs : List Value} (ho : o.op = .binOp .eql t x y t') (hx : argEv [x, y] vs x = .string a) (hy : argEv [x, y] vs y = .string b) (hu : P.underlying t = some .string) (hg : P.eqGuardType P.depth t = false) : Yld P o vs (.bool (a.toList == b.toList)) := fun w => by
  have hos : o.op.operands.toList = [x, y] := by simp [ho, Op.operands]
  rw [hos]
  simp only [execOp, ho, hx, hy]
  simp only [Sem.run_bind, binOp_string_eql]
  simp [eqGuard, hg]
/-- What a letter is. -/
theorem decode_low {s : ByteArray} {p : Nat} (h : (s.get! p).toNat < 128) : Utf8.decode s p = ((s.get! p).toNat, 1) := by
  unfold Utf8.decode
  simp only [Nat.add_zero]
  rw [if_pos h]
theorem decode_high {s : ByteArray} {p : Nat} (h : ¬ (s.get! p).toNat < 128) : 128 ≤ (Utf8.decode s p).1 := by
  unfold Utf8.decode
  simp only [Nat.add_zero]
  rw [if_neg h]
  repeat' split
  all_goals first
    | (simp only [ge_iff_le, decide_eq_true_eq, Bool.and_eq_true] at *; omega)
    | decide
end
end Go.RX

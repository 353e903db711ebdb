/- Operations on strings. -/
import Derived.Test.YtcleogdmobdnpacGreatRDoorRxJ
import Derived.Laws.Strings
namespace Go.RX
open Go.RowKit

section
variable {P : Program} {H : PH} {o : Oper} {x y : Operand}
theorem yld_indexStr {T : TypeId} {s : ByteArray} {k : IntKind} {m : Nat} {vs : List Value} (ho : o.op = .index T x y) (hx : argEv [x, y] vs x = .string s) (hy : argEv [x, y] vs y = .int k (m : Nat)) (hu : P.underlying T = some .string) (h1 : m < s.size) :
    Yld P o vs (.int .u8 ((s.data.getD m 0).toNat : Nat)) := fun w => by
  have hos : o.op.operands.toList = [x, y] := by simp [ho, Op.operands]
  rw [hos]
  simp only [execOp, ho, hx, hy, Sem.run_bind, Instr.index, asIntOf, Sem.run_pure, Result.andThen_ok, run_underlying hu]
  rw [if_pos (by omega), Int.toNat_natCast, getElem?_pos s m h1]
  have h2 : m < s.data.size := h1
  simp only [Sem.run_pure, Result.andThen_ok]
  rw [show s.data.getD m 0 = s[m] from by rw [Array.getD_eq_getD_getElem?, Array.getElem?_eq_getElem h2]; rfl]
theorem yld_lenStr {t : TypeId} {s : ByteArray} {vs : List Value} (ho : o.op = .call ⟨.builtin .len, #[x], #[t]⟩) (hx : argEv [x] vs x = .string s) (hu : P.underlying t = some .string) : Yld P o vs (.int .i64 s.size) := fun w => by
  have hos : o.op.operands.toList = [x] := by simp [ho, Op.operands, Call.operands]
  rw [hos]
  simp only [execOp, ho, resolve, invoke, Sem.run_bind, Sem.run_pure, Result.andThen_ok, List.map_toArray, List.map_cons, List.map_nil, hx]
  simp only [builtin, Sem.run_bind, run_len_string w t _ s hu, Result.andThen_ok]
  rfl
theorem yld_sliceStr_l {T : TypeId} {s : ByteArray} {k : IntKind} {l : Nat} {lo : Operand} {vs : List Value} (ho : o.op = .slice T x (some lo) none none) (hx : argEv [x, lo] vs x = .string s) (hl : argEv [x, lo] vs lo = .int k (l : Nat)) (hu : P.underlying T = some .string) (h1 : l ≤ s.size) : Yld P o vs (.string (s.extract l s.size)) := fun w => by
  have hos : o.op.operands.toList = [x, lo] := by simp [ho, Op.operands]
  rw [hos]
  simp only [execOp, ho, hx, Option.map_some, Option.map_none, hl, Instr.sliceAt, Sem.run_bind, run_underlying hu, Result.andThen_ok]
  rw [run_slice_string_l w T s hu k (l : Int) (by omega) (by omega)]
  rfl
theorem yld_sliceStr_h {T : TypeId} {s : ByteArray} {k : IntKind} {l : Nat} {hi : Operand} {vs : List Value} (ho : o.op = .slice T x none (some hi) none) (hx : argEv [x, hi] vs x = .string s) (hl : argEv [x, hi] vs hi = .int k (l : Nat)) (hu : P.underlying T = some .string) (h1 : l ≤ s.size) : Yld P o vs (.string (s.extract 0 l)) := fun w => by
  have hos : o.op.operands.toList = [x, hi] := by simp [ho, Op.operands]
  rw [hos]
  simp only [execOp, ho, hx, Option.map_some, Option.map_none, hl, Instr.sliceAt, Sem.run_bind, run_underlying hu, Result.andThen_ok]
  rw [run_slice_string_h w T s hu k (l : Int) (by omega) (by omega)]
  rfl
theorem opn_range {T : TypeId} {s : ByteArray} {vs : List Value} (ho : o.op = .range T x) (hx : argEv [x] vs x = .string s) (hu : P.underlying T = some .string) : Opn P o vs H fun v H' => ∃ r, H r = none ∧ v = .pointer (some ⟨r, 0, none⟩) ∧ H' = H.put r (.stringIter s 0) := fun w hw => by
  have hos : o.op.operands.toList = [x] := by simp [ho, Op.operands]
  unfold Stp
  rw [hos]
  simp only [execOp, ho, hx, Sem.run_bind, Instr.range, run_underlying hu, Result.andThen_ok, Sem.run_pure]
  rw [show (newObj (.stringIter s 0)).run P w = .ok w.heap.size (w.alloc (.stringIter s 0)) from rfl]
  exact ⟨_, Step.newB hw _, _, hw.fresh, rfl, rfl⟩
theorem opn_next {s : ByteArray} {p r : Nat} {vs : List Value} (ho : o.op = .next x true) (hx : argEv [x] vs x = .pointer (some ⟨r, 0, none⟩)) (hH : H r = some (.stringIter s p)) (hp : p < s.size) : Opn P o vs H fun v H' => v = .tuple #[.bool true, .int .i64 p, .int .i32 ((Utf8.decode s p).1 : Nat)] ∧ H' = H.put r (.stringIter s (p + (Utf8.decode s p).2)) := fun w hw => by
  have hos : o.op.operands.toList = [x] := by simp [ho, Op.operands]
  have hb := hw _ _ hH
  have hg : (getObj r).run P w = .ok (.stringIter s p) w := by simp [getObj, Sem.run, hb]
  have hs : ∀ ob, (setObj r ob).run P w = .ok () { w with heap := w.heap.setIfInBounds r ob } := fun ob => by simp [setObj, Sem.run, hb]
  unfold Stp
  rw [hos]
  simp only [execOp, ho, hx, Sem.run_bind, Instr.next, Result.andThen_ok, hg, Sem.run_pure]
  rw [if_pos hp]
  simp only [Sem.run_bind, hs, Result.andThen_ok, Sem.run_pure]
  exact ⟨_, Step.setB hw hH _, rfl, rfl⟩
theorem opn_over {s : ByteArray} {p r : Nat} {vs : List Value} (ho : o.op = .next x true) (hx : argEv [x] vs x = .pointer (some ⟨r, 0, none⟩)) (hH : H r = some (.stringIter s p)) (hp : ¬ p < s.size) : Opn P o vs H fun v H' => v = .tuple #[.bool false] ∧ H' = H := fun w hw => by
  have hos : o.op.operands.toList = [x] := by simp [ho, Op.operands]
  have hb := hw _ _ hH
  have hg : (getObj r).run P w = .ok (.stringIter s p) w := by simp [getObj, Sem.run, hb]
  unfold Stp
  rw [hos]
  simp only [execOp, ho, hx, Sem.run_bind, Instr.next, Result.andThen_ok, hg, Sem.run_pure]
  rw [if_neg hp]
  simp only [Sem.run_pure, Result.andThen_ok]
  exact ⟨_, Step.refl hw, trivial, rfl⟩
theorem yld_eqStr {t t' : TypeId} {a b : ByteArray} {vs : List Value} (ho : o.op = .binOp .eql t x y t') (hx : argEv [x, y] vs x = .string a) (hy : argEv [x, y] vs y = .string b) (_hu : P.underlying t = some .string) (_hg : P.eqGuardType P.depth t = false) : Yld P o vs (.bool (a.toList == b.toList)) := fun w => by
  have hos : o.op.operands.toList = [x, y] := by simp [ho, Op.operands]
  rw [hos]
  simp only [execOp, ho, hx, hy]
  simp only [Sem.run_bind, binOp_string_eql]
  simp [eqGuard, _hg]
/-- What a letter is. -/
theorem decode_low {s : ByteArray} {p : Nat} (h : (s.get! p).toNat < 128) : Utf8.decode s p = ((s.get! p).toNat, 1) := by
  unfold Utf8.decode
  simp only [Nat.add_zero]
  rw [if_pos h]
theorem decode_high {s : ByteArray} {p : Nat} (h : ¬ (s.get! p).toNat < 128) : 128 ≤ (Utf8.decode s p).1 := by
  unfold Utf8.decode
  simp only [Nat.add_zero]
  rw [if_neg h]
  repeat' split
  all_goals first
    | (simp only [ge_iff_le, decide_eq_true_eq, Bool.and_eq_true] at *; omega)
    | decide
end
end Go.RX
namespace Go.RX
open Go.RowKit

def ba (l : List UInt8) : ByteArray := ⟨l.toArray⟩
def st (l : List UInt8) : Value := .string (ba l)
theorem ba_size (l : List UInt8) : (ba l).size = l.length := by show l.toArray.size = _; simp
theorem ba_toList (l : List UInt8) : (ba l).toList = l := by rw [ByteArray.toList_eq]; rfl
theorem ba_data (l : List UInt8) (i : Nat) : (ba l).data.getD i 0 = l.getD i 0 := by
  show l.toArray.getD i 0 = _
  rw [Array.getD_eq_getD_getElem?, List.getD_eq_getElem?_getD, List.getElem?_toArray]
theorem ba_get (l : List UInt8) (i : Nat) : (ba l).get! i = l.getD i 0 := by
  rw [← ba_data]
  show (ba l).data[i]! = _
  rw [Array.getElem!_eq_getD]; rfl
theorem ba_of (s : ByteArray) : s = ba s.data.toList := by cases s; rfl
theorem ba_extract (l : List UInt8) (a b : Nat) : (ba l).extract a b = ba ((l.drop a).take (b - a)) := by
  have : ((ba l).extract a b).data = ((l.drop a).take (b - a)).toArray := by
    rw [ByteArray.data_extract]
    show l.toArray.extract a b = _
    rw [List.extract_toArray, List.extract_eq_take_drop]
  rw [ba_of ((ba l).extract a b), this]
theorem st_cells (l : List UInt8) : (st l).cells = #[st l] := rfl
theorem st_one (l : List UInt8) : oneAll (st l).cells := by intro c hc; simp [st_cells] at hc; subst hc; rfl
section
variable {P : Program} {H : PH} {o : Oper} {x y : Operand} {vs : List Value} {l m : List UInt8}
theorem st_len {t : TypeId} (ho : o.op = .call ⟨.builtin .len, #[x], #[t]⟩) (hx : argEv [x] vs x = st l) (hu : P.underlying t = some .string) : Yld P o vs (.int .i64 l.length) := by
  have := yld_lenStr ho hx hu
  rwa [ba_size] at this
theorem st_drop {T : TypeId} {k : IntKind} {i : Nat} {lo : Operand} (ho : o.op = .slice T x (some lo) none none) (hx : argEv [x, lo] vs x = st l) (hl : argEv [x, lo] vs lo = .int k (i : Nat)) (hu : P.underlying T = some .string) (h1 : i ≤ l.length) : Yld P o vs (st (l.drop i)) := by
  have := yld_sliceStr_l ho hx hl hu (by rw [ba_size]; exact h1)
  rw [ba_extract, ba_size, List.take_of_length_le (by simp)] at this
  exact this
theorem st_take {T : TypeId} {k : IntKind} {i : Nat} {hi : Operand} (ho : o.op = .slice T x none (some hi) none) (hx : argEv [x, hi] vs x = st l) (hl : argEv [x, hi] vs hi = .int k (i : Nat)) (hu : P.underlying T = some .string) (h1 : i ≤ l.length) : Yld P o vs (st (l.take i)) := by
  have := yld_sliceStr_h ho hx hl hu (by rw [ba_size]; exact h1)
  rw [ba_extract, List.drop_zero, Nat.sub_zero] at this
  exact this
theorem st_index {T : TypeId} {k : IntKind} {i : Nat} (ho : o.op = .index T x y) (hx : argEv [x, y] vs x = st l) (hy : argEv [x, y] vs y = .int k (i : Nat)) (hu : P.underlying T = some .string) (h1 : i < l.length) : Yld P o vs (.int .u8 ((l.getD i 0).toNat : Nat)) := by
  have := yld_indexStr ho hx hy hu (by rw [ba_size]; exact h1)
  rwa [ba_data] at this
theorem st_eq {t t' : TypeId} (ho : o.op = .binOp .eql t x y t') (hx : argEv [x, y] vs x = st l) (hy : argEv [x, y] vs y = st m) (hu : P.underlying t = some .string) (hg : P.eqGuardType P.depth t = false) : Yld P o vs (.bool (l == m)) := by
  have := yld_eqStr ho hx hy hu hg
  rwa [ba_toList, ba_toList] at this
theorem st_next {p r : Nat} (ho : o.op = .next x true) (hx : argEv [x] vs x = .pointer (some ⟨r, 0, none⟩)) (hH : H r = some (.stringIter (ba l) p)) (hp : p < l.length) : Opn P o vs H fun v H' => v = .tuple #[.bool true, .int .i64 p, .int .i32 ((Utf8.decode (ba l) p).1 : Nat)] ∧ H' = H.put r (.stringIter (ba l) (p + (Utf8.decode (ba l) p).2)) := opn_next ho hx hH (by rw [ba_size]; exact hp)
theorem st_over {p r : Nat} (ho : o.op = .next x true) (hx : argEv [x] vs x = .pointer (some ⟨r, 0, none⟩)) (hH : H r = some (.stringIter (ba l) p)) (hp : ¬ p < l.length) : Opn P o vs H fun v H' => v = .tuple #[.bool false] ∧ H' = H := opn_over ho hx hH (by rw [ba_size]; exact hp)
theorem st_low {p : Nat} (h : (l.getD p 0).toNat < 128) : Utf8.decode (ba l) p = ((l.getD p 0).toNat, 1) := by
  have := decode_low (s := ba l) (p := p) (by rw [ba_get]; exact h)
  rwa [ba_get] at this
theorem st_high {p : Nat} (h : ¬ (l.getD p 0).toNat < 128) : 128 ≤ (Utf8.decode (ba l) p).1 := decode_high (by rw [ba_get]; exact h)
end
end Go.RX

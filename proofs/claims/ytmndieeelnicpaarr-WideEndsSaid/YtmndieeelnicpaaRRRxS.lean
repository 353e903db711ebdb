/- Strings as lists of bytes. -/
import Derived.Test.YtmndieeelnicpaaRRRxN
namespace Go.RX
open Go.RowKit

def ba (l : List UInt8) : ByteArray := ⟨l.toArray⟩
def st (l : List UInt8) : Value := .string (ba l)
theorem ba_size (l : List UInt8) : (ba l).size = l.length := by show l.toArray.size = _; simp
theorem ba_toList (l : List UInt8) : (ba l).toList = l := by rw [ByteArray.toList_eq]; rfl
theorem ba_data (l : List UInt8) (i : Nat) : (ba l).data.getD i 0 = l.getD i 0 := by
  show l.toArray.getD i 0 = _
  rw [Array.getD_eq_getD_getElem?, List.getD_eq_getElem?_getD, List.getElem?_toArray]
theorem ba_get (l : List UInt8) (i : Nat) : (ba l).get! i = l.getD i 0 := by
  rw [← ba_data]
  show (ba l).data[i]! = _
  rw [Array.getElem!_eq_getD]; rfl
theorem ba_of (s : ByteArray) : s = ba s.data.toList := by cases s; rfl
theorem ba_extract (l : List UInt8) (a b : Nat) : (ba l).extract a b = ba ((l.drop a).take (b - a)) := by
  have : ((ba l).extract a b).data = ((l.drop a).take (b - a)).toArray := by
    rw [ByteArray.data_extract]
    show l.toArray.extract a b = _
    rw [List.extract_toArray, List.extract_eq_take_drop]
  rw [ba_of ((ba l).extract a b), this]
theorem st_cells (l : List UInt8) : (st l).cells = #[st l] := rfl
theorem st_one (l : List UInt8) : oneAll (st l).cells := by intro c hc; simp [st_cells] at hc; subst hc; rfl
section
variable {P : Program} {H : PH} {o : Oper} {x y : Operand} {vs : List Value} {l m : List UInt8}
theorem st_len {t : TypeId} (ho : o.op = .call ⟨.builtin .len, #[x], #[t]⟩) (hx : argEv [x] vs x = st l) (hu : P.underlying t = some .string) : Yld P o vs (.int .i64 l.length) := by
  have := yld_lenStr ho hx hu
  rwa [ba_size] at this
theorem st_drop {T : TypeId} {k : IntKind} {i : Nat} {lo : Operand} (ho : o.op = .slice T x (some lo) none none) (hx : argEv [x, lo] vs x = st l) (hl : argEv [x, lo] vs lo = .int k (i : Nat)) (hu : P.underlying T = some .string) (h1 : i ≤ l.length) : Yld P o vs (st (l.drop i)) := by
  have := yld_sliceStr_l ho hx hl hu (by rw [ba_size]; exact h1)
  rw [ba_extract, ba_size, List.take_of_length_le (by simp)] at this
  exact this
theorem st_take {T : TypeId} {k : IntKind} {i : Nat} {hi : Operand} (ho : o.op = .slice T x none (some hi) none) (hx : argEv [x, hi] vs x = st l) (hl : argEv [x, hi] vs hi = .int k (i : Nat)) (hu : P.underlying T = some .string) (h1 : i ≤ l.length) : Yld P o vs (st (l.take i)) := by
  have := yld_sliceStr_h ho hx hl hu (by rw [ba_size]; exact h1)
  rw [ba_extract, List.drop_zero, Nat.sub_zero] at this
  exact this
theorem st_index {T : TypeId} {k : IntKind} {i : Nat} (ho : o.op = .index T x y) (hx : argEv [x, y] vs x = st l) (hy : argEv [x, y] vs y = .int k (i : Nat)) (hu : P.underlying T = some .string) (h1 : i < l.length) : Yld P o vs (.int .u8 ((l.getD i 0).toNat : Nat)) := by
  have := yld_indexStr ho hx hy hu (by rw [ba_size]; exact h1)
  rwa [ba_data] at this
theorem st_eq {t t' : TypeId} (ho : o.op = .binOp .eql t x y t') (hx : argEv [x, y] vs x = st l) (hy : argEv [x, y] vs y = st m) (hu : P.underlying t = some .string) (hg : P.eqGuardType P.depth t = false) : Yld P o vs (.bool (l == m)) := by
  have := yld_eqStr ho hx hy hu hg
  rwa [ba_toList, ba_toList] at this
theorem st_next {p r : Nat} (ho : o.op = .next x true) (hx : argEv [x] vs x = .pointer (some ⟨r, 0, none⟩)) (hH : H r = some (.stringIter (ba l) p)) (hp : p < l.length) : Opn P o vs H fun v H' => v = .tuple #[.bool true, .int .i64 p, .int .i32 ((Utf8.decode (ba l) p).1 : Nat)] ∧ H' = H.put r (.stringIter (ba l) (p + (Utf8.decode (ba l) p).2)) := opn_next ho hx hH (by rw [ba_size]; exact hp)
theorem st_over {p r : Nat} (ho : o.op = .next x true) (hx : argEv [x] vs x = .pointer (some ⟨r, 0, none⟩)) (hH : H r = some (.stringIter (ba l) p)) (hp : ¬ p < l.length) : Opn P o vs H fun v H' => v = .tuple #[.bool false] ∧ H' = H := opn_over ho hx hH (by rw [ba_size]; exact hp)
theorem st_low {p : Nat} (h : (l.getD p 0).toNat < 128) : Utf8.decode (ba l) p = ((l.getD p 0).toNat, 1) := by
  have := decode_low (s := ba l) (p := p) (by rw [ba_get]; exact h)
  rwa [ba_get] at this
theorem st_high {p : Nat} (h : ¬ (l.getD p 0).toNat < 128) : 128 ≤ (Utf8.decode (ba l) p).1 := decode_high (by rw [ba_get]; exact h)
end
end Go.RX

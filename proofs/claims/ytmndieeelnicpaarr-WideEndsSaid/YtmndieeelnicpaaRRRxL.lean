/- Operations on slices; more on contracts. -/
import Derived.Test.YtmndieeelnicpaaRRRxJ
import Derived.Laws.Slices
import Derived.Laws.Entries
namespace Go.RX
open Go.RowKit

section
variable {P : Program} {H : PH} {o : Oper} {x y : Operand}
theorem Run.opn {args : List Value} {v : Value} (h : Run P o args v) (H : PH) : Opn P o args H fun u H' => u = v ∧ H' = H :=
  fun w hw => (h w).mono fun u _ ⟨hu, hx⟩ => ⟨H, Step.of_ext hw hx, hu, rfl⟩
def PH.nil : PH := fun _ => none
theorem det_of_con {f : FuncId} {args : List Value} {v : Value} (h : Con P f args PH.nil fun u _ => u = v) : Det P f args v := fun w => by
  refine (h w (fun b o hb => by cases hb)).mono fun e w' ⟨u, H', he, hs, hu⟩ => ⟨by rw [he, hu], ?_⟩
  exact hs.toExt (fun b o hb => by cases hb) (fun b o hb => by cases hb)
theorem yld_sliceA_l {T e : TypeId} {n b q : Nat} {k : IntKind} {l : Int} {lo : Operand} {vs : List Value} (ho : o.op = .slice T x (some lo) none none) (hx : argEv [x, lo] vs x = .pointer (some ⟨b, q, none⟩)) (hl : argEv [x, lo] vs lo = .int k l) (hu : P.underlying T = some (.array n e)) (he : hasT P e = true) (h0 : 0 ≤ l) (h1 : l < n) :
    Yld P o vs (.slice (some ⟨b, q + l.toNat * P.cellsOf e, none⟩) (n - l.toNat) (n - l.toNat)) := fun w => by
  have hos : o.op.operands.toList = [x, lo] := by simp [ho, Op.operands]
  obtain ⟨⟨i, hi⟩, _⟩ := hasT_spec he
  rw [hos]
  simp only [execOp, ho, hx, Option.map_some, Option.map_none, hl, Instr.sliceAt, Sem.run_bind, run_underlying hu, Result.andThen_ok, Instr.sureAddr, Sem.run_pure, Instr.sliceBounds, run_sliceBound w k l n _ h0 (by omega), run_sizeT hi, add_blk]
  rw [if_neg (by omega)]
theorem yld_sliceA_h {T e : TypeId} {n b q : Nat} {k : IntKind} {l : Int} {hi : Operand} {vs : List Value} (ho : o.op = .slice T x none (some hi) none) (hx : argEv [x, hi] vs x = .pointer (some ⟨b, q, none⟩)) (hl : argEv [x, hi] vs hi = .int k l) (hu : P.underlying T = some (.array n e)) (he : hasT P e = true) (h0 : 0 ≤ l) (h1 : l ≤ n) :
    Yld P o vs (.slice (some ⟨b, q, none⟩) l.toNat n) := fun w => by
  have hos : o.op.operands.toList = [x, hi] := by simp [ho, Op.operands]
  obtain ⟨⟨i, hi⟩, _⟩ := hasT_spec he
  rw [hos]
  simp only [execOp, ho, hx, Option.map_some, Option.map_none, hl, Instr.sliceAt, Sem.run_bind, run_underlying hu, Result.andThen_ok, Instr.sureAddr, Sem.run_pure, Instr.sliceBounds, run_sliceBound w k l n _ h0 h1, run_sizeT hi, add_blk]
  simp
theorem yld_len {t : TypeId} {e : TypeId} {a : Option Addr} {n c : Nat} {vs : List Value} (ho : o.op = .call ⟨.builtin .len, #[x], #[t]⟩) (hx : argEv [x] vs x = .slice a n c) (hu : P.underlying t = some (.slice e)) : Yld P o vs (.int .i64 n) := fun w => by
  have hos : o.op.operands.toList = [x] := by simp [ho, Op.operands, Call.operands]
  have hE : P.elem t = e := by simp [Program.elem, hu]
  rw [hos]
  simp only [execOp, ho, resolve, invoke, Sem.run_bind, Sem.run_pure, Result.andThen_ok, List.map_toArray, List.map_cons, List.map_nil, hx]
  simp only [builtin, Sem.run_bind, run_len_slice w t _ a n c (by rw [hE]; exact hu), Result.andThen_ok]
  rfl
theorem yld_indexS {T e : TypeId} {b q n c : Nat} {k : IntKind} {m : Int} {vs : List Value} (ho : o.op = .indexAddr T x y) (hx : argEv [x, y] vs x = .slice (some ⟨b, q, none⟩) n c) (hy : argEv [x, y] vs y = .int k m) (hu : P.underlying T = some (.slice e)) (he : hasT P e = true) (h0 : 0 ≤ m) (h1 : m < n) :
    Yld P o vs (.pointer (some ⟨b, q + m.toNat * P.cellsOf e, none⟩)) := fun w => by
  have hos : o.op.operands.toList = [x, y] := by simp [ho, Op.operands]
  obtain ⟨⟨i, hi⟩, _⟩ := hasT_spec he
  rw [hos]
  simp only [execOp, ho, hx, hy, Sem.run_bind, Instr.indexAt, asIntOf, Sem.run_pure, Result.andThen_ok, run_underlying hu]
  simp [h0, h1, run_sizeT hi, add_blk]
theorem yld_arrayAt {T e : TypeId} {a : Option Addr} {n len c : Nat} {vs : List Value} (ho : o.op = .sliceToArrayPointer T x) (hx : argEv [x] vs x = .slice a len c) (hu : P.underlying T = some (.array n e)) (h : n ≤ len) : Yld P o vs (.pointer a) := fun w => by
  have hos : o.op.operands.toList = [x] := by simp [ho, Op.operands]
  rw [hos]
  simp only [execOp, ho, hx, Instr.arrayAt, Sem.run_bind, run_underlying hu, Result.andThen_ok]
  rw [if_neg (by omega)]
  rfl
end
end Go.RX

/- Operations on strings: sums, comparisons, bytes to strings. -/
import Derived.Test.YtimnofpofbnjbaaRxV
import Derived.Laws.Concat
import Derived.Laws.IdiomStrings
import Derived.Laws.BytesArg
import Derived.Laws.Small
namespace Go.RX
open Go.RowKit

section
variable {P : Program} {H : PH} {o : Oper} {x y : Operand} {vs : List Value} {l m : List UInt8}
theorem ba_append (l m : List UInt8) : ba l ++ ba m = ba (l ++ m) := ByteArray.mk_append_mk l m
theorem st_add {t t' : TypeId} (ho : o.op = .binOp .add t x y t') (hx : argEv [x, y] vs x = st l) (hy : argEv [x, y] vs y = st m) (hlen : l.length + m.length ≤ 9223372036854775807) : Yld P o vs (st (l ++ m)) := fun w => by
  have hos : o.op.operands.toList = [x, y] := by simp [ho, Op.operands]
  rw [hos]
  simp only [execOp, ho, hx, hy, st]
  simp only [Sem.run_bind, binOp_string_add]
  have h := run_string_add_sum (P := P) w (ba l) (ba m) (by rw [ba_size, ba_size]; exact hlen)
  rw [ba_append] at h
  simp [eqGuard, h]
theorem st_neq {t t' : TypeId} (ho : o.op = .binOp .neq t x y t') (hx : argEv [x, y] vs x = st l) (hy : argEv [x, y] vs y = st m) : Yld P o vs (.bool (!(l == m))) := fun w => by
  have hos : o.op.operands.toList = [x, y] := by simp [ho, Op.operands]
  rw [hos]
  simp only [execOp, ho, hx, hy, st]
  simp only [Sem.run_bind, binOp_string_neq, ba_toList]
  simp [eqGuard]
theorem st_of_bytes {src dst e : TypeId} {v : Value} (ho : o.op = .convert src dst x) (hx : argEv [x] vs x = v) (hs : P.underlying src = some (.slice e)) (he : P.underlying e = some (.int .u8)) (hd : P.underlying dst = some .string) (h : Sl H 1 v l.length (l.map bv)) : Rds P o vs H (st l) := fun w hw => by
  have hos : o.op.operands.toList = [x] := by simp [ho, Op.operands]
  rw [hos]
  obtain ⟨_, a, c, rfl, _, _, h5⟩ := h
  simp only [execOp, ho, hx, Sem.run_bind]
  have hr : (convert src dst (.slice a l.length c)).run P w = .ok (st l) w := by
    rcases h5 with h5 | ⟨b, q, cs, T, fz, rfl, hb, htk⟩
    · have hl : l = [] := List.eq_nil_of_length_eq_zero h5
      subst hl
      cases a with
      | none => exact run_convert_bytes_nil w src e hs he 0 c dst hd
      | some a => exact run_convert_bytes_back w src dst e a c [] hs he hd (fun j hj => absurd hj (Nat.not_lt_zero _))
    · refine run_convert_bytes_back w src dst e _ c l hs he hd fun j hj => ?_
      have hb' := hw _ _ hb
      rw [add_blk]
      unfold World.cell?
      rw [hb']
      rw [Nat.mul_one] at htk
      have h6 := congrArg (fun z => z[j]?) htk
      simp only [List.getElem?_take, List.getElem?_drop, List.getElem?_map, if_pos hj, List.getElem?_eq_getElem hj, Option.map_some] at h6
      simp only [Array.getElem?_toList] at h6
      simpa [bv] using h6
  rw [hr]
  rfl
theorem yld_imin {t u : TypeId} {a b : Int} (ho : o.op = .call ⟨.builtin .min, #[x, y], #[t, u]⟩) (hx : argEv [x, y] vs x = .int .i64 a) (hy : argEv [x, y] vs y = .int .i64 b) : Yld P o vs (.int .i64 (if b < a then b else a)) := fun w => by
  have hos : o.op.operands.toList = [x, y] := by simp [ho, Op.operands, Call.operands]
  rw [hos]
  simp only [execOp, ho, resolve, invoke, Sem.run_bind, Sem.run_pure, Result.andThen_ok, List.map_toArray, List.map_cons, List.map_nil, hx, hy]
  simp only [builtin, Sem.run_bind, run_min_int2, Result.andThen_ok]
  rfl
end
end Go.RX

/- Operations on maps. -/
import Derived.Test.YtmndieeelnicpaaRRRxL
namespace Go.RX
open Go.RowKit

section
variable {P : Program} {H : PH} {o : Oper} {x y z : Operand}
theorem PH.In.fresh {w : World} (hw : H.In w) : H w.heap.size = none := by
  cases e : H w.heap.size with
  | none => rfl
  | some ob => exact absurd (lt_of_get (hw _ _ e)) (Nat.lt_irrefl _)
theorem Step.newB {w : World} (hw : H.In w) (ob : Obj) : Step H w (H.put w.heap.size ob) (w.alloc ob) := by
  have hx := Ext.alloc w ob
  refine ⟨hx.os, hx.tape, hx.output, hx.size, fun k hk _ => hx.block' hk, PH.put_in (hw.ext hx) (by show (w.heap.push ob)[w.heap.size]? = _; simp), fun b hb => ?_⟩
  unfold PH.put at hb
  split at hb
  · rename_i e; right; omega
  · exact .inl hb
theorem Step.setB {w : World} (hw : H.In w) {r : Nat} {ob : Obj} (hr : H r = some ob) (ob' : Obj) : Step H w (H.put r ob') { w with heap := w.heap.setIfInBounds r ob' } := by
  have hlt := lt_of_get (hw _ _ hr)
  refine ⟨rfl, rfl, rfl, by simp, fun k hk hn => ?_, fun k o hk => ?_, fun k hk => ?_⟩
  · show (w.heap.setIfInBounds r ob')[k]? = _
    rw [Array.getElem?_setIfInBounds_ne (fun e => by rw [e, hn] at hr; cases hr)]
  · show (w.heap.setIfInBounds r ob')[k]? = _
    unfold PH.put at hk
    split at hk
    · rename_i e; subst e; rw [Array.getElem?_setIfInBounds_self_of_lt hlt]; exact hk
    · rename_i e; rw [Array.getElem?_setIfInBounds_ne (fun e' => e e'.symm)]; exact hw k o hk
  · unfold PH.put at hk
    split at hk
    · rename_i e; left; rw [e, hr]; simp
    · exact .inl hk
theorem run_getM {w : World} {r : Nat} {es : Array MapEntry} {clock : Nat} (hb : w.heap[r]? = some (.map es clock)) : (getObj r).run P w = .ok (.map es clock) w := by
  simp [getObj, Sem.run, hb]
theorem run_setM {w : World} {r : Nat} {es : Array MapEntry} {clock : Nat} (ob : Obj) (hb : w.heap[r]? = some (.map es clock)) : (setObj r ob).run P w = .ok () { w with heap := w.heap.setIfInBounds r ob } := by
  simp [setObj, Sem.run, hb]
theorem opn_makeMap {T : TypeId} (ho : o.op = .makeMap T none) : Opn P o [] H fun v H' => ∃ r, H r = none ∧ v = .map (some r) ∧ H' = H.put r (.map #[] 0) := fun w hw => by
  unfold Stp
  simp only [execOp, ho, Option.map_none, Sem.run_bind]
  rw [show (Instr.makeMap T none).run P w = .ok (.map (some w.heap.size)) (w.alloc (.map #[] 0)) from rfl]
  exact ⟨_, Step.newB hw _, _, hw.fresh, rfl, rfl⟩
/-- A new key. -/
theorem opn_insert {T kt et : TypeId} {kd : TypeDesc} {r clock : Nat} {es : Array MapEntry} {key val : Value} {vs : List Value} (ho : o.op = .insert T x y z ∨ o.op = .mapUpdate T x y z) (hx : argEv [x, y, z] vs x = .map (some r)) (hy : argEv [x, y, z] vs y = key) (hz : argEv [x, y, z] vs z = val) (hu : P.underlying T = some (.map kt et)) (hk : P.underlying kt = some kd) (hck : ∀ w, (Instr.checkKey false 10000 kt key).run P w = .ok () w)
    (hH : H r = some (.map es clock)) (hf : Instr.findNow kd key es.toList 0 = some none) : Opn P o vs H fun v H' => v = undef ∧ H' = H.put r (.map (es.push { key, val, born := clock }) (clock + 1)) := fun w hw => by
  have hos : o.op.operands.toList = [x, y, z] := by rcases ho with ho | ho <;> simp [ho, Op.operands]
  have hb := hw _ _ hH
  unfold Stp
  rw [hos]
  have hr : (execOp (argEv [x, y, z] vs) o).run P w = .ok .skip { w with heap := w.heap.setIfInBounds r (.map (es.push { key, val, born := clock }) (clock + 1)) } := by
    rcases ho with ho | ho <;> simp only [execOp, ho, hx, hy, hz, Sem.run_bind, Instr.mapUpdate, run_underlying hu, Result.andThen_ok, run_getM hb, hck, Instr.findKey, run_underlying hk, hf, Sem.run_pure, run_setM _ hb]
  rw [hr]
  exact ⟨_, Step.setB hw hH _, rfl, rfl⟩
theorem rds_lookup {T kt et : TypeId} {kd : TypeDesc} {r clock i : Nat} {es : Array MapEntry} {key val : Value} {vs : List Value} (ho : o.op = .lookup T x y false) (hx : argEv [x, y] vs x = .map (some r)) (hy : argEv [x, y] vs y = key) (hu : P.underlying T = some (.map kt et)) (hk : P.underlying kt = some kd) (hck : ∀ b w, (Instr.checkKey b 10000 kt key).run P w = .ok () w)
    (hH : H r = some (.map es clock)) (hf : Instr.findNow kd key es.toList 0 = some (some (i, val))) : Rds P o vs H val := fun w hw => by
  have hos : o.op.operands.toList = [x, y] := by simp [ho, Op.operands]
  have hb := hw _ _ hH
  rw [hos]
  simp only [execOp, ho, hx, hy, Sem.run_bind, Instr.lookup, run_underlying hu, Result.andThen_ok, run_getM hb, Sem.run_pure, hck, Instr.findKey, run_underlying hk, hf]
  rfl
theorem run_checkIntN {t : TypeId} {k : IntKind} {n : Int} (hk : P.underlying t = some (.int k)) (b : Bool) (d : Nat) (w : World) : (Instr.checkKey b (d + 1) t (.int k n)).run P w = .ok () w := by
  unfold Instr.checkKey
  simp only [Sem.run_bind, run_underlying hk, Result.andThen_ok, Sem.run_pure]
theorem run_checkInt {t : TypeId} {k : IntKind} {n : Int} (hk : P.underlying t = some (.int k)) (b : Bool) (w : World) : (Instr.checkKey b 10000 t (.int k n)).run P w = .ok () w := run_checkIntN hk b 9999 w
end
end Go.RX

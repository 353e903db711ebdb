/- Operations with memory. -/
import Derived.Test.YtcleogdmobdnpacGreatRDoorRxH
import Derived.Laws.Slices
import Derived.Laws.Entries
namespace Go.RX
open Go.RowKit

section
variable {P : Program} {H : PH} {o : Oper} {x y : Operand}
theorem PH.put_self (H : PH) (b : Nat) (ob : Obj) : H.put b ob b = some ob := by simp [PH.put]
theorem PH.put_ne (H : PH) {b k : Nat} (ob : Obj) (h : k ≠ b) : H.put b ob k = H k := by simp [PH.put, h]
theorem PH.put_put (H : PH) (b : Nat) (a c : Obj) : (H.put b a).put b c = H.put b c := by
  funext k; unfold PH.put; split <;> rfl
theorem PH.le_put {H : PH} {b : Nat} (h : H b = none) (ob : Obj) : PH.le H (H.put b ob) := fun k o hk => by
  unfold PH.put; split
  · rename_i e; subst e; rw [h] at hk; cases hk
  · exact hk

theorem rds_load {T T' : TypeId} {b q : Nat} {cs : Array Value} {fz : Nat × Nat} (ho : o.op = .load T x) (hx : argEv [x] [.pointer (some ⟨b, q, none⟩)] x = .pointer (some ⟨b, q, none⟩)) (hH : H b = some (.cells cs T' fz)) (hT : hasT P T = true) (hq : q + P.cellsOf T ≤ cs.size) (h0 : isAggB P T = false → q < cs.size) :
    Rds P o [.pointer (some ⟨b, q, none⟩)] H (if isAggB P T then .agg (cs.extract q (q + P.cellsOf T)) else cs.getD q undef) := fun w hw => by
  have hos : o.op.operands.toList = [x] := by simp [ho, Op.operands]
  rw [hos]
  simp only [execOp, ho, hx, Sem.run_bind]
  rw [run_loadV hT (hw _ _ hH) hq h0]
  rfl
theorem opn_store {T T' : TypeId} {b q : Nat} {cs : Array Value} {v : Value} (ho : o.op = .store T x y) (hx : argEv [x, y] [.pointer (some ⟨b, q, none⟩), v] x = .pointer (some ⟨b, q, none⟩)) (hy : argEv [x, y] [.pointer (some ⟨b, q, none⟩), v] y = v) (hH : H b = some (.cells cs T' (0, 0))) (hT : hasT P T = true) (hq : q + P.cellsOf T ≤ cs.size) (hv : v.cells.size = P.cellsOf T) (h1 : oneAll v.cells) :
    Opn P o [.pointer (some ⟨b, q, none⟩), v] H fun u H' => u = undef ∧ H' = H.put b (.cells (spl cs q v.cells.toList) T' (0, 0)) := fun w hw => by
  have hos : o.op.operands.toList = [x, y] := by simp [ho, Op.operands]
  have hb := hw _ _ hH
  rw [hos]
  have hr : (execOp (argEv [x, y] [.pointer (some ⟨b, q, none⟩), v]) o).run P w = .ok .skip (w.setRow b (spl cs q v.cells.toList)) := by
    simp only [execOp, ho, hx, hy, Sem.run_bind]
    rw [run_storeV hT hb hq hv h1]
    rfl
  unfold Stp
  rw [hr]
  refine ⟨_, ⟨rfl, rfl, rfl, by simp, fun k hk hn => setRow_other _ _ _ _ (fun e => by rw [e, hH] at hn; cases hn), fun k ob hk => ?_, fun k hk => ?_⟩, rfl, rfl⟩
  · unfold PH.put at hk
    split at hk
    · rename_i e; subst e; cases hk; exact setRow_heap w k _ _ T' (0, 0) hb
    · rename_i e; rw [setRow_other _ _ _ _ e]; exact hw k ob hk
  · unfold PH.put at hk
    split at hk
    · rename_i e; subst e; exact .inl (by simp [hH])
    · exact .inl hk
theorem rds_indexA {T e : TypeId} {len b q : Nat} {k : IntKind} {m : Int} (ho : o.op = .indexAddr T x y) (hx : argEv [x, y] [.pointer (some ⟨b, q, none⟩), .int k m] x = .pointer (some ⟨b, q, none⟩)) (hy : argEv [x, y] [.pointer (some ⟨b, q, none⟩), .int k m] y = .int k m) (hu : P.underlying T = some (.array len e)) (he : hasT P e = true) (h0 : 0 ≤ m) (h1 : m < len) :
    Yld P o [.pointer (some ⟨b, q, none⟩), .int k m] (.pointer (some ⟨b, q + m.toNat * P.cellsOf e, none⟩)) := fun w => by
  have hos : o.op.operands.toList = [x, y] := by simp [ho, Op.operands]
  rw [hos]
  simp only [execOp, ho, hx, hy, Sem.run_bind]
  rw [run_indexAt hu he b q k m h0 h1]
  rfl
theorem run_makeFunc {fn : Fn} {caps : Array Operand} {vs : List Value} (ho : o.op = .makeFunc fn #[] caps) (hv' : caps.toList.map (argEv caps.toList vs) = vs) : Run P o vs (.func fn #[] vs.toArray) := fun w => by
  have hv : caps.map (argEv caps.toList vs) = vs.toArray := by rw [← Array.toList_inj, Array.toList_map]; exact hv'
  have hos : o.op.operands.toList = caps.toList := by simp [ho, Op.operands]
  unfold Stp
  rw [hos]
  simp only [execOp, ho, Sem.run_bind, Instr.makeFunc, Array.map_empty, hv]
  exact ⟨rfl, Ext.refl _⟩
/-- A function that has a body is entered. -/
def entB (P : Program) (f : FuncId) : Bool := match P.funcs[f]? with | some fn => fn.body.isSome && !(fn.name == "runtime.NumGoroutine") | none => false
theorem run_enter {f : FuncId} (h : entB P f = true) (args : Array Value) (w : World) : (callFunc f args).run P w = .ok (.enter f args) w := by
  unfold entB at h
  split at h
  · rename_i fn hf
    rw [Bool.and_eq_true] at h
    obtain ⟨h1, h2⟩ := h
    unfold callFunc
    have h2 : (fn.name == "runtime.NumGoroutine") = false := by simpa using h2
    have h1 : fn.body.isNone = false := by cases hb : fn.body <;> simp_all
    simp [hf]
    rw [if_neg (by simpa using h2), if_neg (fun e => by simp [e] at h1)]
  · cases h
theorem opn_callv {f : FuncId} {as : Array Operand} {tys : Array TypeId} {caps : Array Value} {vs : List Value} {V : Value → PH → Prop} (ho : o.op = .call ⟨.value x, as, tys⟩) (hx : argEv (x :: as.toList) (.func (.func f) #[] caps :: vs) x = .func (.func f) #[] caps) (ha' : as.toList.map (argEv (x :: as.toList) (.func (.func f) #[] caps :: vs)) = vs) (hf : entB P f = true)
    (hc : Con P f (vs ++ caps.toList) H V) : Opn P o (.func (.func f) #[] caps :: vs) H V := fun w hw => by
  have ha : as.map (argEv (x :: as.toList) (.func (.func f) #[] caps :: vs)) = vs.toArray := by rw [← Array.toList_inj, Array.toList_map]; exact ha'
  have hos : o.op.operands.toList = x :: as.toList := by simp [ho, Op.operands, Call.operands]
  have hr : (execOp (argEv (x :: as.toList) (.func (.func f) #[] caps :: vs)) o).run P w = .ok (.enter f (vs ++ caps.toList).toArray) w := by
    simp only [execOp, ho, resolve, hx, ha, Deferred.ofValue, Sem.run_bind, Sem.run_pure, Result.andThen_ok, invoke]
    rw [run_enter hf]
    congr 2
    simp
  unfold Stp
  rw [hos, hr]
  exact (hc w hw).mono fun e w' ⟨v, H', he, hs, hV⟩ => ⟨v, he, H', hs, hV⟩
end
end Go.RX
namespace Go.RX
open Go.RowKit

section
variable {P : Program} {H : PH} {o : Oper} {x y : Operand}
theorem Run.opn {args : List Value} {v : Value} (h : Run P o args v) (H : PH) : Opn P o args H fun u H' => u = v ∧ H' = H :=
  fun w hw => (h w).mono fun u _ ⟨hu, hx⟩ => ⟨H, Step.of_ext hw hx, hu, rfl⟩
def PH.nil : PH := fun _ => none
theorem det_of_con {f : FuncId} {args : List Value} {v : Value} (h : Con P f args PH.nil fun u _ => u = v) : Det P f args v := fun w => by
  refine (h w (fun b o hb => by cases hb)).mono fun e w' ⟨u, H', he, hs, hu⟩ => ⟨by rw [he, hu], ?_⟩
  exact hs.toExt (fun b o hb => by cases hb) (fun b o hb => by cases hb)
theorem yld_sliceA_l {T e : TypeId} {n b q : Nat} {k : IntKind} {l : Int} {lo : Operand} {vs : List Value} (ho : o.op = .slice T x (some lo) none none) (hx : argEv [x, lo] vs x = .pointer (some ⟨b, q, none⟩)) (hl : argEv [x, lo] vs lo = .int k l) (hu : P.underlying T = some (.array n e)) (he : hasT P e = true) (h0 : 0 ≤ l) (h1 : l < n) :
    Yld P o vs (.slice (some ⟨b, q + l.toNat * P.cellsOf e, none⟩) (n - l.toNat) (n - l.toNat)) := fun w => by
  have hos : o.op.operands.toList = [x, lo] := by simp [ho, Op.operands]
  obtain ⟨⟨i, hi⟩, _⟩ := hasT_spec he
  rw [hos]
  simp only [execOp, ho, hx, Option.map_some, Option.map_none, hl, Instr.sliceAt, Sem.run_bind, run_underlying hu, Result.andThen_ok, Instr.sureAddr, Sem.run_pure, Instr.sliceBounds, run_sliceBound w k l n _ h0 (by omega), run_sizeT hi, add_blk]
  rw [if_neg (by omega)]
theorem yld_sliceA_h {T e : TypeId} {n b q : Nat} {k : IntKind} {l : Int} {hi : Operand} {vs : List Value} (ho : o.op = .slice T x none (some hi) none) (hx : argEv [x, hi] vs x = .pointer (some ⟨b, q, none⟩)) (hl : argEv [x, hi] vs hi = .int k l) (hu : P.underlying T = some (.array n e)) (he : hasT P e = true) (h0 : 0 ≤ l) (h1 : l ≤ n) :
    Yld P o vs (.slice (some ⟨b, q, none⟩) l.toNat n) := fun w => by
  have hos : o.op.operands.toList = [x, hi] := by simp [ho, Op.operands]
  obtain ⟨⟨i, hi⟩, _⟩ := hasT_spec he
  rw [hos]
  simp only [execOp, ho, hx, Option.map_some, Option.map_none, hl, Instr.sliceAt, Sem.run_bind, run_underlying hu, Result.andThen_ok, Instr.sureAddr, Sem.run_pure, Instr.sliceBounds, run_sliceBound w k l n _ h0 h1, run_sizeT hi, add_blk]
  simp
theorem yld_len {t : TypeId} {e : TypeId} {a : Option Addr} {n c : Nat} {vs : List Value} (ho : o.op = .call ⟨.builtin .len, #[x], #[t]⟩) (hx : argEv [x] vs x = .slice a n c) (hu : P.underlying t = some (.slice e)) : Yld P o vs (.int .i64 n) := fun w => by
  have hos : o.op.operands.toList = [x] := by simp [ho, Op.operands, Call.operands]
  have hE : P.elem t = e := by simp [Program.elem, hu]
  rw [hos]
  simp only [execOp, ho, resolve, invoke, Sem.run_bind, Sem.run_pure, Result.andThen_ok, List.map_toArray, List.map_cons, List.map_nil, hx]
  simp only [builtin, Sem.run_bind, run_len_slice w t _ a n c (by rw [hE]; exact hu), Result.andThen_ok]
  rfl
theorem yld_indexS {T e : TypeId} {b q n c : Nat} {k : IntKind} {m : Int} {vs : List Value} (ho : o.op = .indexAddr T x y) (hx : argEv [x, y] vs x = .slice (some ⟨b, q, none⟩) n c) (hy : argEv [x, y] vs y = .int k m) (hu : P.underlying T = some (.slice e)) (he : hasT P e = true) (h0 : 0 ≤ m) (h1 : m < n) :
    Yld P o vs (.pointer (some ⟨b, q + m.toNat * P.cellsOf e, none⟩)) := fun w => by
  have hos : o.op.operands.toList = [x, y] := by simp [ho, Op.operands]
  obtain ⟨⟨i, hi⟩, _⟩ := hasT_spec he
  rw [hos]
  simp only [execOp, ho, hx, hy, Sem.run_bind, Instr.indexAt, asIntOf, Sem.run_pure, Result.andThen_ok, run_underlying hu]
  simp [h0, h1, run_sizeT hi, add_blk]
theorem yld_arrayAt {T e : TypeId} {a : Option Addr} {n len c : Nat} {vs : List Value} (ho : o.op = .sliceToArrayPointer T x) (hx : argEv [x] vs x = .slice a len c) (hu : P.underlying T = some (.array n e)) (h : n ≤ len) : Yld P o vs (.pointer a) := fun w => by
  have hos : o.op.operands.toList = [x] := by simp [ho, Op.operands]
  rw [hos]
  simp only [execOp, ho, hx, Instr.arrayAt, Sem.run_bind, run_underlying hu, Result.andThen_ok]
  rw [if_neg (by omega)]
  rfl
end
end Go.RX
namespace Go.RX
open Go.RowKit

section
variable {P : Program} {H : PH} {o : Oper} {x y z : Operand}
theorem PH.In.fresh {w : World} (hw : H.In w) : H w.heap.size = none := by
  cases e : H w.heap.size with
  | none => rfl
  | some ob => exact absurd (lt_of_get (hw _ _ e)) (Nat.lt_irrefl _)
theorem Step.newB {w : World} (hw : H.In w) (ob : Obj) : Step H w (H.put w.heap.size ob) (w.alloc ob) := by
  have hx := Ext.alloc w ob
  refine ⟨hx.os, hx.tape, hx.output, hx.size, fun k hk _ => hx.block' hk, PH.put_in (hw.ext hx) (by show (w.heap.push ob)[w.heap.size]? = _; simp), fun b hb => ?_⟩
  unfold PH.put at hb
  split at hb
  · rename_i e; right; omega
  · exact .inl hb
theorem Step.setB {w : World} (hw : H.In w) {r : Nat} {ob : Obj} (hr : H r = some ob) (ob' : Obj) : Step H w (H.put r ob') { w with heap := w.heap.setIfInBounds r ob' } := by
  have hlt := lt_of_get (hw _ _ hr)
  refine ⟨rfl, rfl, rfl, by simp, fun k hk hn => ?_, fun k o hk => ?_, fun k hk => ?_⟩
  · show (w.heap.setIfInBounds r ob')[k]? = _
    rw [Array.getElem?_setIfInBounds_ne (fun e => by rw [e, hn] at hr; cases hr)]
  · show (w.heap.setIfInBounds r ob')[k]? = _
    unfold PH.put at hk
    split at hk
    · rename_i e; subst e; rw [Array.getElem?_setIfInBounds_self_of_lt hlt]; exact hk
    · rename_i e; rw [Array.getElem?_setIfInBounds_ne (fun e' => e e'.symm)]; exact hw k o hk
  · unfold PH.put at hk
    split at hk
    · rename_i e; left; rw [e, hr]; simp
    · exact .inl hk
theorem run_getM {w : World} {r : Nat} {es : Array MapEntry} {clock : Nat} (hb : w.heap[r]? = some (.map es clock)) : (getObj r).run P w = .ok (.map es clock) w := by
  simp [getObj, Sem.run, hb]
theorem run_setM {w : World} {r : Nat} {es : Array MapEntry} {clock : Nat} (ob : Obj) (hb : w.heap[r]? = some (.map es clock)) : (setObj r ob).run P w = .ok () { w with heap := w.heap.setIfInBounds r ob } := by
  simp [setObj, Sem.run, hb]
theorem opn_makeMap {T : TypeId} (ho : o.op = .makeMap T none) : Opn P o [] H fun v H' => ∃ r, H r = none ∧ v = .map (some r) ∧ H' = H.put r (.map #[] 0) := fun w hw => by
  unfold Stp
  simp only [execOp, ho, Option.map_none, Sem.run_bind]
  rw [show (Instr.makeMap T none).run P w = .ok (.map (some w.heap.size)) (w.alloc (.map #[] 0)) from rfl]
  exact ⟨_, Step.newB hw _, _, hw.fresh, rfl, rfl⟩
/-- A new key. -/
theorem opn_insert {T kt et : TypeId} {kd : TypeDesc} {r clock : Nat} {es : Array MapEntry} {key val : Value} {vs : List Value} (ho : o.op = .insert T x y z ∨ o.op = .mapUpdate T x y z) (hx : argEv [x, y, z] vs x = .map (some r)) (hy : argEv [x, y, z] vs y = key) (hz : argEv [x, y, z] vs z = val) (hu : P.underlying T = some (.map kt et)) (hk : P.underlying kt = some kd) (hck : ∀ w, (Instr.checkKey false 10000 kt key).run P w = .ok () w)
    (hH : H r = some (.map es clock)) (hf : Instr.findNow kd key es.toList 0 = some none) : Opn P o vs H fun v H' => v = undef ∧ H' = H.put r (.map (es.push { key, val, born := clock }) (clock + 1)) := fun w hw => by
  have hos : o.op.operands.toList = [x, y, z] := by rcases ho with ho | ho <;> simp [ho, Op.operands]
  have hb := hw _ _ hH
  unfold Stp
  rw [hos]
  have hr : (execOp (argEv [x, y, z] vs) o).run P w = .ok .skip { w with heap := w.heap.setIfInBounds r (.map (es.push { key, val, born := clock }) (clock + 1)) } := by
    rcases ho with ho | ho <;> simp only [execOp, ho, hx, hy, hz, Sem.run_bind, Instr.mapUpdate, run_underlying hu, Result.andThen_ok, run_getM hb, hck, Instr.findKey, run_underlying hk, hf, Sem.run_pure, run_setM _ hb]
  rw [hr]
  exact ⟨_, Step.setB hw hH _, rfl, rfl⟩
theorem rds_lookup {T kt et : TypeId} {kd : TypeDesc} {r clock i : Nat} {es : Array MapEntry} {key val : Value} {vs : List Value} (ho : o.op = .lookup T x y false) (hx : argEv [x, y] vs x = .map (some r)) (hy : argEv [x, y] vs y = key) (hu : P.underlying T = some (.map kt et)) (hk : P.underlying kt = some kd) (hck : ∀ b w, (Instr.checkKey b 10000 kt key).run P w = .ok () w)
    (hH : H r = some (.map es clock)) (hf : Instr.findNow kd key es.toList 0 = some (some (i, val))) : Rds P o vs H val := fun w hw => by
  have hos : o.op.operands.toList = [x, y] := by simp [ho, Op.operands]
  have hb := hw _ _ hH
  rw [hos]
  simp only [execOp, ho, hx, hy, Sem.run_bind, Instr.lookup, run_underlying hu, Result.andThen_ok, run_getM hb, Sem.run_pure, hck, Instr.findKey, run_underlying hk, hf]
  rfl
theorem run_checkIntN {t : TypeId} {k : IntKind} {n : Int} (hk : P.underlying t = some (.int k)) (b : Bool) (d : Nat) (w : World) : (Instr.checkKey b (d + 1) t (.int k n)).run P w = .ok () w := by
  unfold Instr.checkKey
  simp only [Sem.run_bind, run_underlying hk, Result.andThen_ok, Sem.run_pure]
theorem run_checkInt {t : TypeId} {k : IntKind} {n : Int} (hk : P.underlying t = some (.int k)) (b : Bool) (w : World) : (Instr.checkKey b 10000 t (.int k n)).run P w = .ok () w := run_checkIntN hk b 9999 w
end
end Go.RX

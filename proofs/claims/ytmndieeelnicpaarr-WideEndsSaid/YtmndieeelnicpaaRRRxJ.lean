/- Operations with memory. -/
import Derived.Test.YtmndieeelnicpaaRRRxI
namespace Go.RX
open Go.RowKit

section
variable {P : Program} {H : PH} {o : Oper} {x y : Operand}
theorem PH.put_self (H : PH) (b : Nat) (ob : Obj) : H.put b ob b = some ob := by simp [PH.put]
theorem PH.put_ne (H : PH) {b k : Nat} (ob : Obj) (h : k ≠ b) : H.put b ob k = H k := by simp [PH.put, h]
theorem PH.put_put (H : PH) (b : Nat) (a c : Obj) : (H.put b a).put b c = H.put b c := by
  funext k; unfold PH.put; split <;> rfl
theorem PH.le_put {H : PH} {b : Nat} (h : H b = none) (ob : Obj) : PH.le H (H.put b ob) := fun k o hk => by
  unfold PH.put; split
  · rename_i e; subst e; rw [h] at hk; cases hk
  · exact hk

theorem rds_load {T T' : TypeId} {b q : Nat} {cs : Array Value} {fz : Nat × Nat} (ho : o.op = .load T x) (hx : argEv [x] [.pointer (some ⟨b, q, none⟩)] x = .pointer (some ⟨b, q, none⟩)) (hH : H b = some (.cells cs T' fz)) (hT : hasT P T = true) (hq : q + P.cellsOf T ≤ cs.size) (h0 : isAggB P T = false → q < cs.size) :
    Rds P o [.pointer (some ⟨b, q, none⟩)] H (if isAggB P T then .agg (cs.extract q (q + P.cellsOf T)) else cs.getD q undef) := fun w hw => by
  have hos : o.op.operands.toList = [x] := by simp [ho, Op.operands]
  rw [hos]
  simp only [execOp, ho, hx, Sem.run_bind]
  rw [run_loadV hT (hw _ _ hH) hq h0]
  rfl
theorem opn_store {T T' : TypeId} {b q : Nat} {cs : Array Value} {v : Value} (ho : o.op = .store T x y) (hx : argEv [x, y] [.pointer (some ⟨b, q, none⟩), v] x = .pointer (some ⟨b, q, none⟩)) (hy : argEv [x, y] [.pointer (some ⟨b, q, none⟩), v] y = v) (hH : H b = some (.cells cs T' (0, 0))) (hT : hasT P T = true) (hq : q + P.cellsOf T ≤ cs.size) (hv : v.cells.size = P.cellsOf T) (h1 : oneAll v.cells) :
    Opn P o [.pointer (some ⟨b, q, none⟩), v] H fun u H' => u = undef ∧ H' = H.put b (.cells (spl cs q v.cells.toList) T' (0, 0)) := fun w hw => by
  have hos : o.op.operands.toList = [x, y] := by simp [ho, Op.operands]
  have hb := hw _ _ hH
  rw [hos]
  have hr : (execOp (argEv [x, y] [.pointer (some ⟨b, q, none⟩), v]) o).run P w = .ok .skip (w.setRow b (spl cs q v.cells.toList)) := by
    simp only [execOp, ho, hx, hy, Sem.run_bind]
    rw [run_storeV hT hb hq hv h1]
    rfl
  unfold Stp
  rw [hr]
  refine ⟨_, ⟨rfl, rfl, rfl, by simp, fun k hk hn => setRow_other _ _ _ _ (fun e => by rw [e, hH] at hn; cases hn), fun k ob hk => ?_, fun k hk => ?_⟩, rfl, rfl⟩
  · unfold PH.put at hk
    split at hk
    · rename_i e; subst e; cases hk; exact setRow_heap w k _ _ T' (0, 0) hb
    · rename_i e; rw [setRow_other _ _ _ _ e]; exact hw k ob hk
  · unfold PH.put at hk
    split at hk
    · rename_i e; subst e; exact .inl (by simp [hH])
    · exact .inl hk
theorem rds_indexA {T e : TypeId} {len b q : Nat} {k : IntKind} {m : Int} (ho : o.op = .indexAddr T x y) (hx : argEv [x, y] [.pointer (some ⟨b, q, none⟩), .int k m] x = .pointer (some ⟨b, q, none⟩)) (hy : argEv [x, y] [.pointer (some ⟨b, q, none⟩), .int k m] y = .int k m) (hu : P.underlying T = some (.array len e)) (he : hasT P e = true) (h0 : 0 ≤ m) (h1 : m < len) :
    Yld P o [.pointer (some ⟨b, q, none⟩), .int k m] (.pointer (some ⟨b, q + m.toNat * P.cellsOf e, none⟩)) := fun w => by
  have hos : o.op.operands.toList = [x, y] := by simp [ho, Op.operands]
  rw [hos]
  simp only [execOp, ho, hx, hy, Sem.run_bind]
  rw [run_indexAt hu he b q k m h0 h1]
  rfl
theorem run_makeFunc {fn : Fn} {caps : Array Operand} {vs : List Value} (ho : o.op = .makeFunc fn #[] caps) (hv' : caps.toList.map (argEv caps.toList vs) = vs) : Run P o vs (.func fn #[] vs.toArray) := fun w => by
  have hv : caps.map (argEv caps.toList vs) = vs.toArray := by rw [← Array.toList_inj, Array.toList_map]; exact hv'
  have hos : o.op.operands.toList = caps.toList := by simp [ho, Op.operands]
  unfold Stp
  rw [hos]
  simp only [execOp, ho, Sem.run_bind, Instr.makeFunc, Array.map_empty, hv]
  exact ⟨rfl, Ext.refl _⟩
/-- A function that has a body is entered. -/
def entB (P : Program) (f : FuncId) : Bool := match P.funcs[f]? with | some fn => fn.body.isSome && !(fn.name == "runtime.NumGoroutine") | none => false
theorem run_enter {f : FuncId} (h : entB P f = true) (args : Array Value) (w : World) : (callFunc f args).run P w = .ok (.enter f args) w := by
  unfold entB at h
  split at h
  · rename_i fn hf
    rw [Bool.and_eq_true] at h
    obtain ⟨h1, h2⟩ := h
    unfold callFunc
    have h2 : (fn.name == "runtime.NumGoroutine") = false := by simpa using h2
    have h1 : fn.body.isNone = false := by cases hb : fn.body <;> simp_all
    simp [hf]
    rw [if_neg (by simpa using h2), if_neg (fun e => by simp [e] at h1)]
  · cases h
theorem opn_callv {f : FuncId} {as : Array Operand} {tys : Array TypeId} {caps : Array Value} {vs : List Value} {V : Value → PH → Prop} (ho : o.op = .call ⟨.value x, as, tys⟩) (hx : argEv (x :: as.toList) (.func (.func f) #[] caps :: vs) x = .func (.func f) #[] caps) (ha' : as.toList.map (argEv (x :: as.toList) (.func (.func f) #[] caps :: vs)) = vs) (hf : entB P f = true)
    (hc : Con P f (vs ++ caps.toList) H V) : Opn P o (.func (.func f) #[] caps :: vs) H V := fun w hw => by
  have ha : as.map (argEv (x :: as.toList) (.func (.func f) #[] caps :: vs)) = vs.toArray := by rw [← Array.toList_inj, Array.toList_map]; exact ha'
  have hos : o.op.operands.toList = x :: as.toList := by simp [ho, Op.operands, Call.operands]
  have hr : (execOp (argEv (x :: as.toList) (.func (.func f) #[] caps :: vs)) o).run P w = .ok (.enter f (vs ++ caps.toList).toArray) w := by
    simp only [execOp, ho, resolve, hx, ha, Deferred.ofValue, Sem.run_bind, Sem.run_pure, Result.andThen_ok, invoke]
    rw [run_enter hf]
    congr 2
    simp
  unfold Stp
  rw [hos, hr]
  exact (hc w hw).mono fun e w' ⟨v, H', he, hs, hV⟩ => ⟨v, he, H', hs, hV⟩
end
end Go.RX

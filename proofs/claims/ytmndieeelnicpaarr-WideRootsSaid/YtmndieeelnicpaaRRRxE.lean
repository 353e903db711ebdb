/- What single operations do, at values of a known make. -/
import Derived.Test.YtmndieeelnicpaaRRRxD
import Derived.Laws.CopyRow
import Derived.Laws.Cells
import Derived.ChangeKeysEq
import Derived.Laws.Small
import Derived.WalkSmall
namespace Go.RX
open Go.RowKit
section
variable {P : Program}

theorem oneC_eq (v : Value) : v.oneCell' = oneC v := by cases v <;> rfl
theorem hasT_spec {t : TypeId} (h : hasT P t = true) : (∃ i, P.info? t = some i) ∧ ∃ d, P.underlying t = some d := by
  unfold hasT at h
  rw [Bool.and_eq_true, Option.isSome_iff_exists, Option.isSome_iff_exists] at h
  exact h
theorem run_isAggB {t : TypeId} {d : TypeDesc} (h : P.underlying t = some d) (w : World) : (isAgg t).run P w = .ok (isAggB P t) w := by
  unfold isAgg isAggB
  simp only [Sem.run_bind, run_underlying h, Result.andThen_ok, h]
  cases d <;> rfl
theorem run_sizeT {t : TypeId} {i : TypeInfo} (h : P.info? t = some i) (w : World) : (sizeOf t).run P w = .ok (P.cellsOf t) w := run_sizeOf w h

theorem cell_blk {w : World} {b : Nat} {cs : Array Value} {T : TypeId} {fz : Nat × Nat} (h : w.heap[b]? = some (.cells cs T fz)) (q : Nat) : w.cell? ⟨b, q, none⟩ = cs[q]? := by
  simp [World.cell?, h]
theorem add_blk (b q i : Nat) : (⟨b, q, none⟩ : Addr).add i = ⟨b, q + i, none⟩ := by
  unfold Addr.add; split
  · simp_all
  · rfl

theorem run_loadV {w : World} {b q : Nat} {cs : Array Value} {T t : TypeId} {fz : Nat × Nat} (hT : hasT P t = true) (h : w.heap[b]? = some (.cells cs T fz)) (hq : q + P.cellsOf t ≤ cs.size) (h0 : isAggB P t = false → q < cs.size) :
    (Instr.loadAt t (.pointer (some ⟨b, q, none⟩))).run P w = .ok (if isAggB P t then .agg (cs.extract q (q + P.cellsOf t)) else cs.getD q undef) w := by
  obtain ⟨⟨i, hi⟩, ⟨d, hd⟩⟩ := hasT_spec hT
  unfold Instr.loadAt Instr.sureAddr loadVar
  simp only [Sem.run_bind, Sem.run_pure, Result.andThen_ok, run_isAggB hd]
  cases hag : isAggB P t with
  | true =>
    simp only [if_true, Sem.run_bind, run_sizeT hi, Result.andThen_ok]
    have hl : (cs.extract q (q + P.cellsOf t)).toList.length = P.cellsOf t := by simp; omega
    have := run_loadCells_list (P := P) w ⟨b, q, none⟩ (cs.extract q (q + P.cellsOf t)).toList (fun j v hj => by
      rw [add_blk, cell_blk h]
      simp only [Array.getElem?_toList, Array.getElem?_extract] at hj
      split at hj
      · exact hj
      · cases hj)
    rw [hl] at this
    rw [this]
    simp only [Result.andThen_ok, Sem.run_pure, Array.toArray_toList]
  | false =>
    simp only [Bool.false_eq_true, if_false, run_load, cell_blk h]
    have hlt := h0 hag
    rw [Array.getElem?_eq_getElem hlt]
    simp [hlt]

theorem run_storeV {w : World} {b q : Nat} {cs : Array Value} {T t : TypeId} {v : Value} (hT : hasT P t = true) (h : w.heap[b]? = some (.cells cs T (0, 0))) (hq : q + P.cellsOf t ≤ cs.size) (hv : v.cells.size = P.cellsOf t) (h1 : oneAll v.cells) :
    (Instr.storeAt t (.pointer (some ⟨b, q, none⟩)) v).run P w = .ok () (w.setRow b (spl cs q v.cells.toList)) := by
  obtain ⟨⟨i, hi⟩, ⟨d, hd⟩⟩ := hasT_spec hT
  unfold Instr.storeAt Instr.sureAddr storeVar
  simp only [Sem.run_bind, Sem.run_pure, Result.andThen_ok, run_sizeT hi, hv, ne_eq, not_true_eq_false, if_false]
  have hl : v.cells.toList.length = P.cellsOf t := by simpa using hv
  rw [run_storeCells_at P b q T v.cells.toList 0 cs w h (by omega) (fun x hx => by rw [oneC_eq]; exact h1 x hx)]
  congr 2
  apply Array.toList_inj.1
  rw [spl_mid (by omega), Nat.add_zero]
  simp only [Array.toList_append, Array.toList_extract, List.extract]
  simp
  rw [List.take_of_length_le (by simp)]

theorem run_fieldAt {S f : Nat} {fs : Array Field} {fd : Field} (hS : P.underlying S = some (.struct fs)) (hf : fs[f]? = some fd) (hT : hasT P fd.type = true) (hn : P.cellsOf fd.type ≠ 0) (b q : Nat) (w : World) :
    (Instr.fieldAt S (.pointer (some ⟨b, q, none⟩)) f).run P w = .ok (.pointer (some ⟨b, q + fd.offset, none⟩)) w := by
  obtain ⟨⟨i, hi⟩, _⟩ := hasT_spec hT
  unfold Instr.fieldAt
  simp only [Sem.run_bind, run_underlying hS, Result.andThen_ok, hf]
  simp only [Instr.sureAddr, Sem.run_bind, Sem.run_pure, Result.andThen_ok, fieldPlace, run_sizeT hi, hn, if_false, add_blk]

theorem run_indexAt {T len e : Nat} (hT : P.underlying T = some (.array len e)) (he : hasT P e = true) (b q : Nat) (k : IntKind) (m : Int) (h0 : 0 ≤ m) (h1 : m < len) (w : World) :
    (Instr.indexAt T (.pointer (some ⟨b, q, none⟩)) (.int k m)).run P w = .ok (.pointer (some ⟨b, q + m.toNat * P.cellsOf e, none⟩)) w := by
  obtain ⟨⟨i, hi⟩, _⟩ := hasT_spec he
  unfold Instr.indexAt
  simp only [asIntOf, Sem.run_bind, Sem.run_pure, Result.andThen_ok, run_underlying hT, Instr.sureAddr]
  simp [h0, h1, run_sizeT hi, add_blk]

theorem run_partV {t : TypeId} {cs : Array Value} {q : Nat} (hT : hasT P t = true) (hq : q + P.cellsOf t ≤ cs.size) (h0 : 0 < P.cellsOf t) (w : World) :
    (part t cs q).run P w = .ok (if isAggB P t then .agg (cs.extract q (q + P.cellsOf t)) else cs.getD q undef) w := by
  obtain ⟨⟨i, hi⟩, ⟨d, hd⟩⟩ := hasT_spec hT
  unfold part
  simp only [Sem.run_bind, Result.andThen_ok, run_isAggB hd]
  cases hag : isAggB P t with
  | true => simp [run_sizeT hi]
  | false =>
    have hlt : q < cs.size := by omega
    simp [hlt]

theorem run_fieldV {S f : Nat} {fs : Array Field} {fd : Field} {cs : Array Value} (hS : P.underlying S = some (.struct fs)) (hf : fs[f]? = some fd) (hT : hasT P fd.type = true) (hq : fd.offset + P.cellsOf fd.type ≤ cs.size) (h0 : 0 < P.cellsOf fd.type) (w : World) :
    (Instr.field S (.agg cs) f).run P w = .ok (if isAggB P fd.type then .agg (cs.extract fd.offset (fd.offset + P.cellsOf fd.type)) else cs.getD fd.offset undef) w := by
  unfold Instr.field
  simp only [Sem.run_bind, run_underlying hS, Result.andThen_ok, hf, asAgg, Sem.run_pure]
  exact run_partV hT hq h0 w

theorem run_indexV {T len e : Nat} {cs : Array Value} (hT : P.underlying T = some (.array len e)) (he : hasT P e = true) (k : IntKind) (m : Int) (h0 : 0 ≤ m) (h1 : m < len) (hq : len * P.cellsOf e ≤ cs.size) (hn : 0 < P.cellsOf e) (w : World) :
    (Instr.index T (.agg cs) (.int k m)).run P w = .ok (if isAggB P e then .agg (cs.extract (m.toNat * P.cellsOf e) (m.toNat * P.cellsOf e + P.cellsOf e)) else cs.getD (m.toNat * P.cellsOf e) undef) w := by
  obtain ⟨⟨i, hi⟩, _⟩ := hasT_spec he
  unfold Instr.index
  simp only [asIntOf, Sem.run_bind, Sem.run_pure, Result.andThen_ok, run_underlying hT]
  rw [if_pos ⟨h0, h1⟩]
  simp only [Sem.run_bind, run_sizeT hi, Result.andThen_ok]
  refine run_partV he ?_ hn w
  have h2 : m.toNat + 1 ≤ len := by omega
  have h3 : (m.toNat + 1) * P.cellsOf e ≤ len * P.cellsOf e := Nat.mul_le_mul_right _ h2
  rw [Nat.add_mul, Nat.one_mul] at h3
  omega

theorem run_binI {op : BinOp} {k : IntKind} {a b : Int} {T : TypeId} {x y : Operand} (hs : op ≠ .shl ∧ op ≠ .shr) (hz : (op = .quo ∨ op = .rem) → b ≠ 0) (w : World) :
    (do eqGuard op T x y (.int k a) (.int k b); binOp op T (.int k a) (.int k b) : Sem Value).run P w = .ok (binV op k a b) w := by
  have hg : (eqGuard op T x y (.int k a) (.int k b)).run P w = .ok () w := by
    unfold eqGuard; cases op <;> rfl
  simp only [Sem.run_bind, hg, Result.andThen_ok]
  cases op <;> simp_all [binOp, Op.intArith, Op.intDiv, Op.intBits, Op.intCmp, binV]
theorem run_binS {op : BinOp} {k l : IntKind} {a b : Int} {T : TypeId} {x y : Operand} (hs : op = .shl ∨ op = .shr) (hz : 0 ≤ b) (w : World) :
    (do eqGuard op T x y (.int k a) (.int l b); binOp op T (.int k a) (.int l b) : Sem Value).run P w = .ok (binV op k a b) w := by
  have hg : (eqGuard op T x y (.int k a) (.int l b)).run P w = .ok () w := by
    unfold eqGuard; rcases hs with rfl | rfl <;> rfl
  simp only [Sem.run_bind, hg, Result.andThen_ok]
  have : ¬ b < 0 := by omega
  rcases hs with rfl | rfl <;> simp [binOp, Op.shift, binV, this]
theorem run_binB {op : BinOp} {a b : Bool} {T : TypeId} {x y : Operand} (hT : P.underlying T = some .bool) (ho : op = .eql ∨ op = .neq) (w : World) :
    (do eqGuard op T x y (.bool a) (.bool b); binOp op T (.bool a) (.bool b) : Sem Value).run P w = .ok (.bool ((op == .neq) != (a == b))) w := by
  have hg : (eqGuard op T x y (.bool a) (.bool b)).run P w = .ok () w := by
    unfold eqGuard; rcases ho with rfl | rfl <;> rfl
  simp only [Sem.run_bind, hg, Result.andThen_ok]
  rcases ho with rfl | rfl <;> simp only [binOp, Sem.run_bind, run_equal_bool _ T a b hT, Result.andThen_ok, Sem.run_pure] <;> cases a <;> cases b <;> rfl

theorem foldl_zip_spl (off : Nat) : ∀ (ys : List Value) (k : Nat) (cs : Array Value), (ys.zipIdx k).foldl (fun cs (p : Value × Nat) => cs.setIfInBounds (off + p.2) p.1) cs = spl cs (off + k) ys := by
  intro ys
  induction ys with
  | nil => intro k cs; rfl
  | cons y ys ih => intro k cs; simp only [List.zipIdx_cons, List.foldl_cons, spl]; rw [ih]; rfl
theorem fill_spl (place : Nat → Option (Nat × Nat)) : ∀ (ps : List (Nat × Value)) (cells : Array Value), (∀ p ∈ ps, ∃ q n, place p.1 = some (q, n) ∧ p.2.cells.size = n ∧ q + n ≤ cells.size) →
    Instr.fill place cells ps = some (ps.foldl (fun acc p => spl acc ((place p.1).getD (0, 0)).1 p.2.cells.toList) cells) := by
  intro ps
  induction ps with
  | nil => intro cells _; rfl
  | cons p ps ih =>
    intro cells h
    obtain ⟨i, v⟩ := p
    obtain ⟨q, n, hp, hn, hq⟩ := h (i, v) (by simp)
    simp only [Instr.fill, hp]
    simp only at hn
    rw [if_neg (by simp [hn]; omega)]
    have e : v.cells.zipIdx.foldl (fun cs (p : Value × Nat) => cs.setIfInBounds (q + p.2) p.1) cells = spl cells q v.cells.toList := by
      rw [← Array.foldl_toList, Array.toList_zipIdx]
      exact foldl_zip_spl q _ 0 _
    simp only [List.foldl_cons, hp, Option.getD_some]
    rw [← e]
    refine ih _ fun p hp => ?_
    rw [e, spl_size]
    exact h p (by simp [hp])
theorem run_buildV {T : TypeId} {pl : Nat → Option (Nat × Nat)} {it : TypeInfo} {z : Value} (hpl : placesOf P T = some pl) (hpt : partsT P T = true) (hit : P.info? T = some it) (hz : it.zero = some z) (parts : Array (Nat × Value))
    (h : ∀ p ∈ parts.toList, ∃ q n, pl p.1 = some (q, n) ∧ p.2.cells.size = n ∧ q + n ≤ z.cells.size) (w : World) :
    (Instr.build T parts).run P w = .ok (.agg (parts.toList.foldl (fun acc p => spl acc ((pl p.1).getD (0, 0)).1 p.2.cells.toList) z.cells)) w := by
  refine run_build w T parts _ ?_
  unfold Program.built
  unfold placesOf at hpl
  unfold partsT at hpt
  cases hu : P.underlying T with
  | none => simp [hu] at hpl
  | some d =>
    cases d <;> simp only [hu] at hpl hpt <;> try (cases hpl; done)
    case array n e =>
      obtain ⟨⟨i, hi⟩, _⟩ := hasT_spec hpt
      have hs : P.cellsOf e = i.size := by simp [Program.cellsOf, hi]
      simp only [Option.some.injEq] at hpl
      subst hpl
      simp only [hit, hz, hi]
      rw [← hs]
      exact fill_spl _ _ _ h
    case struct fs =>
      simp only [Option.some.injEq] at hpl
      subst hpl
      have hm : fs.toList.mapM (fun f => (P.info? f.type).map fun i => (f.offset, i.size)) = some (fs.toList.map fun f => (f.offset, P.cellsOf f.type)) := by
        have hall : ∀ f ∈ fs.toList, (P.info? f.type).map (fun i => (f.offset, i.size)) = some (f.offset, P.cellsOf f.type) := fun f hf => by
          rw [Array.all_eq_true_iff_forall_mem] at hpt
          obtain ⟨⟨i, hi⟩, _⟩ := hasT_spec (hpt f (by simpa using hf))
          simp [hi, Program.cellsOf]
        have go : ∀ l : List Field, (∀ f ∈ l, (P.info? f.type).map (fun i => (f.offset, i.size)) = some (f.offset, P.cellsOf f.type)) → l.mapM (fun f => (P.info? f.type).map fun i => (f.offset, i.size)) = some (l.map fun f => (f.offset, P.cellsOf f.type)) := by
          intro l
          induction l with
          | nil => intro _; rfl
          | cons f l ih =>
            intro hl
            rw [List.mapM_cons, hl f (by simp), ih (fun g hg => hl g (by simp [hg]))]
            rfl
        exact go _ hall
      simp only [hit, hz, hm]
      have hp : (fun i : Nat => (fs.toList.map fun f => (f.offset, P.cellsOf f.type)).toArray[i]?) = fun i : Nat => (fs[i]?).map fun f : Field => (f.offset, P.cellsOf f.type) := by
        funext i; simp
      rw [hp]
      exact fill_spl _ _ _ h
end
end Go.RX

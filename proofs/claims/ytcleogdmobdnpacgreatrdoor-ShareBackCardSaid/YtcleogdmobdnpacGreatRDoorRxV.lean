/- Operations on pointers; bytes; unsafe.String. -/
import Derived.Test.YtcleogdmobdnpacGreatRDoorRxT
import Derived.Test.YtcleogdmobdnpacGreatRDoorRxN
import Derived.Lib.Builder
import Derived.Lib.UnsafeStr
import Derived.LaidEqlPtr
import Derived.Laws.Concat
import Derived.Laws.IdiomStrings
import Derived.Laws.BytesArg
import Derived.Laws.Small
import Derived.Laws.CopyRow
import Derived.Laws.IdiomCopy
namespace Go.RX
open Go.RowKit

/-- The fields of a struct type. -/
def fieldsOf (P : Program) (t : TypeId) : Array Field := match P.underlying t with | some (.struct fs) => fs | _ => #[]
def fieldAt (P : Program) (t : TypeId) (i : Nat) : Field := ((fieldsOf P t)[i]?).getD default
theorem fieldAt_get {P : Program} {t : TypeId} {i : Nat} (h : i < (fieldsOf P t).size) : (fieldsOf P t)[i]? = some (fieldAt P t i) := by
  unfold fieldAt
  rw [Array.getElem?_eq_getElem h]; rfl
theorem PH.put_same {H : PH} {b : Nat} {ob : Obj} (h : H b = some ob) : H.put b ob = H := by
  funext k
  unfold PH.put
  split
  · rename_i e; rw [e, h]
  · rfl
section
variable {P : Program} {H : PH} {o : Oper} {x y : Operand} {vs : List Value}
theorem yld_nilCheck {a : Addr} (ho : o.op = .nilCheck x) (hx : argEv [x] vs x = .pointer (some a)) : Yld P o vs (.pointer (some a)) := fun w => by
  have hos : o.op.operands.toList = [x] := by simp [ho, Op.operands]
  rw [hos]
  simp only [execOp, ho, hx]
  rfl
theorem yld_fieldAddr {S T : TypeId} {i b q off : Nat} (ho : o.op = .fieldAddr S x i) (hx : argEv [x] vs x = .pointer (some ⟨b, q, none⟩)) (hS : P.underlying S = some (.struct (fieldsOf P S))) (hi : i < (fieldsOf P S).size) (hT : (fieldAt P S i).type = T) (hof : (fieldAt P S i).offset = off) (hT' : hasT P T = true) (hc : P.cellsOf T = 1) : Yld P o vs (.pointer (some ⟨b, q + off, none⟩)) := fun w => by
  have hos : o.op.operands.toList = [x] := by simp [ho, Op.operands]
  rw [hos]
  simp only [execOp, ho, hx, Sem.run_bind]
  rw [run_fieldAt hS (fieldAt_get hi) (by rw [hT]; exact hT') (by rw [hT, hc]; decide), hof]
  rfl
theorem yld_eqNil {t t' e : TypeId} {p : Option Addr} (ho : o.op = .binOp .eql t x y t') (hx : argEv [x, y] vs x = .pointer p) (hy : argEv [x, y] vs y = .pointer none) (hu : P.underlying t = some (.pointer e)) : Yld P o vs (.bool p.isNone) := fun w => by
  have hos : o.op.operands.toList = [x, y] := by simp [ho, Op.operands]
  rw [hos]
  have h : ∀ d : Nat, (Op.equalIn (d + 1) t (.pointer p) (.pointer none)).run P w = .ok p.isNone w := fun d => by
    cases p <;> simp [Op.equalIn, run_underlying hu]
  have hb : (binOp .eql t (.pointer p) (.pointer none)).run P w = .ok (.bool p.isNone) w := by
    simp only [binOp]
    simp [Op.equal, Op.maxDepth, h 9999]
  simp only [execOp, ho, hx, hy, Sem.run_bind, eqGuard]
  simp [hb]
theorem yld_neSelf {t t' e : TypeId} {j : TypeInfo} {a : Addr} (ho : o.op = .binOp .neq t x y t') (hx : argEv [x, y] vs x = .pointer (some a)) (hy : argEv [x, y] vs y = .pointer (some a)) (hu : P.underlying t = some (.pointer e)) (hj : P.info? e = some j) : Yld P o vs (.bool false) := fun w => by
  have hos : o.op.operands.toList = [x, y] := by simp [ho, Op.operands]
  rw [hos]
  have := Go.Lib.run_neq_ptr_same (P := P) w a hu hj
  simp only [execOp, ho, hx, hy, Sem.run_bind, eqGuard]
  simp [this]
theorem rds_toUnsafe {src dst t T : TypeId} {j : TypeInfo} {b q : Nat} {cs : Array Value} {fz : Nat × Nat} (ho : o.op = .convert src dst x) (hx : argEv [x] vs x = .pointer (some ⟨b, q, none⟩)) (hs : P.underlying src = some (.pointer t)) (hd : P.underlying dst = some .unsafePointer) (ht : P.info? t = some j) (hj : j.size ≠ 0) (hH : H b = some (.cells cs T fz)) (hq : q < cs.size) : Rds P o vs H (.pointer (some ⟨b, q, none⟩)) := fun w hw => by
  have hos : o.op.operands.toList = [x] := by simp [ho, Op.operands]
  rw [hos]
  have hb := hw _ _ hH
  have := Go.Lib.run_to_unsafe (P := P) w (e := T) (cells := cs.size) ⟨b, q, none⟩ hs hd ht hj (by simp [World.shape?, hb]) hq
  simp only [execOp, ho, hx, Sem.run_bind]
  rw [this]
  rfl
theorem rds_fromUnsafe {src dst u T : TypeId} {j : TypeInfo} {b q : Nat} {cs : Array Value} {fz : Nat × Nat} (ho : o.op = .convert src dst x) (hx : argEv [x] vs x = .pointer (some ⟨b, q, none⟩)) (hs : P.underlying src = some .unsafePointer) (hd : P.underlying dst = some (.pointer u)) (hu : P.info? u = some j) (hH : H b = some (.cells cs T fz)) (hl : liesAt P P.depth T (cs.size / P.cellsOf T) q u 1 = true) : Rds P o vs H (.pointer (some ⟨b, q, none⟩)) := fun w hw => by
  have hos : o.op.operands.toList = [x] := by simp [ho, Op.operands]
  rw [hos]
  have hb := hw _ _ hH
  have := Go.Lib.run_from_unsafe (P := P) w (e := T) (cells := cs.size) ⟨b, q, none⟩ hs hd hu (by simp [World.shape?, hb]) hl
  simp only [execOp, ho, hx, Sem.run_bind]
  rw [this]
  rfl
theorem yld_sliceData {t : TypeId} {a : Addr} {n c : Nat} (ho : o.op = .call ⟨.builtin .unsafeSliceData, #[x], #[t]⟩) (hx : argEv [x] vs x = .slice (some a) n c) (hc : c ≠ 0) : Yld P o vs (.pointer (some a)) := fun w => by
  have hos : o.op.operands.toList = [x] := by simp [ho, Op.operands, Call.operands]
  rw [hos]
  simp only [execOp, ho, resolve, invoke, Sem.run_bind, Sem.run_pure, Result.andThen_ok, List.map_toArray, List.map_cons, List.map_nil, hx, builtin]
  rw [Go.Lib.run_unsafeSliceData_row w _ _ a n c hc]
  rfl
/-- Bytes. -/
def bv (c : UInt8) : Value := .int .u8 (c.toNat : Nat)
theorem freeze_set {w : World} {g n : Nat} {cs : Array Value} {T : TypeId} {fz : Nat × Nat} (h : w.heap[g]? = some (.cells cs T fz)) : ∃ fz', w.freeze ⟨g, 0, none⟩ n = { w with heap := w.heap.setIfInBounds g (.cells cs T fz') } := by
  obtain ⟨lo, hi⟩ := fz
  have hlt := lt_of_get h
  unfold World.freeze
  split
  · refine ⟨(lo, hi), ?_⟩
    have : w.heap.setIfInBounds g (.cells cs T (lo, hi)) = w.heap := by
      apply Array.ext_getElem?
      intro i
      rw [Array.getElem?_setIfInBounds]
      split
      · rename_i e; subst e; simp [h]
      · rfl
    rw [this]
  · refine ⟨if lo == hi then (0, 0 + n) else (min lo 0, max hi (0 + n)), ?_⟩
    congr 1
    apply Array.ext_getElem?
    intro i
    rw [Array.getElem?_setIfInBounds, Array.getElem?_modify]
    by_cases e : g = i
    · subst e
      rw [if_pos rfl, if_pos rfl, if_pos hlt, h]
      rfl
    · rw [if_neg e, if_neg e]
/-- unsafe.String over the head of a row of bytes. -/
theorem opn_unsafeString {pt it e : TypeId} {g : Nat} {cs : Array Value} {fz : Nat × Nat} {l : List UInt8} (ho : o.op = .call ⟨.builtin .unsafeString, #[x, y], #[pt, it]⟩) (hx : argEv [x, y] vs x = .pointer (some ⟨g, 0, none⟩)) (hy : argEv [x, y] vs y = .int .i64 (l.length : Nat)) (hp : P.underlying pt = some (.pointer e)) (hc : P.cellsOf e = 1) (hH : H g = some (.cells cs e fz)) (h0 : l ≠ []) (h63 : l.length ≤ 9223372036854775807) (hl : cs.toList.take l.length = l.map bv) :
    Opn P o vs H fun u H' => u = st l ∧ ∃ ob, H' = H.put g ob := fun w hw => by
  have hos : o.op.operands.toList = [x, y] := by simp [ho, Op.operands, Call.operands]
  have hb := hw _ _ hH
  have hn : l.length ≤ cs.size := by
    have := congrArg List.length hl
    have h2 : cs.toList.length = cs.size := Array.length_toList
    rw [List.length_take, List.length_map] at this
    omega
  have hr := Go.Lib.run_unsafeString_row (P := P) w pt it o.type e hp hc g cs.size (by simp [World.shape?, hb]) l h0 hn h63 (fun j c hj => cell_in (n := l.length) (q := 0) (news := l.map bv) hb (by rw [List.drop_zero]; exact hl) j (bv c) (by rw [List.getElem?_map, hj]; rfl))
  obtain ⟨fz', hz⟩ := freeze_set (n := l.length) hb
  unfold Stp
  rw [hos]
  simp only [execOp, ho, resolve, invoke, Sem.run_bind, Sem.run_pure, Result.andThen_ok, List.map_toArray, List.map_cons, List.map_nil, hx, hy, builtin]
  rw [hr]
  simp only [Result.andThen_ok, hz]
  exact ⟨_, Step.setB hw hH _, rfl, _, rfl⟩
end
end Go.RX
namespace Go.RX
open Go.RowKit

section
variable {P : Program} {H : PH} {o : Oper} {x y : Operand} {vs : List Value} {l m : List UInt8}
theorem ba_append (l m : List UInt8) : ba l ++ ba m = ba (l ++ m) := ByteArray.mk_append_mk l m
theorem st_add {t t' : TypeId} (ho : o.op = .binOp .add t x y t') (hx : argEv [x, y] vs x = st l) (hy : argEv [x, y] vs y = st m) (hlen : l.length + m.length ≤ 9223372036854775807) : Yld P o vs (st (l ++ m)) := fun w => by
  have hos : o.op.operands.toList = [x, y] := by simp [ho, Op.operands]
  rw [hos]
  simp only [execOp, ho, hx, hy, st]
  simp only [Sem.run_bind, binOp_string_add]
  have h := run_string_add_sum (P := P) w (ba l) (ba m) (by rw [ba_size, ba_size]; exact hlen)
  rw [ba_append] at h
  simp [eqGuard, h]
theorem st_neq {t t' : TypeId} (ho : o.op = .binOp .neq t x y t') (hx : argEv [x, y] vs x = st l) (hy : argEv [x, y] vs y = st m) : Yld P o vs (.bool (!(l == m))) := fun w => by
  have hos : o.op.operands.toList = [x, y] := by simp [ho, Op.operands]
  rw [hos]
  simp only [execOp, ho, hx, hy, st]
  simp only [Sem.run_bind, binOp_string_neq, ba_toList]
  simp [eqGuard]
theorem st_of_bytes {src dst e : TypeId} {v : Value} (ho : o.op = .convert src dst x) (hx : argEv [x] vs x = v) (hs : P.underlying src = some (.slice e)) (he : P.underlying e = some (.int .u8)) (hd : P.underlying dst = some .string) (h : Sl H 1 v l.length (l.map bv)) : Rds P o vs H (st l) := fun w hw => by
  have hos : o.op.operands.toList = [x] := by simp [ho, Op.operands]
  rw [hos]
  obtain ⟨_, a, c, rfl, _, _, h5⟩ := h
  simp only [execOp, ho, hx, Sem.run_bind]
  have hr : (convert src dst (.slice a l.length c)).run P w = .ok (st l) w := by
    rcases h5 with h5 | ⟨b, q, cs, T, fz, rfl, hb, htk⟩
    · have hl : l = [] := List.eq_nil_of_length_eq_zero h5
      subst hl
      cases a with
      | none => exact run_convert_bytes_nil w src e hs he 0 c dst hd
      | some a => exact run_convert_bytes_back w src dst e a c [] hs he hd (fun j hj => absurd hj (Nat.not_lt_zero _))
    · refine run_convert_bytes_back w src dst e _ c l hs he hd fun j hj => ?_
      have hb' := hw _ _ hb
      rw [add_blk]
      unfold World.cell?
      rw [hb']
      rw [Nat.mul_one] at htk
      have h6 := congrArg (fun z => z[j]?) htk
      simp only [List.getElem?_take, List.getElem?_drop, List.getElem?_map, if_pos hj, List.getElem?_eq_getElem hj, Option.map_some] at h6
      simp only [Array.getElem?_toList] at h6
      simpa [bv] using h6
  rw [hr]
  rfl
theorem yld_imin {t u : TypeId} {a b : Int} (ho : o.op = .call ⟨.builtin .min, #[x, y], #[t, u]⟩) (hx : argEv [x, y] vs x = .int .i64 a) (hy : argEv [x, y] vs y = .int .i64 b) : Yld P o vs (.int .i64 (if b < a then b else a)) := fun w => by
  have hos : o.op.operands.toList = [x, y] := by simp [ho, Op.operands, Call.operands]
  rw [hos]
  simp only [execOp, ho, resolve, invoke, Sem.run_bind, Sem.run_pure, Result.andThen_ok, List.map_toArray, List.map_cons, List.map_nil, hx, hy]
  simp only [builtin, Sem.run_bind, run_min_int2, Result.andThen_ok]
  rfl
/-- append to a new slice without elements. -/
theorem new_append {t e : TypeId} {i : TypeInfo} {z : Value} {sz m g : Nat} {u : Value} {news : List Value} (ho : o.op = .call ⟨.builtin .append, #[x, y], #[t, t]⟩) (hx : argEv [x, y] vs x = .slice (some ⟨g, 0, none⟩) 0 0) (hy : argEv [x, y] vs y = u)
    (hu : P.underlying t = some (.slice e)) (hi : P.info? e = some i) (hz : i.zero = some z) (hsz : i.size = sz) (hzs : z.cells.size = sz) (hs : Sl H sz u m news) (hm : 0 < m) (h63 : m ≤ maxLen) (hbytes : m * i.bytes ≤ 140737488355328) :
    Opn P o vs H fun v' H' => PH.le H H' ∧ OwS H H' e sz v' m news := fun w hw => by
  have hos : o.op.operands.toList = [x, y] := by simp [ho, Op.operands, Call.operands]
  obtain ⟨hl, a, c, hu2, hmc, hcm, hs⟩ := hs
  obtain ⟨b, q, cs, T, fz, ha, hb, hn⟩ := hs.resolve_left (by omega)
  subst ha
  have hnews := cell_in (hw _ _ hb) hn
  have hge := grownCap_ge w m 0 e
  have hcm2 : grownCap w m 0 e ≤ maxLen := grownCap_le_maxLen w m 0 e h63
  have hr := run_append_grow (P := P) w t o.type e i z hu hi hz ⟨g, 0, none⟩ 0 0 [] (by simp) (fun j u hj => by simp at hj) ⟨b, q, none⟩ m c news (by rw [hsz]; exact hl) hnews (by omega) (by simp only [maxLen] at h63; omega) (growslice_fits (by omega) (by rw [Nat.zero_add]; exact hbytes))
  unfold Stp
  rw [hos]
  simp only [execOp, ho, resolve, invoke, Sem.run_bind, Sem.run_pure, Result.andThen_ok, List.map_toArray, List.map_cons, List.map_nil, hx, hy, hu2, builtin]
  simp only [Nat.zero_add, Array.empty_append] at hr
  rw [hr]
  have hd : Ext w w.drew := ⟨rfl, rfl, rfl, Nat.le_refl _, fun _ _ => rfl⟩
  refine ⟨_, (Step.of_ext hw hd).trans (Step.newB (hw.ext hd) _), PH.le_put hw.fresh _, hl, .inr ⟨w.heap.size, _, _, rfl, hw.fresh, PH.put_self _ _ _, hge, hcm2, ?_, ?_⟩⟩
  · simp only [Array.size_append, List.size_toArray, size_zeroCells, hzs, hl, ← Nat.add_mul]
    congr 1
    omega
  · simp only [Array.toList_append]
    rw [← hl]
    exact List.take_left
theorem yld_fieldAddrN {S T : TypeId} {i b q off : Nat} (ho : o.op = .fieldAddr S x i) (hx : argEv [x] vs x = .pointer (some ⟨b, q, none⟩)) (hS : P.underlying S = some (.struct (fieldsOf P S))) (hi : i < (fieldsOf P S).size) (hT : (fieldAt P S i).type = T) (hof : (fieldAt P S i).offset = off) (hT' : hasT P T = true) (hc : P.cellsOf T ≠ 0) : Yld P o vs (.pointer (some ⟨b, q + off, none⟩)) := fun w => by
  have hos : o.op.operands.toList = [x] := by simp [ho, Op.operands]
  rw [hos]
  simp only [execOp, ho, hx, Sem.run_bind]
  rw [run_fieldAt hS (fieldAt_get hi) (by rw [hT]; exact hT') (by rw [hT]; exact hc), hof]
  rfl
theorem yld_sliceA {T e : TypeId} {n b q : Nat} (ho : o.op = .slice T x none none none) (hx : argEv [x] vs x = .pointer (some ⟨b, q, none⟩)) (hu : P.underlying T = some (.array n e)) (he : hasT P e = true) :
    Yld P o vs (.slice (some ⟨b, q, none⟩) n n) := fun w => by
  have hos : o.op.operands.toList = [x] := by simp [ho, Op.operands]
  obtain ⟨⟨i, hi⟩, _⟩ := hasT_spec he
  rw [hos]
  simp only [execOp, ho, hx, Option.map_none, Instr.sliceAt, Sem.run_bind, run_underlying hu, Result.andThen_ok, Instr.sureAddr, Sem.run_pure, Instr.sliceBounds, run_sizeT hi, add_blk]
  simp
theorem opn_copy {dT sT e T : TypeId} {i : TypeInfo} {g q dLen dCap m : Nat} {cur : Array Value} {u : Value} {news : List Value} (ho : o.op = .call ⟨.builtin .copy, #[x, y], #[dT, sT]⟩) (hx : argEv [x, y] vs x = .slice (some ⟨g, q, none⟩) dLen dCap) (hy : argEv [x, y] vs y = u)
    (hu : P.underlying dT = some (.slice e)) (hi : P.info? e = some i) (hsz : i.size = 1) (hg : H g = some (.cells cur T (0, 0))) (hs : Sl H 1 u m news) (h1 : ∀ c ∈ news, c.oneCell' = true) (hm : m ≤ dLen) (hfit : q + m ≤ cur.size) :
    Opn P o vs H fun _ H' => H' = H.put g (.cells (cur.toList.take q ++ news ++ cur.toList.drop (q + m)).toArray T (0, 0)) := fun w hw => by
  have hos : o.op.operands.toList = [x, y] := by simp [ho, Op.operands, Call.operands]
  have hgw := hw _ _ hg
  obtain ⟨hl, a, c, hu2, hmc, hcm, hs⟩ := hs
  rw [Nat.mul_one] at hl
  have hs1 : (P.info? e).map (·.size) = some 1 := by rw [hi]; simp [hsz]
  unfold Stp
  rw [hos]
  simp only [execOp, ho, resolve, invoke, Sem.run_bind, Sem.run_pure, Result.andThen_ok, List.map_toArray, List.map_cons, List.map_nil, hx, hy, hu2, builtin]
  rcases hs with h0 | ⟨b, q', cs, T', fz, ha, hb, hn⟩
  · subst h0
    obtain rfl : news = [] := List.eq_nil_of_length_eq_zero hl
    rw [run_copy_none w dT sT o.type e (some ⟨g, q, none⟩) a dLen dCap 0 c hu hs1 (by simp)]
    refine ⟨_, Step.refl hw, ?_⟩
    rw [List.append_nil, Nat.add_zero, List.take_append_drop, Array.toArray_toList, PH.put_same hg]
  · subst ha
    rw [Nat.mul_one] at hn
    have hnews := cell_in (hw _ _ hb) hn
    have hr := run_copy_row (P := P) w dT sT o.type e g q dLen dCap ⟨b, q', none⟩ m c cur T news hu hs1 hgw (by rw [hl]; exact (Nat.min_eq_left hm).symm) hnews (by rw [hl]; exact hfit) h1
    rw [hr, hl]
    refine ⟨_, ⟨rfl, rfl, rfl, by simp, fun k hk hn => setRow_other _ _ _ _ (fun e => by rw [e, hg] at hn; cases hn), fun k ob hk => ?_, fun k hk => ?_⟩, rfl⟩
    · unfold PH.put at hk
      split at hk
      · rename_i e; subst e; cases hk; exact setRow_heap w k _ _ T (0, 0) hgw
      · rename_i e; rw [setRow_other _ _ _ _ e]; exact hw k ob hk
    · unfold PH.put at hk
      split at hk
      · rename_i e; subst e; exact .inl (by simp [hg])
      · exact .inl hk
end
end Go.RX

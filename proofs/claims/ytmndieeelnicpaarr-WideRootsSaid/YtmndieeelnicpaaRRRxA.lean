/- Regions whose order is drawn: one canonical order serves every order. Worlds only grow while a region's front runs; stores stand at its end. -/
import Derived.Orders
import Derived.Below
namespace Go.RX
open Go.RowKit

/-- w' extends w: every block of w is as it was. -/
def Ext (w w' : World) : Prop := Below w.heap.size w w'
theorem Ext.refl (w : World) : Ext w w := Below.refl _ _
theorem Ext.trans {a b c : World} (h : Ext a b) (k : Ext b c) : Ext a c := Below.trans h (Below.mono k h.size)
theorem lt_of_get {w : World} {k : Nat} {o : Obj} (h : w.heap[k]? = some o) : k < w.heap.size := (Array.getElem?_eq_some_iff.1 h).1
theorem Ext.block {a b : World} (h : Ext a b) {k : Nat} {o : Obj} (hk : a.heap[k]? = some o) : b.heap[k]? = some o := by
  rw [Below.block h k (lt_of_get hk), hk]
theorem Ext.block' {a b : World} (h : Ext a b) {k : Nat} (hk : k < a.heap.size) : b.heap[k]? = a.heap[k]? := Below.block h k hk
theorem Ext.alloc (w : World) (o : Obj) : Ext w (w.alloc o) := (Below.refl _ _).alloc (Nat.le_refl _) o
theorem Ext.size {a b : World} (h : Ext a b) : a.heap.size ≤ b.heap.size := Below.size h
theorem Ext.drawn (w : World) : Ext w { w with drawn := w.drawn + 1 } := ⟨rfl, rfl, rfl, Nat.le_refl _, fun _ _ => rfl⟩

/-- One operation runs to a value. -/
def Stp (P : Program) (o : Oper) (ev : Operand → Value) (w : World) (K : Value → World → Prop) : Prop :=
  match (execOp ev o).run P w with
  | .ok (.value v) w' => K v w'
  | .ok .skip w' => K undef w'
  | .ok (.enter f args) w' => Calls P f args w' fun e w'' => ∃ v, e = .returned v ∧ K v w''
  | .ok (.row r args) w' => Rows P r args w' K
  | _ => False

theorem Stp.mono {P : Program} {o : Oper} {ev : Operand → Value} {w : World} {K K' : Value → World → Prop} (h : Stp P o ev w K) (hk : ∀ v w', K v w' → K' v w') : Stp P o ev w K' := by
  unfold Stp at *
  split at h
  · exact hk _ _ h
  · exact hk _ _ h
  · exact h.mono fun e w' ⟨v, he, hv⟩ => ⟨v, he, hk _ _ hv⟩
  · exact h.mono fun v w' hv => hk _ _ hv
  · exact h.elim

theorem Stp.some {P : Program} {o : Oper} {ev : Operand → Value} {w : World} {K : Value → World → Prop} (h : Stp P o ev w K) : ∃ v w', K v w' := by
  unfold Stp at h
  split at h
  · exact ⟨_, _, h⟩
  · exact ⟨_, _, h⟩
  · obtain ⟨e, w', fr, ⟨v, _, hv⟩, _⟩ := h []
    exact ⟨v, w', hv⟩
  · obtain ⟨v, w', hv, _⟩ := h default []
    exact ⟨v, w', hv⟩
  · exact h.elim

theorem Stp.wp {P : Program} {o : Oper} {a : Act} {w : World} {K : Value → World → Prop} {K' : Act → World → Prop} {Q : Exit → Act → World → Prop} (h : Stp P o a.eval w K) (hk : ∀ v w', K v w' → K' (a.put o.dst v) w') : o.wp P a w K' Q := by
  unfold Stp at h
  unfold Oper.wp
  split at h
  · rename_i hr; rw [hr]; exact hk _ _ h
  · rename_i hr; rw [hr]; exact hk _ _ h
  · rename_i hr; rw [hr]
    exact Calls.mono h fun e w' ⟨v, he, hv⟩ => by subst he; exact hk _ _ hv
  · rename_i hr; rw [hr]
    exact Rows.mono h fun v w' hv => hk _ _ hv
  · exact h.elim

/-- An operation of a region, wanted or not. -/
def OpS (P : Program) (ops : Array Oper) (o : Oper) (a : Act) (w : World) (K : Value → World → Prop) : Prop :=
  if Region.wanted o (yielded ops a.tmps) then Stp P o a.eval w K else K undef w

theorem OpS.mono {P : Program} {ops : Array Oper} {o : Oper} {a : Act} {w : World} {K K' : Value → World → Prop} (h : OpS P ops o a w K) (hk : ∀ v w', K v w' → K' v w') : OpS P ops o a w K' := by
  unfold OpS at *
  split
  · rename_i hw; rw [if_pos hw] at h; exact h.mono hk
  · rename_i hw; rw [if_neg hw] at h; exact hk _ _ h

theorem OpS.wpOp {P : Program} {ops : Array Oper} {Q : Exit → Act → World → Prop} {o : Oper} {i : Nat} (hi : ops[i]? = some o) {a : Act} {w : World} {K : Value → World → Prop} {K' : Act → World → Prop} (h : OpS P ops o a w K) (hk : ∀ v w', K v w' → K' (a.put o.dst v) w') : Go.wpOp P ops Q i K' a w := by
  unfold OpS at h
  unfold Go.wpOp
  simp only [hi]
  split
  · rename_i hw; rw [if_pos hw] at h; exact .inl (h.wp hk)
  · rename_i hw; rw [if_neg hw] at h; exact hk _ _ h

theorem OpS.put {P : Program} {ops : Array Oper} {oi oj : Oper} (hap : oi.apart ops oj = true) (hsj : ∀ cs b, oj.op ≠ .select cs b) {a : Act} {w : World} {v : Value} {K : Value → World → Prop} :
    OpS P ops oj (a.put oi.dst v) w K ↔ OpS P ops oj a w K := by
  obtain ⟨h1, _, _⟩ := Oper.apart_spec hap
  unfold OpS Stp
  rw [wanted_put oj a oi.dst v h1, execOp_put oj hsj a oi.dst v h1]

/-- THE FRONT of a region: kinds 0: a value, whatever the world; 1: a value, read; 2: a call, with the blocks that it makes; 3: a new block; 5: a value out of the block 'ta'. -/
def wpF (P : Program) (ops : Array Oper) (kd ta : Nat → Nat) (B : Nat) (T : Act → World → Prop) : List Nat → List Nat → Act → World → Prop
  | [], _, a, W => ∀ w, Ext W w → T a w
  | i :: L, bs, a, W => ∃ o, ops[i]? = some o ∧
      ((Region.wanted o (yielded ops a.tmps) = false ∧ wpF P ops kd ta B T L bs (a.put o.dst undef) W) ∨
       (Region.wanted o (yielded ops a.tmps) = true ∧
        ((kd i = 0 ∧ ∃ v, (∀ w, (execOp a.eval o).run P w = .ok (.value v) w) ∧ wpF P ops kd ta B T L bs (a.put o.dst v) W) ∨
         (kd i = 1 ∧ ∃ v, (∀ w, Ext W w → (execOp a.eval o).run P w = .ok (.value v) w) ∧ wpF P ops kd ta B T L bs (a.put o.dst v) W) ∨
         (kd i = 2 ∧ ∃ V : Value → List Nat → World → Prop, (∀ w, Ext W w → Stp P o a.eval w fun v w' => Ext w w' ∧ ∃ cs, (∀ c ∈ cs, w.heap.size ≤ c ∧ c < w'.heap.size) ∧ V v cs w') ∧
            ∀ v cs W', Ext W W' → V v cs W' → (∀ c ∈ cs, B ≤ c ∧ c ∉ bs) → wpF P ops kd ta B T L (cs ++ bs) (a.put o.dst v) W') ∨
         (kd i = 3 ∧ ∃ (mk : Nat → Value) (ob : Obj), (∀ w, (execOp a.eval o).run P w = .ok (.value (mk w.heap.size)) (w.alloc ob)) ∧
            ∀ b W', Ext W W' → W'.heap[b]? = some ob → b ∉ bs → B ≤ b → wpF P ops kd ta B T L (b :: bs) (a.put o.dst (mk b)) W') ∨
         (kd i = 5 ∧ ∃ v ob, W.heap[ta i]? = some ob ∧ (∀ w, w.heap[ta i]? = some ob → (execOp a.eval o).run P w = .ok (.value v) w) ∧ wpF P ops kd ta B T L bs (a.put o.dst v) W))))

/-- ITS END: kinds 0; 5 and 6: what reads or writes the block 'ta' alone; and whatever runs to a value. -/
def wpT (P : Program) (ops : Array Oper) (kd ta : Nat → Nat) (Q : Act → World → Prop) : List Nat → Act → World → Prop
  | [], a, w => Q a w
  | i :: L, a, w => ∃ o, ops[i]? = some o ∧
      ((Region.wanted o (yielded ops a.tmps) = false ∧ wpT P ops kd ta Q L (a.put o.dst undef) w) ∨
       (Region.wanted o (yielded ops a.tmps) = true ∧
        ((kd i = 0 ∧ ∃ v, (∀ w', (execOp a.eval o).run P w' = .ok (.value v) w') ∧ wpT P ops kd ta Q L (a.put o.dst v) w) ∨
         (kd i = 5 ∧ ∃ v ob, w.heap[ta i]? = some ob ∧ (∀ w', w'.heap[ta i]? = some ob → (execOp a.eval o).run P w' = .ok (.value v) w') ∧ wpT P ops kd ta Q L (a.put o.dst v) w) ∨
         (kd i = 6 ∧ ∃ ob cs, w.heap[ta i]? = some ob ∧ (∀ w', w'.heap[ta i]? = some ob → (execOp a.eval o).run P w' = .ok .skip (w'.setRow (ta i) cs)) ∧ wpT P ops kd ta Q L (a.put o.dst undef) (w.setRow (ta i) cs)) ∨
         (kd i ≠ 0 ∧ kd i ≠ 5 ∧ kd i ≠ 6 ∧ Stp P o a.eval w fun v w' => wpT P ops kd ta Q L (a.put o.dst v) w'))))

section
variable {P : Program} {ops : Array Oper} {kd ta : Nat → Nat} {B : Nat} {T : Act → World → Prop}

theorem wpF_ext : ∀ (L bs : List Nat) (a : Act) (W W' : World), Ext W W' → wpF P ops kd ta B T L bs a W → wpF P ops kd ta B T L bs a W' := by
  intro L
  induction L with
  | nil => intro bs a W W' hx h w hw; exact h w (hx.trans hw)
  | cons i L ih =>
    intro bs a W W' hx h
    obtain ⟨o, ho, h⟩ := h
    refine ⟨o, ho, ?_⟩
    rcases h with ⟨hn, h⟩ | ⟨hn, h⟩
    · exact .inl ⟨hn, ih _ _ _ _ hx h⟩
    · refine .inr ⟨hn, ?_⟩
      rcases h with ⟨h0, v, hv, h⟩ | ⟨h0, v, hv, h⟩ | ⟨h0, V, hc, h⟩ | ⟨h0, mk, ob, hr, h⟩ | ⟨h0, v, ob, hb, hv, h⟩
      · exact .inl ⟨h0, v, hv, ih _ _ _ _ hx h⟩
      · exact .inr (.inl ⟨h0, v, fun w hw => hv w (hx.trans hw), ih _ _ _ _ hx h⟩)
      · exact .inr (.inr (.inl ⟨h0, V, fun w hw => hc w (hx.trans hw), fun v cs W2 hW2 => h v cs W2 (hx.trans hW2)⟩))
      · exact .inr (.inr (.inr (.inl ⟨h0, mk, ob, hr, fun b W2 hW2 => h b W2 (hx.trans hW2)⟩)))
      · exact .inr (.inr (.inr (.inr ⟨h0, v, ob, hx.block hb, hv, ih _ _ _ _ hx h⟩)))

theorem wpF_bs : ∀ (L bs bs' : List Nat) (a : Act) (W : World), (∀ x, x ∈ bs → x ∈ bs') → wpF P ops kd ta B T L bs a W → wpF P ops kd ta B T L bs' a W := by
  intro L
  induction L with
  | nil => intro bs bs' a W _ h; exact h
  | cons i L ih =>
    intro bs bs' a W hb h
    obtain ⟨o, ho, h⟩ := h
    refine ⟨o, ho, ?_⟩
    rcases h with ⟨hn, h⟩ | ⟨hn, h⟩
    · exact .inl ⟨hn, ih _ _ _ _ hb h⟩
    · refine .inr ⟨hn, ?_⟩
      rcases h with ⟨h0, v, hv, h⟩ | ⟨h0, v, hv, h⟩ | ⟨h0, V, hc, h⟩ | ⟨h0, mk, ob, hr, h⟩ | ⟨h0, v, ob, hob, hv, h⟩
      · exact .inl ⟨h0, v, hv, ih _ _ _ _ hb h⟩
      · exact .inr (.inl ⟨h0, v, hv, ih _ _ _ _ hb h⟩)
      · exact .inr (.inr (.inl ⟨h0, V, hc, fun v cs W2 hW2 hV hcs => ih _ _ _ _ (by intro x hx; simp only [List.mem_append] at hx ⊢; exact hx.imp id (hb x)) (h v cs W2 hW2 hV (fun c hc => ⟨(hcs c hc).1, fun hm => (hcs c hc).2 (hb _ hm)⟩))⟩))
      · exact .inr (.inr (.inr (.inl ⟨h0, mk, ob, hr, fun b W2 hW2 hob hnb hB => ih _ _ _ _ (by intro x hx; simp only [List.mem_cons] at hx ⊢; exact hx.imp id (hb x)) (h b W2 hW2 hob (fun hm => hnb (hb _ hm)) hB)⟩)))
      · exact .inr (.inr (.inr (.inr ⟨h0, v, ob, hob, hv, ih _ _ _ _ hb h⟩)))

/-- An operation that is no new block may be taken now, if what stands ahead of it only reads. -/
theorem wpF_take {j : Nat} {oj : Oper} (hj : ops[j]? = some oj) (hsel : ∀ (i : Nat) (o : Oper) cs b, ops[i]? = some o → o.op ≠ .select cs b) (hkj : kd j ≠ 3) : ∀ (pre post bs : List Nat) (a : Act) (w : World), B ≤ w.heap.size → (∀ b ∈ bs, b < w.heap.size) →
    (∀ i ∈ pre, (kd i ≤ 1 ∨ kd i = 5) ∧ ∀ oi, ops[i]? = some oi → oi.apart ops oj = true) → wpF P ops kd ta B T (pre ++ j :: post) bs a w →
    OpS P ops oj a w fun u w' => Ext w w' ∧ ∃ cs, (∀ c ∈ cs, w.heap.size ≤ c ∧ c < w'.heap.size) ∧ wpF P ops kd ta B T (pre ++ post) (cs ++ bs) (a.put oj.dst u) w' := by
  intro pre
  induction pre with
  | nil =>
    intro post bs a w hB hbs _ h
    obtain ⟨o, ho, h⟩ := h
    obtain rfl : o = oj := Option.some.inj (ho.symm.trans hj)
    unfold OpS
    rcases h with ⟨hn, h⟩ | ⟨hn, h⟩
    · rw [if_neg (by simp [hn])]; exact ⟨Ext.refl _, [], by simp, h⟩
    · rw [if_pos hn]
      rcases h with ⟨h0, v, hv, h⟩ | ⟨h0, v, hv, h⟩ | ⟨h0, V, hc, h⟩ | ⟨h0, mk, ob, hr, h⟩ | ⟨h0, v, ob, hb, hv, h⟩
      · unfold Stp; rw [hv w]; exact ⟨Ext.refl _, [], by simp, h⟩
      · unfold Stp; rw [hv w (Ext.refl _)]; exact ⟨Ext.refl _, [], by simp, h⟩
      · exact (hc w (Ext.refl _)).mono fun v w' ⟨hx, cs, hcs, hV⟩ => ⟨hx, cs, hcs, h v cs w' hx hV fun c hc => ⟨Nat.le_trans hB (hcs c hc).1, fun hm => by have := hbs c hm; have := (hcs c hc).1; omega⟩⟩
      · exact absurd h0 hkj
      · unfold Stp; rw [hv w hb]; exact ⟨Ext.refl _, [], by simp, h⟩
  | cons i pre ih =>
    intro post bs a w hB hbs hpre h
    obtain ⟨o, ho, h⟩ := h
    obtain ⟨hk, hap⟩ := hpre i (by simp)
    have hap := hap o ho
    obtain ⟨h1, h2, h3⟩ := Oper.apart_spec hap
    have hpre' : ∀ i ∈ pre, (kd i ≤ 1 ∨ kd i = 5) ∧ ∀ oi, ops[i]? = some oi → oi.apart ops oj = true := fun x hx => hpre x (by simp [hx])
    have back : ∀ v, wpF P ops kd ta B T (pre ++ j :: post) bs (a.put o.dst v) w → OpS P ops oj a w fun u w' => Ext w w' ∧ ∃ cs, (∀ c ∈ cs, w.heap.size ≤ c ∧ c < w'.heap.size) ∧ wpF P ops kd ta B T (pre ++ post) (cs ++ bs) ((a.put oj.dst u).put o.dst v) w' := fun v hv => by
      have := (OpS.put (P := P) hap (fun cs b => hsel j oj cs b hj)).1 (ih post bs _ w hB hbs hpre' hv)
      exact this.mono fun u w' ⟨hx, cs, hcs, hh⟩ => ⟨hx, cs, hcs, by rw [Act.put_comm a v u h2] at hh; exact hh⟩
    rcases h with ⟨hn, h⟩ | ⟨hn, h⟩
    · exact (back _ h).mono fun u w' ⟨hx, cs, hcs, hh⟩ => ⟨hx, cs, hcs, o, ho, .inl ⟨by rw [wanted_put o a oj.dst u h3]; exact hn, hh⟩⟩
    · have hw : ∀ u, Region.wanted o (yielded ops (a.put oj.dst u).tmps) = true := fun u => by rw [wanted_put o a oj.dst u h3]; exact hn
      have he : ∀ u, execOp (a.put oj.dst u).eval o = execOp a.eval o := fun u => execOp_put o (fun cs b => hsel i o cs b ho) a oj.dst u h3
      rcases h with ⟨h0, v, hv, h⟩ | ⟨h0, v, hv, h⟩ | ⟨h0, V, hc, h⟩ | ⟨h0, mk, ob, hr, h⟩ | ⟨h0, v, ob, hb, hv, h⟩
      · exact (back _ h).mono fun u w' ⟨hx, cs, hcs, hh⟩ => ⟨hx, cs, hcs, o, ho, .inr ⟨hw u, .inl ⟨h0, v, by rw [he u]; exact hv, hh⟩⟩⟩
      · exact (back _ h).mono fun u w' ⟨hx, cs, hcs, hh⟩ => ⟨hx, cs, hcs, o, ho, .inr ⟨hw u, .inr (.inl ⟨h0, v, by rw [he u]; exact fun w2 hw2 => hv w2 (hx.trans hw2), hh⟩)⟩⟩
      · omega
      · omega
      · exact (back _ h).mono fun u w' ⟨hx, cs, hcs, hh⟩ => ⟨hx, cs, hcs, o, ho, .inr ⟨hw u, .inr (.inr (.inr (.inr ⟨h0, v, ob, hx.block hb, by rw [he u]; exact hv, hh⟩)))⟩⟩

/-- What a new block's operation does is known from the walk, wherever it stands. -/
theorem wpF_form {j : Nat} {oj : Oper} (hj : ops[j]? = some oj) (hsel : ∀ (i : Nat) (o : Oper) cs b, ops[i]? = some o → o.op ≠ .select cs b) (hkj : kd j = 3) : ∀ (pre post bs : List Nat) (a : Act) (W : World),
    (∀ i ∈ pre, ∀ oi, ops[i]? = some oi → oi.apart ops oj = true) → B ≤ W.heap.size → (∀ b ∈ bs, b < W.heap.size) → Region.wanted oj (yielded ops a.tmps) = true → wpF P ops kd ta B T (pre ++ j :: post) bs a W →
    ∃ (mk : Nat → Value) (ob : Obj), ∀ w, (execOp a.eval oj).run P w = .ok (.value (mk w.heap.size)) (w.alloc ob) := by
  intro pre
  induction pre with
  | nil =>
    intro post bs a W _ _ _ hwant h
    obtain ⟨o, ho, h⟩ := h
    obtain rfl : o = oj := Option.some.inj (ho.symm.trans hj)
    rcases h with ⟨hn, _⟩ | ⟨_, h⟩
    · rw [hn] at hwant; cases hwant
    · rcases h with ⟨h0, _⟩ | ⟨h0, _⟩ | ⟨h0, _⟩ | ⟨h0, mk, ob, hr, h⟩ | ⟨h0, _⟩
      · omega
      · omega
      · omega
      · exact ⟨mk, ob, hr⟩
      · omega
  | cons i pre ih =>
    intro post bs a W hpre hB hbs hwant h
    obtain ⟨o, ho, h⟩ := h
    have hap := hpre i (by simp) o ho
    obtain ⟨h1, h2, h3⟩ := Oper.apart_spec hap
    have hpre' : ∀ i ∈ pre, ∀ oi, ops[i]? = some oi → oi.apart ops oj = true := fun x hx => hpre x (by simp [hx])
    have go : ∀ v bs' W', B ≤ W'.heap.size → (∀ b ∈ bs', b < W'.heap.size) → wpF P ops kd ta B T (pre ++ j :: post) bs' (a.put o.dst v) W' → ∃ (mk : Nat → Value) (ob : Obj), ∀ w, (execOp a.eval oj).run P w = .ok (.value (mk w.heap.size)) (w.alloc ob) := fun v bs' W' hB' hbs' hh => by
      obtain ⟨mk, ob, hr⟩ := ih post bs' (a.put o.dst v) W' hpre' hB' hbs' (by rw [wanted_put oj a o.dst v h1]; exact hwant) hh
      exact ⟨mk, ob, fun w => by rw [← hr w, execOp_put oj (fun cs b => hsel j oj cs b hj) a o.dst v h1]⟩
    rcases h with ⟨hn, h⟩ | ⟨hn, h⟩
    · exact go _ _ _ hB hbs h
    · rcases h with ⟨h0, v, hv, h⟩ | ⟨h0, v, hv, h⟩ | ⟨h0, V, hc, h⟩ | ⟨h0, mk, ob, hr, h⟩ | ⟨h0, v, ob, hb, hv, h⟩
      · exact go _ _ _ hB hbs h
      · exact go _ _ _ hB hbs h
      · obtain ⟨v, w', hx, cs, hcs, hV⟩ := (hc W (Ext.refl _)).some
        refine go v _ w' (Nat.le_trans hB hx.size) (fun b hb => ?_) (h v cs w' hx hV fun c hc => ⟨Nat.le_trans hB (hcs c hc).1, fun hm => by have := hbs c hm; have := (hcs c hc).1; omega⟩)
        rcases List.mem_append.1 hb with hb | hb
        · exact (hcs b hb).2
        · exact Nat.lt_of_lt_of_le (hbs b hb) hx.size
      · refine go (mk W.heap.size) (W.heap.size :: bs) (W.alloc ob) (Nat.le_trans hB (Ext.alloc W ob).size) ?_ (h _ _ (Ext.alloc W ob) ?_ (fun hm => Nat.lt_irrefl _ (hbs _ hm)) hB)
        · intro b hb
          simp only [List.mem_cons] at hb
          have hsz : (W.alloc ob).heap.size = W.heap.size + 1 := by show (W.heap.push ob).size = _; simp
          rcases hb with rfl | hb
          · omega
          · have := hbs b hb; omega
        · show (W.heap.push ob)[W.heap.size]? = _; simp
      · exact go _ _ _ hB hbs h

theorem world_of_size (b : Nat) (W : World) : ∃ w : World, w.heap.size = b := ⟨{ W with heap := Array.replicate b default }, by simp⟩
theorem alloc_inj {w : World} {o o' : Obj} (h : w.alloc o = w.alloc o') : o = o' := by
  have : (w.heap.push o) = (w.heap.push o') := congrArg World.heap h
  exact (Array.push_eq_push.1 this).1

/-- A new block may be made now. -/
theorem wpF_float {j : Nat} {oj : Oper} (hj : ops[j]? = some oj) (hsel : ∀ (i : Nat) (o : Oper) cs b, ops[i]? = some o → o.op ≠ .select cs b) (hkj : kd j = 3) (mk : Nat → Value) (ob : Obj) (b : Nat) : ∀ (pre post bs : List Nat) (a : Act) (W W' : World),
    (∀ i ∈ pre, ∀ oi, ops[i]? = some oi → oi.apart ops oj = true) → (∀ w, (execOp a.eval oj).run P w = .ok (.value (mk w.heap.size)) (w.alloc ob)) → Region.wanted oj (yielded ops a.tmps) = true →
    Ext W W' → W'.heap[b]? = some ob → b ∉ bs → B ≤ b → wpF P ops kd ta B T (pre ++ j :: post) bs a W →
    wpF P ops kd ta B T (pre ++ post) (b :: bs) (a.put oj.dst (mk b)) W' := by
  intro pre
  induction pre with
  | nil =>
    intro post bs a W W' _ hrun hwant hx hob hnb hB h
    obtain ⟨o, ho, h⟩ := h
    obtain rfl : o = oj := Option.some.inj (ho.symm.trans hj)
    rcases h with ⟨hn, _⟩ | ⟨_, h⟩
    · rw [hn] at hwant; cases hwant
    · rcases h with ⟨h0, _⟩ | ⟨h0, _⟩ | ⟨h0, _⟩ | ⟨h0, mk', ob', hr, h⟩ | ⟨h0, _⟩
      · omega
      · omega
      · omega
      · obtain ⟨w, hw⟩ := world_of_size b W
        have e := (hrun w).symm.trans (hr w)
        simp only [Result.ok.injEq, Next.value.injEq, hw] at e
        obtain ⟨e1, e2⟩ := e
        have e3 := alloc_inj e2
        subst e3
        rw [e1]
        exact h b W' hx hob hnb hB
      · omega
  | cons i pre ih =>
    intro post bs a W W' hpre hrun hwant hx hob hnb hB h
    obtain ⟨o, ho, h⟩ := h
    have hap := hpre i (by simp) o ho
    obtain ⟨h1, h2, h3⟩ := Oper.apart_spec hap
    have hpre' : ∀ i ∈ pre, ∀ oi, ops[i]? = some oi → oi.apart ops oj = true := fun x hx => hpre x (by simp [hx])
    have hw : Region.wanted o (yielded ops (a.put oj.dst (mk b)).tmps) = Region.wanted o (yielded ops a.tmps) := wanted_put o a oj.dst (mk b) h3
    have he : execOp (a.put oj.dst (mk b)).eval o = execOp a.eval o := execOp_put o (fun cs b => hsel i o cs b ho) a oj.dst (mk b) h3
    have go : ∀ v bs' W1 W2, Ext W1 W2 → W2.heap[b]? = some ob → b ∉ bs' → wpF P ops kd ta B T (pre ++ j :: post) bs' (a.put o.dst v) W1 → wpF P ops kd ta B T (pre ++ post) (b :: bs') ((a.put oj.dst (mk b)).put o.dst v) W2 := fun v bs' W1 W2 hx' hob' hnb' hh => by
      have := ih post bs' (a.put o.dst v) W1 W2 hpre' (fun w => by rw [execOp_put oj (fun cs b => hsel j oj cs b hj) a o.dst v h1]; exact hrun w) (by rw [wanted_put oj a o.dst v h1]; exact hwant) hx' hob' hnb' hB hh
      rwa [Act.put_comm a v (mk b) h2] at this
    refine ⟨o, ho, ?_⟩
    rw [hw, he]
    rcases h with ⟨hn, h⟩ | ⟨hn, h⟩
    · exact .inl ⟨hn, go _ _ _ _ hx hob hnb h⟩
    · refine .inr ⟨hn, ?_⟩
      rcases h with ⟨h0, v, hv, h⟩ | ⟨h0, v, hv, h⟩ | ⟨h0, V, hc, h⟩ | ⟨h0, mk', ob', hr, h⟩ | ⟨h0, v, ob', hb', hv, h⟩
      · exact .inl ⟨h0, v, hv, go _ _ _ _ hx hob hnb h⟩
      · exact .inr (.inl ⟨h0, v, fun w hw => hv w (hx.trans hw), go _ _ _ _ hx hob hnb h⟩)
      · refine .inr (.inr (.inl ⟨h0, V, fun w hw => by have := hc w (hx.trans hw); unfold Stp at this ⊢; rw [he]; exact this, fun v cs W2 hW2 hV hcs => ?_⟩))
        have hn : b ∉ cs ++ bs := fun hm => by
          rcases List.mem_append.1 hm with hm | hm
          · exact (hcs b hm).2 (by simp)
          · exact hnb hm
        have := go v (cs ++ bs) W2 W2 (Ext.refl _) (hW2.block hob) hn (h v cs W2 (hx.trans hW2) hV fun c hc => ⟨(hcs c hc).1, fun hm => (hcs c hc).2 (by simp [hm])⟩)
        exact wpF_bs _ _ _ _ _ (by intro x hx; simp only [List.mem_cons, List.mem_append] at hx ⊢; rcases hx with h | h | h <;> simp [h]) this
      · refine .inr (.inr (.inr (.inl ⟨h0, mk', ob', hr, fun b' W2 hW2 hob' hnb' hB' => ?_⟩)))
        simp only [List.mem_cons, not_or] at hnb'
        have := go (mk' b') (b' :: bs) W2 W2 (Ext.refl _) (hW2.block hob) (by simp only [List.mem_cons, not_or]; exact ⟨fun e => hnb'.1 e.symm, hnb⟩) (h b' W2 (hx.trans hW2) hob' hnb'.2 hB')
        exact wpF_bs _ _ _ _ _ (by intro x hx; simp only [List.mem_cons] at hx ⊢; rcases hx with h | h | h <;> simp [h]) this
      · exact .inr (.inr (.inr (.inr ⟨h0, v, ob', hx.block hb', hv, go _ _ _ _ hx hob hnb h⟩)))
end
end Go.RX

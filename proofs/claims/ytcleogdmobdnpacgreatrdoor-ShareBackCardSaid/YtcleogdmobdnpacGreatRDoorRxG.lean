/- What a tree says, and soundness of running a region. -/
import Derived.Test.YtcleogdmobdnpacGreatRDoorRxF
namespace Go.RX
open Go.RowKit

def retV : List Value → Value
  | [x] => x
  | l => .tuple l.toArray
def PH.put (H : PH) (b : Nat) (o : Obj) : PH := fun k => if k = b then some o else H k

def den (P : Program) (G : Value → PH → Prop) : Tree → List (List Value → PH → Prop) → List Value → PH → Prop
  | .ret l, _, ρ, H => G (retV (l.map (D P ρ))) H
  | .rq r t, nx, ρ, H => r.holds P ρ ∧ den P G t nx ρ H
  | .br c t e, nx, ρ, H => (D P ρ c = .bool true → den P G t nx ρ H) ∧ (D P ρ c = .bool false → den P G e nx ρ H)
  | .call pf f args t, nx, ρ, H => ∀ w, H.In w → Calls P f (args.map (D P ρ)).toArray w fun e w' => ∃ v H', e = .returned v ∧ Step H w H' w' ∧ (pf = true → PH.le H H') ∧ den P G t nx (ρ ++ [v]) H'
  | .prim _ _ o args t, nx, ρ, H => ∃ v, (∀ w, H.In w → (execOp (argEv o.op.operands.toList (args.map (D P ρ))) o).run P w = .ok (.value v) w) ∧ den P G t nx (ρ ++ [v]) H
  | .eff pf _ _ o args t, nx, ρ, H => ∀ w, H.In w → Stp P o (argEv o.op.operands.toList (args.map (D P ρ))) w fun v w' => ∃ H', Step H w H' w' ∧ (pf = true → PH.le H H') ∧ den P G t nx (ρ ++ [v]) H'
  | .ext f args t, nx, ρ, H => ∃ v, (∀ w, H.In w → (callFunc f (args.map (D P ρ)).toArray).run P w = .ok (.value v) w) ∧ den P G t nx (ρ ++ [v]) H
  | .pub T c t, nx, ρ, H => ∀ b, H b = none → den P G t nx (ρ ++ [.pointer (some ⟨b, 0, none⟩)]) (H.put b (.cells (D P ρ c).cells T (0, 0)))
  | .dead _, _, _, _ => False
  | .loop ini t, nx, ρ, H => ∃ (I : List Value → PH → Prop) (μ : List Value → PH → Nat), I (ini.map (D P ρ)) H ∧
      ∀ vals H', vals.length = ini.length → I vals H' → den P G t (nx ++ [fun l h => I l h ∧ μ l h < μ vals H']) (ρ ++ vals) H'
  | .next d l, nx, ρ, H => (nx.getD d fun _ _ => False) (l.map (D P ρ)) H
  | .join n t u, nx, ρ, H => ∃ J : List Value → PH → Prop, den P G t (nx ++ [J]) ρ H ∧ ∀ vals H', vals.length = n → J vals H' → den P G u nx (ρ ++ vals) H'

section
variable {P : Program} {G : Value → PH → Prop} {w0 : Cx}

/-! ### States change -/
variable {ρ : List Value} {β : Nat → Nat} {st : St} {a : Act} {W : World} {H : PH}

theorem Mt.set (m : Mt P w0 ρ β st a W) {s : SL} {v : Value} (hv : ML P ρ β s v) (hp : ∀ b q t i, s = .p b q t i → b < st.bl.length) (d : Option Tmp) : Mt P w0 ρ β (st.set d s) (a.put d v) W := by
  cases d with
  | none => exact m
  | some t =>
    have hb : (st.set (some t) s).bl = st.bl := rfl
    refine { sz := ?_, sl := ?_, pb := ?_, df := m.df, n := m.n, bl := m.bl, inj := m.inj, own := m.own, sep := m.sep, fr := m.fr, kn := m.kn, kb := m.kb }
    · simpa [Act.put, St.set] using m.sz
    · intro u s' hs'
      simp only [St.set, List.getElem?_set] at hs'
      simp only [Act.put]
      split at hs'
      · rename_i e; subst e
        split at hs'
        · rename_i hlt
          simp only [Option.some.injEq] at hs'; subst hs'
          exact ⟨v, by rw [Array.getElem?_setIfInBounds_self_of_lt (by rw [m.sz]; exact hlt)], hv⟩
        · cases hs'
      · rename_i hne
        obtain ⟨x, hx, hm⟩ := m.sl u s' hs'
        exact ⟨x, by rw [Array.getElem?_setIfInBounds_ne hne]; exact hx, hm⟩
    · intro u b o' s' i hs'
      simp only [St.set, List.getElem?_set] at hs'
      split at hs'
      · split at hs'
        · simp only [Option.some.injEq] at hs'; exact hp b o' s' i hs'
        · cases hs'
      · exact m.pb u b o' s' i hs'

theorem ML_beta {β β' : Nat → Nat} {n : Nat} (h : ∀ i, i < n → β' i = β i) {s : SL} {v : Value} (hp : ∀ b q t i, s = .p b q t i → b < n) (hm : ML P ρ β s v) : ML P ρ β' s v := by
  cases s with
  | x s => exact hm
  | p b o s i => simp only [ML] at hm ⊢; rw [h b (hp b o s i rfl)]; exact hm
  | u => trivial

theorem Mt.newB (m : Mt P w0 ρ β st a W) {W' : World} (hx : Ext W W') {c : SV} {T n b : Nat} (hb : W'.heap[b]? = some (.cells (D P ρ c).cells T (0, 0))) (hn : (D P ρ c).cells.size = n) (h1 : oneAll (D P ρ c).cells)
    (hne : ∀ i, i < st.bl.length → β i ≠ b) (hw : w0.w.heap.size ≤ b) (hH : w0.H b = none) (d : Option Tmp) :
    Mt P w0 ρ (fun i => if i = st.bl.length then b else β i) (St.set { st with bl := st.bl ++ [Blk.mk c T n] } d (.p st.bl.length 0 0 noI)) (a.put d (.pointer (some ⟨b, 0, none⟩))) W' := by
  have m' := m.ext hx
  have hβ : ∀ i, i < st.bl.length → (fun i => if i = st.bl.length then b else β i) i = β i := fun i hi => by simp only; rw [if_neg (by omega)]
  have base : Mt P w0 ρ (fun i => if i = st.bl.length then b else β i) { st with bl := st.bl ++ [Blk.mk c T n] } a W' := by
    refine { sz := m'.sz, sl := ?_, pb := ?_, df := m'.df, n := m'.n, bl := ?_, inj := ?_, own := ?_, sep := ?_, fr := m'.fr, kn := m'.kn, kb := m'.kb }
    · intro t s hs
      obtain ⟨v, hv, hm⟩ := m'.sl t s hs
      exact ⟨v, hv, ML_beta hβ (fun b q t' i e => m'.pb t b q t' i (by rw [← e]; exact hs)) hm⟩
    · intro t b' o' s' i hs
      have := m'.pb t b' o' s' i hs
      simp; omega
    · intro b' B hB
      by_cases hb' : b' < st.bl.length
      · rw [List.getElem?_append_left hb'] at hB
        simp only [hβ b' hb']
        exact m'.bl b' B hB
      · rw [List.getElem?_append_right (by omega)] at hB
        have h0 : b' - st.bl.length = 0 := by
          rcases Nat.eq_zero_or_pos (b' - st.bl.length) with h | h
          · exact h
          · rw [List.getElem?_eq_none (by simp; omega)] at hB; cases hB
        rw [h0] at hB
        simp at hB
        subst hB
        rw [if_pos (by omega)]
        exact ⟨hb, hn, h1⟩
    · intro i j hi hj hij
      simp only [List.length_append, List.length_cons, List.length_nil] at hi hj
      split at hij <;> split at hij
      · omega
      · rename_i h1 h2
        exact absurd hij.symm (hne j (by omega))
      · rename_i h1 h2
        exact absurd hij (hne i (by omega))
      · exact m'.inj i j (by omega) (by omega) hij
    · intro i hi
      simp only [List.length_append, List.length_cons, List.length_nil] at hi
      split
      · exact hw
      · exact m'.own i (by omega)
    · intro i hi
      simp only [List.length_append, List.length_cons, List.length_nil] at hi
      split
      · exact hH
      · exact m'.sep i (by omega)
  refine base.set ?_ ?_ d
  · simp [ML]
  · rintro b' q t i h; cases h; simp

theorem Mt.bind (m : Mt P w0 ρ β st a W) (hsc : inSc st = true) (v : Value) (d : Option Tmp) : Mt P w0 (ρ ++ [v]) β (bindS st d) (a.put d v) W := by
  unfold inSc at hsc
  simp only [Bool.and_eq_true, List.all_eq_true] at hsc
  obtain ⟨⟨⟨h1, h2⟩, h3⟩, h4⟩ := hsc
  have hn := m.n
  have base : Mt P w0 (ρ ++ [v]) β { st with n := st.n + 1 } a W := by
    refine { sz := m.sz, sl := ?_, pb := m.pb, df := m.df, n := by simp [hn], bl := ?_, inj := m.inj, own := m.own, sep := m.sep, fr := m.fr, kn := ?_, kb := ?_ }
    · intro t s hs
      obtain ⟨x, hx, hm⟩ := m.sl t s hs
      refine ⟨x, hx, ?_⟩
      have hl := h1 s (List.mem_of_getElem? hs)
      rw [← hn] at hl
      cases s with
      | x s => simp only [ML, SL.lt] at hm hl ⊢; rw [D_append P ρ [v] s hl]; exact hm
      | p b o s i => simp only [ML, SL.lt] at hm hl ⊢; rw [D_append P ρ [v] i hl]; exact hm
      | u => trivial
    · intro b B hB
      have hl := h2 B (List.mem_of_getElem? hB)
      rw [← hn] at hl
      rw [D_append P ρ [v] B.c hl]
      exact m.bl b B hB
    · intro r hr
      have hl := h3 r hr
      rw [← hn] at hl
      exact (holds_append P ρ [v] r hl).2 (m.kn r hr)
    · intro p hp
      have hl := h4 p hp
      rw [← hn] at hl
      rw [D_append P ρ [v] p.1 hl]
      exact m.kb p hp
  refine base.set ?_ ?_ d
  · show v = (ρ ++ [v]).getD st.n undef
    rw [← hn]; simp
  · rintro b q t i h; cases h

theorem Mt.sto (m : Mt P w0 ρ β st a W) {b : Nat} {B : Blk} (hB : st.bl[b]? = some B) {c : SV} (hn : (D P ρ c).cells.size = B.n) (h1 : oneAll (D P ρ c).cells) (d : Option Tmp) :
    Mt P w0 ρ β (St.set { st with bl := st.bl.set b { B with c := c } } d (.x (.k undef))) (a.put d undef) (W.setRow (β b) (D P ρ c).cells) := by
  have hlt : b < st.bl.length := (List.getElem?_eq_some_iff.1 hB).1
  have hb := (m.bl b B hB).1
  have base : Mt P w0 ρ β { st with bl := st.bl.set b { B with c := c } } a (W.setRow (β b) (D P ρ c).cells) := by
    refine { sz := m.sz, sl := m.sl, pb := ?_, df := m.df, n := m.n, bl := ?_, inj := ?_, own := ?_, sep := ?_, fr := ?_, kn := m.kn, kb := m.kb }
    · intro t b' o' s' i hs; have := m.pb t b' o' s' i hs; simpa using this
    · intro b' B' hB'
      simp only [List.getElem?_set] at hB'
      split at hB'
      · rename_i e; subst e
        simp only [Option.some.injEq] at hB'; subst hB'
        exact ⟨setRow_heap W (β b) _ _ B.T (0, 0) hb, hn, h1⟩
      · rename_i hne
        obtain ⟨g1, g2⟩ := m.bl b' B' hB'
        refine ⟨?_, g2⟩
        rw [setRow_other]
        · exact g1
        · intro e
          exact hne (m.inj b b' hlt (List.getElem?_eq_some_iff.1 hB').1 e.symm)
    · intro i j hi hj; simp only [List.length_set] at hi hj; exact m.inj i j hi hj
    · intro i hi; simp only [List.length_set] at hi; exact m.own i hi
    · intro i hi; simp only [List.length_set] at hi; exact m.sep i hi
    · refine ⟨m.fr.os, m.fr.tape, m.fr.output, by simpa using m.fr.size, fun k hk hn => ?_, fun k ob hk => ?_, m.fr.dom⟩
      · rw [setRow_other _ _ _ _ (by have := m.own b hlt; omega)]; exact m.fr.block k hk hn
      · rw [setRow_other _ _ _ _ (fun e => by have := m.sep b hlt; rw [e, this] at hk; cases hk)]; exact m.fr.holds k ob hk
  exact base.set (s := .x (.k undef)) (v := undef) rfl (by rintro b q t i h; cases h) d

theorem Mt.lt (m : Mt P w0 ρ β st a W) {i : Nat} (hi : i < st.bl.length) : β i < W.heap.size := by
  obtain ⟨B, hB⟩ : ∃ B, st.bl[i]? = some B := ⟨_, List.getElem?_eq_getElem hi⟩
  exact lt_of_get (m.bl i B hB).1
/-- After something that may write to H. -/
theorem Mt.step (m : Mt P w0 ρ β st a W) {H' : PH} {W' : World} (hs : Step w0.H W H' W') : Mt P { w0 with H := H' } ρ β st a W' :=
  { m with
    bl := fun b B hB => by
      have hlt : b < st.bl.length := (List.getElem?_eq_some_iff.1 hB).1
      obtain ⟨h1, h2⟩ := m.bl b B hB
      exact ⟨by rw [hs.block _ (m.lt hlt) (m.sep b hlt)]; exact h1, h2⟩
    sep := fun b hb => by
      cases e : H' (β b) with
      | none => exact e
      | some o =>
        rcases hs.dom (β b) (by simp [e]) with h | h
        · exact absurd (m.sep b hb) h
        · have := m.lt hb; omega
    fr := m.fr.trans hs }
/-- With more known of the memory. -/
theorem Mt.grow (m : Mt P w0 ρ β st a W) {H' : PH} (hin : H'.In W) (hsep : ∀ b, b < st.bl.length → H' (β b) = none) (hdom : ∀ b, H' b ≠ none → w0.H b ≠ none ∨ w0.w.heap.size ≤ b) : Mt P { w0 with H := H' } ρ β st a W :=
  { m with
    sep := hsep
    fr := ⟨m.fr.os, m.fr.tape, m.fr.output, m.fr.size, m.fr.block, hin, fun b hb => (hdom b hb).elim (m.fr.dom b) .inr⟩ }
theorem PH.put_in {H : PH} {w : World} {b : Nat} {o : Obj} (h : H.In w) (hb : w.heap[b]? = some o) : (H.put b o).In w := fun k ob hk => by
  unfold PH.put at hk
  split at hk
  · rename_i e; subst e; cases hk; exact hb
  · exact h k ob hk

theorem Mt.know (m : Mt P w0 ρ β st a W) {c : SV} {b : Bool} (h : D P ρ c = .bool b) : Mt P w0 ρ β (st.know P c b) a W := by
  refine { m with kb := ?_ }
  intro p hp
  simp only [St.know, List.mem_append] at hp
  rcases hp with hp | hp
  · split at hp
    · rename_i x
      split at hp
      · rename_i hev
        obtain ⟨b', hb'⟩ : ∃ b', D P ρ x = .bool b' := ev_sound m.kn hev
        simp only [List.mem_cons, List.not_mem_nil, or_false] at hp
        rcases hp with rfl | rfl
        · exact h
        · simp only [D, hb', boolOf, Value.bool.injEq] at h
          rw [← h]; simp [hb']
      · simp only [List.mem_cons, List.not_mem_nil, or_false] at hp
        subst hp; exact h
    · simp only [List.mem_cons, List.not_mem_nil, or_false] at hp
      subst hp; exact h
  · exact m.kb p hp

/-! ### One step -/
/-- st' is st, of which more is known. -/
structure More (st st' : St) : Prop where
  es : st'.es = st.es
  js : st'.js = st.js
  sl : st'.sl = st.sl
  bl : st'.bl = st.bl
  kb : st'.kb = st.kb
  n : st'.n = st.n
  d : st'.d = st.d
theorem More.refl (st : St) : More st st := ⟨rfl, rfl, rfl, rfl, rfl, rfl, rfl⟩
theorem Mt.more (m : Mt P w0 ρ β st a W) {st' : St} (h : More st st') (hk : ∀ r ∈ st'.kn, r.holds P ρ) : Mt P w0 ρ β st' a W :=
  { sz := by rw [h.sl]; exact m.sz, sl := by rw [h.sl]; exact m.sl, pb := by rw [h.sl, h.bl]; exact m.pb, df := m.df, n := by rw [h.n]; exact m.n, bl := by rw [h.bl]; exact m.bl, inj := by rw [h.bl]; exact m.inj, own := by rw [h.bl]; exact m.own, sep := by rw [h.bl]; exact m.sep, fr := m.fr, kn := hk, kb := by rw [h.kb]; exact m.kb }

theorem askAll_sound {nx : List (List Value → PH → Prop)} {k : St → Option Tree} : ∀ {rs : List Rq} {st : St} {t : Tree}, askAll P rs st k = some t → (∀ r ∈ st.kn, r.holds P ρ) → den P G t nx ρ H →
    ∃ st' t', More st st' ∧ (∀ r ∈ st'.kn, r.holds P ρ) ∧ (∀ r ∈ rs, r.holds P ρ) ∧ k st' = some t' ∧ den P G t' nx ρ H := by
  intro rs
  induction rs with
  | nil => intro st t h hk hd; exact ⟨st, t, More.refl st, hk, by simp, h, hd⟩
  | cons r rs ih =>
    intro st t h hk hd
    simp only [askAll] at h
    split at h
    · rename_i he
      obtain ⟨st', t', h1, h2, h3, h4, h5⟩ := ih h hk hd
      refine ⟨st', t', h1, h2, fun q hq => ?_, h4, h5⟩
      rcases List.mem_cons.1 hq with rfl | hq
      · exact ev_sound hk he
      · exact h3 q hq
    · rw [Option.map_eq_some_iff] at h
      obtain ⟨t1, h, rfl⟩ := h
      obtain ⟨hr, hd⟩ := hd
      obtain ⟨st', t', h1, h2, h3, h4, h5⟩ := ih h (fun q hq => by
        rcases List.mem_cons.1 hq with rfl | hq
        · exact hr
        · exact hk q hq) hd
      refine ⟨st', t', ⟨h1.es, h1.js, h1.sl, h1.bl, h1.kb, h1.n, h1.d⟩, h2, fun q hq => ?_, h4, h5⟩
      rcases List.mem_cons.1 hq with rfl | hq
      · exact hr
      · exact h3 q hq

/-- The outcomes of one step. -/
def Outc (P : Program) (G : Value → PH → Prop) (nx : List (List Value → PH → Prop)) (ρ : List Value) (β : Nat → Nat) (st : St) (a : Act) (W : World) (H : PH) (pf : Bool) (o : Oper) (k : St → Option Tree) : Prop :=
  ∃ st', More st st' ∧ (∀ r ∈ st'.kn, r.holds P ρ) ∧ SndR P ρ β st a W o (symOp P st o).2 ∧
    match (symOp P st o).2 with
    | .val s => ∃ t, k (st'.set o.dst s) = some t ∧ den P G t nx ρ H
    | .new c T n => (∃ t, escB st o.dst = true ∧ inSc st' = true ∧ k (bindS st' o.dst) = some t ∧ ∀ b, H b = none → den P G t nx (ρ ++ [.pointer (some ⟨b, 0, none⟩)]) (H.put b (.cells (D P ρ c).cells T (0, 0)))) ∨
        (∃ t, k (St.set { st' with bl := st'.bl ++ [Blk.mk c T n] } o.dst (.p st'.bl.length 0 0 noI)) = some t ∧ den P G t nx ρ H)
    | .sto b c => ∃ B t, st.bl[b]? = some B ∧ k (St.set { st' with bl := st'.bl.set b { B with c := c } } o.dst (.x (.k undef))) = some t ∧ den P G t nx ρ H
    | .call f args => ∃ t, inSc st' = true ∧ k (bindS st' o.dst) = some t ∧ ∀ w, H.In w → Calls P f (args.map (D P ρ)).toArray w fun e w' => ∃ v H', e = .returned v ∧ Step H w H' w' ∧ (pf = true → PH.le H H') ∧ den P G t nx (ρ ++ [v]) H'
    | .prim args => ∃ t v, inSc st' = true ∧ k (bindS st' o.dst) = some t ∧ (∀ w, H.In w → (execOp (argEv o.op.operands.toList (args.map (D P ρ))) o).run P w = .ok (.value v) w) ∧ den P G t nx (ρ ++ [v]) H
    | .eff args => ∃ t, inSc st' = true ∧ k (bindS st' o.dst) = some t ∧ ∀ w, H.In w → Stp P o (argEv o.op.operands.toList (args.map (D P ρ))) w fun v w' => ∃ H', Step H w H' w' ∧ (pf = true → PH.le H H') ∧ den P G t nx (ρ ++ [v]) H'
    | .ext f args => ∃ t v, inSc st' = true ∧ k (bindS st' o.dst) = some t ∧ (∀ w, H.In w → (callFunc f (args.map (D P ρ)).toArray).run P w = .ok (.value v) w) ∧ den P G t nx (ρ ++ [v]) H
    | .bad => False

theorem stepS_sound {nx : List (List Value → PH → Prop)} {k : St → Option Tree} {pf : Bool} {id i : Nat} {o : Oper} {t : Tree} (m : Mt P w0 ρ β st a W) (h : stepS P pf id i o st k = some t) (hd : den P G t nx ρ H) : Outc P G nx ρ β st a W H pf o k := by
  unfold stepS at h
  have hs := snd_symOp m o
  unfold Snd at hs
  unfold Outc
  generalize symOp P st o = p at h hs ⊢
  obtain ⟨rs, r⟩ := p
  simp only at h hs ⊢
  obtain ⟨st', t', h1, h2, h3, h4, h5⟩ := askAll_sound h m.kn hd
  have hs := hs h3
  refine ⟨st', h1, h2, hs, ?_⟩
  cases r with
  | val s => exact ⟨t', h4, h5⟩
  | new c T n =>
    simp only at h4 ⊢
    split at h4
    · rename_i he
      have he' : escB st o.dst = true := by unfold escB at he ⊢; rw [h1.es] at he; exact he
      split at h4
      · rename_i hsc
        rw [Bool.and_eq_true] at hsc
        rw [Option.map_eq_some_iff] at h4
        obtain ⟨t1, h4, rfl⟩ := h4
        exact .inl ⟨t1, he', hsc.1, h4, h5⟩
      · cases h4
    · exact .inr ⟨t', h4, h5⟩
  | sto b c =>
    simp only [h1.bl] at h4
    have hs' := hs
    obtain ⟨_, B, hB, _⟩ := hs'
    simp only [hB] at h4
    refine ⟨B, t', hB, ?_, h5⟩
    rw [h1.bl]; exact h4
  | call f args =>
    simp only at h4
    split at h4
    · rename_i hsc
      rw [Bool.and_eq_true] at hsc
      rw [Option.map_eq_some_iff] at h4
      obtain ⟨t1, h4, rfl⟩ := h4
      exact ⟨t1, hsc.1, h4, h5⟩
    · cases h4
  | prim args =>
    simp only at h4
    split at h4
    · rename_i hsc
      rw [Bool.and_eq_true] at hsc
      rw [Option.map_eq_some_iff] at h4
      obtain ⟨t1, h4, rfl⟩ := h4
      obtain ⟨v, hv, hd⟩ := h5
      exact ⟨t1, v, hsc.1, h4, hv, hd⟩
    · cases h4
  | eff args =>
    simp only at h4
    split at h4
    · rename_i hsc
      rw [Bool.and_eq_true] at hsc
      rw [Option.map_eq_some_iff] at h4
      obtain ⟨t1, h4, rfl⟩ := h4
      exact ⟨t1, hsc.1, h4, h5⟩
    · cases h4
  | ext f args =>
    simp only at h4
    split at h4
    · rename_i hsc
      rw [Bool.and_eq_true] at hsc
      rw [Option.map_eq_some_iff] at h4
      obtain ⟨t1, h4, rfl⟩ := h4
      obtain ⟨v, hv, hd⟩ := h5
      exact ⟨t1, v, hsc.1, h4, hv, hd⟩
    · cases h4
  | bad =>
    simp only [Option.some.injEq] at h4
    subst h4
    exact h5

/-! ### Guards -/
theorem yielded_of (m : Mt P w0 ρ β st a W) {ops : Array Oper} {j : Nat} {c : SV} (h : ((ops[j]?).bind (·.dst)).bind (fun d : Nat => st.sl[d]?) = some (.x c)) :
    yielded ops a.tmps j = match D P ρ c with | .bool b => some b | _ => none := by
  rw [Option.bind_eq_some_iff] at h
  obtain ⟨d, hd, hs⟩ := h
  obtain ⟨v, hv, hm⟩ := m.sl d _ hs
  unfold yielded
  rw [hd]
  simp only [Option.bind_some, hv]
  rw [show v = D P ρ c from hm]
  cases D P ρ c <;> rfl

theorem guard_sound {nx : List (List Value → PH → Prop)} {k : St → Option Tree} {ops : Array Oper} {pf : Bool} {id i : Nat} {o : Oper} {L : List Nat} {t : Tree} (m : Mt P w0 ρ β st a W) (ho : ops[i]? = some o) (h : runL P pf ops id k (i :: L) st = some t) (hd : den P G t nx ρ H) :
    (Region.wanted o (yielded ops a.tmps) = true ∧ ∃ st' t', Mt P w0 ρ β st' a W ∧ st'.bl = st.bl ∧ st'.d = st.d ∧ st'.sl = st.sl ∧ stepS P pf id i o st' (runL P pf ops id k L) = some t' ∧ den P G t' nx ρ H) ∨
    (Region.wanted o (yielded ops a.tmps) = false ∧ ∃ st' t', Mt P w0 ρ β st' a W ∧ st'.bl = st.bl ∧ st'.d = st.d ∧ st'.sl = st.sl ∧ runL P pf ops id k L (st'.set o.dst (.x (.k undef))) = some t' ∧ den P G t' nx ρ H) := by
  simp only [runL, ho] at h
  split at h
  · rename_i hg
    exact .inl ⟨by simp [Region.wanted, hg], st, t, m, rfl, rfl, rfl, h, hd⟩
  · rename_i j want hg
    split at h
    · rename_i c hc
      have hy := yielded_of m hc
      have hD := lookB_sound (P := P) (ρ := ρ) m.kb c
      have hw : Region.wanted o (yielded ops a.tmps) = (yielded ops a.tmps j == some want) := by simp [Region.wanted, hg]
      rw [hw, hy]
      split at h
      · rename_i b hl
        rw [hl] at hD
        simp only [D] at hD
        rw [← hD]
        split at h
        · rename_i hb
          rw [beq_iff_eq] at hb; subst hb
          exact .inl ⟨by simp, st, t, m, rfl, rfl, rfl, h, hd⟩
        · rename_i hb
          exact .inr ⟨by simpa using hb, st, t, m, rfl, rfl, rfl, h, hd⟩
      · rename_i vs hl
        rw [hl] at hD
        simp only [D] at hD
        rw [← hD]
        exact .inr ⟨by simp, st, t, m, rfl, rfl, rfl, h, hd⟩
      · generalize lookB st.kb c = c' at h hD
        split at h
        · rename_i b _
          obtain ⟨st', t', h1, h2, h3, h4, h5⟩ := askAll_sound h m.kn hd
          have hb : D P ρ c' = .bool b := h3 (.isb b c') (by simp)
          have m' := m.more h1 h2
          rw [← hD, hb]
          split at h4
          · rename_i hbw
            rw [beq_iff_eq] at hbw; subst hbw
            exact .inl ⟨by simp, _, t', m'.know hb, by simp [St.know, h1.bl], by simp [St.know, h1.d], by simp [St.know, h1.sl], h4, h5⟩
          · rename_i hbw
            exact .inr ⟨by simpa using hbw, _, t', m'.know hb, by simp [St.know, h1.bl], by simp [St.know, h1.d], by simp [St.know, h1.sl], h4, h5⟩
        obtain ⟨st', t', h1, h2, h3, h4, h5⟩ := askAll_sound h m.kn hd
        obtain ⟨b, hb⟩ : ∃ b, D P ρ c' = .bool b := h3 (.bool c') (by simp)
        have m' := m.more h1 h2
        rw [← hD, hb]
        split at h4
        · rename_i t1 t2 e1 e2
          simp only [Option.some.injEq] at h4
          by_cases hbw : b = want
          · subst hbw
            refine .inl ⟨by simp, _, t1, m'.know hb, by simp [St.know, h1.bl], by simp [St.know, h1.d], by simp [St.know, h1.sl], e1, ?_⟩
            cases b with
            | true => simp only [if_true] at h4; subst h4; exact h5.1 hb
            | false => simp only [Bool.false_eq_true, if_false] at h4; subst h4; exact h5.2 hb
          · have hbn : b = !want := by cases b <;> cases want <;> simp_all
            refine .inr ⟨by simpa using hbw, _, t2, m'.know (b := !want) (by rw [hb, hbn]), by simp [St.know, h1.bl], by simp [St.know, h1.d], by simp [St.know, h1.sl], e2, ?_⟩
            cases want with
            | true => simp only [if_true] at h4; subst h4; exact h5.2 (by rw [hb, hbn]; rfl)
            | false => simp only [Bool.false_eq_true, if_false] at h4; subst h4; exact h5.1 (by rw [hb, hbn]; rfl)
        · cases h4
    · cases h


/-! ### Tags -/
structure Rg (st0 : St) (β0 : Nat → Nat) (ops : Array Oper) (st : St) (β : Nat → Nat) : Prop where
  sl : ∀ t, t ∉ wrOf ops → st.sl[t]? = st0.sl[t]?
  bt : ∀ b, b < st0.bl.length → β b = β0 b
  ln : st0.bl.length ≤ st.bl.length
theorem Rg.congr {st0 st st' : St} {β0 β : Nat → Nat} {ops : Array Oper} (h : Rg st0 β0 ops st β) (hs : st'.sl = st.sl) (hb : st'.bl = st.bl) : Rg st0 β0 ops st' β := ⟨by rw [hs]; exact h.sl, h.bt, by rw [hb]; exact h.ln⟩
theorem dst_wr {ops : Array Oper} {i : Nat} {o : Oper} {d : Nat} (ho : ops[i]? = some o) (hd : o.dst = some d) : d ∈ wrOf ops := by
  unfold wrOf
  rw [List.mem_filterMap]
  exact ⟨o, List.mem_of_getElem? (by simpa using ho), hd⟩
theorem Rg.set {st0 st : St} {β0 β : Nat → Nat} {ops : Array Oper} (h : Rg st0 β0 ops st β) {i : Nat} {o : Oper} (ho : ops[i]? = some o) (s : SL) : Rg st0 β0 ops (st.set o.dst s) β := by
  cases hd : o.dst with
  | none => exact h
  | some d =>
    refine ⟨fun t ht => ?_, h.bt, h.ln⟩
    simp only [St.set, List.getElem?_set]
    rw [if_neg (fun e => ht (by rw [← e]; exact dst_wr ho hd))]
    exact h.sl t ht

theorem tag_cases {st0 : St} {ws : List Nat} (o : Oper) : (kdT P st0 ws o = kdOf P o ∧ tgOf st0 ws o = none) ∨
    (∃ b t q s i, tgOf st0 ws o = some b ∧ t ∉ ws ∧ st0.sl[t]? = some (.p b q s i) ∧ ((∃ T, o.op = .load T (.tmp t) ∧ kdT P st0 ws o = 5) ∨ (∃ T y, o.op = .store T (.tmp t) y ∧ kdT P st0 ws o = 6))) := by
  cases h : tgOf st0 ws o with
  | none => exact .inl ⟨by simp [kdT, h], rfl⟩
  | some b =>
    right
    have h' := h
    unfold tgOf at h
    split at h
    · rename_i T t ho
      split at h
      · cases h
      · rename_i hc
        split at h
        · rename_i b' q s i hs
          cases h
          exact ⟨b, t, q, s, i, rfl, by simpa using hc, hs, .inl ⟨T, ho, by simp [kdT, h', kdOf, ho]⟩⟩
        · cases h
    · rename_i T t y ho
      split at h
      · cases h
      · rename_i hc
        split at h
        · rename_i b' q s i hs
          cases h
          exact ⟨b, t, q, s, i, rfl, by simpa using hc, hs, .inr ⟨T, y, ho, by simp [kdT, h', kdOf, ho]⟩⟩
        · cases h
    · cases h

theorem load_res {T : TypeId} {x : Operand} {b q s : Nat} {i : SV} (h : st.get x = some (.p b q s i)) : (sLoad P st T x).2 = .bad ∨ ∃ s', (sLoad P st T x).2 = .val s' := by
  unfold sLoad
  rw [h]
  simp only
  split
  · unfold sLoadB bad
    repeat' split
    all_goals first | exact .inl rfl | exact .inr ⟨_, rfl⟩
  · exact .inl rfl
theorem store_res {T : TypeId} {x y : Operand} {b q s : Nat} {i : SV} (h : st.get x = some (.p b q s i)) : (sStore P st T x y).2 = .bad ∨ ∃ c, (sStore P st T x y).2 = .sto b c := by
  unfold sStore
  rw [h]
  split
  · rename_i b' q' s' i' v e _
    cases e
    split
    · unfold sStoreB bad
      repeat' split
      all_goals first | exact .inl rfl | exact .inr ⟨_, rfl⟩
    · exact .inl rfl
  · rename_i e _; cases e
  · exact .inl rfl

/-! ### The end of a region -/
variable {w1 : World} {H1 : PH}
theorem runT_sound {nx : List (List Value → PH → Prop)} {k : St → Option Tree} {ops : Array Oper} {pf : Bool} {id dn : Nat} {st0 : St} {β0 : Nat → Nat} {R : Act → World → Prop}
    (hpb0 : ∀ (t b q s : Nat) (i : SV), st0.sl[t]? = some (.p b q s i) → b < st0.bl.length)
    (hk : ∀ st t ρ' β a W H, k st = some t → Mt P ⟨w1, H1, H⟩ ρ' β st a W → ρ <+: ρ' → st.d = dn → den P G t nx ρ' H → R a W) : ∀ (L : List Nat) (st : St) (t : Tree) (ρ' : List Value) (β : Nat → Nat) (a : Act) (W : World) (H : PH),
    runL P pf ops id k L st = some t → Mt P ⟨w1, H1, H⟩ ρ' β st a W → ρ <+: ρ' → st.d = dn → Rg st0 β0 ops st β → den P G t nx ρ' H → wpT P ops (kdI P st0 ops) (fun i => β0 (tgI st0 ops i)) R L a W := by
  intro L
  induction L with
  | nil => intro st t ρ' β a W H h m hp hdn _ hd; exact hk st t ρ' β a W H h m hp hdn hd
  | cons i L ih =>
    intro st t ρ' β a W H h m hp hdn hrg hd
    cases ho : ops[i]? with
    | none => simp [runL, ho] at h
    | some o =>
      refine ⟨o, ho, ?_⟩
      have hkd : kdI P st0 ops i = kdT P st0 (wrOf ops) o := by simp [kdI, ho]
      rcases guard_sound m ho h hd with ⟨hw, st1, t1, m1, hb1, hd1, hs1, h1, hden⟩ | ⟨hw, st1, t1, m1, hb1, hd1, hs1, h1, hden⟩
      · refine .inr ⟨hw, ?_⟩
        obtain ⟨st', hm, hkn, hR, hc⟩ := stepS_sound m1 h1 hden
        have m' := m1.more hm hkn
        have hd' : st'.d = dn := by rw [hm.d, hd1]; exact hdn
        have hrg1 := hrg.congr hs1 hb1
        have hrg' := hrg1.congr hm.sl hm.bl
        simp only [hkd]
        rcases tag_cases (P := P) (st0 := st0) (ws := wrOf ops) o with ⟨hk0, _⟩ | ⟨b, t0, q, s, ix, htg, htn, hsl0, hcase⟩
        · rw [hk0]
          cases hsym : (symOp P st1 o).2 with
          | val s =>
            rw [hsym] at hR hc
            obtain ⟨hptr, hle, v, hv, hrun⟩ := hR
            obtain ⟨t2, h2, hd2⟩ := hc
            have mm := m'.set hv (by rw [hm.bl]; exact hptr) o.dst
            have nxt := ih _ _ _ _ _ _ _ h2 mm hp (by cases o.dst <;> exact hd') (hrg'.set ho s) hd2
            by_cases h0 : kdOf P o = 0
            · exact .inl ⟨h0, v, fun w => hrun w (.inl h0), nxt⟩
            · refine .inr (.inr (.inr ⟨h0, by omega, by omega, ?_⟩))
              unfold Stp
              rw [hrun W (.inr (.inl (Ext.refl _)))]
              exact nxt
          | new c T n =>
            rw [hsym] at hR hc
            obtain ⟨h3, hsz, hone, hrun⟩ := hR
            refine .inr (.inr (.inr ⟨by omega, by omega, by omega, ?_⟩))
            unfold Stp
            rw [hrun W]
            have hob : (W.alloc (.cells (D P ρ' c).cells T)).heap[W.heap.size]? = some (.cells (D P ρ' c).cells T (0, 0)) := by show (W.heap.push _)[W.heap.size]? = _; simp
            have hH : H W.heap.size = none := by
              cases e : H W.heap.size with
              | none => rfl
              | some ob => have := lt_of_get (m'.fr.holds _ _ e); omega
            rcases hc with ⟨t2, _, hsc, h2, hd2⟩ | ⟨t2, h2, hd2⟩
            · have mm := ((m'.ext (Ext.alloc W (.cells (D P ρ' c).cells T))).grow (H' := H.put W.heap.size (.cells (D P ρ' c).cells T (0, 0))) (PH.put_in (m'.fr.holds.ext (Ext.alloc W _)) hob) (fun b hb => by
                unfold PH.put; rw [if_neg (by have := m'.lt hb; omega)]; exact m'.sep b hb) (fun b hb => by
                unfold PH.put at hb; split at hb
                · rename_i e; subst e; exact .inr m'.fr.size
                · exact .inl hb)).bind hsc (.pointer (some ⟨W.heap.size, 0, none⟩)) o.dst
              exact ih _ _ _ _ _ _ _ h2 mm (hp.trans (List.prefix_append _ _)) (by cases o.dst <;> exact hd') ((hrg'.congr (st' := { st' with n := st'.n + 1 }) rfl rfl).set ho _) (hd2 _ hH)
            · have mm := m'.newB (T := T) (Ext.alloc W (.cells (D P ρ' c).cells T)) (b := W.heap.size) hob hsz hone (fun i hi e => by have := m'.lt hi; omega) (m'.fr.size) hH o.dst
              refine ih _ _ _ _ _ _ _ h2 mm hp (by cases o.dst <;> exact hd') ?_ hd2
              refine Rg.set (st := { st' with bl := st'.bl ++ [Blk.mk c T n] }) ⟨hrg'.sl, fun b hb => ?_, by simp; have := hrg'.ln; omega⟩ ho _
              rw [if_neg (by have := hrg'.ln; omega)]; exact hrg'.bt b hb
          | sto b c =>
            rw [hsym] at hR hc
            obtain ⟨h4, B', hB', hsz, hone, hrun⟩ := hR
            obtain ⟨B, t2, hB, h2, hd2⟩ := hc
            refine .inr (.inr (.inr ⟨by omega, by omega, by omega, ?_⟩))
            obtain rfl : B' = B := Option.some.inj (hB'.symm.trans hB)
            have hBs : st'.bl[b]? = some B' := by rw [hm.bl]; exact hB
            unfold Stp
            have hcell := (m'.bl b B' hBs).1
            rw [hrun W hcell]
            have mm := m'.sto hBs hsz hone o.dst
            exact ih _ _ _ _ _ _ _ h2 mm hp (by cases o.dst <;> exact hd') (Rg.set (st := { st' with bl := st'.bl.set b { B' with c := c } }) ⟨hrg'.sl, hrg'.bt, by simpa using hrg'.ln⟩ ho _) hd2
          | call f args =>
            rw [hsym] at hR hc
            obtain ⟨h4, hrun⟩ := hR
            obtain ⟨t2, hsc, h2, hcall⟩ := hc
            refine .inr (.inr (.inr ⟨by omega, by omega, by omega, ?_⟩))
            unfold Stp
            rw [hrun W]
            refine (hcall W m'.fr.holds).mono fun e w' ⟨v, H', he, hst, _, hd2⟩ => ⟨v, he, ?_⟩
            exact ih _ _ _ _ _ _ _ h2 ((m'.step hst).bind hsc v o.dst) (hp.trans (List.prefix_append _ _)) (by cases o.dst <;> exact hd') ((hrg'.congr (st' := { st' with n := st'.n + 1 }) rfl rfl).set ho _) hd2
          | prim args =>
            rw [hsym] at hR hc
            obtain ⟨h4, hrun⟩ := hR
            obtain ⟨t2, v, hsc, h2, hv, hd2⟩ := hc
            refine .inr (.inr (.inr ⟨by omega, by omega, by omega, ?_⟩))
            unfold Stp
            rw [hrun, hv W m'.fr.holds]
            exact ih _ _ _ _ _ _ _ h2 (m'.bind hsc v o.dst) (hp.trans (List.prefix_append _ _)) (by cases o.dst <;> exact hd') ((hrg'.congr (st' := { st' with n := st'.n + 1 }) rfl rfl).set ho _) hd2
          | eff args =>
            rw [hsym] at hR hc
            obtain ⟨h4, hrun⟩ := hR
            obtain ⟨t2, hsc, h2, hcall⟩ := hc
            refine .inr (.inr (.inr ⟨by omega, by omega, by omega, ?_⟩))
            exact Stp.cg hrun <| Stp.mono (hcall W m'.fr.holds) fun v w' ⟨H', hst, _, hd2⟩ => ih _ _ _ _ _ _ _ h2 ((m'.step hst).bind hsc v o.dst) (hp.trans (List.prefix_append _ _)) (by cases o.dst <;> exact hd') ((hrg'.congr (st' := { st' with n := st'.n + 1 }) rfl rfl).set ho _) hd2
          | ext f args =>
            rw [hsym] at hR hc
            obtain ⟨h4, hrun⟩ := hR
            obtain ⟨t2, v, hsc, h2, hv, hd2⟩ := hc
            refine .inr (.inr (.inr ⟨by omega, by omega, by omega, ?_⟩))
            unfold Stp
            rw [hrun, hv W m'.fr.holds]
            exact ih _ _ _ _ _ _ _ h2 (m'.bind hsc v o.dst) (hp.trans (List.prefix_append _ _)) (by cases o.dst <;> exact hd') ((hrg'.congr (st' := { st' with n := st'.n + 1 }) rfl rfl).set ho _) hd2
          | bad => rw [hsym] at hc; exact hc.elim
        · have hta : β0 (tgI st0 ops i) = β b := by
            have : tgI st0 ops i = b := by simp [tgI, ho, htg]
            rw [this, hrg1.bt b (hpb0 _ _ _ _ _ hsl0)]
          have hget : st1.get (.tmp t0) = some (.p b q s ix) := by
            show st1.sl[t0]? = _
            rw [hrg1.sl t0 htn]; exact hsl0
          have hbl := m1.ptrB hget
          rcases hcase with ⟨T, hop, hk5⟩ | ⟨T, y, hop, hk6⟩
          · rw [hk5]
            have e : (symOp P st1 o) = sLoad P st1 T (.tmp t0) := by simp [symOp, hop]
            rcases load_res (P := P) (T := T) hget with hb | ⟨s', hb⟩
            · rw [e, hb] at hc; exact hc.elim
            · rw [e, hb] at hc hR
              obtain ⟨hptr, hle, v, hv, hrun⟩ := hR
              obtain ⟨t2, h2, hd2⟩ := hc
              have mm := m'.set hv (by rw [hm.bl]; exact hptr) o.dst
              have nxt := ih _ _ _ _ _ _ _ h2 mm hp (by cases o.dst <;> exact hd') (hrg'.set ho s') hd2
              obtain ⟨Bk, hBk⟩ : ∃ B, st1.bl[b]? = some B := ⟨_, List.getElem?_eq_getElem hbl⟩
              refine .inr (.inl ⟨rfl, v, _, by rw [hta]; exact (m1.bl b Bk hBk).1, fun w hw => hrun w (.inr (.inr ⟨T, .tmp t0, b, q, s, ix, hop, hget, ?_⟩)), nxt⟩)
              rw [hta] at hw; rw [hw, (m1.bl b Bk hBk).1]
          · rw [hk6]
            have e : (symOp P st1 o) = sStore P st1 T (.tmp t0) y := by simp [symOp, hop]
            rcases store_res (P := P) (T := T) (y := y) hget with hb | ⟨c, hb⟩
            · rw [e, hb] at hc; exact hc.elim
            · rw [e, hb] at hc hR
              obtain ⟨h4, B', hB', hsz, hone, hrun⟩ := hR
              obtain ⟨B, t2, hB, h2, hd2⟩ := hc
              obtain rfl : B' = B := Option.some.inj (hB'.symm.trans hB)
              have hBs : st'.bl[b]? = some B' := by rw [hm.bl]; exact hB
              have hcell := (m'.bl b B' hBs).1
              have mm := m'.sto hBs hsz hone o.dst
              refine .inr (.inr (.inl ⟨rfl, _, (D P ρ' c).cells, by rw [hta]; exact hcell, fun w hw => ?_, ?_⟩))
              · rw [hta] at hw ⊢; exact hrun w hw
              · rw [hta]
                exact ih _ _ _ _ _ _ _ h2 mm hp (by cases o.dst <;> exact hd') (Rg.set (st := { st' with bl := st'.bl.set b { B' with c := c } }) ⟨hrg'.sl, hrg'.bt, by simpa using hrg'.ln⟩ ho _) hd2
      · refine .inl ⟨hw, ?_⟩
        exact ih _ _ _ _ _ _ _ h1 (m1.set (s := .x (.k undef)) (v := undef) rfl (by rintro b q t i h; cases h) o.dst) hp (by cases o.dst <;> exact hd1.trans hdn) ((hrg.congr hs1 hb1).set ho _) hden

/-! ### Its front -/
theorem runF_sound {nx : List (List Value → PH → Prop)} {k : St → Option Tree} {ops : Array Oper} {id dn B : Nat} {st0 : St} {β0 : Nat → Nat} {R : Act → World → Prop} (hB0 : w1.heap.size ≤ B)
    (hpb0 : ∀ (t b q s : Nat) (i : SV), st0.sl[t]? = some (.p b q s i) → b < st0.bl.length)
    (hk : ∀ st t ρ' β a W H, k st = some t → Mt P ⟨w1, H1, H⟩ ρ' β st a W → ρ <+: ρ' → st.d = dn → Rg st0 β0 ops st β → den P G t nx ρ' H → R a W) : ∀ (L bs : List Nat) (st : St) (t : Tree) (ρ' : List Value) (β : Nat → Nat) (a : Act) (W : World) (H : PH),
    (∀ i ∈ L, frK (kdI P st0 ops i) = true) → runL P true ops id k L st = some t → Mt P ⟨w1, H1, H⟩ ρ' β st a W → ρ <+: ρ' → st.d = dn → Rg st0 β0 ops st β → (∀ i, i < st.bl.length → β i < B ∨ β i ∈ bs) → (∀ b, H b ≠ none → b < B ∨ b ∈ bs) → den P G t nx ρ' H →
    wpF P ops (kdI P st0 ops) (fun i => β0 (tgI st0 ops i)) B R L bs a W := by
  intro L
  induction L with
  | nil => intro bs st t ρ' β a W H _ h m hp hdn hrg _ _ hd w hw; exact hk st t ρ' β a w H h (m.ext hw) hp hdn hrg hd
  | cons i L ih =>
    intro bs st t ρ' β a W H hkL h m hp hdn hrg hbs hHb hd
    have hkL' : ∀ i ∈ L, frK (kdI P st0 ops i) = true := fun j hj => hkL j (by simp [hj])
    cases ho : ops[i]? with
    | none => simp [runL, ho] at h
    | some o =>
      refine ⟨o, ho, ?_⟩
      have hkd : kdI P st0 ops i = kdT P st0 (wrOf ops) o := by simp [kdI, ho]
      have hle3 := hkL i (by simp)
      simp only [frK, Bool.or_eq_true, decide_eq_true_eq, beq_iff_eq, hkd] at hle3
      rcases guard_sound m ho h hd with ⟨hw, st1, t1, m1, hb1, hd1, hs1, h1, hden⟩ | ⟨hw, st1, t1, m1, hb1, hd1, hs1, h1, hden⟩
      · refine .inr ⟨hw, ?_⟩
        obtain ⟨st', hm, hkn, hR, hc⟩ := stepS_sound m1 h1 hden
        have m' := m1.more hm hkn
        have hd' : st'.d = dn := by rw [hm.d, hd1]; exact hdn
        have hbl : st'.bl = st.bl := hm.bl.trans hb1
        have hbs' : ∀ i, i < st'.bl.length → β i < B ∨ β i ∈ bs := by rw [hbl]; exact hbs
        have hrg1 := hrg.congr hs1 hb1
        have hrg' := hrg1.congr hm.sl hm.bl
        have hrgn := hrg'.congr (st' := { st' with n := st'.n + 1 }) rfl rfl
        simp only [hkd]
        -- what a call gives
        have after : ∀ (t2 : Tree) (v : Value) (H' : PH) (cs : List Nat) (W' : World), inSc st' = true → runL P true ops id k L (bindS st' o.dst) = some t2 → Ext W W' → H'.In W' → (∀ b, H' b ≠ none → H b ≠ none ∨ b ∈ cs) → (∀ c ∈ cs, B ≤ c ∧ c ∉ bs) → den P G t2 nx (ρ' ++ [v]) H' →
            wpF P ops (kdI P st0 ops) (fun i => β0 (tgI st0 ops i)) B R L (cs ++ bs) (a.put o.dst v) W' := fun t2 v H' cs W' hsc h2 hx hin hdom hcs hd2 => by
          have mm := ((m'.ext hx).grow (H' := H') hin (fun b hb => by
            cases e : H' (β b) with
            | none => rfl
            | some ob =>
              rcases hdom (β b) (by simp [e]) with h | h
              · exact absurd (m'.sep b hb) h
              · have := hcs _ h
                rcases hbs' b hb with h' | h'
                · omega
                · exact absurd h' this.2) (fun b hb => (hdom b hb).imp (fun h => h) (fun h => Nat.le_trans hB0 (hcs b h).1))).bind hsc v o.dst
          refine ih (cs ++ bs) _ _ _ _ _ _ _ hkL' h2 mm (hp.trans (List.prefix_append _ _)) (by cases o.dst <;> exact hd') (hrgn.set ho _) ?_ ?_ hd2
          · have : ∀ i, i < st'.bl.length → β i < B ∨ β i ∈ cs ++ bs := fun i hi => (hbs' i hi).imp (fun h => h) (fun h => by simp [h])
            cases o.dst <;> exact this
          · intro b hb
            rcases hdom b hb with h | h
            · exact (hHb b h).imp (fun h => h) (fun h => by simp [h])
            · exact .inr (by simp [h])
        have fresh : ∀ (w w' : World) (H' : PH), Step H w H' w' → ∃ cs : List Nat, (∀ c ∈ cs, w.heap.size ≤ c ∧ c < w'.heap.size) ∧ ∀ b, H' b ≠ none → H b ≠ none ∨ b ∈ cs := fun w w' H' hst => by
          refine ⟨(List.range w'.heap.size).filter fun b => decide (w.heap.size ≤ b), fun c hc => ?_, fun b hb => ?_⟩
          · simp only [List.mem_filter, List.mem_range, decide_eq_true_eq] at hc
            exact ⟨hc.2, hc.1⟩
          · rcases hst.dom b hb with h | h
            · exact .inl h
            · right
              cases e : H' b with
              | none => exact absurd e hb
              | some ob =>
                have := lt_of_get (hst.holds b ob e)
                simp only [List.mem_filter, List.mem_range, decide_eq_true_eq]
                exact ⟨this, h⟩
        rcases tag_cases (P := P) (st0 := st0) (ws := wrOf ops) o with ⟨hk0, _⟩ | ⟨b, t0, q, s, ix, htg, htn, hsl0, hcase⟩
        · rw [hk0] at hle3 ⊢
          cases hsym : (symOp P st1 o).2 with
          | val s =>
            rw [hsym] at hR hc
            obtain ⟨hptr, hle, v, hv, hrun⟩ := hR
            obtain ⟨t2, h2, hd2⟩ := hc
            have mm := m'.set hv (by rw [hm.bl]; exact hptr) o.dst
            have nxt := ih bs _ _ _ _ _ _ _ hkL' h2 mm hp (by cases o.dst <;> exact hd') (hrg'.set ho s) (by cases o.dst <;> exact hbs') hHb hd2
            by_cases h0 : kdOf P o = 0
            · exact .inl ⟨h0, v, fun w => hrun w (.inl h0), nxt⟩
            · exact .inr (.inl ⟨by omega, v, fun w hw => hrun w (.inr (.inl hw)), nxt⟩)
          | new c T n =>
            rw [hsym] at hR hc
            obtain ⟨h3, hsz, hone, hrun⟩ := hR
            refine .inr (.inr (.inr (.inl ⟨h3, fun b => .pointer (some ⟨b, 0, none⟩), _, hrun, fun b W' hx hob hnb hBb => ?_⟩)))
            have hH : H b = none := by
              cases e : H b with
              | none => rfl
              | some ob =>
                rcases hHb b (by simp [e]) with h | h
                · omega
                · exact absurd h hnb
            rcases hc with ⟨t2, _, hsc, h2, hd2⟩ | ⟨t2, h2, hd2⟩
            · exact after t2 (.pointer (some ⟨b, 0, none⟩)) (H.put b (.cells (D P ρ' c).cells T (0, 0))) [b] W' hsc h2 hx (PH.put_in (m'.fr.holds.ext hx) hob) (fun b' hb' => by
                unfold PH.put at hb'; split at hb'
                · rename_i e; exact .inr (by simp [e])
                · exact .inl hb') (fun c hc => by simp only [List.mem_cons, List.not_mem_nil, or_false] at hc; subst hc; exact ⟨hBb, hnb⟩) (hd2 b hH)
            · have mm := m'.newB hx (b := b) hob hsz hone (fun i hi e => by
                rcases hbs' i hi with h | h
                · omega
                · rw [e] at h; exact hnb h) (Nat.le_trans hB0 hBb) hH o.dst
              refine ih (b :: bs) _ _ _ _ _ _ _ hkL' h2 mm hp (by cases o.dst <;> exact hd') ?_ ?_ (fun b' hb' => (hHb b' hb').imp (fun h => h) (fun h => by simp [h])) hd2
              · refine Rg.set (st := { st' with bl := st'.bl ++ [Blk.mk c T n] }) ⟨hrg'.sl, fun b hb => ?_, by simp; have := hrg'.ln; omega⟩ ho _
                rw [if_neg (by have := hrg'.ln; omega)]; exact hrg'.bt b hb
              · have : ∀ i, i < (st'.bl ++ [Blk.mk c T n]).length → (if i = st'.bl.length then b else β i) < B ∨ (if i = st'.bl.length then b else β i) ∈ b :: bs := fun i hi => by
                  split
                  · exact .inr (by simp)
                  · rename_i hne
                    simp only [List.length_append, List.length_cons, List.length_nil] at hi
                    exact (hbs' i (by omega)).imp (fun h => h) (fun h => by simp [h])
                cases o.dst <;> exact this
          | sto b c =>
            rw [hsym] at hR
            obtain ⟨h4, _⟩ := hR
            omega
          | call f args =>
            rw [hsym] at hR hc
            obtain ⟨h4, hrun⟩ := hR
            obtain ⟨t2, hsc, h2, hcall⟩ := hc
            refine .inr (.inr (.inl ⟨h4, fun v cs W' => ∃ H', H'.In W' ∧ (∀ b, H' b ≠ none → H b ≠ none ∨ b ∈ cs) ∧ den P G t2 nx (ρ' ++ [v]) H', fun w hw => ?_, fun v cs W' hx ⟨H', hin, hdom, hd2⟩ hcs => after t2 v H' cs W' hsc h2 hx hin hdom hcs hd2⟩))
            unfold Stp; rw [hrun w]
            refine (hcall w (m'.fr.holds.ext hw)).mono fun e w' ⟨v, H', he, hst, hle, hd2⟩ => ⟨v, he, hst.toExt (m'.fr.holds.ext hw) (hle rfl), ?_⟩
            obtain ⟨cs, hcs, hdom⟩ := fresh w w' H' hst
            exact ⟨cs, hcs, H', hst.holds, hdom, hd2⟩
          | prim args =>
            rw [hsym] at hR hc
            obtain ⟨h4, hrun⟩ := hR
            obtain ⟨t2, v, hsc, h2, hv, hd2⟩ := hc
            exact .inr (.inl ⟨h4, v, fun w hw => by rw [hrun]; exact hv w (m'.fr.holds.ext hw), ih bs _ _ _ _ _ _ _ hkL' h2 (m'.bind hsc v o.dst) (hp.trans (List.prefix_append _ _)) (by cases o.dst <;> exact hd') (hrgn.set ho _) (by cases o.dst <;> exact hbs') hHb hd2⟩)
          | eff args =>
            rw [hsym] at hR hc
            obtain ⟨h4, hrun⟩ := hR
            obtain ⟨t2, hsc, h2, hcall⟩ := hc
            refine .inr (.inr (.inl ⟨by omega, fun v cs W' => ∃ H', H'.In W' ∧ (∀ b, H' b ≠ none → H b ≠ none ∨ b ∈ cs) ∧ den P G t2 nx (ρ' ++ [v]) H', fun w hw => ?_, fun v cs W' hx ⟨H', hin, hdom, hd2⟩ hcs => after t2 v H' cs W' hsc h2 hx hin hdom hcs hd2⟩))
            refine Stp.cg hrun <| Stp.mono (hcall w (m'.fr.holds.ext hw)) fun v w' ⟨H', hst, hle, hd2⟩ => ⟨hst.toExt (m'.fr.holds.ext hw) (hle rfl), ?_⟩
            obtain ⟨cs, hcs, hdom⟩ := fresh w w' H' hst
            exact ⟨cs, hcs, H', hst.holds, hdom, hd2⟩
          | ext f args =>
            rw [hsym] at hR hc
            obtain ⟨h4, hrun⟩ := hR
            obtain ⟨t2, v, hsc, h2, hv, hd2⟩ := hc
            refine .inr (.inr (.inl ⟨h4, fun u cs W' => u = v ∧ cs = [] , fun w hw => ?_, fun u cs W' hx hV hcs => ?_⟩))
            · unfold Stp; rw [hrun, hv w (m'.fr.holds.ext hw)]; exact ⟨Ext.refl _, [], by simp, rfl, rfl⟩
            · obtain ⟨rfl, rfl⟩ := hV
              exact after t2 u H [] W' hsc h2 hx (m'.fr.holds.ext hx) (fun b hb => .inl hb) hcs hd2
          | bad => rw [hsym] at hc; exact hc.elim
        · have hta : β0 (tgI st0 ops i) = β b := by
            have : tgI st0 ops i = b := by simp [tgI, ho, htg]
            rw [this, hrg1.bt b (hpb0 _ _ _ _ _ hsl0)]
          have hget : st1.get (.tmp t0) = some (.p b q s ix) := by
            show st1.sl[t0]? = _
            rw [hrg1.sl t0 htn]; exact hsl0
          have hblt := m1.ptrB hget
          rcases hcase with ⟨T, hop, hk5⟩ | ⟨T, y, hop, hk6⟩
          · rw [hk5]
            have e : (symOp P st1 o) = sLoad P st1 T (.tmp t0) := by simp [symOp, hop]
            rcases load_res (P := P) (T := T) hget with hb | ⟨s', hb⟩
            · rw [e, hb] at hc; exact hc.elim
            · rw [e, hb] at hc hR
              obtain ⟨hptr, hle, v, hv, hrun⟩ := hR
              obtain ⟨t2, h2, hd2⟩ := hc
              have mm := m'.set hv (by rw [hm.bl]; exact hptr) o.dst
              have nxt := ih bs _ _ _ _ _ _ _ hkL' h2 mm hp (by cases o.dst <;> exact hd') (hrg'.set ho s') (by cases o.dst <;> exact hbs') hHb hd2
              obtain ⟨Bk, hBk⟩ : ∃ B, st1.bl[b]? = some B := ⟨_, List.getElem?_eq_getElem hblt⟩
              refine .inr (.inr (.inr (.inr ⟨rfl, v, _, by rw [hta]; exact (m1.bl b Bk hBk).1, fun w hw => hrun w (.inr (.inr ⟨T, .tmp t0, b, q, s, ix, hop, hget, ?_⟩)), nxt⟩)))
              rw [hta] at hw; rw [hw, (m1.bl b Bk hBk).1]
          · omega
      · refine .inl ⟨hw, ?_⟩
        exact ih bs _ _ _ _ _ _ _ hkL' h1 (m1.set (s := .x (.k undef)) (v := undef) rfl (by rintro b q t i h; cases h) o.dst) hp (by cases o.dst <;> exact hd1.trans hdn) ((hrg.congr hs1 hb1).set ho _) (by cases o.dst <;> (simp only [St.set]; rw [hb1]; exact hbs)) hHb hden
end
end Go.RX

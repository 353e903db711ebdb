/- Soundness of the executor: code, loops, functions. -/
import Derived.Test.YtcleogdmobdnpacGreatRDoorRxG
import Derived.Deep.LoopGhost
import Derived.Scope
namespace Go.RX
open Go.RowKit

theorem t4_spec (b : Bool) (k : Nat) : (k = 0 ↔ t4 b k = 0) ∧ (k = 5 ↔ t4 b k = 5) ∧ (k = 6 ↔ t4 b k = 6) := by
  unfold t4
  split
  · split <;> omega
  · omega
theorem t4_nine (b : Bool) : t4 b 9 = 9 := by cases b <;> rfl
theorem kdE_front {P : Program} {st : St} {ops : Array Oper} {F T : List Nat} (h : (F.all fun i => !T.contains i) = true) {i : Nat} (hi : i ∈ F) : kdE P st ops T i = kdI P st ops i := by
  have := List.all_eq_true.1 h i hi
  have h2 : T.contains i = false := by simpa using this
  unfold kdE; rw [h2]; rfl
theorem wpT_congr {P : Program} {ops : Array Oper} {kd kd' ta : Nat → Nat} {Q : Act → World → Prop} (h : ∀ i, (kd i = 0 ↔ kd' i = 0) ∧ (kd i = 5 ↔ kd' i = 5) ∧ (kd i = 6 ↔ kd' i = 6)) : ∀ (L : List Nat) (a : Act) (w : World), wpT P ops kd ta Q L a w → wpT P ops kd' ta Q L a w := by
  intro L
  induction L with
  | nil => intro a w h; exact h
  | cons i L ih =>
    intro a w hw
    obtain ⟨o, ho, hw⟩ := hw
    obtain ⟨e0, e5, e6⟩ := h i
    refine ⟨o, ho, ?_⟩
    rcases hw with ⟨hn, hw⟩ | ⟨hn, hw⟩
    · exact .inl ⟨hn, ih _ _ hw⟩
    · refine .inr ⟨hn, ?_⟩
      rcases hw with ⟨h0, v, hv, hw⟩ | ⟨h0, v, ob, hb, hv, hw⟩ | ⟨h0, ob, cs, hb, hv, hw⟩ | ⟨h0, h5, h6, hw⟩
      · exact .inl ⟨e0.1 h0, v, hv, ih _ _ hw⟩
      · exact .inr (.inl ⟨e5.1 h0, v, ob, hb, hv, ih _ _ hw⟩)
      · exact .inr (.inr (.inl ⟨e6.1 h0, ob, cs, hb, hv, ih _ _ hw⟩))
      · exact .inr (.inr (.inr ⟨fun e => h0 (e0.2 e), fun e => h5 (e5.2 e), fun e => h6 (e6.2 e), hw.mono fun v w' hh => ih _ _ hh⟩))
theorem wpF_congr {P : Program} {ops : Array Oper} {kd kd' ta : Nat → Nat} {B : Nat} {T : Act → World → Prop} : ∀ (L bs : List Nat) (a : Act) (W : World), (∀ i ∈ L, kd i = kd' i) → wpF P ops kd ta B T L bs a W → wpF P ops kd' ta B T L bs a W := by
  intro L
  induction L with
  | nil => intro bs a W _ h; exact h
  | cons i L ih =>
    intro bs a W hk h
    obtain ⟨o, ho, h⟩ := h
    have e := hk i (by simp)
    have hk' : ∀ i ∈ L, kd i = kd' i := fun x hx => hk x (by simp [hx])
    refine ⟨o, ho, ?_⟩
    rcases h with ⟨hn, h⟩ | ⟨hn, h⟩
    · exact .inl ⟨hn, ih _ _ _ hk' h⟩
    · refine .inr ⟨hn, ?_⟩
      rcases h with ⟨h0, v, hv, h⟩ | ⟨h0, v, hv, h⟩ | ⟨h0, V, hc, h⟩ | ⟨h0, mk, ob, hr, h⟩ | ⟨h0, v, ob, hb, hv, h⟩
      · exact .inl ⟨e ▸ h0, v, hv, ih _ _ _ hk' h⟩
      · exact .inr (.inl ⟨e ▸ h0, v, hv, ih _ _ _ hk' h⟩)
      · exact .inr (.inr (.inl ⟨e ▸ h0, V, hc, fun v cs W2 hW2 hV hcs => ih _ _ _ hk' (h v cs W2 hW2 hV hcs)⟩))
      · exact .inr (.inr (.inr (.inl ⟨e ▸ h0, mk, ob, hr, fun b W2 hW2 hob hnb hB => ih _ _ _ hk' (h b W2 hW2 hob hnb hB)⟩)))
      · exact .inr (.inr (.inr (.inr ⟨e ▸ h0, v, ob, hb, hv, ih _ _ _ hk' h⟩)))

theorem havocS_len : ∀ (lv : List Nat) (n : Nat) (sl : List SL), (havocS lv n sl).length = sl.length := by
  intro lv
  induction lv with
  | nil => intro n sl; rfl
  | cons t ts ih => intro n sl; simp only [havocS, ih, List.length_set]
theorem havocS_out : ∀ (lv : List Nat) (n : Nat) (sl : List SL) (u : Nat), u ∉ lv → (havocS lv n sl)[u]? = sl[u]? := by
  intro lv
  induction lv with
  | nil => intro n sl u _; rfl
  | cons t ts ih =>
    intro n sl u hu
    simp only [List.mem_cons, not_or] at hu
    simp only [havocS, ih _ _ _ hu.2, List.getElem?_set]
    rw [if_neg (fun e => hu.1 e.symm)]
theorem havocS_in : ∀ (lv : List Nat) (n : Nat) (sl : List SL) (k u : Nat), lv.Nodup → lv[k]? = some u → u < sl.length → (havocS lv n sl)[u]? = some (.x (.v (n + k))) := by
  intro lv
  induction lv with
  | nil => intro n sl k u _ h; simp at h
  | cons t ts ih =>
    intro n sl k u hnd h hlt
    rw [List.nodup_cons] at hnd
    cases k with
    | zero =>
      simp at h; subst h
      simp only [havocS, havocS_out _ _ _ _ hnd.1, List.getElem?_set, hlt, if_true, Nat.add_zero]
    | succ k =>
      simp at h
      simp only [havocS]
      rw [ih (n + 1) _ k u hnd.2 h (by simpa using hlt)]
      congr 3; omega
theorem setAll_len (s : SL) : ∀ (ts : List Nat) (sl : List SL), (setAll sl ts s).length = sl.length := by
  intro ts
  induction ts with
  | nil => intro sl; rfl
  | cons t ts ih => intro sl; simp only [setAll, List.foldl_cons] at ih ⊢; rw [ih]; simp
theorem setAll_out (s : SL) (u : Nat) : ∀ (ts : List Nat) (sl : List SL), u ∉ ts → (setAll sl ts s)[u]? = sl[u]? := by
  intro ts
  induction ts with
  | nil => intro sl _; rfl
  | cons t ts ih =>
    intro sl hu
    simp only [List.mem_cons, not_or] at hu
    simp only [setAll, List.foldl_cons] at ih ⊢
    rw [ih _ hu.2, List.getElem?_set, if_neg (fun e => hu.1 e.symm)]
theorem setAll_in (s : SL) (u : Nat) : ∀ (ts : List Nat) (sl : List SL), u ∈ ts → u < sl.length → (setAll sl ts s)[u]? = some s := by
  intro ts
  induction ts with
  | nil => intro sl h; cases h
  | cons t ts ih =>
    intro sl hu hlt
    by_cases h : u ∈ ts
    · simp only [setAll, List.foldl_cons] at ih ⊢
      exact ih _ h (by simpa using hlt)
    · have e : u = t := (List.mem_cons.1 hu).resolve_right h
      subst e
      have := setAll_out s u ts (sl.set u s) h
      simp only [setAll, List.foldl_cons] at this ⊢
      rw [this]; simp [hlt]
theorem dedup_mem {x : Nat} : ∀ {l : List Nat}, x ∈ dedup l ↔ x ∈ l := by
  intro l
  induction l with
  | nil => simp [dedup]
  | cons y l ih =>
    simp only [dedup]
    split
    · rename_i h
      rw [List.contains_iff_mem] at h
      rw [ih, List.mem_cons]
      exact ⟨.inr, fun e => e.elim (fun e => by rw [e]; exact h) (fun e => e)⟩
    · rw [List.mem_cons, List.mem_cons, ih]
theorem dedup_nodup : ∀ (l : List Nat), (dedup l).Nodup := by
  intro l
  induction l with
  | nil => exact List.nodup_nil
  | cons y l ih =>
    simp only [dedup]
    split
    · exact ih
    · rename_i h
      rw [List.contains_iff_mem] at h
      exact List.nodup_cons.2 ⟨fun e => h (dedup_mem.1 e), ih⟩
theorem havocB_len (bs : List Nat) (n : Nat) : ∀ (bl : List Blk) (i : Nat), (havocB bs n bl i).length = bl.length := by
  intro bl
  induction bl with
  | nil => intro i; rfl
  | cons b bl ih => intro i; simp only [havocB, List.length_cons, ih]
theorem havocB_get (bs : List Nat) (n : Nat) : ∀ (bl : List Blk) (i j : Nat) (B' : Blk), (havocB bs n bl i)[j]? = some B' → ∃ B, bl[j]? = some B ∧ B' = (match posOf (i + j) bs 0 with | some k => { B with c := .v (n + k) } | none => B) := by
  intro bl
  induction bl with
  | nil => intro i j B' h; simp [havocB] at h
  | cons b bl ih =>
    intro i j B' h
    simp only [havocB] at h
    cases j with
    | zero => simp only [List.getElem?_cons_zero, Option.some.injEq] at h; exact ⟨b, rfl, h.symm⟩
    | succ j =>
      simp only [List.getElem?_cons_succ] at h
      obtain ⟨B, hB, he⟩ := ih (i + 1) j B' h
      exact ⟨B, hB, by rw [he, show i + 1 + j = i + (j + 1) from by omega]⟩
theorem posOf_some {i : Nat} : ∀ {bs : List Nat} {j k : Nat}, posOf i bs j = some k → ∃ k', k = j + k' ∧ bs[k']? = some i := by
  intro bs
  induction bs with
  | nil => intro j k h; simp [posOf] at h
  | cons x l ih =>
    intro j k h
    simp only [posOf] at h
    split at h
    · rename_i e
      simp only [Option.some.injEq] at h
      exact ⟨0, by omega, by simpa using e⟩
    · obtain ⟨k', h1, h2⟩ := ih h
      exact ⟨k' + 1, by omega, by simpa using h2⟩
theorem posOf_none {i : Nat} : ∀ {bs : List Nat} {j : Nat}, posOf i bs j = none → bs.contains i = false := by
  intro bs
  induction bs with
  | nil => intro j _; rfl
  | cons x l ih =>
    intro j h
    simp only [posOf] at h
    split at h
    · cases h
    · rename_i e
      simp only [List.contains_cons, ih h, Bool.or_false]
      simp at e ⊢
      exact fun e' => e e'.symm
theorem posOf_get {i : Nat} : ∀ {bs : List Nat} {j k : Nat}, bs.Nodup → bs[k]? = some i → posOf i bs j = some (j + k) := by
  intro bs
  induction bs with
  | nil => intro j k _ h; simp at h
  | cons x l ih =>
    intro j k hn h
    rw [List.nodup_cons] at hn
    cases k with
    | zero => simp only [List.getElem?_cons_zero, Option.some.injEq] at h; subst h; simp [posOf]
    | succ k =>
      simp only [List.getElem?_cons_succ] at h
      have hm := List.mem_of_getElem? h
      have hne : ¬ x = i := fun e => hn.1 (e ▸ hm)
      simp only [posOf, beq_iff_eq, hne, if_false, ih hn.2 h]
      congr 1; omega
theorem nodB_spec : ∀ {l : List Nat}, nodB l = true → l.Nodup := by
  intro l
  induction l with
  | nil => intro _; exact List.nodup_nil
  | cons x l ih =>
    intro h
    simp only [nodB, Bool.and_eq_true, Bool.not_eq_true', List.contains_eq_mem, decide_eq_false_iff_not] at h
    exact List.nodup_cons.2 ⟨h.1, ih h.2⟩
theorem cAt_get {bl : List Blk} : ∀ {bs : List Nat} {ib : List SV}, cAt bl bs = some ib → ib.length = bs.length ∧ ∀ (k i : Nat), bs[k]? = some i → ∃ B, bl[i]? = some B ∧ ib[k]? = some B.c := by
  intro bs
  induction bs with
  | nil => intro ib h; simp only [cAt, Option.some.injEq] at h; subst h; exact ⟨rfl, fun k i h => by simp at h⟩
  | cons i bs ih =>
    intro ib h
    simp only [cAt] at h
    split at h
    · rename_i B l hB hl
      simp only [Option.some.injEq] at h; subst h
      obtain ⟨h1, h2⟩ := ih hl
      refine ⟨by simp [h1], fun k u hk => ?_⟩
      cases k with
      | zero => simp only [List.getElem?_cons_zero, Option.some.injEq] at hk; subst hk; exact ⟨B, hB, rfl⟩
      | succ k => simp only [List.getElem?_cons_succ] at hk ⊢; exact h2 k u hk
    · cases h
theorem cFacts_mem {bl : List Blk} : ∀ {bs : List Nat} {n : Nat} {r : Rq}, r ∈ cFacts bl bs n → ∃ k i B, bs[k]? = some i ∧ bl[i]? = some B ∧ r = .cells B.n (.v (n + k)) := by
  intro bs
  induction bs with
  | nil => intro n r h; simp [cFacts] at h
  | cons i bs ih =>
    intro n r h
    simp only [cFacts, List.mem_append] at h
    rcases h with h | h
    · split at h
      · rename_i B hB
        simp only [List.mem_cons, List.not_mem_nil, or_false] at h
        exact ⟨0, i, B, rfl, hB, h⟩
      · cases h
    · obtain ⟨k, u, B, h1, h2, h3⟩ := ih h
      exact ⟨k + 1, u, B, h1, h2, by rw [h3]; congr 2; omega⟩

theorem valsAt_get {sl : List SL} : ∀ {lv : List Nat} {iv : List SV}, valsAt sl lv = some iv → iv.length = lv.length ∧ ∀ (k t : Nat), lv[k]? = some t → ∃ s, sl[t]? = some (.x s) ∧ iv[k]? = some s := by
  intro lv
  induction lv with
  | nil => intro iv h; simp [valsAt] at h; subst h; exact ⟨rfl, fun k t h => by simp at h⟩
  | cons t ts ih =>
    intro iv h
    simp only [valsAt] at h
    split at h
    · rename_i s l hs hl
      simp only [Option.some.injEq] at h; subst h
      obtain ⟨h1, h2⟩ := ih hl
      refine ⟨by simp [h1], fun k u hk => ?_⟩
      cases k with
      | zero =>
        simp at hk; subst hk
        refine ⟨s, ?_, rfl⟩
        unfold valAt at hs
        split at hs
        · rename_i s' hs'; simp only [Option.some.injEq] at hs; subst hs; exact hs'
        · cases hs
      | succ k => simp at hk; simpa using h2 k u hk
    · cases h

section
variable {P : Program} {G : Value → PH → Prop} {w0 : Cx} {ρ : List Value} {β : Nat → Nat} {st : St} {a : Act} {W : World}

theorem head_mt {lv dd bs : List Nat} {δ : Nat} (hsc : inSc st = true) (hn : ρ.length = st.n) (hkn : ∀ r ∈ st.kn, r.holds P ρ) (hkb : ∀ p ∈ st.kb, D P ρ p.1 = .bool p.2)
    {vals : List Value} (hv : vals.length = lv.length + bs.length) (sz : a.tmps.size = st.sl.length) (df : a.defers = [])
    (hpb : ∀ (t b o s : Nat) (i : SV), st.sl[t]? = some (.p b o s i) → b < st.bl.length) (hnd : lv.Nodup) (hbd : bs.Nodup)
    (h1 : ∀ (t : Nat) (s : SL), t ∉ lv → t ∉ dd → st.sl[t]? = some s → ∃ v, a.tmps[t]? = some v ∧ ML P ρ β s v)
    (h2 : ∀ (k t : Nat), lv[k]? = some t → a.tmps[t]? = some (vals.getD k undef))
    (hb : ∀ (i : Nat) (B : Blk), st.bl[i]? = some B → W.heap[β i]? = some (.cells (match posOf i bs 0 with | some k => vals.getD (lv.length + k) undef | none => D P ρ B.c).cells B.T (0, 0)) ∧ (match posOf i bs 0 with | some k => vals.getD (lv.length + k) undef | none => D P ρ B.c).cells.size = B.n ∧ oneAll (match posOf i bs 0 with | some k => vals.getD (lv.length + k) undef | none => D P ρ B.c).cells)
    (inj : ∀ b b', b < st.bl.length → b' < st.bl.length → β b = β b' → b = b') (own : ∀ b, b < st.bl.length → w0.w.heap.size ≤ β b) (sep : ∀ b, b < st.bl.length → w0.H (β b) = none) (fr : Step w0.H0 w0.w w0.H W) :
    Mt P w0 (ρ ++ vals) β (headG st lv dd bs δ) a W := by
  have hsc' := hsc
  unfold inSc at hsc'
  simp only [Bool.and_eq_true, List.all_eq_true] at hsc'
  obtain ⟨⟨⟨c1, c2⟩, c3⟩, c4⟩ := hsc'
  rw [← hn] at c1 c2 c3 c4
  have hbl : (headG st lv dd bs δ).bl.length = st.bl.length := havocB_len _ _ _ _
  have hvar : ∀ k, D P (ρ ++ vals) (.v (st.n + k)) = vals.getD k undef := fun k => by
    simp only [D, ← hn, List.getD_eq_getElem?_getD]
    rw [List.getElem?_append_right (by omega), Nat.add_sub_cancel_left]
  have lk : ∀ (u : Nat) (s : SL), (headG st lv dd bs δ).sl[u]? = some s → s = .u ∨ (∃ k, lv[k]? = some u ∧ s = .x (.v (st.n + k))) ∨ (u ∉ lv ∧ u ∉ dd ∧ st.sl[u]? = some s) := by
    intro u s hs
    simp only [headG] at hs
    by_cases hd : u ∈ dd
    · have hlt : u < st.sl.length := by
        have := (List.getElem?_eq_some_iff.1 hs).1
        rwa [setAll_len, havocS_len] at this
      rw [setAll_in _ _ _ _ hd (by rw [havocS_len]; exact hlt)] at hs
      simp only [Option.some.injEq] at hs
      exact .inl hs.symm
    · rw [setAll_out _ _ _ _ hd] at hs
      by_cases hl : u ∈ lv
      · obtain ⟨k, hk⟩ := List.getElem?_of_mem hl
        have hlt : u < st.sl.length := by
          have := (List.getElem?_eq_some_iff.1 hs).1
          rwa [havocS_len] at this
        rw [havocS_in _ _ _ k u hnd hk hlt] at hs
        simp only [Option.some.injEq] at hs
        exact .inr (.inl ⟨k, hk, hs.symm⟩)
      · rw [havocS_out _ _ _ _ hl] at hs
        exact .inr (.inr ⟨hl, hd, hs⟩)
  have hslen : (headG st lv dd bs δ).sl.length = st.sl.length := by simp only [headG]; rw [setAll_len, havocS_len]
  refine { sz := by rw [hslen]; exact sz, sl := ?_, pb := ?_, df := df, n := ?_, bl := ?_, inj := ?_, own := ?_, sep := ?_, fr := fr, kn := ?_, kb := ?_ }
  · intro u s hs
    rcases lk u s hs with rfl | ⟨k, hk, rfl⟩ | ⟨hl, hd, hs'⟩
    · have hlt : u < a.tmps.size := by
        rw [sz, ← hslen]; exact (List.getElem?_eq_some_iff.1 hs).1
      exact ⟨a.tmps[u], by simp [hlt], trivial⟩
    · exact ⟨_, h2 k u hk, (hvar k).symm⟩
    · obtain ⟨v, hv', hm'⟩ := h1 u s hl hd hs'
      refine ⟨v, hv', ?_⟩
      have hl := c1 s (List.mem_of_getElem? hs')
      cases s with
      | x s => simp only [ML, SL.lt] at hm' hl ⊢; rw [D_append P ρ vals s hl]; exact hm'
      | p b o s i => simp only [ML, SL.lt] at hm' hl ⊢; rw [D_append P ρ vals i hl]; exact hm'
      | u => trivial
  · intro u b' o s i hs
    rw [hbl]
    rcases lk u _ hs with h | ⟨k, hk, h⟩ | ⟨_, _, hs'⟩
    · cases h
    · cases h
    · exact hpb u b' o s i hs'
  · simp only [headG, List.length_append, hv, hn]; omega
  · intro i B hB
    obtain ⟨B0, hB0, rfl⟩ := havocB_get _ _ _ _ _ _ hB
    rw [Nat.zero_add]
    have := hb i B0 hB0
    cases hp : posOf i bs 0 with
    | some k =>
      simp only [hp] at this ⊢
      have e : D P (ρ ++ vals) (.v (st.n + lv.length + k)) = vals.getD (lv.length + k) undef := by rw [Nat.add_assoc]; exact hvar _
      rw [e]; exact this
    | none =>
      simp only [hp] at this ⊢
      rw [D_append P ρ vals B0.c (c2 B0 (List.mem_of_getElem? hB0))]; exact this
  · rw [hbl]; exact inj
  · rw [hbl]; exact own
  · rw [hbl]; exact sep
  · intro r hr
    simp only [headG, List.mem_append] at hr
    rcases hr with hr | hr
    · obtain ⟨k, i, B, h1, h2, rfl⟩ := cFacts_mem hr
      have := hb i B h2
      rw [posOf_get hbd h1, Nat.zero_add] at this
      simp only at this
      have e : D P (ρ ++ vals) (.v (st.n + lv.length + k)) = vals.getD (lv.length + k) undef := by rw [Nat.add_assoc]; exact hvar _
      simp only [Rq.holds, e]; exact this.2
    · exact (holds_append P ρ vals r (c3 r hr)).2 (hkn r hr)
  · intro p hp
    rw [D_append P ρ vals p.1 (c4 p hp)]
    exact hkb p hp

theorem takeWhile_all {p : Nat → Bool} : ∀ {l : List Nat} {x : Nat}, x ∈ l.takeWhile p → p x = true := by
  intro l
  induction l with
  | nil => intro x h; simp at h
  | cons y l ih =>
    intro x h
    simp only [List.takeWhile_cons] at h
    split at h
    · rename_i hy
      rcases List.mem_cons.1 h with rfl | h
      · exact hy
      · exact ih h
    · cases h

theorem sameBut_len {ws : List Nat} {x y : List SL} (h : sameBut ws x y = true) : x.length = y.length := by
  unfold sameBut at h
  rw [Bool.and_eq_true, beq_iff_eq] at h
  exact h.1
theorem sameBut_spec {ws : List Nat} {x y : List SL} (h : sameBut ws x y = true) {t : Nat} (ht : t ∉ ws) {s : SL} (hs : x[t]? = some s) : ∃ s', y[t]? = some s' ∧ (s = s' ∨ s = .u) := by
  unfold sameBut at h
  rw [Bool.and_eq_true] at h
  have h := h.2
  rw [List.all_eq_true] at h
  have hlt := (List.getElem?_eq_some_iff.1 hs).1
  have h1 := h t (List.mem_range.2 hlt)
  rw [Bool.or_eq_true, List.contains_iff_mem] at h1
  have h1 := h1.resolve_left ht
  simp only [hs] at h1
  cases hy : y[t]? with
  | none => simp [hy] at h1
  | some s' => simp only [hy] at h1; exact ⟨s', rfl, SL.beq_sound h1⟩
theorem sameBl_spec {bs : List Nat} : ∀ {x y : List Blk} {j : Nat}, sameBl bs x y j = true → x.length ≤ y.length ∧ ∀ (i : Nat) (B : Blk), x[i]? = some B → ∃ B', y[i]? = some B' ∧ B'.T = B.T ∧ B'.n = B.n ∧ (bs.contains (j + i) = false → B'.c = B.c) := by
  intro x
  induction x with
  | nil => intro y j _; exact ⟨by simp, fun i B h => by simp at h⟩
  | cons b x ih =>
    intro y j h
    cases y with
    | nil => simp [sameBl] at h
    | cons c y =>
      simp only [sameBl, Bool.and_eq_true, beq_iff_eq, Bool.or_eq_true] at h
      obtain ⟨⟨⟨h1, h2⟩, h3⟩, h4⟩ := h
      obtain ⟨k1, k2⟩ := ih h4
      refine ⟨by simp; exact k1, fun i B hB => ?_⟩
      cases i with
      | zero =>
        simp only [List.getElem?_cons_zero, Option.some.injEq] at hB; subst hB
        refine ⟨c, rfl, h1.symm, h2.symm, fun hc => ?_⟩
        rcases h3 with h3 | h3
        · rw [Nat.add_zero, h3] at hc; cases hc
        · exact (SV.beq_sound h3).symm
      | succ i =>
        simp only [List.getElem?_cons_succ] at hB ⊢
        obtain ⟨B', q1, q2, q3, q4⟩ := k2 i B hB
        exact ⟨B', q1, q2, q3, fun hc => q4 (by rw [show j + 1 + i = j + (i + 1) from by omega]; exact hc)⟩

/-- Where ways meet. -/
theorem meet_mt {c0 : Cx} {β2 : Nat → Nat} {st2 : St} {a2 : Act} {W2 : World} {r : List Value} {b : Code} {lv dd bs : List Nat} {δ : Nat} {nv nb : List SV} (hsc : inSc st = true) (m : Mt P c0 ρ β st a W) (m2 : Mt P w0 (ρ ++ r) β2 st2 a2 W2) (hlv : lv.Nodup) (hbs : bs.Nodup) (hcov : ∀ u, u ∈ wsOf b → u < st.sl.length → u ∈ lv ∨ u ∈ dd)
    (hnv : valsAt st2.sl lv = some nv) (hnb : cAt st2.bl bs = some nb) (hs1 : sameBut (wsOf b) st.sl st2.sl = true) (hs2 : sameBl bs st.bl st2.bl 0 = true) : Mt P w0 (ρ ++ (nv ++ nb).map (D P (ρ ++ r))) β2 (headG st lv dd bs δ) a2 W2 := by
  have hsc' := hsc
  unfold inSc at hsc'
  simp only [Bool.and_eq_true, List.all_eq_true] at hsc'
  obtain ⟨⟨⟨c1, c2⟩, c3⟩, c4⟩ := hsc'
  rw [← m.n] at c1 c2 c3 c4
  obtain ⟨k1, k2⟩ := valsAt_get hnv
  obtain ⟨k3, k4⟩ := cAt_get hnb
  obtain ⟨s1, s2⟩ := sameBl_spec hs2
  have gl : ∀ (l : List SV) (ρ' : List Value) (j : Nat) (s : SV), l[j]? = some s → (l.map (D P ρ')).getD j undef = D P ρ' s := fun l ρ' j s hj => by
    simp [List.getD_eq_getElem?_getD, hj]
  have hszl : st2.sl.length = st.sl.length := (sameBut_len hs1).symm
  refine head_mt hsc m.n m.kn m.kb (by rw [List.length_map, List.length_append, k1, k3]) (by rw [m2.sz, hszl]) m2.df m.pb hlv hbs (fun u s hl hd hs => ?_) (fun k' u hk' => ?_) (fun i B hB => ?_) ?_ ?_ ?_ m2.fr
  · have hu : u ∉ wsOf b := fun h => (hcov u h (List.getElem?_eq_some_iff.1 hs).1).elim hl hd
    obtain ⟨s', hs', hor⟩ := sameBut_spec hs1 hu hs
    obtain ⟨v, hv, hmv⟩ := m2.sl u s' hs'
    refine ⟨v, hv, ?_⟩
    rcases hor with rfl | rfl
    · have hl := c1 s (List.mem_of_getElem? hs)
      cases s with
      | x s => simp only [ML, SL.lt] at hmv hl ⊢; rw [D_append P ρ r s hl] at hmv; exact hmv
      | p b o s i => simp only [ML, SL.lt] at hmv hl ⊢; rw [D_append P ρ r i hl] at hmv; exact hmv
      | u => trivial
    · trivial
  · obtain ⟨s, hs, hk2⟩ := k2 k' u hk'
    obtain ⟨v, hv, hmv⟩ := m2.sl u _ hs
    rw [hv]
    congr 1
    rw [gl _ _ k' s]
    · exact hmv
    · rw [List.getElem?_append_left (List.getElem?_eq_some_iff.1 hk2).1]; exact hk2
  · obtain ⟨B', hB', hT, hn', hc⟩ := s2 i B hB
    have g := m2.bl i B' hB'
    rw [hT, hn'] at g
    cases hp : posOf i bs 0 with
    | some k =>
      obtain ⟨k', rfl, hk'⟩ := posOf_some hp
      obtain ⟨B2, hB2, hq⟩ := k4 k' i hk'
      obtain rfl : B2 = B' := Option.some.inj (hB2.symm.trans hB')
      have e : ((nv ++ nb).map (D P (ρ ++ r))).getD (lv.length + (0 + k')) undef = D P (ρ ++ r) B2.c := gl _ _ _ _ (by
        rw [List.getElem?_append_right (by omega), k1, Nat.zero_add, Nat.add_sub_cancel_left]; exact hq)
      simp only [e]; exact g
    | none =>
      simp only
      rw [hc (by rw [Nat.zero_add]; exact posOf_none hp), D_append P ρ r B.c (c2 B (List.mem_of_getElem? hB))] at g
      exact g
  · intro i j hi hj; exact m2.inj i j (by omega) (by omega)
  · intro i hi; exact m2.own i (by omega)
  · intro i hi; exact m2.sep i (by omega)

theorem prefix_getD {nx nx' : List (List Value → PH → Prop)} (h : nx <+: nx') {d : Nat} (hd : d < nx.length) : nx'.getD d (fun _ _ => False) = nx.getD d fun _ _ => False := by
  obtain ⟨r, rfl⟩ := h
  simp [List.getD_eq_getElem?_getD, List.getElem?_append_left hd]

/-- What is said of a way to execute a piece of code. -/
def SndC (P : Program) (G : Value → PH → Prop) (w1 : World) (H1 : PH) (c : Code) (run : St → (Exit → St → Option Tree) → Option Tree) : Prop :=
  ∀ (st : St) (k : Exit → St → Option Tree) (t : Tree) (ρ : List Value) (β : Nat → Nat) (a : Act) (W : World) (H : PH) (nx : List (List Value → PH → Prop)) (Q : Exit → Act → World → Prop),
    run st k = some t → Mt P ⟨w1, H1, H⟩ ρ β st a W → nx.length = st.d → den P G t nx ρ H →
    (∀ e st' t' ρ' β' a' W' H' nx', k e st' = some t' → Mt P ⟨w1, H1, H'⟩ ρ' β' st' a' W' → ρ <+: ρ' → nx <+: nx' → nx'.length = st'.d → den P G t' nx' ρ' H' → Q e a' W') → c.wp P Q a W
theorem inSc_d (st : St) (d : Nat) : inSc { st with d := d } = inSc st := rfl
theorem Mt.depth (m : Mt P w0 ρ β st a W) (d : Nat) : Mt P w0 ρ β { st with d := d } a W := { m with }
theorem jn_sound {w1 : World} {H1 : PH} {c : Code} {run : St → (Exit → St → Option Tree) → Option Tree} (hr : SndC P G w1 H1 c run) (ts bs : List Nat) : SndC P G w1 H1 c fun st k => jn st c ts bs run k := by
  intro st k t ρ β a W H nx Q h m hd hden hQ
  simp only [jn] at h
  split at h
  · rename_i hc
    simp only [Bool.and_eq_true] at hc
    obtain ⟨⟨hsc, hts⟩, hbs⟩ := hc
    split at h
    · rename_i t1 u e1 e2
      simp only [Option.some.injEq] at h; subst h
      obtain ⟨J, hJ1, hJ2⟩ := hden
      refine hr _ _ t1 ρ β a W H (nx ++ [J]) Q e1 (m.depth _) (by simp [hd]) hJ1 ?_
      intro e st2 t2 ρ2 β2 a2 W2 H3 nx2 h2 m2 hp2 hn2 hd2 hden2
      have hpn : nx <+: nx2 := (List.prefix_append _ _).trans hn2
      cases e with
      | normal =>
        simp only at h2
        split at h2
        · rename_i nv nb hnv hnb
          split at h2
          · rename_i hsame
            rw [Bool.and_eq_true] at hsame
            simp only [Option.some.injEq] at h2; subst h2
            have hh := hden2
            have e1 : nx2.getD st.d (fun _ _ => False) = J := by
              rw [prefix_getD hn2 (by simp [hd])]
              simp [List.getD_eq_getElem?_getD, ← hd]
            simp only [den] at hh
            rw [e1] at hh
            obtain ⟨r, rfl⟩ := hp2
            have hmt := meet_mt (δ := 0) (dd := (wsOf c).filter fun t => !ts.contains t) hsc m m2 (nodB_spec hts) (nodB_spec hbs) (fun u hu _ => by
              by_cases ht : u ∈ ts
              · exact .inl ht
              · exact .inr (List.mem_filter.2 ⟨hu, by simpa using ht⟩)) hnv hnb hsame.1 hsame.2
            refine hQ .normal _ u _ β2 a2 W2 H3 nx e2 hmt (List.prefix_append _ _) (List.prefix_refl _) (by simp [headG, hd]) (hJ2 _ H3 ?_ hh)
            rw [List.length_map, List.length_append, (valsAt_get hnv).1, (cAt_get hnb).1]
          · simp only [Option.some.injEq] at h2; subst h2; exact hden2.elim
        · simp only [Option.some.injEq] at h2; subst h2; exact hden2.elim
      | exit id => exact hQ _ _ _ _ _ _ _ _ _ h2 m2 hp2 hpn hd2 hden2
      | goto l => exact hQ _ _ _ _ _ _ _ _ _ h2 m2 hp2 hpn hd2 hden2
      | ret => exact hQ _ _ _ _ _ _ _ _ _ h2 m2 hp2 hpn hd2 hden2
      | panic ch => exact hQ _ _ _ _ _ _ _ _ _ h2 m2 hp2 hpn hd2 hden2
      | outgrown => exact hQ _ _ _ _ _ _ _ _ _ h2 m2 hp2 hpn hd2 hden2
    · cases h
  · cases h

theorem ex_sound {w1 : World} {H1 : PH} {C : List Cert} (hm : P.follows .mixedOrders = true) : ∀ (c : Code) (st : St) (k : Exit → St → Option Tree) (t : Tree) (ρ : List Value) (β : Nat → Nat) (a : Act) (W : World) (H : PH) (nx : List (List Value → PH → Prop)) (Q : Exit → Act → World → Prop),
    ex P C c st k = some t → Mt P ⟨w1, H1, H⟩ ρ β st a W → nx.length = st.d → den P G t nx ρ H →
    (∀ e st' t' ρ' β' a' W' H' nx', k e st' = some t' → Mt P ⟨w1, H1, H'⟩ ρ' β' st' a' W' → ρ <+: ρ' → nx <+: nx' → nx'.length = st'.d → den P G t' nx' ρ' H' → Q e a' W') → c.wp P Q a W := by
  intro c
  induction c with
  | skip => intro st k t ρ β a W H nx Q h m hd hden hQ; exact wp_skip (hQ _ _ _ _ _ _ _ _ _ h m (List.prefix_refl _) (List.prefix_refl _) hd hden)
  | exit id => intro st k t ρ β a W H nx Q h m hd hden hQ; exact wp_exit (hQ _ _ _ _ _ _ _ _ _ h m (List.prefix_refl _) (List.prefix_refl _) hd hden)
  | ret => intro st k t ρ β a W H nx Q h m hd hden hQ; exact wp_ret (hQ _ _ _ _ _ _ _ _ _ h m (List.prefix_refl _) (List.prefix_refl _) hd hden)
  | region id ops draw =>
    intro st k t ρ β a W H nx Q h m hd hden hQ
    have hrun : SndC P G w1 H1 (.region id ops draw) (exR P C id ops draw) := by
      intro st k t ρ β a W H nx Q h m hd hden hQ
      have hrg : Rg st β ops st β := ⟨fun _ _ => rfl, fun _ _ => rfl, Nat.le_refl _⟩
      cases draw with
      | false =>
        simp only [exR] at h
        refine wp_region_seq (kd := kdI P st ops) (ta := fun i => β (tgI st ops i)) ?_
        exact runT_sound (ρ := ρ) (dn := st.d) (nx := nx) (fun t b q s i => m.pb t b q s i) (fun st2 t2 ρ2 β2 a2 W2 H2 h2 m2 hp2 hd2 hden2 => hQ _ _ _ _ _ _ _ _ _ h2 m2 hp2 (List.prefix_refl _) (by rw [hd2]; exact hd) hden2) _ st t ρ β a W H h m (List.prefix_refl _) rfl hrg hden
      | true =>
        simp only [exR] at h
        split at h
        · rename_i c hfc
          split at h
          · rename_i hCB
            simp only [certB, Bool.and_eq_true, beq_iff_eq] at hCB
            obtain ⟨⟨⟨⟨hA, hK⟩, hTg⟩, hFT⟩, hB⟩ := hCB
            have eK : (fun i => c.ks.getD i 9) = kdE P st ops c.T := by
              funext i
              rw [hK, List.getD_eq_getElem?_getD, List.getElem?_map]
              by_cases hi : i < ops.size
              · simp [hi]
              · have h9 : kdI P st ops i = 9 := by simp [hi, kdI]
                simp only [kdE, h9, t4_nine]
                simp [hi]
            have eT : (fun i => c.ts.getD i 0) = tgI st ops := by
              funext i
              rw [hTg, List.getD_eq_getElem?_getD, List.getElem?_map]
              by_cases hi : i < ops.size
              · simp [hi]
              · simp [hi, tgI]
            rw [hA, eK, eT] at hB
            have hx := Ext.drawn W
            refine wp_region_ord (kd := kdE P st ops c.T) (tg := tgI st ops) (ta := fun i => β (tgI st ops i)) hm hB (fun i j hi hj hne e => hne ?_) ?_
            · have bound : ∀ i, (kdI P st ops i = 5 ∨ kdI P st ops i = 6) → tgI st ops i < st.bl.length := fun i hi => by
                cases ho : ops[i]? with
                | none => simp [kdI, ho] at hi
                | some o =>
                  rcases tag_cases (P := P) (st0 := st) (ws := wrOf ops) o with ⟨hk0, _⟩ | ⟨b, t0, q, s, ix, htg, htn, hsl0, _⟩
                  · simp only [kdI, ho, Option.map_some, Option.getD_some, hk0] at hi
                    have : kdOf P o ≤ 4 := by
                      unfold kdOf
                      repeat' split
                      all_goals omega
                    omega
                  · simp only [tgI, ho, Option.bind_some, htg, Option.getD_some]
                    exact m.pb t0 b q s ix hsl0
              have key := fun i => t4_spec (c.T.contains i) (kdI P st ops i)
              exact m.inj _ _ (bound i (hi.imp (key i).2.1.2 (key i).2.2.2)) (bound j (hj.imp (key j).2.1.2 (key j).2.2.2)) e
            · refine wpF_congr _ _ _ _ (fun i hi => (kdE_front hFT hi).symm) (runF_sound (ρ := ρ) (dn := st.d) (nx := nx) (st0 := st) (β0 := β) m.fr.size (fun t b q s i => m.pb t b q s i) (fun st' t' ρ' β' a' W' H' h' m' hp hd' hrg' hden' => ?_) _ [] st t ρ β a _ H (fun i hi => ?_) h (m.ext hx) (List.prefix_refl _) rfl hrg (fun i hi => .inl (m.lt hi)) (fun b hb => ?_) hden)
              · exact wpT_congr (fun i => t4_spec (c.T.contains i) (kdI P st ops i)) _ _ _ (runT_sound (ρ := ρ) (dn := st.d) (nx := nx) (st0 := st) (β0 := β) (fun t b q s i => m.pb t b q s i) (fun st2 t2 ρ2 β2 a2 W2 H2 h2 m2 hp2 hd2 hden2 => hQ _ _ _ _ _ _ _ _ _ h2 m2 hp2 (List.prefix_refl _) (by rw [hd2]; exact hd) hden2) _ st' t' ρ' β' a' W' H' h' m' hp hd' hrg' hden')
              · rw [← kdE_front hFT hi]
                exact List.all_eq_true.1 (by
                  simp only [ordB, Bool.and_eq_true] at hB
                  exact hB.1.1.1.2) i hi
              · cases e : H b with
                | none => exact absurd e hb
                | some ob => exact .inl (lt_of_get (m.fr.holds b ob e))
          · simp only [Option.some.injEq] at h; subst h; exact hden.elim
        · simp only [Option.some.injEq] at h; subst h; exact hden.elim
    simp only [ex] at h
    split at h
    · exact jn_sound hrun _ _ st k t ρ β a W H nx Q h m hd hden hQ
    · exact hrun st k t ρ β a W H nx Q h m hd hden hQ
  | seq x y ihx ihy =>
    intro st k t ρ β a W H nx Q h m hd hden hQ
    simp only [ex] at h
    refine wp_seq (ihx st _ t ρ β a W H nx _ h m hd hden fun e st' t' ρ' β' a' W' H' nx' h' m' hp hn hd' hden' => ?_)
    cases e with
    | normal => exact ihy st' k t' ρ' β' a' W' H' nx' Q h' m' hd' hden' fun e2 st2 t2 ρ2 β2 a2 W2 H2 nx2 h2 m2 hp2 hn2 hd2 hden2 => hQ _ _ _ _ _ _ _ _ _ h2 m2 (hp.trans hp2) (hn.trans hn2) hd2 hden2
    | exit id => exact hQ _ _ _ _ _ _ _ _ _ h' m' hp hn hd' hden'
    | goto l => exact hQ _ _ _ _ _ _ _ _ _ h' m' hp hn hd' hden'
    | ret => exact hQ _ _ _ _ _ _ _ _ _ h' m' hp hn hd' hden'
    | panic ch => exact hQ _ _ _ _ _ _ _ _ _ h' m' hp hn hd' hden'
    | outgrown => exact hQ _ _ _ _ _ _ _ _ _ h' m' hp hn hd' hden'
  | cond c x y ihx ihy =>
    intro st k t ρ β a W H nx Q h m hd hden hQ
    have hrun : SndC P G w1 H1 (.cond c x y) fun st k => match (st.val c).map (lookB st.kb) with
        | some (.k (.bool true)) => ex P C x st k
        | some (.k (.bool false)) => ex P C y st k
        | some s => match amO st.am c with
          | some true => askAll P [.isb true s] st fun st => ex P C x (st.know P s true) k
          | some false => askAll P [.isb false s] st fun st => ex P C y (st.know P s false) k
          | none => askAll P [.bool s] st fun st =>
            match ex P C x (st.know P s true) k, ex P C y (st.know P s false) k with
            | some t1, some t2 => some (.br s t1 t2)
            | _, _ => none
        | none => none := by
      intro st k t ρ β a W H nx Q h m hd hden hQ
      simp only at h
      cases hv : st.val c with
      | none => simp [hv] at h
      | some s =>
        simp only [hv, Option.map_some] at h
        have he := m.val hv
        have hD := lookB_sound (P := P) (ρ := ρ) m.kb s
        split at h
        · rename_i hl
          simp only [Option.some.injEq] at hl
          rw [hl] at hD
          exact wp_cond_true (by rw [he, ← hD]; rfl) (ihx st k t ρ β a W H nx Q h m hd hden hQ)
        · rename_i hl
          simp only [Option.some.injEq] at hl
          rw [hl] at hD
          exact wp_cond_false (by rw [he, ← hD]; rfl) (ihy st k t ρ β a W H nx Q h m hd hden hQ)
        · rename_i c' _ _ hl
          simp only [Option.some.injEq] at hl
          rw [hl] at hD
          split at h
          · obtain ⟨st', t', h1, h2, h3, h4, h5⟩ := askAll_sound h m.kn hden
            have hb : D P ρ c' = .bool true := h3 (.isb true c') (by simp)
            exact wp_cond_true (by rw [he, ← hD]; exact hb) (ihx _ k t' ρ β a W H nx Q h4 ((m.more h1 h2).know hb) (by simp only [St.know]; rw [h1.d]; exact hd) h5 hQ)
          · obtain ⟨st', t', h1, h2, h3, h4, h5⟩ := askAll_sound h m.kn hden
            have hb : D P ρ c' = .bool false := h3 (.isb false c') (by simp)
            exact wp_cond_false (by rw [he, ← hD]; exact hb) (ihy _ k t' ρ β a W H nx Q h4 ((m.more h1 h2).know hb) (by simp only [St.know]; rw [h1.d]; exact hd) h5 hQ)
          obtain ⟨st', t', h1, h2, h3, h4, h5⟩ := askAll_sound h m.kn hden
          obtain ⟨b, hb⟩ : ∃ b, D P ρ c' = .bool b := h3 (.bool c') (by simp)
          have m' := m.more h1 h2
          split at h4
          · rename_i t1 t2 e1 e2
            simp only [Option.some.injEq] at h4; subst h4
            cases b with
            | true => exact wp_cond_true (by rw [he, ← hD]; exact hb) (ihx _ k t1 ρ β a W H nx Q e1 (m'.know hb) (by simp only [St.know]; rw [h1.d]; exact hd) (h5.1 hb) hQ)
            | false => exact wp_cond_false (by rw [he, ← hD]; exact hb) (ihy _ k t2 ρ β a W H nx Q e2 (m'.know hb) (by simp only [St.know]; rw [h1.d]; exact hd) (h5.2 hb) hQ)
          · cases h4
        · rename_i hl; cases hl
    simp only [ex] at h
    split at h
    · exact jn_sound hrun _ _ st k t ρ β a W H nx Q h m hd hden hQ
    · exact hrun st k t ρ β a W H nx Q h m hd hden hQ
  | block id x ih =>
    intro st k t ρ β a W H nx Q h m hd hden hQ
    have hrun : SndC P G w1 H1 (.block id x) fun st k => ex P C x st fun e st => match e with
        | .exit j => if j = id then k .normal st else k (.exit j) st
        | e => k e st := by
      intro st k t ρ β a W H nx Q h m hd hden hQ
      simp only at h
      refine wp_block (ih st _ t ρ β a W H nx _ h m hd hden fun e st' t' ρ' β' a' W' H' nx' h' m' hp hn hd' hden' => ?_)
      cases e with
      | exit j =>
        simp only [Exit.inBlock]
        simp only at h'
        split at h'
        · rename_i e; rw [if_pos e]; exact hQ _ _ _ _ _ _ _ _ _ h' m' hp hn hd' hden'
        · rename_i e; rw [if_neg e]; exact hQ _ _ _ _ _ _ _ _ _ h' m' hp hn hd' hden'
      | normal => exact hQ _ _ _ _ _ _ _ _ _ h' m' hp hn hd' hden'
      | goto l => exact hQ _ _ _ _ _ _ _ _ _ h' m' hp hn hd' hden'
      | ret => exact hQ _ _ _ _ _ _ _ _ _ h' m' hp hn hd' hden'
      | panic ch => exact hQ _ _ _ _ _ _ _ _ _ h' m' hp hn hd' hden'
      | outgrown => exact hQ _ _ _ _ _ _ _ _ _ h' m' hp hn hd' hden'
    simp only [ex] at h
    split at h
    · exact jn_sound hrun _ _ st k t ρ β a W H nx Q h m hd hden hQ
    · exact hrun st k t ρ β a W H nx Q h m hd hden hQ
  | loop b ih =>
    intro st k t ρ β a W H nx Q h m hd hden hQ
    simp only [ex] at h
    split at h
    · rename_i iv ib hiv hib
      split at h
      · rename_i hc
        rw [Bool.and_eq_true] at hc
        obtain ⟨hsc, hbs⟩ := hc
        have hbs := nodB_spec hbs
        rw [Option.map_eq_some_iff] at h
        obtain ⟨tb, h, rfl⟩ := h
        obtain ⟨I, μ, hI0, hI⟩ := hden
        obtain ⟨hl1, hl2⟩ := valsAt_get hiv
        obtain ⟨hb1, hb2⟩ := cAt_get hib
        have hnd : (liveOf st.sl (wsOf b)).Nodup := (dedup_nodup _).filter _
        have hcov : ∀ u, u ∈ wsOf b → u < st.sl.length → u ∈ liveOf st.sl (wsOf b) ∨ u ∈ deadOf st.sl (wsOf b) := fun u hu hlt => by
          cases hlv : liveB st.sl[u] with
          | true => exact .inl (List.mem_filter.2 ⟨hu, by simp [hlt, hlv]⟩)
          | false => exact .inr (List.mem_filter.2 ⟨hu, by simp [hlt, hlv]⟩)
        have gl : ∀ (l : List SV) (ρ' : List Value) (j : Nat) (s : SV), l[j]? = some s → (l.map (D P ρ')).getD j undef = D P ρ' s := fun l ρ' j s hj => by
          simp [List.getD_eq_getElem?_getD, hj]
        refine wp_loop_ghost (fun n a' W' => ∃ vals β' H', vals.length = (iv ++ ib).length ∧ I vals H' ∧ μ vals H' = n ∧ Mt P ⟨w1, H1, H'⟩ (ρ ++ vals) β' (headG st (liveOf st.sl (wsOf b)) (deadOf st.sl (wsOf b)) (bsOf st b) 1) a' W') (μ _ H) ⟨(iv ++ ib).map (D P ρ), β, H, by simp, hI0, rfl, ?_⟩ ?_
        · refine head_mt hsc m.n m.kn m.kb (by rw [List.length_map, List.length_append, hl1, hb1]) m.sz m.df m.pb hnd hbs (fun u s _ _ hs => m.sl u s hs) (fun k' u hk' => ?_) (fun i B hB => ?_) m.inj m.own m.sep m.fr
          · obtain ⟨s, hs, hk2⟩ := hl2 k' u hk'
            obtain ⟨v, hv, hmv⟩ := m.sl u _ hs
            rw [hv]
            congr 1
            rw [gl _ ρ k' s]
            · exact hmv
            · rw [List.getElem?_append_left (List.getElem?_eq_some_iff.1 hk2).1]; exact hk2
          · cases hp : posOf i (bsOf st b) 0 with
            | some k' =>
              obtain ⟨k'', rfl, hk'⟩ := posOf_some hp
              obtain ⟨B2, hB2, hq⟩ := hb2 k'' i hk'
              obtain rfl : B2 = B := Option.some.inj (hB2.symm.trans hB)
              have e : ((iv ++ ib).map (D P ρ)).getD ((liveOf st.sl (wsOf b)).length + (0 + k'')) undef = D P ρ B2.c := gl _ _ _ _ (by
                rw [List.getElem?_append_right (by omega), hl1, Nat.zero_add, Nat.add_sub_cancel_left]; exact hq)
              simp only [e]; exact m.bl i B2 hB
            | none => simp only; exact m.bl i B hB
        · rintro n a1 W1 ⟨vals, β1, H2, hvl, hIv, hμ, m1⟩
          refine ih _ _ tb (ρ ++ vals) β1 a1 W1 H2 (nx ++ [fun l w => I l w ∧ μ l w < μ vals H2]) _ h m1 (by simp [headG, hd]) (hI vals H2 hvl hIv) ?_
          intro e st2 t2 ρ2 β2 a2 W2 H3 nx2 h2 m2 hp2 hn2 hd2 hden2
          have hpρ : ρ <+: ρ2 := (List.prefix_append _ _).trans hp2
          have hpn : nx <+: nx2 := (List.prefix_append _ _).trans hn2
          cases e with
          | normal =>
            simp only at h2
            split at h2
            · rename_i nv nb hnv hnb
              split at h2
              · rename_i hsame
                rw [Bool.and_eq_true] at hsame
                simp only [Option.some.injEq] at h2; subst h2
                have hh := hden2
                have e1 : nx2.getD st.d (fun _ _ => False) = fun l w => I l w ∧ μ l w < μ vals H2 := by
                  rw [prefix_getD hn2 (by simp [hd])]
                  simp [List.getD_eq_getElem?_getD, ← hd]
                simp only [den] at hh
                rw [e1] at hh
                obtain ⟨hIn, hlt⟩ := hh
                obtain ⟨r, rfl⟩ := hpρ
                refine ⟨μ _ H3, by rw [← hμ]; exact hlt, (nv ++ nb).map (D P (ρ ++ r)), β2, H3, ?_, hIn, rfl, ?_⟩
                · rw [List.length_map, List.length_append, List.length_append, (valsAt_get hnv).1, (cAt_get hnb).1, hl1, hb1]
                · exact meet_mt hsc m m2 hnd hbs hcov hnv hnb hsame.1 hsame.2
              · simp only [Option.some.injEq] at h2; subst h2; exact hden2.elim
            · simp only [Option.some.injEq] at h2; subst h2; exact hden2.elim
          | exit id => exact hQ _ _ _ _ _ _ _ _ _ h2 m2 hpρ hpn hd2 hden2
          | goto l => exact hQ _ _ _ _ _ _ _ _ _ h2 m2 hpρ hpn hd2 hden2
          | ret => exact hQ _ _ _ _ _ _ _ _ _ h2 m2 hpρ hpn hd2 hden2
          | panic ch => exact hQ _ _ _ _ _ _ _ _ _ h2 m2 hpρ hpn hd2 hden2
          | outgrown => exact hQ _ _ _ _ _ _ _ _ _ h2 m2 hpρ hpn hd2 hden2
      · cases h
    · cases h
  | rangeFunc f ps x y => intro st k t ρ β a W H nx Q h m hd hden; simp only [ex, Option.some.injEq] at h; subst h; exact fun _ => hden.elim
  | scope x ih =>
    intro st k t ρ β a W H nx Q h m hd hden hQ
    simp only [ex] at h
    refine wp_scope_straight (ih st _ t ρ β a W H nx _ h m hd hden fun e st' t' ρ' β' a' W' H' nx' h' m' hp hn hd' hden' => ?_)
    cases e with
    | goto l => simp only [Option.some.injEq] at h'; subst h'; exact hden'.elim
    | exit id => exact hQ _ _ _ _ _ _ _ _ _ h' m' hp hn hd' hden'
    | normal => exact hQ _ _ _ _ _ _ _ _ _ h' m' hp hn hd' hden'
    | ret => exact hQ _ _ _ _ _ _ _ _ _ h' m' hp hn hd' hden'
    | panic ch => exact hQ _ _ _ _ _ _ _ _ _ h' m' hp hn hd' hden'
    | outgrown => exact hQ _ _ _ _ _ _ _ _ _ h' m' hp hn hd' hden'
  | label l => intro st k t ρ β a W H nx Q h m hd hden hQ; exact wp_label (hQ _ _ _ _ _ _ _ _ _ h m (List.prefix_refl _) (List.prefix_refl _) hd hden)
  | goto l => intro st k t ρ β a W H nx Q h m hd hden; simp only [ex, Option.some.injEq] at h; subst h; exact fun _ => hden.elim
  | refuse s => intro st k t ρ β a W H nx Q h m hd hden; simp only [ex, Option.some.injEq] at h; subst h; exact fun _ => hden.elim

/-! ### Functions -/
def resM (tmps : Array Value) : ResultVar → Sem Value
  | .tmp t => pure (tmps.getD t undef)
  | .cell a t => do loadVar t (← asAddr (tmps.getD a undef))
theorem resOf_sound (m : Mt P w0 ρ β st a W) : ∀ {rs : List ResultVar} {l : List SV}, resOf P st rs = some l → (rs.mapM (resM a.tmps)).run P W = .ok (l.map (D P ρ)) W := by
  intro rs
  induction rs with
  | nil => intro l h; simp only [resOf, Option.some.injEq] at h; subst h; rfl
  | cons r rs ih =>
    intro l h
    cases r with
    | tmp t =>
      simp only [resOf] at h
      split at h
      · rename_i s l' hs hl
        simp only [Option.some.injEq] at h; subst h
        obtain ⟨v, hv, hm⟩ := m.sl t _ hs
        have e : a.tmps.getD t undef = D P ρ s := by
          rw [Array.getD_eq_getD_getElem?, hv]; exact hm
        simp only [List.mapM_cons, Sem.run_bind, resM, Sem.run_pure, Result.andThen_ok, ih hl, e, List.map_cons]
      · cases h
    | cell t T =>
      simp only [resOf] at h
      split at h
      · rename_i s l' hs hl
        simp only [Option.some.injEq] at h; subst h
        have hsnd := snd_load m (o := ⟨none, .load T (.tmp t), 0, "", #[], none⟩) (T := T) (x := .tmp t) rfl
        rw [hs] at hsnd
        obtain ⟨_, _, v, hv, hrun⟩ := hsnd (by simp)
        have hrun := hrun W (.inr (.inl (Ext.refl _)))
        have hv : v = D P ρ s := hv
        have e : (resM a.tmps (.cell t T)).run P W = .ok (D P ρ s) W := by
          simp only [execOp, Sem.run_bind] at hrun
          unfold resM
          rw [← hv]
          show (asAddr (a.eval (.tmp t)) >>= loadVar T).run P W = _
          unfold Instr.loadAt at hrun
          generalize a.eval (.tmp t) = x at hrun
          cases x with
          | pointer p =>
            cases p with
            | none => simp [Instr.sureAddr] at hrun
            | some ad =>
              simp only [Instr.sureAddr, Sem.run_bind, Sem.run_pure, Result.andThen_ok] at hrun
              simp only [asAddr, Sem.run_bind, Sem.run_pure, Result.andThen_ok]
              cases hl : (loadVar T ad).run P W with
              | ok x w => rw [hl] at hrun; simp at hrun; obtain ⟨rfl, rfl⟩ := hrun; rfl
              | halt x w => rw [hl] at hrun; simp [Result.andThen] at hrun
          | _ => simp [Instr.sureAddr] at hrun
        simp only [List.mapM_cons, Sem.run_bind, e, Result.andThen_ok, ih hl, Sem.run_pure, List.map_cons]
      · cases h

theorem results_run {fn : Func} {tmps : Array Value} {l : List Value} {w : World} (h : (fn.results.toList.mapM (resM tmps)).run P w = .ok l w) : (results fn tmps).run P w = .ok (retV l) w := by
  unfold results
  have e : (fn.results.mapM (resM tmps)).run P w = .ok l.toArray w := by
    rw [Array.mapM_eq_mapM_toList]
    have : (List.toArray <$> fn.results.toList.mapM (resM tmps) : Sem (Array Value)) = (fn.results.toList.mapM (resM tmps) >>= fun x => pure x.toArray) := rfl
    rw [this, Sem.run_bind, h]
    rfl
  show ((fn.results.mapM (resM tmps)) >>= fun vs => pure (if h : vs.size = 1 then vs[0] else .tuple vs)).run P w = _
  rw [Sem.run_bind, e]
  simp only [Result.andThen_ok, Sem.run_pure]
  congr 1
  match l with
  | [] => rfl
  | [x] => rfl
  | x :: y :: r => simp [retV]

/-- THE CONTRACT of a function out of its tree. -/
theorem tree_sound (hm : P.follows .mixedOrders = true) {f : FuncId} {E : List Nat} {A : List (Nat × Bool)} {J : List Jn} {C : List Cert} {t : Tree} (ht : tree P E A J C f = some t) (args : List Value) {np : Nat} (hnp : (P.funcs[f]?).map (fun fn => fn.params.size + fn.nfree) = some np) (hargs : args.length = np) {H : PH} (hden : den P G t [] args H) (W : World) (hin : H.In W) :
    Calls P f args.toArray W fun e w' => ∃ v H', e = .returned v ∧ Step H W H' w' ∧ G v H' := by
  unfold tree at ht
  split at ht
  · rename_i fn hf
    split at ht
    · rename_i c hc
      rw [hf] at hnp
      simp only [Option.map_some, Option.some.injEq] at hnp
      rw [hnp] at ht
      refine calls_of_wp hf hc ?_
      refine ex_sound (w1 := W) (H1 := H) (G := G) hm c _ _ t args (fun _ => 0) _ W H [] _ ht ?_ rfl hden ?_
      · refine { sz := by simp [hargs], sl := ?_, pb := ?_, df := rfl, n := hargs, bl := fun b B h => by simp at h, inj := fun b b' h => by simp at h, own := fun b h => by simp at h, sep := fun b h => by simp at h, fr := Step.refl hin, kn := by simp, kb := by simp }
        · intro u s hs
          simp only at hs
          by_cases hu : u < np
          · rw [List.getElem?_append_left (by simpa using hu)] at hs
            simp [hu] at hs
            subst hs
            refine ⟨args[u]'(by omega), ?_, ?_⟩
            · rw [Array.getElem?_append_left (by simpa [hargs] using hu)]
              simp [hargs, hu]
            · show _ = args.getD u undef
              simp [List.getD_eq_getElem?_getD, hargs, hu]
          · rw [List.getElem?_append_right (by simpa using hu)] at hs
            have hs1 := (List.getElem?_eq_some_iff.1 hs).1
            rw [List.getElem?_replicate] at hs
            split at hs
            · rename_i hlt
              simp only [Option.some.injEq] at hs; subst hs
              refine ⟨undef, ?_, rfl⟩
              rw [Array.getElem?_append_right (by simp [hargs]; omega), Array.getElem?_replicate, if_pos]
              simp [hargs] at hlt ⊢; omega
            · cases hs
        · intro u b o s i hs
          simp only at hs
          have := List.mem_of_getElem? hs
          simp at this
      · intro e st' t' ρ' β' a' W' H' nx' h' m' hp hn hd' hden'
        have fin : (resOf P st' fn.results.toList).map Tree.ret = some t' → a'.defers = [] ∧ ∃ v, (results fn a'.tmps).run P W' = .ok v W' ∧ ∃ v' H'', Ending.returned v = .returned v' ∧ Step H W H'' W' ∧ G v' H'' := fun h' => by
          rw [Option.map_eq_some_iff] at h'
          obtain ⟨l, hl, rfl⟩ := h'
          exact ⟨m'.df, _, results_run (resOf_sound m' hl), _, H', rfl, m'.fr, hden'⟩
        cases e with
        | normal => exact fin h'
        | ret => exact fin h'
        | exit id => cases h'
        | goto l => cases h'
        | panic ch => cases h'
        | outgrown => cases h'
    · cases ht
  · cases ht
end
end Go.RX
namespace Go.RX
open Go.RowKit

/-- Operation i of region id of a function. -/
def findR (id : Nat) : Code → Option (Array Oper)
  | .region j ops _ => if j = id then some ops else none
  | .seq a b => (findR id a).orElse fun _ => findR id b
  | .cond _ a b => (findR id a).orElse fun _ => findR id b
  | .block _ a => findR id a
  | .loop a => findR id a
  | .scope a => findR id a
  | _ => none
def opr (fn : Func) (id i : Nat) : Oper := (((fn.body.bind (findR id)).bind (·[i]?))).getD default

/-- The call hands back v, in every world; what was there stays. -/
def Det (P : Program) (f : FuncId) (args : List Value) (v : Value) : Prop := ∀ w, Calls P f args.toArray w fun e w' => e = .returned v ∧ Ext w w'
/-- An operation that yields v, in every world, and changes nothing. -/
def Yld (P : Program) (o : Oper) (args : List Value) (v : Value) : Prop := ∀ w, (execOp (argEv o.op.operands.toList args) o).run P w = .ok (.value v) w
/-- A function of the model's own yields v. -/
def Own (P : Program) (f : FuncId) (args : List Value) (v : Value) : Prop := ∀ w, (callFunc f args.toArray).run P w = .ok (.value v) w
/-- An operation that runs to v, in every world. -/
def Run (P : Program) (o : Oper) (args : List Value) (v : Value) : Prop := ∀ w, Stp P o (argEv o.op.operands.toList args) w fun v' w' => v' = v ∧ Ext w w'

/-- A contract: from every world that holds H to one that holds some H' with V; nothing outside H has changed. -/
def Con (P : Program) (f : FuncId) (args : List Value) (H : PH) (V : Value → PH → Prop) : Prop :=
  ∀ w, H.In w → Calls P f args.toArray w fun e w' => ∃ v H', e = .returned v ∧ Step H w H' w' ∧ V v H'
/-- The same of one operation. -/
def Opn (P : Program) (o : Oper) (args : List Value) (H : PH) (V : Value → PH → Prop) : Prop :=
  ∀ w, H.In w → Stp P o (argEv o.op.operands.toList args) w fun v w' => ∃ H', Step H w H' w' ∧ V v H'
/-- An operation that reads. -/
def Rds (P : Program) (o : Oper) (args : List Value) (H : PH) (v : Value) : Prop := ∀ w, H.In w → (execOp (argEv o.op.operands.toList args) o).run P w = .ok (.value v) w

theorem Step.of_ext {H : PH} {w w' : World} (h : H.In w) (hx : Ext w w') : Step H w H w' := (Step.refl h).ext hx
theorem Det.con {P : Program} {f : FuncId} {args : List Value} {v : Value} (h : Det P f args v) (H : PH) : Con P f args H fun u H' => u = v ∧ H' = H :=
  fun w hw => (h w).mono fun e w' ⟨he, hx⟩ => ⟨v, H, he, Step.of_ext hw hx, rfl, rfl⟩
theorem Con.mono {P : Program} {f : FuncId} {args : List Value} {H : PH} {V V' : Value → PH → Prop} (h : Con P f args H V) (hv : ∀ v H', V v H' → V' v H') : Con P f args H V' :=
  fun w hw => (h w hw).mono fun e w' ⟨v, H', he, hs, hV⟩ => ⟨v, H', he, hs, hv v H' hV⟩
theorem Opn.mono {P : Program} {o : Oper} {args : List Value} {H : PH} {V V' : Value → PH → Prop} (h : Opn P o args H V) (hv : ∀ v H', V v H' → V' v H') : Opn P o args H V' :=
  fun w hw => (h w hw).mono fun v w' ⟨H', hs, hV⟩ => ⟨H', hs, hv v H' hV⟩
theorem Yld.rds {P : Program} {o : Oper} {args : List Value} {v : Value} (h : Yld P o args v) (H : PH) : Rds P o args H v := fun w _ => h w

/-- THE CONTRACT of a function. -/
theorem con_of_tree {P : Program} {f : FuncId} {E : List Nat} {A : List (Nat × Bool)} {J : List Jn} {C : List Cert} {t : Tree} {args : List Value} {np : Nat} {H : PH} {V : Value → PH → Prop} (hm : P.follows .mixedOrders = true) (ht : tree P E A J C f = some t) (hnp : (P.funcs[f]?).map (fun fn => fn.params.size + fn.nfree) = some np) (hargs : args.length = np)
    (h : den P V t [] args H) : Con P f args H V := fun w hw => tree_sound hm ht args hnp hargs h w hw

def pd (P : Program) (R : Value → Prop) : Tree → List (List Value → Prop) → List Value → Prop
  | .ret l, _, ρ => R (retV (l.map (D P ρ)))
  | .rq r t, nx, ρ => r.holds P ρ ∧ pd P R t nx ρ
  | .br c t e, nx, ρ => (D P ρ c = .bool true → pd P R t nx ρ) ∧ (D P ρ c = .bool false → pd P R e nx ρ)
  | .call _ f args t, nx, ρ => ∃ v, Det P f (args.map (D P ρ)) v ∧ pd P R t nx (ρ ++ [v])
  | .prim _ _ o args t, nx, ρ => ∃ v, Yld P o (args.map (D P ρ)) v ∧ pd P R t nx (ρ ++ [v])
  | .eff _ _ _ o args t, nx, ρ => ∃ v, Run P o (args.map (D P ρ)) v ∧ pd P R t nx (ρ ++ [v])
  | .ext f args t, nx, ρ => ∃ v, Own P f (args.map (D P ρ)) v ∧ pd P R t nx (ρ ++ [v])
  | .pub _ _ _, _, _ => False
  | .dead _, _, _ => False
  | .loop ini t, nx, ρ => ∃ (I : List Value → Prop) (μ : List Value → Nat), I (ini.map (D P ρ)) ∧ ∀ vals, vals.length = ini.length → I vals → pd P R t (nx ++ [fun l => I l ∧ μ l < μ vals]) (ρ ++ vals)
  | .next d l, nx, ρ => (nx.getD d fun _ => False) (l.map (D P ρ))
  | .join n t u, nx, ρ => ∃ J : List Value → Prop, pd P R t (nx ++ [J]) ρ ∧ ∀ vals, vals.length = n → J vals → pd P R u nx (ρ ++ vals)

theorem den_of_pd {P : Program} {R : Value → Prop} {H : PH} : ∀ (t : Tree) (nx : List (List Value → Prop)) (ρ : List Value), pd P R t nx ρ → den P (fun v h => R v ∧ h = H) t (nx.map fun g l h => g l ∧ h = H) ρ H := by
  intro t
  induction t with
  | ret l => intro nx ρ h; exact ⟨h, rfl⟩
  | rq r t ih => intro nx ρ h; exact ⟨h.1, ih _ _ h.2⟩
  | br c t e ih1 ih2 => intro nx ρ h; exact ⟨fun hc => ih1 _ _ (h.1 hc), fun hc => ih2 _ _ (h.2 hc)⟩
  | call pf f args t ih =>
    intro nx ρ h w hw
    obtain ⟨v, hd, hn⟩ := h
    exact (hd w).mono fun e w' ⟨he, hx⟩ => ⟨v, H, he, Step.of_ext hw hx, fun _ => PH.le.refl H, ih _ _ hn⟩
  | prim id i o args t ih =>
    intro nx ρ h
    obtain ⟨v, hd, hn⟩ := h
    exact ⟨v, fun w _ => hd w, ih _ _ hn⟩
  | eff pf id i o args t ih =>
    intro nx ρ h w hw
    obtain ⟨v, hd, hn⟩ := h
    exact (hd w).mono fun u w' ⟨he, hx⟩ => ⟨H, Step.of_ext hw hx, fun _ => PH.le.refl H, by rw [he]; exact ih _ _ hn⟩
  | ext f args t ih =>
    intro nx ρ h
    obtain ⟨v, hd, hn⟩ := h
    exact ⟨v, fun w _ => hd w, ih _ _ hn⟩
  | pub T c t ih => intro nx ρ h; exact h.elim
  | dead n => intro nx ρ h; exact h.elim
  | loop ini t ih =>
    intro nx ρ h
    obtain ⟨I, μ, h0, h1⟩ := h
    refine ⟨fun l h => I l ∧ h = H, fun l _ => μ l, ⟨h0, rfl⟩, ?_⟩
    rintro vals H' hl ⟨hI, rfl⟩
    have := ih _ _ (h1 vals hl hI)
    have e : (fun (l : List Value) (h : PH) => (I l ∧ h = H') ∧ μ l < μ vals) = fun l h => (I l ∧ μ l < μ vals) ∧ h = H' := by
      funext l h
      exact propext ⟨fun ⟨⟨a, b⟩, c⟩ => ⟨⟨a, c⟩, b⟩, fun ⟨⟨a, c⟩, b⟩ => ⟨⟨a, b⟩, c⟩⟩
    rw [e]
    simpa only [List.map_append, List.map_cons, List.map_nil] using this
  | next d l =>
    intro nx ρ h
    simp only [pd] at h
    simp only [den]
    rw [List.getD_eq_getElem?_getD, List.getElem?_map]
    rw [List.getD_eq_getElem?_getD] at h
    cases hn : nx[d]? with
    | none => simp [hn] at h
    | some g => simp only [hn, Option.getD_some] at h; simpa using h
  | join n t u ih1 ih2 =>
    intro nx ρ h
    obtain ⟨J, h1, h2⟩ := h
    refine ⟨fun l h => J l ∧ h = H, ?_, ?_⟩
    · simpa only [List.map_append, List.map_cons, List.map_nil] using ih1 _ _ h1
    · rintro vals H' hl ⟨hJ, rfl⟩
      exact ih2 _ _ (h2 vals hl hJ)

/-- THE CONTRACT of a function that only computes. -/
theorem det_of_tree {P : Program} {f : FuncId} {E : List Nat} {A : List (Nat × Bool)} {J : List Jn} {C : List Cert} {t : Tree} {args : List Value} {v : Value} {np : Nat} (hm : P.follows .mixedOrders = true) (ht : tree P E A J C f = some t) (hnp : (P.funcs[f]?).map (fun fn => fn.params.size + fn.nfree) = some np) (hargs : args.length = np)
    (h : pd P (fun u => u = v) t [] args) : Det P f args v := fun w => by
  have := tree_sound (H := fun _ => none) hm ht args hnp hargs (den_of_pd t [] args h) w (fun b o hb => by cases hb)
  refine this.mono fun e w' ⟨u, H', he, hs, hu, hH⟩ => ⟨by rw [he, hu], ?_⟩
  exact hs.toExt (fun b o hb => by cases hb) (fun b o hb => by cases hb)

/-! ### How a proof steps through a tree -/
section
variable {P : Program} {R : Value → Prop} {nx : List (List Value → Prop)} {ρ : List Value}
theorem pd_rq {r : Rq} {t : Tree} (h : r.holds P ρ) (n : pd P R t nx ρ) : pd P R (.rq r t) nx ρ := ⟨h, n⟩
theorem pd_call {pf : Bool} {f : FuncId} {args : List SV} {t : Tree} {vs : List Value} {v : Value} (hd : Det P f vs v) (ha : args.map (D P ρ) = vs) (n : pd P R t nx (ρ ++ [v])) : pd P R (.call pf f args t) nx ρ := ⟨v, by rw [ha]; exact hd, n⟩
theorem pd_prim {id i : Nat} {o : Oper} {args : List SV} {t : Tree} {vs : List Value} {v : Value} (hd : Yld P o vs v) (ha : args.map (D P ρ) = vs) (n : pd P R t nx (ρ ++ [v])) : pd P R (.prim id i o args t) nx ρ := ⟨v, by rw [ha]; exact hd, n⟩
theorem pd_eff {pf : Bool} {id i : Nat} {o : Oper} {args : List SV} {t : Tree} {vs : List Value} {v : Value} (hd : Run P o vs v) (ha : args.map (D P ρ) = vs) (n : pd P R t nx (ρ ++ [v])) : pd P R (.eff pf id i o args t) nx ρ := ⟨v, by rw [ha]; exact hd, n⟩
theorem pd_ext {f : FuncId} {args : List SV} {t : Tree} {vs : List Value} {v : Value} (hd : Own P f vs v) (ha : args.map (D P ρ) = vs) (n : pd P R t nx (ρ ++ [v])) : pd P R (.ext f args t) nx ρ := ⟨v, by rw [ha]; exact hd, n⟩
theorem pd_br {c : SV} {t e : Tree} {b : Bool} (hc : D P ρ c = .bool b) (h1 : b = true → pd P R t nx ρ) (h2 : b = false → pd P R e nx ρ) : pd P R (.br c t e) nx ρ :=
  ⟨fun h => h1 (by rw [hc] at h; cases h; rfl), fun h => h2 (by rw [hc] at h; cases h; rfl)⟩
theorem pd_true {c : SV} {t e : Tree} (hc : D P ρ c = .bool true) (h1 : pd P R t nx ρ) : pd P R (.br c t e) nx ρ := pd_br hc (fun _ => h1) (fun h => by cases h)
theorem pd_false {c : SV} {t e : Tree} (hc : D P ρ c = .bool false) (h1 : pd P R e nx ρ) : pd P R (.br c t e) nx ρ := pd_br hc (fun h => by cases h) (fun _ => h1)
theorem pd_ret {l : List SV} {v : Value} (h : retV (l.map (D P ρ)) = v) (hR : R v) : pd P R (.ret l) nx ρ := by rw [← h] at hR; exact hR
end
/-! ### and where there is memory -/
section
variable {P : Program} {G : Value → PH → Prop} {nx : List (List Value → PH → Prop)} {ρ : List Value} {H : PH}
theorem den_rq {r : Rq} {t : Tree} (h : r.holds P ρ) (n : den P G t nx ρ H) : den P G (.rq r t) nx ρ H := ⟨h, n⟩
theorem den_call {pf : Bool} {f : FuncId} {args : List SV} {t : Tree} {vs : List Value} {V : Value → PH → Prop} (hd : Con P f vs H V) (ha : args.map (D P ρ) = vs) (n : ∀ v H', V v H' → (pf = true → PH.le H H') ∧ den P G t nx (ρ ++ [v]) H') : den P G (.call pf f args t) nx ρ H := fun w hw => by
  rw [ha]; exact (hd w hw).mono fun e w' ⟨v, H', he, hs, hV⟩ => ⟨v, H', he, hs, (n v H' hV).1, (n v H' hV).2⟩
theorem den_det {pf : Bool} {f : FuncId} {args : List SV} {t : Tree} {vs : List Value} {v : Value} (hd : Det P f vs v) (ha : args.map (D P ρ) = vs) (n : den P G t nx (ρ ++ [v]) H) : den P G (.call pf f args t) nx ρ H :=
  den_call (hd.con H) ha fun u H' ⟨hu, hH⟩ => by subst hu; subst hH; exact ⟨fun _ => PH.le.refl _, n⟩
theorem den_eff {pf : Bool} {id i : Nat} {o : Oper} {args : List SV} {t : Tree} {vs : List Value} {V : Value → PH → Prop} (hd : Opn P o vs H V) (ha : args.map (D P ρ) = vs) (n : ∀ v H', V v H' → (pf = true → PH.le H H') ∧ den P G t nx (ρ ++ [v]) H') : den P G (.eff pf id i o args t) nx ρ H := fun w hw => by
  rw [ha]; exact (hd w hw).mono fun v w' ⟨H', hs, hV⟩ => ⟨H', hs, (n v H' hV).1, (n v H' hV).2⟩
theorem den_prim {id i : Nat} {o : Oper} {args : List SV} {t : Tree} {vs : List Value} {v : Value} (hd : Rds P o vs H v) (ha : args.map (D P ρ) = vs) (n : den P G t nx (ρ ++ [v]) H) : den P G (.prim id i o args t) nx ρ H := ⟨v, by rw [ha]; exact hd, n⟩
theorem den_own {f : FuncId} {args : List SV} {t : Tree} {vs : List Value} {v : Value} (hd : Own P f vs v) (ha : args.map (D P ρ) = vs) (n : den P G t nx (ρ ++ [v]) H) : den P G (.ext f args t) nx ρ H := ⟨v, by rw [ha]; exact fun w _ => hd w, n⟩
theorem den_br {c : SV} {t e : Tree} {b : Bool} (hc : D P ρ c = .bool b) (h1 : b = true → den P G t nx ρ H) (h2 : b = false → den P G e nx ρ H) : den P G (.br c t e) nx ρ H :=
  ⟨fun h => h1 (by rw [hc] at h; cases h; rfl), fun h => h2 (by rw [hc] at h; cases h; rfl)⟩
theorem den_true {c : SV} {t e : Tree} (hc : D P ρ c = .bool true) (h1 : den P G t nx ρ H) : den P G (.br c t e) nx ρ H := den_br hc (fun _ => h1) (fun h => by cases h)
theorem den_false {c : SV} {t e : Tree} (hc : D P ρ c = .bool false) (h1 : den P G e nx ρ H) : den P G (.br c t e) nx ρ H := den_br hc (fun h => by cases h) (fun _ => h1)
theorem den_ret {l : List SV} {v : Value} (h : retV (l.map (D P ρ)) = v) (hR : G v H) : den P G (.ret l) nx ρ H := by rw [← h] at hR; exact hR
end
theorem cells_agg (cs : Array Value) : (Value.agg cs).cells = cs := rfl
theorem cells_int (k : IntKind) (n : Int) : (Value.int k n).cells = #[.int k n] := rfl
theorem cells_bool (b : Bool) : (Value.bool b).cells = #[.bool b] := rfl
theorem cells_string (s : ByteArray) : (Value.string s).cells = #[.string s] := rfl
theorem cells_slice (a : Option Addr) (n c : Nat) : (Value.slice a n c).cells = #[.slice a n c] := rfl
end Go.RX

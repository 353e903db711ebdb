/- Slices of digits in memory. -/
import Derived.Test.YtcleogdmobdnpacGreatRDoorRfA
import Derived.Test.YtcleogdmobdnpacGreatRDoorRfT
import Derived.Test.YtcleogdmobdnpacGreatRDoorRxT
namespace Go.RX
open Go.RowKit
/-- What a call does not know of stays as it is. -/
theorem Con.frame {P : Program} {f : FuncId} {args : List Value} {Hr H : PH} {V : Value → PH → Prop} (h : Con P f args Hr V) (hle : PH.le Hr H) :
    Con P f args H fun u H' => ∃ Hr', V u Hr' ∧ PH.le Hr' H' ∧ ∀ k ob, H k = some ob → Hr k = none → Hr' k = none ∧ H' k = some ob := fun w hw => by
  refine (h w (hle.In hw)).mono ?_
  rintro e w' ⟨v, Hr', he, hs, hV⟩
  have none_of : ∀ k ob, H k = some ob → Hr k = none → Hr' k = none := fun k ob hk hr => by
    cases e2 : Hr' k with
    | none => rfl
    | some o2 =>
      have h2 := lt_of_get (hw _ _ hk)
      rcases hs.dom k (by simp [e2]) with h3 | h3
      · exact absurd hr h3
      · omega
  refine ⟨v, fun k => match Hr' k with | some o => some o | none => if Hr k = none then H k else none, he, ⟨hs.os, hs.tape, hs.output, hs.size, fun k hk hn => ?_, fun k ob hk => ?_, fun k hk => ?_⟩, Hr', hV, fun k ob hk => ?_, fun k ob hk hr => ⟨none_of k ob hk hr, ?_⟩⟩
  · refine hs.block k hk ?_
    cases e2 : Hr k with
    | none => rfl
    | some o2 => rw [hle _ _ e2] at hn; cases hn
  · cases e2 : Hr' k with
    | some o2 => simp only [e2] at hk; cases hk; exact hs.holds _ _ e2
    | none =>
      simp only [e2] at hk
      split at hk
      · rename_i hr
        rw [hs.block k (lt_of_get (hw _ _ hk)) hr]
        exact hw _ _ hk
      · cases hk
  · cases e2 : Hr' k with
    | some o2 =>
      rcases hs.dom k (by simp [e2]) with h3 | h3
      · refine .inl fun hn => h3 ?_
        cases e3 : Hr k with
        | none => rfl
        | some o3 => rw [hle _ _ e3] at hn; cases hn
      · exact .inr h3
    | none =>
      simp only [e2] at hk
      split at hk
      · exact .inl hk
      · exact absurd rfl hk
  · simp only [hk]
  · simp only [none_of k ob hk hr, hr, if_true, hk]
theorem OwS.frame {Hr H Hr' H' : PH} {e : TypeId} {sz n : Nat} {v : Value} {xs : List Value} (h : OwS Hr H e sz v n xs) (hk : ∀ k ob, H k = some ob → Hr k = none → Hr' k = none ∧ H' k = some ob) : OwS Hr' H' e sz v n xs := by
  obtain ⟨h1, h2 | ⟨g, cap, cur, h2, h3, h4, h5⟩⟩ := h
  · exact ⟨h1, .inl h2⟩
  · exact ⟨h1, .inr ⟨g, cap, cur, h2, (hk _ _ h4 h3).1, (hk _ _ h4 h3).2, h5⟩⟩
end Go.RX
namespace Go.Proofs.YtcleogdmobdnpacGreatRDoor
open Go.RowKit Go.RX Go.WD

def iv (d : Nat) : Value := .int .i64 (d : Nat)
theorem range1 (f : Nat → Value) : (Array.range (1 * 1)).map f = #[f 0] := by
  apply Array.ext'; simp
theorem range2 (f : Nat → Value) : (Array.range (2 * 1)).map f = #[f 0, f 1] := by
  apply Array.ext'; simp [List.range_succ]
theorem fill1 (f : Nat → Value) (d : Nat) : Instr.fill (fun j => some (j * 1, 1)) ((Array.range (1 * 1)).map f) [(0, iv d)] = some #[iv d] := by
  rw [range1]
  simp [Instr.fill, iv, cells_int]
theorem fill2 (f : Nat → Value) (d e : Nat) : Instr.fill (fun j => some (j * 1, 1)) ((Array.range (2 * 1)).map f) [(0, iv d), (1, iv e)] = some #[iv d, iv e] := by
  rw [range2]
  simp [Instr.fill, iv, cells_int]
/-- v is a slice of digits. -/
def Ds (H : PH) (v : Value) (l : List Nat) : Prop := Sl H 1 v l.length (l.map iv) ∧ Dg l
/-- The call's own slice of digits. -/
def Od (H0 H : PH) (v : Value) (l : List Nat) : Prop := OwS H0 H 3 1 v l.length (l.map iv) ∧ Dg l
theorem Ds.mono {H H' : PH} {v : Value} {l : List Nat} (h : Ds H v l) (hl : PH.le H H') : Ds H' v l := ⟨h.1.mono hl, h.2⟩
theorem Od.mono {H0 H H' : PH} {v : Value} {l : List Nat} (h : Od H0 H v l) (hl : PH.le H H') : Od H0 H' v l := ⟨h.1.mono hl, h.2⟩
theorem Od.less {H0 H1 H : PH} {v : Value} {l : List Nat} (h : Od H1 H v l) (hl : PH.le H0 H1) : Od H0 H v l := ⟨h.1.less hl, h.2⟩
theorem Od.ds {H0 H : PH} {v : Value} {l : List Nat} (h : Od H0 H v l) : Ds H v l := ⟨h.1.sl, h.2⟩
theorem Od.nil (H0 H : PH) : Od H0 H (.slice none 0 0) [] := ⟨OwS.nil H0 H _ 1, Dg.nil⟩
theorem Ds.nil (H : PH) : Ds H (.slice none 0 0) [] := (Od.nil H H).ds
/-- v is a slice of the digits of n, without a 0 at the end. -/
def Nu (H : PH) (v : Value) (n : Nat) : Prop := ∃ l, Ds H v l ∧ Tm l ∧ vl l = n
theorem Nu.mono {H H' : PH} {v : Value} {n : Nat} (h : Nu H v n) (hl : PH.le H H') : Nu H' v n := by
  obtain ⟨l, h1, h2⟩ := h; exact ⟨l, h1.mono hl, h2⟩
theorem Nu.zero (H : PH) : Nu H (.slice none 0 0) 0 := ⟨[], Ds.nil H, Tm.nil, rfl⟩
theorem Ds.cells {H : PH} {v : Value} {l : List Nat} (h : Ds H v l) : v.cells = #[v] := by
  obtain ⟨⟨_, a, c, h2, _⟩, _⟩ := h; rw [h2]; rfl
theorem Ds.one {H : PH} {v : Value} {l : List Nat} (h : Ds H v l) : v.cells.size = 1 ∧ oneAll v.cells := by
  rw [h.cells]
  obtain ⟨⟨_, a, c, h2, _⟩, _⟩ := h
  refine ⟨rfl, fun c hc => ?_⟩
  simp at hc; rw [hc, h2]; rfl
theorem map_iv {l : List Nat} {i : Nat} (h : i < l.length) : ((l.map iv).drop (i * 1)).take 1 = [iv (l.getD i 0)] := by
  rw [Nat.mul_one, ← List.map_drop, drop_at h]; rfl
theorem cells_int' : Tryz.prog.cellsOf 3 = 1 := by kernel_rfl
theorem hasT_int : hasT Tryz.prog 3 = true := by kernel_rfl
theorem agg_int : isAggB Tryz.prog 3 = false := by kernel_rfl
theorem und_ints : Tryz.prog.underlying 111 = some (.slice 3) := by kernel_rfl
theorem info_int : ∃ i, Tryz.prog.info? 3 = some i ∧ i.zero = some (.int .i64 0) ∧ i.size = 1 ∧ i.bytes = 8 := by
  refine ⟨(Tryz.prog.info? 3).getD default, by kernel_rfl, by kernel_rfl, by kernel_rfl, by kernel_rfl⟩
section
variable {G : Value → PH → Prop} {nx : List (List Value → PH → Prop)} {ρ : List Value} {H H0 : PH} {o o1 o2 : Oper} {x y x2 y2 : Operand} {id i id2 i2 : Nat} {args args2 : List SV} {t : Tree} {v : Value} {l : List Nat}
theorem den_len (ho : o.op = .call ⟨.builtin .len, #[x], #[111]⟩) (hx : argEv [x] [v] x = v) (h : Ds H v l) (ha : args.map (D Tryz.prog ρ) = [v]) (n : den Tryz.prog G t nx (ρ ++ [iv l.length]) H) : den Tryz.prog G (.prim id i o args t) nx ρ H :=
  den_prim ((sl_len ho hx und_ints h.1).rds H) ha n
theorem den_at {k : IntKind} {j : Nat} (ho1 : o1.op = .indexAddr 111 x y) (ho2 : o2.op = .load 3 x2) (hx : argEv [x, y] [v, .int k (j : Nat)] x = v) (hy : argEv [x, y] [v, .int k (j : Nat)] y = .int k (j : Nat)) (hx2 : ∀ p, argEv [x2] [p] x2 = p) (h : Ds H v l) (hj : j < l.length)
    (ha : args.map (D Tryz.prog ρ) = [v, .int k (j : Nat)]) (ha2 : ∀ p, args2.map (D Tryz.prog (ρ ++ [p])) = [p]) (n : ∀ p, den Tryz.prog G t nx (ρ ++ [p] ++ [iv (l.getD j 0)]) H) : den Tryz.prog G (.prim id i o1 args (.prim id2 i2 o2 args2 t)) nx ρ H := by
  obtain ⟨b, q, cs, T', fz, h1, h2, h3, h4⟩ := sl_at (P := Tryz.prog) ho1 hx hy und_ints hasT_int cells_int' Nat.zero_lt_one h.1 hj
  rw [map_iv hj] at h4
  exact den_prim (h1.rds H) ha (den_prim (sl_load1 ho2 (hx2 _) h2 hasT_int agg_int cells_int' h3 h4) (ha2 _) (n _))
/-- A store into a slice of the call's own. -/
theorem den_set {k : IntKind} {j d : Nat} {pf : Bool} (ho1 : o1.op = .indexAddr 111 x y) (ho2 : o2.op = .store 3 x2 y2) (hx : argEv [x, y] [v, .int k (j : Nat)] x = v) (hy : argEv [x, y] [v, .int k (j : Nat)] y = .int k (j : Nat)) (hx2 : ∀ p, argEv [x2, y2] [p, iv d] x2 = p) (hy2 : ∀ p, argEv [x2, y2] [p, iv d] y2 = iv d)
    (hle : PH.le H0 H) (h : Od H0 H v l) (hj : j < l.length) (hd : d < 4294967296) (ha : args.map (D Tryz.prog ρ) = [v, .int k (j : Nat)]) (ha2 : ∀ p, args2.map (D Tryz.prog (ρ ++ [p])) = [p, iv d]) (hpf : pf = false)
    (n : ∀ p u H', PH.le H0 H' → Od H0 H' v (l.set j d) → (∃ g ob, H0 g = none ∧ H' = H.put g ob) → den Tryz.prog G t nx (ρ ++ [p] ++ [u]) H') : den Tryz.prog G (.prim id i o1 args (.eff pf id2 i2 o2 args2 t)) nx ρ H := by
  obtain ⟨⟨hlen, hv⟩, hD⟩ := h
  rcases hv with ⟨_, h0⟩ | ⟨g, cap, cur, rfl, hg0, hg, hnc, hcm, hcs, htk⟩
  · omega
  rw [Nat.mul_one] at hcs htk
  have hix := yld_indexS (P := Tryz.prog) (m := (j : Int)) (n := l.length) ho1 hx hy und_ints hasT_int (by omega) (by omega)
  rw [Int.toNat_natCast, cells_int', Nat.zero_add, Nat.mul_one] at hix
  refine den_prim (hix.rds H) ha (den_eff (opn_store ho2 (hx2 _) (hy2 _) hg hasT_int (by rw [cells_int']; omega) (by rw [cells_int']; rfl) (one_int _ _)) (ha2 _) ?_)
  rintro u H' ⟨rfl, rfl⟩
  subst hpf
  have hcl : (iv d).cells.toList = [iv d] := rfl
  rw [hcl]
  refine ⟨fun h => (nomatch h), n _ _ _ ?_ ⟨⟨by simp, .inr ⟨g, cap, _, by rw [List.length_set], hg0, PH.put_self _ _ _, by rw [List.length_set]; exact hnc, hcm, ?_, ?_⟩⟩, hD.set j hd⟩ ⟨g, _, hg0, rfl⟩⟩
  · intro k ob hk
    rw [PH.put_ne _ _ (fun e => by rw [e, hg0] at hk; cases hk)]
    exact hle _ _ hk
  · show (cur.setIfInBounds j (iv d)).size = _
    rw [Array.size_setIfInBounds, hcs, Nat.mul_one]
  · show (cur.setIfInBounds j (iv d)).toList.take _ = _
    rw [Array.toList_setIfInBounds, Nat.mul_one, List.length_set, List.take_set, htk, List.map_set]
theorem od_new {g n : Nat} {cs : Array Value} {l : List Nat} (hg : H g = none) (hl : l.length = n) (hn : n ≤ maxLen) (hc : cs.toList = l.map iv) (hD : Dg l) : Od H (H.put g (.cells cs 3 (0, 0))) (.slice (some ⟨g, 0, none⟩) n n) l := by
  have hs : cs.size = n := by rw [← Array.length_toList, hc, List.length_map, hl]
  refine ⟨⟨by simp, .inr ⟨g, n, cs, by rw [hl], hg, PH.put_self _ _ _, by omega, hn, by omega, ?_⟩⟩, hD⟩
  rw [hc, List.take_of_length_le (by simp)]
theorem den_make {kl kc : IntKind} {pf : Bool} {m : Nat} (ho : o.op = .makeSlice 111 x y) (hx : argEv [x, y] [.int kl (m : Nat), .int kc (m : Nat)] x = .int kl (m : Nat)) (hy : argEv [x, y] [.int kl (m : Nat), .int kc (m : Nat)] y = .int kc (m : Nat)) (hm : m ≤ 1000000) (ha : args.map (D Tryz.prog ρ) = [.int kl (m : Nat), .int kc (m : Nat)])
    (n : ∀ v H', PH.le H H' → Od H H' v (List.replicate m 0) → den Tryz.prog G t nx (ρ ++ [v]) H') : den Tryz.prog G (.eff pf id i o args t) nx ρ H := by
  obtain ⟨ti, h1, h2, h3, h4⟩ := info_int
  refine den_eff (sl_make ho hx hy und_ints h1 h2 h3 (by rw [h4]; omega) (by simp only [maxLen]; omega)) ha ?_
  rintro v H' ⟨g, hg, rfl, rfl⟩
  refine ⟨fun _ => PH.le_put hg _, n _ _ (PH.le_put hg _) (od_new hg (by simp) (by simp only [maxLen]; omega) ?_ (Dg.zeros m))⟩
  rw [Nat.mul_one]
  show (madeCells #[.int .i64 0] m).toList = _
  apply List.ext_getElem?
  intro j
  rw [List.getElem?_map, List.getElem?_replicate]
  simp only [madeCells, Array.toList_map, List.getElem?_map, Array.toList_range]
  by_cases hj : j < m
  · simp [hj, Nat.mod_one, iv]
  · simp [hj]
theorem den_build1 {d : Nat} {pf : Bool} (ho : o.op = .buildSlice 111 1 #[(0, x)]) (hx : argEv [x] [iv d] x = iv d) (hd : d < 4294967296) (ha : args.map (D Tryz.prog ρ) = [iv d])
    (n : ∀ v H', PH.le H H' → Od H H' v [d] → den Tryz.prog G t nx (ρ ++ [v]) H') : den Tryz.prog G (.eff pf id i o args t) nx ρ H := by
  obtain ⟨ti, h1, h2, h3, h4⟩ := info_int
  refine den_eff (sl_build (cells := #[iv d]) ho und_ints h1 h2 (by rw [h3]; decide) (by rw [h3]; decide) (by rw [h3]; simp only [List.map_cons, List.map_nil, hx]; exact fill1 _ d)) ha ?_
  rintro v H' ⟨g, hg, rfl, rfl⟩
  exact ⟨fun _ => PH.le_put hg _, n _ _ (PH.le_put hg _) (od_new hg rfl (by simp only [maxLen]; omega) rfl (Dg.one hd))⟩
theorem den_build2 {d e : Nat} {pf : Bool} (ho : o.op = .buildSlice 111 2 #[(0, x), (1, y)]) (hx : argEv [x, y] [iv d, iv e] x = iv d) (hy : argEv [x, y] [iv d, iv e] y = iv e) (hd : d < 4294967296) (he : e < 4294967296) (ha : args.map (D Tryz.prog ρ) = [iv d, iv e])
    (n : ∀ v H', PH.le H H' → Od H H' v [d, e] → den Tryz.prog G t nx (ρ ++ [v]) H') : den Tryz.prog G (.eff pf id i o args t) nx ρ H := by
  obtain ⟨ti, h1, h2, h3, h4⟩ := info_int
  refine den_eff (sl_build (cells := #[iv d, iv e]) ho und_ints h1 h2 (by rw [h3]; decide) (by rw [h3]; decide) (by rw [h3]; simp only [List.map_cons, List.map_nil, hx, hy]; exact fill2 _ d e)) ha ?_
  rintro v H' ⟨g, hg, rfl, rfl⟩
  exact ⟨fun _ => PH.le_put hg _, n _ _ (PH.le_put hg _) (od_new hg rfl (by simp only [maxLen]; omega) rfl ((Dg.one hd).append (Dg.one he)))⟩
theorem den_build0 {pf : Bool} (ho : o.op = .buildSlice 111 0 #[]) (ha : args.map (D Tryz.prog ρ) = [])
    (n : ∀ v H', PH.le H H' → Od H H' v [] → den Tryz.prog G t nx (ρ ++ [v]) H') : den Tryz.prog G (.eff pf id i o args t) nx ρ H := by
  obtain ⟨ti, h1, h2, h3, h4⟩ := info_int
  refine den_eff (sl_build0 ho und_ints h1) ha ?_
  rintro v H' ⟨g, hg, rfl, rfl⟩
  exact ⟨fun _ => PH.le_put hg _, n _ _ (PH.le_put hg _) (od_new hg rfl (by simp only [maxLen]; omega) rfl Dg.nil)⟩
/-- append to a slice of the call's own. -/
theorem den_append {l2 : List Nat} {u : Value} {pf : Bool} (ho : o.op = .call ⟨.builtin .append, #[x, y], #[111, 111]⟩) (hx : argEv [x, y] [v, u] x = v) (hy : argEv [x, y] [v, u] y = u) (hle : PH.le H0 H) (h : Od H0 H v l) (h2 : Ds H u l2) (hb : l.length + l2.length ≤ 1000000)
    (ha : args.map (D Tryz.prog ρ) = [v, u]) (hpf : pf = false) (n : ∀ v' H', PH.le H0 H' → Od H0 H' v' (l ++ l2) → (H' = H ∨ ∃ g ob, H0 g = none ∧ H' = H.put g ob) → den Tryz.prog G t nx (ρ ++ [v']) H') : den Tryz.prog G (.eff pf id i o args t) nx ρ H := by
  obtain ⟨ti, h1, h3, h4, h5⟩ := info_int
  subst hpf
  by_cases hm : 0 < l2.length
  · refine den_eff (own_append ho hx hy und_ints h1 h3 h4 rfl hle h.1 h2.1 hm (fun c hc => ?_) (by simp only [maxLen]; omega) (by rw [h5]; omega)) ha ?_
    · obtain ⟨d, _, rfl⟩ := List.mem_map.1 hc; rfl
    · rintro v' H' ⟨h6, h7, g, ob, h8, h9⟩
      refine ⟨fun h => (nomatch h), n v' H' h6 ⟨?_, h.2.append h2.2⟩ (.inr ⟨g, ob, h9, h8⟩)⟩
      rw [List.length_append, List.map_append]; exact h7
  · have hl2 : l2 = [] := List.eq_nil_of_length_eq_zero (by omega)
    subst hl2
    refine den_eff (own_append0 ho hx hy und_ints h1 h.1.sl h2.1) ha ?_
    rintro v' H' ⟨rfl, rfl⟩
    exact ⟨fun h => (nomatch h), n _ _ hle (by rw [List.append_nil]; exact h) (.inl rfl)⟩
/-- append of one digit. -/
theorem den_push {d : Nat} {pf pf2 : Bool} (ho1 : o1.op = .buildSlice 111 1 #[(0, x)]) (ho2 : o2.op = .call ⟨.builtin .append, #[x2, y2], #[111, 111]⟩) (hx : argEv [x] [iv d] x = iv d) (hx2 : ∀ p, argEv [x2, y2] [v, p] x2 = v) (hy2 : ∀ p, argEv [x2, y2] [v, p] y2 = p) (hle : PH.le H0 H) (h : Od H0 H v l) (hd : d < 4294967296) (hb : l.length + 1 ≤ 1000000)
    (ha : args.map (D Tryz.prog ρ) = [iv d]) (ha2 : ∀ p, args2.map (D Tryz.prog (ρ ++ [p])) = [v, p]) (hpf : pf2 = false) (n : ∀ p v' H', PH.le H0 H' → Od H0 H' v' (l ++ [d]) → den Tryz.prog G t nx (ρ ++ [p] ++ [v']) H') : den Tryz.prog G (.eff pf id i o1 args (.eff pf2 id2 i2 o2 args2 t)) nx ρ H := by
  refine den_build1 ho1 hx hd ha fun u H1 hl1 h1 => ?_
  exact den_append ho2 (hx2 _) (hy2 _) (hle.trans hl1) (h.mono hl1) h1.ds hb (ha2 _) hpf fun v' H' hl2 h3 _ => n u v' H' hl2 h3
end
end Go.Proofs.YtcleogdmobdnpacGreatRDoor

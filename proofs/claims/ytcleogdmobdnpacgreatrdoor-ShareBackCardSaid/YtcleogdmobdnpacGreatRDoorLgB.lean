/- Slices of words in memory. -/
import Derived.Test.YtcleogdmobdnpacGreatRDoorLgA
import Derived.Test.YtcleogdmobdnpacGreatRDoorRfC
namespace Go.Proofs.YtcleogdmobdnpacGreatRDoor
open Go.RowKit Go.RX Go.WD

def uv (d : Nat) : Value := .int .u64 (d : Nat)

theorem ufill1 (f : Nat → Value) (d : Nat) : Instr.fill (fun j => some (j * 1, 1)) ((Array.range (1 * 1)).map f) [(0, uv d)] = some #[uv d] := by
  rw [range1]
  simp [Instr.fill, uv, cells_int]
theorem ufill2 (f : Nat → Value) (d e : Nat) : Instr.fill (fun j => some (j * 1, 1)) ((Array.range (2 * 1)).map f) [(0, uv d), (1, uv e)] = some #[uv d, uv e] := by
  rw [range2]
  simp [Instr.fill, uv, cells_int]
/-- v is a slice of words. -/
def Es (H : PH) (v : Value) (l : List Nat) : Prop := Sl H 1 v l.length (l.map uv) ∧ Eg l
/-- The call's own slice of words. -/
def Eo (H0 H : PH) (v : Value) (l : List Nat) : Prop := OwS H0 H 29 1 v l.length (l.map uv) ∧ Eg l
theorem Es.mono {H H' : PH} {v : Value} {l : List Nat} (h : Es H v l) (hl : PH.le H H') : Es H' v l := ⟨h.1.mono hl, h.2⟩
theorem Eo.mono {H0 H H' : PH} {v : Value} {l : List Nat} (h : Eo H0 H v l) (hl : PH.le H H') : Eo H0 H' v l := ⟨h.1.mono hl, h.2⟩
theorem Eo.less {H0 H1 H : PH} {v : Value} {l : List Nat} (h : Eo H1 H v l) (hl : PH.le H0 H1) : Eo H0 H v l := ⟨h.1.less hl, h.2⟩
theorem Eo.es {H0 H : PH} {v : Value} {l : List Nat} (h : Eo H0 H v l) : Es H v l := ⟨h.1.sl, h.2⟩
theorem Eo.nil (H0 H : PH) : Eo H0 H (.slice none 0 0) [] := ⟨OwS.nil H0 H _ 1, Eg.nil⟩
theorem Es.nil (H : PH) : Es H (.slice none 0 0) [] := (Eo.nil H H).es
/-- v is a slice of the words of n, without a 0 at the end. -/
def Mu (H : PH) (v : Value) (n : Nat) : Prop := ∃ l, Es H v l ∧ Um l ∧ ul l = n
theorem Mu.mono {H H' : PH} {v : Value} {n : Nat} (h : Mu H v n) (hl : PH.le H H') : Mu H' v n := by
  obtain ⟨l, h1, h2⟩ := h; exact ⟨l, h1.mono hl, h2⟩
theorem Mu.zero (H : PH) : Mu H (.slice none 0 0) 0 := ⟨[], Es.nil H, Um.nil, rfl⟩
theorem Es.cells {H : PH} {v : Value} {l : List Nat} (h : Es H v l) : v.cells = #[v] := by
  obtain ⟨⟨_, a, c, h2, _⟩, _⟩ := h; rw [h2]; rfl
theorem Es.one {H : PH} {v : Value} {l : List Nat} (h : Es H v l) : v.cells.size = 1 ∧ oneAll v.cells := by
  rw [h.cells]
  obtain ⟨⟨_, a, c, h2, _⟩, _⟩ := h
  refine ⟨rfl, fun c hc => ?_⟩
  simp at hc; rw [hc, h2]; rfl
theorem map_uv {l : List Nat} {i : Nat} (h : i < l.length) : ((l.map uv).drop (i * 1)).take 1 = [uv (l.getD i 0)] := by
  rw [Nat.mul_one, ← List.map_drop, drop_at h]; rfl
theorem cells_u64 : Tryz.prog.cellsOf 29 = 1 := by kernel_rfl
theorem hasT_u64 : hasT Tryz.prog 29 = true := by kernel_rfl
theorem agg_u64 : isAggB Tryz.prog 29 = false := by kernel_rfl
theorem und_u64s : Tryz.prog.underlying 73 = some (.slice 29) := by kernel_rfl
theorem info_u64 : ∃ i, Tryz.prog.info? 29 = some i ∧ i.zero = some (.int .u64 0) ∧ i.size = 1 ∧ i.bytes = 8 := by
  refine ⟨(Tryz.prog.info? 29).getD default, by kernel_rfl, by kernel_rfl, by kernel_rfl, by kernel_rfl⟩
section
variable {G : Value → PH → Prop} {nx : List (List Value → PH → Prop)} {ρ : List Value} {H H0 : PH} {o o1 o2 : Oper} {x y x2 y2 : Operand} {id i id2 i2 : Nat} {args args2 : List SV} {t : Tree} {v : Value} {l : List Nat}
theorem den_ulen (ho : o.op = .call ⟨.builtin .len, #[x], #[73]⟩) (hx : argEv [x] [v] x = v) (h : Es H v l) (ha : args.map (D Tryz.prog ρ) = [v]) (n : den Tryz.prog G t nx (ρ ++ [iv l.length]) H) : den Tryz.prog G (.prim id i o args t) nx ρ H :=
  den_prim ((sl_len ho hx und_u64s h.1).rds H) ha n
theorem den_uat {k : IntKind} {j : Nat} (ho1 : o1.op = .indexAddr 73 x y) (ho2 : o2.op = .load 29 x2) (hx : argEv [x, y] [v, .int k (j : Nat)] x = v) (hy : argEv [x, y] [v, .int k (j : Nat)] y = .int k (j : Nat)) (hx2 : ∀ p, argEv [x2] [p] x2 = p) (h : Es H v l) (hj : j < l.length)
    (ha : args.map (D Tryz.prog ρ) = [v, .int k (j : Nat)]) (ha2 : ∀ p, args2.map (D Tryz.prog (ρ ++ [p])) = [p]) (n : ∀ p, den Tryz.prog G t nx (ρ ++ [p] ++ [uv (l.getD j 0)]) H) : den Tryz.prog G (.prim id i o1 args (.prim id2 i2 o2 args2 t)) nx ρ H := by
  obtain ⟨b, q, cs, T', fz, h1, h2, h3, h4⟩ := sl_at (P := Tryz.prog) ho1 hx hy und_u64s hasT_u64 cells_u64 Nat.zero_lt_one h.1 hj
  rw [map_uv hj] at h4
  exact den_prim (h1.rds H) ha (den_prim (sl_load1 ho2 (hx2 _) h2 hasT_u64 agg_u64 cells_u64 h3 h4) (ha2 _) (n _))
/-- A store into a slice of the call's own. -/
theorem den_uset {k : IntKind} {j d : Nat} {pf : Bool} (ho1 : o1.op = .indexAddr 73 x y) (ho2 : o2.op = .store 29 x2 y2) (hx : argEv [x, y] [v, .int k (j : Nat)] x = v) (hy : argEv [x, y] [v, .int k (j : Nat)] y = .int k (j : Nat)) (hx2 : ∀ p, argEv [x2, y2] [p, uv d] x2 = p) (hy2 : ∀ p, argEv [x2, y2] [p, uv d] y2 = uv d)
    (hle : PH.le H0 H) (h : Eo H0 H v l) (hj : j < l.length) (hd : d < 18446744073709551616) (ha : args.map (D Tryz.prog ρ) = [v, .int k (j : Nat)]) (ha2 : ∀ p, args2.map (D Tryz.prog (ρ ++ [p])) = [p, uv d]) (hpf : pf = false)
    (n : ∀ p u H', PH.le H0 H' → Eo H0 H' v (l.set j d) → (∃ g ob, H0 g = none ∧ H' = H.put g ob) → den Tryz.prog G t nx (ρ ++ [p] ++ [u]) H') : den Tryz.prog G (.prim id i o1 args (.eff pf id2 i2 o2 args2 t)) nx ρ H := by
  obtain ⟨⟨hlen, hv⟩, hD⟩ := h
  rcases hv with ⟨_, h0⟩ | ⟨g, cap, cur, rfl, hg0, hg, hnc, hcm, hcs, htk⟩
  · omega
  rw [Nat.mul_one] at hcs htk
  have hix := yld_indexS (P := Tryz.prog) (m := (j : Int)) (n := l.length) ho1 hx hy und_u64s hasT_u64 (by omega) (by omega)
  rw [Int.toNat_natCast, cells_u64, Nat.zero_add, Nat.mul_one] at hix
  refine den_prim (hix.rds H) ha (den_eff (opn_store ho2 (hx2 _) (hy2 _) hg hasT_u64 (by rw [cells_u64]; omega) (by rw [cells_u64]; rfl) (one_int _ _)) (ha2 _) ?_)
  rintro u H' ⟨rfl, rfl⟩
  subst hpf
  have hcl : (uv d).cells.toList = [uv d] := rfl
  rw [hcl]
  refine ⟨fun h => (nomatch h), n _ _ _ ?_ ⟨⟨by simp, .inr ⟨g, cap, _, by rw [List.length_set], hg0, PH.put_self _ _ _, by rw [List.length_set]; exact hnc, hcm, ?_, ?_⟩⟩, hD.set j hd⟩ ⟨g, _, hg0, rfl⟩⟩
  · intro k ob hk
    rw [PH.put_ne _ _ (fun e => by rw [e, hg0] at hk; cases hk)]
    exact hle _ _ hk
  · show (cur.setIfInBounds j (uv d)).size = _
    rw [Array.size_setIfInBounds, hcs, Nat.mul_one]
  · show (cur.setIfInBounds j (uv d)).toList.take _ = _
    rw [Array.toList_setIfInBounds, Nat.mul_one, List.length_set, List.take_set, htk, List.map_set]
theorem eo_new {g n : Nat} {cs : Array Value} {l : List Nat} (hg : H g = none) (hl : l.length = n) (hn : n ≤ maxLen) (hc : cs.toList = l.map uv) (hD : Eg l) : Eo H (H.put g (.cells cs 29 (0, 0))) (.slice (some ⟨g, 0, none⟩) n n) l := by
  have hs : cs.size = n := by rw [← Array.length_toList, hc, List.length_map, hl]
  refine ⟨⟨by simp, .inr ⟨g, n, cs, by rw [hl], hg, PH.put_self _ _ _, by omega, hn, by omega, ?_⟩⟩, hD⟩
  rw [hc, List.take_of_length_le (by simp)]
theorem den_umake {kl kc : IntKind} {pf : Bool} {m : Nat} (ho : o.op = .makeSlice 73 x y) (hx : argEv [x, y] [.int kl (m : Nat), .int kc (m : Nat)] x = .int kl (m : Nat)) (hy : argEv [x, y] [.int kl (m : Nat), .int kc (m : Nat)] y = .int kc (m : Nat)) (hm : m ≤ 1000000) (ha : args.map (D Tryz.prog ρ) = [.int kl (m : Nat), .int kc (m : Nat)])
    (n : ∀ v H', PH.le H H' → Eo H H' v (List.replicate m 0) → den Tryz.prog G t nx (ρ ++ [v]) H') : den Tryz.prog G (.eff pf id i o args t) nx ρ H := by
  obtain ⟨ti, h1, h2, h3, h4⟩ := info_u64
  refine den_eff (sl_make ho hx hy und_u64s h1 h2 h3 (by rw [h4]; omega) (by simp only [maxLen]; omega)) ha ?_
  rintro v H' ⟨g, hg, rfl, rfl⟩
  refine ⟨fun _ => PH.le_put hg _, n _ _ (PH.le_put hg _) (eo_new hg (by simp) (by simp only [maxLen]; omega) ?_ (Eg.zeros m))⟩
  rw [Nat.mul_one]
  show (madeCells #[.int .u64 0] m).toList = _
  apply List.ext_getElem?
  intro j
  rw [List.getElem?_map, List.getElem?_replicate]
  simp only [madeCells, Array.toList_map, List.getElem?_map, Array.toList_range]
  by_cases hj : j < m
  · simp [hj, Nat.mod_one, uv]
  · simp [hj]
theorem den_ubuild1 {d : Nat} {pf : Bool} (ho : o.op = .buildSlice 73 1 #[(0, x)]) (hx : argEv [x] [uv d] x = uv d) (hd : d < 18446744073709551616) (ha : args.map (D Tryz.prog ρ) = [uv d])
    (n : ∀ v H', PH.le H H' → Eo H H' v [d] → den Tryz.prog G t nx (ρ ++ [v]) H') : den Tryz.prog G (.eff pf id i o args t) nx ρ H := by
  obtain ⟨ti, h1, h2, h3, h4⟩ := info_u64
  refine den_eff (sl_build (cells := #[uv d]) ho und_u64s h1 h2 (by rw [h3]; decide) (by rw [h3]; decide) (by rw [h3]; simp only [List.map_cons, List.map_nil, hx]; exact ufill1 _ d)) ha ?_
  rintro v H' ⟨g, hg, rfl, rfl⟩
  exact ⟨fun _ => PH.le_put hg _, n _ _ (PH.le_put hg _) (eo_new hg rfl (by simp only [maxLen]; omega) rfl (Eg.one hd))⟩
theorem den_ubuild2 {d e : Nat} {pf : Bool} (ho : o.op = .buildSlice 73 2 #[(0, x), (1, y)]) (hx : argEv [x, y] [uv d, uv e] x = uv d) (hy : argEv [x, y] [uv d, uv e] y = uv e) (hd : d < 18446744073709551616) (he : e < 18446744073709551616) (ha : args.map (D Tryz.prog ρ) = [uv d, uv e])
    (n : ∀ v H', PH.le H H' → Eo H H' v [d, e] → den Tryz.prog G t nx (ρ ++ [v]) H') : den Tryz.prog G (.eff pf id i o args t) nx ρ H := by
  obtain ⟨ti, h1, h2, h3, h4⟩ := info_u64
  refine den_eff (sl_build (cells := #[uv d, uv e]) ho und_u64s h1 h2 (by rw [h3]; decide) (by rw [h3]; decide) (by rw [h3]; simp only [List.map_cons, List.map_nil, hx, hy]; exact ufill2 _ d e)) ha ?_
  rintro v H' ⟨g, hg, rfl, rfl⟩
  exact ⟨fun _ => PH.le_put hg _, n _ _ (PH.le_put hg _) (eo_new hg rfl (by simp only [maxLen]; omega) rfl ((Eg.one hd).append (Eg.one he)))⟩
theorem den_ubuild0 {pf : Bool} (ho : o.op = .buildSlice 73 0 #[]) (ha : args.map (D Tryz.prog ρ) = [])
    (n : ∀ v H', PH.le H H' → Eo H H' v [] → den Tryz.prog G t nx (ρ ++ [v]) H') : den Tryz.prog G (.eff pf id i o args t) nx ρ H := by
  obtain ⟨ti, h1, h2, h3, h4⟩ := info_u64
  refine den_eff (sl_build0 ho und_u64s h1) ha ?_
  rintro v H' ⟨g, hg, rfl, rfl⟩
  exact ⟨fun _ => PH.le_put hg _, n _ _ (PH.le_put hg _) (eo_new hg rfl (by simp only [maxLen]; omega) rfl Eg.nil)⟩
/-- append to a slice of the call's own. -/
theorem den_uappend {l2 : List Nat} {u : Value} {pf : Bool} (ho : o.op = .call ⟨.builtin .append, #[x, y], #[73, 73]⟩) (hx : argEv [x, y] [v, u] x = v) (hy : argEv [x, y] [v, u] y = u) (hle : PH.le H0 H) (h : Eo H0 H v l) (h2 : Es H u l2) (hb : l.length + l2.length ≤ 1000000)
    (ha : args.map (D Tryz.prog ρ) = [v, u]) (hpf : pf = false) (n : ∀ v' H', PH.le H0 H' → Eo H0 H' v' (l ++ l2) → (H' = H ∨ ∃ g ob, H0 g = none ∧ H' = H.put g ob) → den Tryz.prog G t nx (ρ ++ [v']) H') : den Tryz.prog G (.eff pf id i o args t) nx ρ H := by
  obtain ⟨ti, h1, h3, h4, h5⟩ := info_u64
  subst hpf
  by_cases hm : 0 < l2.length
  · refine den_eff (own_append ho hx hy und_u64s h1 h3 h4 rfl hle h.1 h2.1 hm (fun c hc => ?_) (by simp only [maxLen]; omega) (by rw [h5]; omega)) ha ?_
    · obtain ⟨d, _, rfl⟩ := List.mem_map.1 hc; rfl
    · rintro v' H' ⟨h6, h7, g, ob, h8, h9⟩
      refine ⟨fun h => (nomatch h), n v' H' h6 ⟨?_, h.2.append h2.2⟩ (.inr ⟨g, ob, h9, h8⟩)⟩
      rw [List.length_append, List.map_append]; exact h7
  · have hl2 : l2 = [] := List.eq_nil_of_length_eq_zero (by omega)
    subst hl2
    refine den_eff (own_append0 ho hx hy und_u64s h1 h.1.sl h2.1) ha ?_
    rintro v' H' ⟨rfl, rfl⟩
    exact ⟨fun h => (nomatch h), n _ _ hle (by rw [List.append_nil]; exact h) (.inl rfl)⟩
/-- append of one digit. -/
theorem den_upush {d : Nat} {pf pf2 : Bool} (ho1 : o1.op = .buildSlice 73 1 #[(0, x)]) (ho2 : o2.op = .call ⟨.builtin .append, #[x2, y2], #[73, 73]⟩) (hx : argEv [x] [uv d] x = uv d) (hx2 : ∀ p, argEv [x2, y2] [v, p] x2 = v) (hy2 : ∀ p, argEv [x2, y2] [v, p] y2 = p) (hle : PH.le H0 H) (h : Eo H0 H v l) (hd : d < 18446744073709551616) (hb : l.length + 1 ≤ 1000000)
    (ha : args.map (D Tryz.prog ρ) = [uv d]) (ha2 : ∀ p, args2.map (D Tryz.prog (ρ ++ [p])) = [v, p]) (hpf : pf2 = false) (n : ∀ p v' H', PH.le H0 H' → Eo H0 H' v' (l ++ [d]) → den Tryz.prog G t nx (ρ ++ [p] ++ [v']) H') : den Tryz.prog G (.eff pf id i o1 args (.eff pf2 id2 i2 o2 args2 t)) nx ρ H := by
  refine den_ubuild1 ho1 hx hd ha fun u H1 hl1 h1 => ?_
  exact den_uappend ho2 (hx2 _) (hy2 _) (hle.trans hl1) (h.mono hl1) h1.es hb (ha2 _) hpf fun v' H' hl2 h3 _ => n u v' H' hl2 h3
end
end Go.Proofs.YtcleogdmobdnpacGreatRDoor

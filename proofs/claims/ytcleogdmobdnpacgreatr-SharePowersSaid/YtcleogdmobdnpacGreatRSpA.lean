/- Pairs of shares. -/
import Derived.Test.YtcleogdmobdnpacGreatRSdA
namespace Go.Proofs.YtcleogdmobdnpacGreatR
open Go.RowKit Go.RX Go.WD

section
variable {H : PH} {v : Value}
end
/-- A pair of shares. -/
abbrev Q4 : Type := (Nat × Nat) × (Nat × Nat)
def q4f (p : Q4) : List Value := shf p.1 ++ shf p.2
def q4v (p : Q4) : Value := .agg ((words p.1.1 ++ words p.1.2) ++ (words p.2.1 ++ words p.2.2))
theorem q4f_len (p : Q4) : (q4f p).length = 32 := rfl
theorem q4f_v (p : Q4) : (q4f p).toArray = (words p.1.1 ++ words p.1.2) ++ (words p.2.1 ++ words p.2.2) := by apply Array.ext'; simp [q4f, shf]
theorem q4f_at : ∀ (ps : List Q4) (i : Nat), i < ps.length → ((ps.flatMap q4f).drop (i * 32)).take 32 = q4f (ps.getD i ((0, 0), (0, 0)))
  | [], i, h => by simp at h
  | p :: ps, 0, _ => by
    rw [List.flatMap_cons, Nat.zero_mul, List.drop_zero, List.take_append_of_le_length (by rw [q4f_len]; omega), List.take_of_length_le (by rw [q4f_len]; omega)]; rfl
  | p :: ps, i + 1, h => by
    have hab := q4f_at ps i (by simpa using h)
    rw [List.flatMap_cons, Nat.add_mul, Nat.one_mul, List.drop_append, q4f_len, List.drop_of_length_le (by rw [q4f_len]; omega), List.nil_append, show i * 32 + 32 - 32 = i * 32 from by omega, hab]
    rfl
theorem q4f_flat : ∀ (ps : List Q4), (ps.flatMap q4f).length = ps.length * 32
  | [] => rfl
  | p :: ps => by rw [List.flatMap_cons, List.length_append, q4f_len, q4f_flat ps, List.length_cons]; omega
theorem cells_agg' (a : Array Value) : (Value.agg a).cells = a := rfl
theorem q4v_cells (p : Q4) : (q4v p).cells.toList = q4f p := by
  unfold q4v
  rw [cells_agg', ← q4f_v]
theorem q4v_flat (ps : List Q4) : ((ps.map q4v).flatMap fun v => v.cells.toList) = ps.flatMap q4f := by
  rw [List.flatMap_map]
  simp only [q4v_cells]
/-- A slice of pairs of shares. -/
def Sps (H : PH) (v : Value) (ps : List Q4) : Prop := Sl H 32 v ps.length (ps.flatMap q4f)
theorem Sps.mono {H H' : PH} {v : Value} {ps : List Q4} (h : Sps H v ps) (hl : PH.le H H') : Sps H' v ps := Sl.mono h hl
theorem q4_rq (p : Q4) : ((words p.1.1 ++ words p.1.2) ++ (words p.2.1 ++ words p.2.2)).size = 32 ∧ oneAll ((words p.1.1 ++ words p.1.2) ++ (words p.2.1 ++ words p.2.2)) := by
  have h1 := shv_one p.1.1 p.1.2
  have h2 := shv_one p.2.1 p.2.2
  refine ⟨by rw [Array.size_append, h1.1, h2.1], fun c hc => ?_⟩
  rw [Array.toList_append, List.mem_append] at hc
  rcases hc with hc | hc
  · exact h1.2 c hc
  · exact h2.2 c hc
section
variable {G : Value → PH → Prop} {nx : List (List Value → PH → Prop)} {ρ : List Value} {H H0 : PH} {o o1 o2 : Oper} {x y x2 y2 : Operand} {id i id2 i2 : Nat} {args args2 : List SV} {t : Tree} {v : Value} {ps : List Q4}
end
/-- Two shares and two drafts of shares. -/
def Tw2 (H : PH) (v : Value) : Prop := ∃ (a b c d : Nat) (dx dy : Array Value), v = .agg ((words a ++ words b) ++ (words c ++ words d) ++ dx ++ dy) ∧ Dr2 H (.agg dx) ∧ Dr2 H (.agg dy)
theorem Tw2.mono {H H' : PH} {v : Value} (h : Tw2 H v) (hl : PH.le H H') : Tw2 H' v := by
  obtain ⟨a, b, c, d, dx, dy, e, h1, h2⟩ := h; exact ⟨a, b, c, d, dx, dy, e, h1.mono hl, h2.mono hl⟩
theorem Tw2.rq {H : PH} {v : Value} (h : Tw2 H v) : v.cells.size = 44 ∧ oneAll v.cells := by
  obtain ⟨a, b, c, d, dx, dy, rfl, h1, h2⟩ := h
  have g0 := q4_rq ((a, b), (c, d))
  have g1 := h1.rq
  have g2 := h2.rq
  have s1 : dx.size = 6 := g1.1
  have s2 : dy.size = 6 := g2.1
  constructor
  · show ((words a ++ words b) ++ (words c ++ words d) ++ dx ++ dy).size = 44
    rw [Array.size_append, Array.size_append, s1, s2, show ((words a ++ words b) ++ (words c ++ words d)).size = 32 from g0.1]
  · intro x hx
    have hx : x ∈ ((words a ++ words b) ++ (words c ++ words d) ++ dx ++ dy).toList := hx
    rw [Array.toList_append, List.mem_append, Array.toList_append, List.mem_append] at hx
    rcases hx with (hx | hx) | hx
    · exact g0.2 x hx
    · exact g1.2 x hx
    · exact g2.2 x hx
theorem tw_all2 {A B C E : Array Value} (h1 : A.size = 16) (h2 : B.size = 16) (h3 : C.size = 6) (h4 : E.size = 6) : (A ++ B ++ C ++ E).extract 0 16 = A ∧ (A ++ B ++ C ++ E).extract 16 32 = B ∧ (A ++ B ++ C ++ E).extract 32 38 = C ∧ (A ++ B ++ C ++ E).extract 38 44 = E := by
  have e1 : A.toList.length = 16 := by simpa using h1
  have e2 : B.toList.length = 16 := by simpa using h2
  have e3 : C.toList.length = 6 := by simpa using h3
  have e4 : E.toList.length = 6 := by simpa using h4
  refine ⟨?_, ?_, ?_, ?_⟩
  · apply Array.ext'
    simp [h1, List.take_of_length_le]
  · apply Array.ext'
    simp [h1, h2, List.take_of_length_le, List.drop_of_length_le]
  · apply Array.ext'
    simp [h1, h2, h3, List.take_of_length_le, List.drop_of_length_le]
  · apply Array.ext'
    simp [h1, h2, h3, h4, List.take_of_length_le, List.drop_of_length_le]
theorem q4_ext {A B C E : Array Value} (h1 : A.size = 8) (h2 : B.size = 8) (h3 : C.size = 8) (h4 : E.size = 8) : ((A ++ B) ++ (C ++ E)).extract 0 16 = A ++ B ∧ ((A ++ B) ++ (C ++ E)).extract 16 32 = C ++ E ∧ ((A ++ B) ++ (C ++ E)).extract 0 8 = A ∧ ((A ++ B) ++ (C ++ E)).extract 24 32 = E := by
  have e1 : A.toList.length = 8 := by simpa using h1
  have e2 : B.toList.length = 8 := by simpa using h2
  have e3 : C.toList.length = 8 := by simpa using h3
  have e4 : E.toList.length = 8 := by simpa using h4
  refine ⟨?_, ?_, ?_, ?_⟩
  · apply Array.ext'
    simp [h1, h2, List.take_of_length_le]
  · apply Array.ext'
    simp [h1, h2, h3, h4, List.take_of_length_le, List.drop_of_length_le]
  · apply Array.ext'
    simp [h1, List.take_of_length_le]
  · apply Array.ext'
    simp [h1, h2, h3, h4, List.take_of_length_le, List.drop_of_length_le]
theorem sp_put (a b c d : Nat) : spl (spl ((words 0 ++ words 0) ++ (words 0 ++ words 0)) 0 (words a ++ words b).toList) 16 (words c ++ words d).toList = (words a ++ words b) ++ (words c ++ words d) := by
  simp [words, wf, spl]
end Go.Proofs.YtcleogdmobdnpacGreatR
namespace Go.Proofs.YtcleogdmobdnpacGreatR
open Go.ChangeShapes Go.WideShapes Go.ChangeAt Go.RowKit Go.RX Go.WD

section
variable {H : Type} {enc : TypeId × Value → H} {W : World} {base : Nat} {spare : Nat → Bool} {held : Bool} {fuel : Nat}
set_option maxRecDepth 100000 in
theorem trod_sh {cs : List Value} {x : DataW H × List MemPlace} (h : DataW.trod enc Tryz.prog W base spare held fuel 34 cs = some x) : ∃ a b, cs.toArray = words a ++ words b := by
  have ht : Tryz.prog.underlying 34 = some (.struct (fieldsOf Tryz.prog 34)) := by kernel_rfl
  have hl : cs.length = 16 := by
    obtain ⟨xs, n, _, rfl, hl, hlen, hf⟩ := DataW.trod_struct ht h
    rw [hl]; kernel_rfl
  obtain ⟨y0, m0, h0⟩ := trod_field (k := 2) (T := 32) (o := 0) (c := 8) 0 ht (by kernel_rfl) (by omega) (by kernel_rfl) (by kernel_rfl) (by kernel_rfl) h
  obtain ⟨y1, m1, h1⟩ := trod_field (k := 2) (T := 32) (o := 8) (c := 8) 1 ht (by kernel_rfl) (by omega) (by kernel_rfl) (by kernel_rfl) (by kernel_rfl) h
  obtain ⟨⟨a, ha⟩, _⟩ := trod_wide h0
  obtain ⟨⟨b, hb⟩, _⟩ := trod_wide h1
  refine ⟨a, b, ?_⟩
  rw [← ha, ← hb]
  apply Array.ext'
  simp only [Array.toList_append]
  match cs, hl with
  | [c0, c1, c2, c3, c4, c5, c6, c7, c8, c9, c10, c11, c12, c13, c14, c15], _ => rfl
end
end Go.Proofs.YtcleogdmobdnpacGreatR
namespace Go.Proofs.YtcleogdmobdnpacGreatR
open Go.ChangeShapes Go.WideShapes Go.ChangeAt Go.RowKit Go.RX Go.WD

section
variable {Hh : Type} {enc : TypeId × Value → Hh} {W : World} {base : Nat} {spare : Nat → Bool} {held : Bool} {fuel : Nat}
theorem cell_block {w : World} {b q j : Nat} {cs : Array Value} {T : TypeId} {fz : Nat × Nat} {v : Value} (hb : w.heap[b]? = some (.cells cs T fz)) (h : w.cell? ((⟨b, q, none⟩ : Addr).add j) = some v) : cs[q + j]? = some v := by
  rw [add_blk] at h
  simp only [World.cell?, hb] at h
  exact h
set_option maxRecDepth 100000 in
theorem trod_sl {P : Program} {t e : TypeId} {sz : Nat} {cs : List Value} {x : DataW Hh × List MemPlace} (ht : P.underlying t = some (.slice e)) (hc : P.cellsOf e = sz) (hsz : 0 < sz) (h : DataW.trod enc P W base spare held fuel t cs = some x) :
    ∃ w n xs, cs = [w] ∧ Sl (fun b => W.heap[b]?) sz w n xs ∧ ∀ i, i < n → ∃ y m, DataW.trod enc P W base spare held m e ((xs.drop (i * sz)).take sz) = some y := by
  rcases Go.Deep.open_slice ht h with ⟨rfl, _⟩ | ⟨a, len, cap, m, n, D, Pl, rfl, _, hlc, hcm, hm, _, hV⟩
  · exact ⟨_, 0, [], rfl, ⟨by simp, none, 0, rfl, by omega, by simp [maxLen], .inl rfl⟩, fun i hi => absurd hi (Nat.not_lt_zero _)⟩
  · have hlm : len ≤ m := by rw [hm]; split <;> omega
    rw [hc] at hV
    by_cases h0 : len = 0
    · subst h0
      exact ⟨_, 0, [], rfl, ⟨by simp, a, cap, rfl, by omega, hcm, .inl rfl⟩, fun i hi => absurd hi (Nat.not_lt_zero _)⟩
    · obtain ⟨c0, g1, _⟩ := hV 0 (by omega)
      obtain ⟨_, glen, gcell⟩ := World.cells?_some g1
      have hc0 := gcell 0 hsz
      rw [List.getElem?_eq_getElem (by omega)] at hc0
      rw [Nat.zero_mul, Go.Deep.add_add] at hc0
      obtain ⟨b, q, bc, T, fz, ha, hb, _⟩ := plain_of_cell hc0
      have ha := plain_add ha
      subst ha
      have key : ∀ i, i < len → ∃ ci, ci.length = sz ∧ (∀ j, j < sz → bc[q + (i * sz + j)]? = ci[j]?) ∧ DataW.trod enc P W base spare held n e ci = some (D i, Pl i) := fun i hi => by
        obtain ⟨ci, k1, k2⟩ := hV i (by omega)
        obtain ⟨_, klen, kcell⟩ := World.cells?_some k1
        refine ⟨ci, klen, fun j hj => ?_, k2⟩
        have := kcell j hj
        rw [List.getElem?_eq_getElem (by omega)] at this ⊢
        rw [Go.Deep.add_add] at this
        exact cell_block hb this
      have hsize : q + len * sz ≤ bc.size := by
        obtain ⟨ci, klen, kcell, _⟩ := key (len - 1) (by omega)
        have := kcell (sz - 1) (by omega)
        rw [List.getElem?_eq_getElem (by omega)] at this
        have := (Array.getElem?_eq_some_iff.1 this).1
        have e1 : (len - 1) * sz + sz = len * sz := by rw [← Nat.succ_mul]; congr 1; omega
        omega
      refine ⟨_, len, (bc.toList.drop q).take (len * sz), rfl, ⟨?_, _, cap, rfl, hlc, hcm, .inr ⟨b, q, bc, T, fz, rfl, hb, rfl⟩⟩, fun i hi => ?_⟩
      · rw [List.length_take, List.length_drop, Array.length_toList]; omega
      · obtain ⟨ci, klen, kcell, k2⟩ := key i hi
        refine ⟨(D i, Pl i), n, ?_⟩
        rw [← k2]
        congr 1
        have hle : (i + 1) * sz ≤ len * sz := Nat.mul_le_mul_right _ hi
        rw [Nat.add_mul, Nat.one_mul] at hle
        apply List.ext_getElem?
        intro j
        rw [List.getElem?_take]
        split
        · rename_i hj
          rw [List.getElem?_drop, List.getElem?_take, if_pos (by omega), List.getElem?_drop, Array.getElem?_toList, kcell j hj]
        · rename_i hj
          rw [List.getElem?_eq_none (by omega)]
end
/-- A slice of drafts of shares. -/
def Drs (H : PH) (v : Value) (n : Nat) : Prop := ∃ xs, Sl H 6 v n xs ∧ ∀ i, i < n → Dr2 H (.agg ((xs.drop (i * 6)).take 6).toArray)
theorem Drs.mono {H H' : PH} {v : Value} {n : Nat} (h : Drs H v n) (hl : PH.le H H') : Drs H' v n := by
  obtain ⟨xs, h1, h2⟩ := h; exact ⟨xs, h1.mono hl, fun i hi => (h2 i hi).mono hl⟩
theorem und_drafts : Tryz.prog.underlying 28 = some (.slice 27) := by kernel_rfl
section
variable {G : Value → PH → Prop} {nx : List (List Value → PH → Prop)} {ρ : List Value} {H H0 : PH} {o o1 o2 : Oper} {x y x2 y2 : Operand} {id i id2 i2 : Nat} {args args2 : List SV} {t : Tree} {v : Value} {n : Nat}
set_option maxRecDepth 100000 in
theorem den_drlen (ho : o.op = .call ⟨.builtin .len, #[x], #[28]⟩) (hx : argEv [x] [v] x = v) (h : Drs H v n) (ha : args.map (D Tryz.prog ρ) = [v]) (k : den Tryz.prog G t nx (ρ ++ [iv n]) H) : den Tryz.prog G (.prim id i o args t) nx ρ H := by
  obtain ⟨xs, h1, _⟩ := h
  exact den_prim ((sl_len ho hx und_drafts h1).rds H) ha k
set_option maxRecDepth 100000 in
theorem den_drat {k : IntKind} {j : Nat} (ho1 : o1.op = .indexAddr 28 x y) (ho2 : o2.op = .load 27 x2) (hx : argEv [x, y] [v, .int k (j : Nat)] x = v) (hy : argEv [x, y] [v, .int k (j : Nat)] y = .int k (j : Nat)) (hx2 : ∀ p, argEv [x2] [p] x2 = p) (h : Drs H v n) (hj : j < n)
    (ha : args.map (D Tryz.prog ρ) = [v, .int k (j : Nat)]) (ha2 : ∀ p, args2.map (D Tryz.prog (ρ ++ [p])) = [p]) (c : ∀ p d, Dr2 H d → den Tryz.prog G t nx (ρ ++ [p] ++ [d]) H) : den Tryz.prog G (.prim id i o1 args (.prim id2 i2 o2 args2 t)) nx ρ H := by
  obtain ⟨xs, hs, hd⟩ := h
  obtain ⟨b, q, cs, T', fz, h1, h2, h3, h4⟩ := sl_at (P := Tryz.prog) (e := 27) (sz := 6) ho1 hx hy und_drafts (by kernel_rfl) (by kernel_rfl) (by omega) hs hj
  have hl := sl_loadN (P := Tryz.prog) (H := H) ho2 (hx2 _) h2 (by kernel_rfl) (by kernel_rfl) (by kernel_rfl) h3 h4
  exact den_prim (h1.rds H) ha (den_prim hl (ha2 _) (c _ _ (hd j hj)))
set_option maxRecDepth 100000 in
theorem den_drat0 {k : IntKind} {j : Nat} (ho1 : o1.op = .indexAddr 28 x y) (ho2 : o2.op = .load 27 x2) (hx : argEv [x, y] [v, .int k (j : Nat)] x = v) (hy : argEv [x, y] [v, .int k (j : Nat)] y = .int k (j : Nat)) (hx2 : ∀ p, argEv [x2] [p] x2 = p) (h : Drs H0 v n) (hle : PH.le H0 H) (hj : j < n)
    (ha : args.map (D Tryz.prog ρ) = [v, .int k (j : Nat)]) (ha2 : ∀ p, args2.map (D Tryz.prog (ρ ++ [p])) = [p]) (c : ∀ p d, Dr2 H0 d → den Tryz.prog G t nx (ρ ++ [p] ++ [d]) H) : den Tryz.prog G (.prim id i o1 args (.prim id2 i2 o2 args2 t)) nx ρ H := by
  obtain ⟨xs, hs, hd⟩ := h
  obtain ⟨b, q, cs, T', fz, h1, h2, h3, h4⟩ := sl_at (P := Tryz.prog) (e := 27) (sz := 6) ho1 hx hy und_drafts (by kernel_rfl) (by kernel_rfl) (by omega) hs hj
  have hl := sl_loadN (P := Tryz.prog) (H := H) ho2 (hx2 _) (hle _ _ h2) (by kernel_rfl) (by kernel_rfl) (by kernel_rfl) h3 h4
  exact den_prim (h1.rds H) ha (den_prim hl (ha2 _) (c _ _ (hd j hj)))
set_option maxRecDepth 100000 in
theorem den_drtake {k : IntKind} {j : Nat} {hi : Operand} (ho : o.op = .slice 28 x none (some hi) none) (hx : argEv [x, hi] [v, .int k (j : Nat)] x = v) (hl : argEv [x, hi] [v, .int k (j : Nat)] hi = .int k (j : Nat)) (h : Drs H v n) (hj : j ≤ n)
    (ha : args.map (D Tryz.prog ρ) = [v, .int k (j : Nat)]) (c : ∀ u, Drs H u j → den Tryz.prog G t nx (ρ ++ [u]) H) : den Tryz.prog G (.prim id i o args t) nx ρ H := by
  obtain ⟨xs, hs, hd⟩ := h
  obtain ⟨u, h1, h2⟩ := sl_take (P := Tryz.prog) (vs := [v, .int k (j : Nat)]) ho hx hl und_drafts (by kernel_rfl) hs hj
  refine den_prim (h1.rds H) ha (c u ⟨_, h2, fun i hi => ?_⟩)
  have := hd i (by omega)
  have hle : (i + 1) * 6 ≤ j * 6 := Nat.mul_le_mul_right _ hi
  rw [Nat.add_mul, Nat.one_mul] at hle
  rwa [List.drop_take, List.take_take, Nat.min_eq_left (by omega)]
end
section
variable {H : Type} {enc : TypeId × Value → H} {W : World} {base : Nat} {spare : Nat → Bool} {held : Bool} {fuel : Nat}
set_option maxRecDepth 100000 in
theorem okWide_slice {P : Program} {w : World} {r : Reach} {base : Nat} {t e : TypeId} {v : Value} (ht : P.underlying t = some (.slice e)) (h : Value.okWide P w r base t v) : v.cells.toList = [v] := by
  simp only [Value.okWide, ht] at h
  cases v <;> simp_all [Value.cells, Cell.okWide, Cell.ok]
set_option maxRecDepth 100000 in
theorem open_drafts {r : Reach} {b0 : Nat} {v : Value} {d : DataW H} {p : List MemPlace} (hv : Value.okWide Tryz.prog W r b0 28 v) (h : DataW.Trod enc Tryz.prog W base spare held 28 v d p) : ∃ n, Drs (fun b => W.heap[b]?) v n := by
  obtain ⟨m, hm⟩ := h
  obtain ⟨w, n, xs, e1, hs, hd⟩ := trod_sl und_drafts (show Tryz.prog.cellsOf 27 = 6 by kernel_rfl) (by omega) hm
  rw [okWide_slice und_drafts hv] at e1
  obtain rfl : v = w := by simpa using e1
  exact ⟨n, xs, hs, fun i hi => by obtain ⟨y, k, hk⟩ := hd i hi; exact trod_dr2 hk⟩
end
end Go.Proofs.YtcleogdmobdnpacGreatR
namespace Go.Proofs.YtcleogdmobdnpacGreatR
open Go.RowKit Go.RX Go.WD
theorem bft (k : Int) : Value.bool (k != k) = .bool false := by rw [bne_self_eq_false]
theorem ne_wself {o : Oper} {x y : Operand} {n : Nat} (ho : o.op = .binOp .neq 32 x y 32) (hx : argEv [x, y] [wd n, wd n] x = wd n) (hy : argEv [x, y] [wd n, wd n] y = wd n) : Yld Tryz.prog o [wd n, wd n] (.bool false) := by
  have := ne_wide (a := n) (b := n) ho rfl rfl hx hy
  rwa [decide_eq_true rfl] at this
theorem D_putf {P : Program} {ρ : List Value} {x : SV} {cs : Array Value} {o : Nat} (g : FuncId) (hx : D P ρ x = .agg cs) : D P ρ (.put x o 1 (.k (.func (.func g) #[] #[])) 0 noI) = .agg (cs.setIfInBounds o (.func (.func g) #[] #[])) := by
  show Value.agg (spl (D P ρ x).cells (o + 0 * ixOf (D P ρ noI)) [.func (.func g) #[] #[]]) = _
  rw [hx, Nat.zero_mul]; rfl
theorem D_cell1 {P : Program} {ρ : List Value} {x : SV} {cs : Array Value} {i j : Nat} (hx : D P ρ x = .agg cs) (hi : ρ.getD i undef = iv j) : D P ρ (.cell x 0 1 (.v i)) = cs.getD j undef := by
  show (D P ρ x).cells.getD (0 + 1 * ixOf (ρ.getD i undef)) undef = _
  rw [hx, hi, show 0 + 1 * ixOf (iv j) = j from by show 0 + 1 * ((j : Int).toNat) = j; omega]
  rfl
section
variable {P : Program} {G : Value → PH → Prop} {nx : List (List Value → PH → Prop)} {ρ : List Value} {H : PH} {t : Tree} {x : SV} {a b : Value}
theorem den_t2 (h : D P ρ x = .tuple #[a, b]) (n : den P G t nx ρ H) : den P G (.rq (.tup 0 x) (.rq (.tup 1 x) t)) nx ρ H :=
  den_rq ⟨_, h, Nat.zero_lt_succ _⟩ (den_rq ⟨_, h, Nat.lt_succ_self _⟩ n)
theorem den_t2s {p q : Nat} (h : D P ρ x = .tuple #[shv p q, b]) (n : den P G t nx ρ H) : den P G (.rq (.tup 0 x) (.rq (.tup 1 x) (.rq (.cells 16 (.proj x 0)) t))) nx ρ H :=
  den_t2 h (den_rq (by show (tupV 0 (D P ρ x)).cells.size = 16 ∧ oneAll (tupV 0 (D P ρ x)).cells; rw [h]; exact shv_one p q) n)
theorem den_t2w {p : Nat} (h : D P ρ x = .tuple #[wd p, b]) (n : den P G t nx ρ H) : den P G (.rq (.tup 0 x) (.rq (.tup 1 x) (.rq (.cells 8 (.proj x 0)) t))) nx ρ H :=
  den_t2 h (den_rq (by show (tupV 0 (D P ρ x)).cells.size = 8 ∧ oneAll (tupV 0 (D P ρ x)).cells; rw [h]; exact ⟨words_size p, words_one p⟩) n)
/-- An error that is 0. -/
theorem den_e0 (h : D P ρ x = .tuple #[a, .int .i64 0]) (n : den P G t nx ρ H) : den P G (.rq (.int .i64 (.proj x 1)) (.rq (.isb false (.op2 .neq .i64 (.proj x 1) (.k (.int .i64 0)))) t)) nx ρ H :=
  den_rq ⟨0, by show tupV 1 (D P ρ x) = _; rw [h]; rfl⟩ (den_rq (by show Value.bool (intOf (tupV 1 (D P ρ x)) != 0) = _; rw [h]; rfl) n)
theorem den_e1 (h : D P ρ x = .tuple #[a, .int .i64 0]) (n : den P G t nx ρ H) : den P G (.rq (.int .i64 (.proj x 1)) (.rq (.isb true (.op2 .eql .i64 (.proj x 1) (.k (.int .i64 0)))) t)) nx ρ H :=
  den_rq ⟨0, by show tupV 1 (D P ρ x) = _; rw [h]; rfl⟩ (den_rq (by show Value.bool (intOf (tupV 1 (D P ρ x)) == 0) = _; rw [h]; rfl) n)
/-- Two errors that are equal. -/
theorem den_ee {y : SV} {c : Value} {e : Int} (h : D P ρ x = .tuple #[a, .int .i64 e]) (h2 : D P ρ y = .tuple #[c, .int .i64 e]) (n : den P G t nx ρ H) : den P G (.rq (.int .i64 (.proj x 1)) (.rq (.int .i64 (.proj y 1)) (.rq (.isb false (.op2 .neq .i64 (.proj x 1) (.proj y 1))) t))) nx ρ H :=
  den_rq ⟨e, by show tupV 1 (D P ρ x) = _; rw [h]; rfl⟩ (den_rq ⟨e, by show tupV 1 (D P ρ y) = _; rw [h2]; rfl⟩ (den_rq (by show Value.bool (intOf (tupV 1 (D P ρ x)) != intOf (tupV 1 (D P ρ y))) = _; rw [h, h2]; exact bft e) n))
/-- A number, compared. -/
theorem den_cmp {o : BinOp} {e : Int} {k : Int} (h : D P ρ x = .tuple #[.int .i64 e, b]) (hc : binV o .i64 e k = .bool false) (n : den P G t nx ρ H) : den P G (.rq (.int .i64 (.proj x 0)) (.rq (.isb false (.op2 o .i64 (.proj x 0) (.k (.int .i64 k)))) t)) nx ρ H :=
  den_rq ⟨e, by show tupV 0 (D P ρ x) = _; rw [h]; rfl⟩ (den_rq (by show binV o .i64 (intOf (tupV 0 (D P ρ x))) k = _; rw [h]; exact hc) n)
end
end Go.Proofs.YtcleogdmobdnpacGreatR

/- Package share: contracts. Printed by mkShC.py. -/
import Derived.Test.YtcleogdmobdnpacGreatRDoorShB
import Derived.Test.YtcleogdmobdnpacGreatRDoorLwA
namespace Go.WD
open Go.RX
/-- Is a share valid? -/
def okB (n d : Nat) : Bool := decide (0 < toI d) && decide (Nat.gcd (toI n).natAbs (toI d).natAbs = 1)
def okP (p : Nat × Nat) : Bool := okB p.1 p.2
/-- The fraction of a share. -/
def ratOf (n d : Nat) : Rat := Rat.divInt (toI n) (toI d)
theorem ok_rat {n d : Nat} (h : okB n d = true) : (ratOf n d).num = toI n ∧ ((ratOf n d).den : Int) = toI d := by
  unfold okB at h
  rw [Bool.and_eq_true, decide_eq_true_iff, decide_eq_true_iff] at h
  have h0 : toI d ≠ 0 := by omega
  have h1 := low_num (toI n) h0
  have h2 := low_den (toI n) h0
  simp only [h.2, Int.natCast_one, Int.ediv_one] at h1 h2
  rw [if_neg (by omega)] at h1 h2
  exact ⟨h1, h2⟩
theorem sgI_pos (z : Int) : sgI z 0 ≤ 0 ↔ z ≤ 0 := by
  unfold sgI
  by_cases h1 : z < 0
  · rw [if_pos h1]; omega
  · rw [if_neg h1]
    by_cases h2 : z = 0
    · rw [if_pos h2]; omega
    · rw [if_neg h2]; omega
theorem sgI_zero (y z : Int) : (sgI y z != 0) = !decide (y = z) := by
  unfold sgI
  by_cases h1 : y < z
  · rw [if_pos h1, decide_eq_false (by omega)]; rfl
  · rw [if_neg h1]
    by_cases h2 : y = z
    · rw [if_pos h2, decide_eq_true h2]; rfl
    · rw [if_neg h2, decide_eq_false h2]; rfl
end Go.WD
namespace Go.Proofs.YtcleogdmobdnpacGreatRDoor
open Go.RowKit Go.RX Go.WD

theorem ok_rb {n d K : Nat} (h : okB n d = true) (hK : K = 512) : Rb K (ratOf n d) := by
  obtain ⟨h1, h2⟩ := ok_rat h
  have e : M = 2 ^ K := by
    rw [M_def, PW_pow]
    congr 1
    omega
  have a1 := toI_abs_lt n
  have a2 := toI_abs_lt d
  unfold Rb
  rw [h1, ← e]
  exact ⟨a1, by omega⟩
theorem not_t {b : Bool} (h : (!b) = true) : b = false := by cases b <;> simp_all
theorem not_f {b : Bool} (h : (!b) = false) : b = true := by cases b <;> simp_all
def shf (p : Nat × Nat) : List Value := (words p.1).toList ++ (words p.2).toList
def shp (p : Nat × Nat) : Value := shv p.1 p.2
theorem shf_len (p : Nat × Nat) : (shf p).length = 16 := rfl
theorem shf_at : ∀ (ps : List (Nat × Nat)) (i : Nat), i < ps.length → ((ps.flatMap shf).drop (i * 16)).take 16 = shf (ps.getD i (0, 0))
  | [], i, h => by simp at h
  | p :: ps, 0, _ => by
    rw [List.flatMap_cons, Nat.zero_mul, List.drop_zero, List.take_append_of_le_length (by rw [shf_len]; omega), List.take_of_length_le (by rw [shf_len]; omega)]; rfl
  | p :: ps, i + 1, h => by
    have hab := shf_at ps i (by simpa using h)
    rw [List.flatMap_cons, Nat.add_mul, Nat.one_mul, List.drop_append, shf_len, List.drop_of_length_le (by rw [shf_len]; omega), List.nil_append, show i * 16 + 16 - 16 = i * 16 from by omega, hab]
    rfl
theorem shf_flat : ∀ (ps : List (Nat × Nat)), (ps.flatMap shf).length = ps.length * 16
  | [] => rfl
  | p :: ps => by rw [List.flatMap_cons, List.length_append, shf_len, shf_flat ps, List.length_cons]; omega
theorem shp_flat (ps : List (Nat × Nat)) : ((ps.map shp).flatMap fun v => v.cells.toList) = ps.flatMap shf := by
  rw [List.flatMap_map]
  congr 1
/-- A slice of shares. -/
def Shs (H : PH) (v : Value) (ps : List (Nat × Nat)) : Prop := Sl H 16 v ps.length (ps.flatMap shf)
theorem Shs.mono {H H' : PH} {v : Value} {ps : List (Nat × Nat)} (h : Shs H v ps) (hl : PH.le H H') : Shs H' v ps := Sl.mono h hl
theorem info_share : ∃ i z, Tryz.prog.info? 33 = some i ∧ i.zero = some z ∧ i.size = 16 ∧ z.cells.size = 16 ∧ i.bytes = 128 := by
  refine ⟨(Tryz.prog.info? 33).getD default, (((Tryz.prog.info? 33).getD default).zero).getD default, by kernel_rfl, by kernel_rfl, by kernel_rfl, by kernel_rfl, by kernel_rfl⟩
theorem und_shares : Tryz.prog.underlying 120 = some (.slice 33) := by kernel_rfl
section
variable {G : Value → PH → Prop} {nx : List (List Value → PH → Prop)} {ρ : List Value} {H H0 : PH} {o o1 o2 : Oper} {x y x2 y2 : Operand} {id i id2 i2 : Nat} {args args2 : List SV} {t : Tree} {v : Value} {ps : List (Nat × Nat)}
theorem den_shlen (ho : o.op = .call ⟨.builtin .len, #[x], #[120]⟩) (hx : argEv [x] [v] x = v) (h : Shs H v ps) (ha : args.map (D Tryz.prog ρ) = [v]) (k : den Tryz.prog G t nx (ρ ++ [iv ps.length]) H) : den Tryz.prog G (.prim id i o args t) nx ρ H :=
  den_prim ((sl_len ho hx und_shares h).rds H) ha k
theorem den_shat {k : IntKind} {j : Nat} (ho1 : o1.op = .indexAddr 120 x y) (ho2 : o2.op = .load 33 x2) (hx : argEv [x, y] [v, .int k (j : Nat)] x = v) (hy : argEv [x, y] [v, .int k (j : Nat)] y = .int k (j : Nat)) (hx2 : ∀ p, argEv [x2] [p] x2 = p) (h : Shs H v ps) (hj : j < ps.length)
    (ha : args.map (D Tryz.prog ρ) = [v, .int k (j : Nat)]) (ha2 : ∀ p, args2.map (D Tryz.prog (ρ ++ [p])) = [p]) (c : ∀ p, den Tryz.prog G t nx (ρ ++ [p] ++ [shp (ps.getD j (0, 0))]) H) : den Tryz.prog G (.prim id i o1 args (.prim id2 i2 o2 args2 t)) nx ρ H := by
  obtain ⟨b, q, cs, T', fz, h1, h2, h3, h4⟩ := sl_at (P := Tryz.prog) (e := 33) (sz := 16) ho1 hx hy und_shares (by kernel_rfl) (by kernel_rfl) (by omega) h hj
  rw [shf_at ps j hj] at h4
  have hl := sl_loadN (P := Tryz.prog) (H := H) ho2 (hx2 _) h2 (by kernel_rfl) (by kernel_rfl) (by kernel_rfl) h3 h4
  rw [show (shf (ps.getD j (0, 0))).toArray = words (ps.getD j (0, 0)).1 ++ words (ps.getD j (0, 0)).2 from by apply Array.ext'; simp [shf]] at hl
  exact den_prim (h1.rds H) ha (den_prim hl (ha2 _) (c _))
/-- A new slice of shares. -/
theorem den_shbuild {pb : Bool} {parts : Array (Nat × Operand)} {vs : List Value} (ps : List (Nat × Nat)) (ho : o.op = .buildSlice 120 ps.length parts) (hps : 0 < ps.length) (hp2 : ps.length ≤ 1000) (hpar : (parts.toList.map fun p => (p.1, argEv (parts.toList.map (·.2)) vs p.2)) = (ps.map shp).zipIdx.map fun p => (p.2, p.1)) (ha : args.map (D Tryz.prog ρ) = vs)
    (n : ∀ v H', PH.le H H' → Shs H' v ps → den Tryz.prog G t nx (ρ ++ [v]) H') : den Tryz.prog G (.eff pb id i o args t) nx ρ H := by
  obtain ⟨ti, z, i1, i2, i3, i4, i5⟩ := info_share
  refine den_eff (vs := vs) (sl_build (cells := (ps.flatMap shf).toArray) ho und_shares i1 i2 (by rw [i3]; omega) (by rw [i3]; omega) ?_) ha ?_
  · rw [i3, hpar]
    have := Go.Great.fill_whole (s := 16) (by omega) (ps.map shp) (Array.map (fun x => z.cells[x % z.cells.size]!) (Array.range (ps.length * 16))) (fun v hv => by
      obtain ⟨p, _, rfl⟩ := List.mem_map.1 hv
      exact (shv_one p.1 p.2).1) (by simp)
    rw [shp_flat] at this
    exact this
  · rintro v H' ⟨g, hg, rfl, rfl⟩
    refine ⟨fun _ => PH.le_put hg _, n _ _ (PH.le_put hg _) ⟨shf_flat ps, _, ps.length, rfl, Nat.le_refl _, by simp only [maxLen]; omega, .inr ⟨g, 0, _, _, _, rfl, PH.put_self _ _ _, ?_⟩⟩⟩
    rw [List.drop_zero, List.toList_toArray, List.take_of_length_le (by rw [shf_flat]; exact Nat.le_refl _)]
end
section
variable {H : PH} {x y v : Value} {r s : Rat} {n d m e : Nat}
set_option maxRecDepth 100000 in
theorem con_sCheck (n d : Nat) : Con Tryz.prog 23 [shv n d] H fun u H' => PH.le H H' ∧ u = .int .i64 (if okB n d then 0 else 20) := by
  refine con_of_tree mixed tr_sCheck np_sCheck rfl (den_rq (shv_one n d) (den_call (con_gFrom 1 (by omega) (by omega)) rfl ?_))
  rintro u1 H1 ⟨l1, hu1⟩
  have r1 := hu1.rq
  have hu1' := hu1
  obtain ⟨w1, rfl, _⟩ := hu1
  simp only [List.cons_append, List.nil_append]
  refine ⟨fun h => (nomatch h), den_rq r1 (den_call (con_sRead n d) rfl ?_)⟩
  rintro u2 H2 ⟨l2, hu2⟩
  have r2 := hu2.rq
  obtain ⟨w2, w3, rfl, n2, n3⟩ := hu2
  have hL2 : Lw H2 (.agg #[.bool (decide (toI n < 0)), w2]) (toI n) := ⟨w2, rfl, n2⟩
  have hL3 : Lw H2 (.agg #[.bool (decide (toI d < 0)), w3]) (toI d) := ⟨w3, rfl, n3⟩
  have lmn := lm_toI n
  have lmd := lm_toI d
  simp only [List.cons_append, List.nil_append]
  refine ⟨fun h => (nomatch h), den_rq r2 ⟨fun vals H' => vals = [.bool (!okB n d)] ∧ PH.le H2 H', den_call (con_gSide hL3) rfl ?_, ?_⟩⟩
  · rintro u3 H3 ⟨rfl, rfl⟩
    simp only [List.cons_append, List.nil_append]
    refine ⟨fun _ => PH.le.refl _, den_rq ⟨_, rfl⟩ (den_br (b := decide (sgI (toI d) 0 ≤ 0)) rfl (fun h => ?_) (fun h => ?_))⟩
    · have h := (sgI_pos _).1 (of_decide_eq_true h)
      refine ⟨?_, PH.le.refl _⟩
      show [Value.bool true] = _
      unfold okB
      rw [decide_eq_false (show ¬ 0 < toI d by omega)]; rfl
    · have h : ¬ toI d ≤ 0 := fun e => of_decide_eq_false h ((sgI_pos _).2 e)
      refine den_call (con_gCommon hL2 hL3 lmn lmd) rfl ?_
      rintro u4 H4 ⟨l4, hu4⟩
      simp only [List.cons_append, List.nil_append]
      have hgm : Lm ((Nat.gcd (toI n).natAbs (toI d).natAbs : Nat) : Int) := by
        unfold Lm at lmd ⊢
        rw [Int.natAbs_natCast]
        exact Nat.lt_of_le_of_lt (Nat.gcd_le_right _ (by omega)) lmd
      refine ⟨fun _ => l4, den_call (con_gCmp hu4 (hu1'.mono (l2.trans l4)) hgm Lm_one) rfl ?_⟩
      rintro u5 H5 ⟨l5, rfl⟩
      simp only [List.cons_append, List.nil_append]
      refine ⟨fun _ => l5, den_rq ⟨_, rfl⟩ ⟨?_, l4.trans l5⟩⟩
      show [Value.bool (sgI ((Nat.gcd (toI n).natAbs (toI d).natAbs : Nat) : Int) 1 != 0)] = _
      rw [sgI_zero]
      unfold okB
      rw [decide_eq_true (show 0 < toI d by omega), Bool.true_and]
      congr 3
      rw [decide_eq_decide]; omega
  rintro vals H6 - ⟨rfl, l6⟩
  simp only [List.cons_append, List.nil_append]
  refine den_rq ⟨_, rfl⟩ (den_br rfl (fun h => ?_) (fun h => ?_))
  · have h : okB n d = false := by simpa using h
    exact den_ret rfl ⟨l1.trans (l2.trans l6), by rw [h]; rfl⟩
  · have h : okB n d = true := by simpa using h
    exact den_ret rfl ⟨l1.trans (l2.trans l6), by rw [h]; rfl⟩
theorem con_svalid1 (n d : Nat) : Con Tryz.prog 88 [shv n d] H fun u H' => PH.le H H' ∧ u = .bool (okB n d) := by
  refine con_of_tree mixed tr_svalid1 np_svalid1 rfl (den_rq (shv_one n d) (den_call (con_sCheck n d) rfl ?_))
  rintro u1 H1 ⟨l1, rfl⟩
  refine ⟨fun h => (nomatch h), den_rq ⟨_, rfl⟩ (den_ret rfl ⟨l1, ?_⟩)⟩
  show Value.bool ((if okB n d then (0 : Int) else 20) == 0) = _
  cases okB n d <;> rfl
theorem ent_svalid1 : entB Tryz.prog 88 = true := by kernel_rfl
set_option maxRecDepth 100000 in
theorem con_sall {ps : List (Nat × Nat)} (h : Shs H v ps) : Con Tryz.prog 89 [.func (.func 88) #[] #[], v] H fun u H' => PH.le H H' ∧ u = .bool (ps.all okP) := by
  have hlen := h.len_le
  simp only [maxLen] at hlen
  refine con_of_tree mixed tr_sall np_sall rfl (den_shlen op_sall_1_1 rfl h rfl ⟨fun vals H' => ∃ i : Nat, vals = [.bool false, iv i] ∧ i ≤ ps.length ∧ PH.le H H' ∧ (ps.take i).all okP = true, fun vals _ => (ps.length - intOf (vals.getD 1 undef)).toNat, ⟨0, rfl, by omega, PH.le.refl _, rfl⟩, ?_⟩)
  rintro vals H1 - ⟨i, rfl, hi, l1, hall⟩
  simp only [List.cons_append, List.nil_append]
  refine den_rq ⟨_, rfl⟩ (den_rq ⟨_, rfl⟩ (den_br (b := decide ((i : Int) < ps.length)) rfl (fun hb => ?_) (fun hb => ?_)))
  · have hb : i < ps.length := by have := of_decide_eq_true hb; omega
    have e1 : IntKind.i64.wrap ((i : Int) + 1) = ((i + 1 : Nat) : Int) := wadd1 (by omega)
    refine den_shat (k := .i64) (j := i) op_sall_3_0 op_sall_3_1 rfl rfl (fun _ => rfl) (h.mono l1) hb rfl (fun _ => rfl) fun p => ?_
    simp only [List.cons_append, List.nil_append]
    obtain ⟨a, ha⟩ : ∃ a, a = ps.getD i (0, 0) := ⟨_, rfl⟩
    have hmem : a ∈ ps := by rw [ha, List.getD_eq_getElem?_getD, List.getElem?_eq_getElem hb]; exact List.getElem_mem hb
    rw [← ha]
    refine den_rq (shv_one a.1 a.2) (den_eff (opn_callv (f := 88) (caps := #[]) (vs := [shv a.1 a.2]) op_sall_4_2 rfl rfl ent_svalid1 (con_svalid1 a.1 a.2)) rfl ?_)
    rintro u2 H2 ⟨l2, rfl⟩
    simp only [List.cons_append, List.nil_append]
    refine ⟨fun h => (nomatch h), den_rq ⟨_, rfl⟩ (den_br (b := !okB a.1 a.2) rfl (fun h2 => ?_) (fun h2 => ?_))⟩
    · have h2 : okB a.1 a.2 = false := by simpa using h2
      refine den_ret rfl ⟨l1.trans l2, ?_⟩
      show Value.bool false = _
      congr 1
      symm
      rw [List.all_eq_false]
      exact ⟨a, hmem, by show ¬ okB a.1 a.2 = true; rw [h2]; simp⟩
    · have h2 : okB a.1 a.2 = true := by simpa using h2
      refine ⟨⟨i + 1, ?_, by omega, l1.trans l2, ?_⟩, ?_⟩
      · simp only [rxs, iv, e1]
      · rw [List.take_add_one, List.all_append, hall, List.getElem?_eq_getElem hb]
        have : ps[i] = a := by rw [ha, List.getD_eq_getElem?_getD, List.getElem?_eq_getElem hb]; rfl
        rw [this]
        show (true && (okB a.1 a.2 && true)) = true
        rw [h2]; rfl
      · simp only [rxs, iv, e1]
        omega
  · have hb : i = ps.length := by have := of_decide_eq_false hb; omega
    rw [List.take_of_length_le (by omega)] at hall
    exact den_ret rfl ⟨l1, by rw [hall]; rfl⟩
theorem con_svalid {ps : List (Nat × Nat)} (h : Shs H v ps) : Con Tryz.prog 37 [v] H fun u H' => PH.le H H' ∧ u = .bool (ps.all okP) := by
  refine con_of_tree mixed tr_svalid np_svalid rfl (den_call (con_sall h) rfl ?_)
  rintro u1 H1 ⟨l1, rfl⟩
  exact ⟨fun h => (nomatch h), den_ret rfl ⟨l1, rfl⟩⟩
theorem all1 (n d : Nat) : [(n, d)].all okP = okB n d := by show (okB n d && true) = _; rw [Bool.and_true]
theorem all2 (n d m e : Nat) : [(n, d), (m, e)].all okP = (okB n d && okB m e) := by show (okB n d && (okB m e && true)) = _; rw [Bool.and_true]

theorem z_ratio : (zeroV Tryz.prog 77).cells.size = 4 ∧ oneAll (zeroV Tryz.prog 77).cells := by
  have : zeroV Tryz.prog 77 = .agg #[.bool false, .slice none 0 0, .bool false, .slice none 0 0] := by kernel_rfl
  rw [this]
  refine ⟨rfl, fun c hc => ?_⟩
  rw [cells_agg] at hc
  simp only [List.mem_cons, List.not_mem_nil, or_false] at hc
  rcases hc with h | h | h | h <;> rw [h] <;> rfl
set_option maxRecDepth 100000 in
theorem con_stwoR {f : FuncId} (hent : entB Tryz.prog f = true) (n d m e : Nat) (t : Rat) (hf : okB n d = true → okB m e = true → ∀ H x y, Rp H x (ratOf n d) → Rp H y (ratOf m e) → Con Tryz.prog f [x, y] H fun u H' => PH.le H H' ∧ Rp H' u t) :
    Con Tryz.prog 62 [shv n d, shv m e, .func (.func f) #[] #[]] H fun u H' => PH.le H H' ∧ (((okB n d && okB m e) = true ∧ ∃ v, u = .tuple #[v, .int .i64 0] ∧ Rp H' v t) ∨ ((okB n d && okB m e) = false ∧ ∃ v, u = .tuple #[v, .int .i64 20] ∧ v.cells.size = 4 ∧ oneAll v.cells)) := by
  refine con_of_tree mixed tr_stwoR np_stwoR rfl (den_rq (shv_one n d) (den_rq (shv_one m e) (den_shbuild (vs := [shv n d, shv m e]) [(n, d), (m, e)] op_stwoR_1_2 (by simp) (by simp) rfl rfl fun v1 H1 l1 hv1 => ?_)))
  simp only [List.cons_append, List.nil_append]
  refine den_call (con_svalid hv1) rfl ?_
  rintro u2 H2 ⟨l2, rfl⟩
  rw [all2]
  simp only [List.cons_append, List.nil_append]
  refine ⟨fun h => (nomatch h), den_rq ⟨_, rfl⟩ (den_br (b := !(okB n d && okB m e)) rfl (fun h => ?_) (fun h => ?_))⟩
  · have h := not_t h
    exact den_ret rfl ⟨l1.trans l2, .inr ⟨h, _, rfl, z_ratio.1, z_ratio.2⟩⟩
  · have h := not_f h
    have h' := h
    rw [Bool.and_eq_true] at h'
    refine den_call (con_sRead n d) rfl ?_
    rintro u3 H3 ⟨l3, hu3⟩
    simp only [List.cons_append, List.nil_append]
    refine ⟨fun _ => l3, den_call (con_sRead m e) rfl ?_⟩
    rintro u4 H4 ⟨l4, hu4⟩
    simp only [List.cons_append, List.nil_append]
    have hx := (hu3.mono l4).rp (ok_rat h'.1).1 (ok_rat h'.1).2
    have hy := hu4.rp (ok_rat h'.2).1 (ok_rat h'.2).2
    refine ⟨fun _ => l4, den_eff (opn_callv (f := f) (caps := #[]) (vs := [u3, u4]) op_stwoR_4_5 rfl rfl hent (hf h'.1 h'.2 H4 u3 u4 hx hy)) rfl ?_⟩
    rintro u5 H5 ⟨l5, hu5⟩
    have r5 := hu5.rq
    obtain ⟨w5, w6, rfl, n5⟩ := hu5
    exact ⟨fun _ => l5, den_rq r5 (den_ret rfl ⟨l1.trans (l2.trans (l3.trans (l4.trans l5))), .inl ⟨h, _, rfl, w5, w6, rfl, n5⟩⟩)⟩

set_option maxRecDepth 100000 in
theorem con_stwoI {f : FuncId} (hent : entB Tryz.prog f = true) (n d m e : Nat) (t : Int) (hf : okB n d = true → okB m e = true → ∀ H x y, Rp H x (ratOf n d) → Rp H y (ratOf m e) → Con Tryz.prog f [x, y] H fun u H' => PH.le H H' ∧ u = .int .i64 t) :
    Con Tryz.prog 68 [shv n d, shv m e, .func (.func f) #[] #[]] H fun u H' => PH.le H H' ∧ (((okB n d && okB m e) = true ∧ ∃ v, u = .tuple #[v, .int .i64 0] ∧ v = .int .i64 t) ∨ ((okB n d && okB m e) = false ∧ ∃ v, u = .tuple #[v, .int .i64 20] ∧ v = .int .i64 0)) := by
  refine con_of_tree mixed tr_stwoI np_stwoI rfl (den_rq (shv_one n d) (den_rq (shv_one m e) (den_shbuild (vs := [shv n d, shv m e]) [(n, d), (m, e)] op_stwoI_1_2 (by simp) (by simp) rfl rfl fun v1 H1 l1 hv1 => ?_)))
  simp only [List.cons_append, List.nil_append]
  refine den_call (con_svalid hv1) rfl ?_
  rintro u2 H2 ⟨l2, rfl⟩
  rw [all2]
  simp only [List.cons_append, List.nil_append]
  refine ⟨fun h => (nomatch h), den_rq ⟨_, rfl⟩ (den_br (b := !(okB n d && okB m e)) rfl (fun h => ?_) (fun h => ?_))⟩
  · have h := not_t h
    exact den_ret rfl ⟨l1.trans l2, .inr ⟨h, _, rfl, rfl⟩⟩
  · have h := not_f h
    have h' := h
    rw [Bool.and_eq_true] at h'
    refine den_call (con_sRead n d) rfl ?_
    rintro u3 H3 ⟨l3, hu3⟩
    simp only [List.cons_append, List.nil_append]
    refine ⟨fun _ => l3, den_call (con_sRead m e) rfl ?_⟩
    rintro u4 H4 ⟨l4, hu4⟩
    simp only [List.cons_append, List.nil_append]
    have hx := (hu3.mono l4).rp (ok_rat h'.1).1 (ok_rat h'.1).2
    have hy := hu4.rp (ok_rat h'.2).1 (ok_rat h'.2).2
    refine ⟨fun _ => l4, den_eff (opn_callv (f := f) (caps := #[]) (vs := [u3, u4]) op_stwoI_4_5 rfl rfl hent (hf h'.1 h'.2 H4 u3 u4 hx hy)) rfl ?_⟩
    rintro u5 H5 ⟨l5, hu5⟩
    subst hu5
    exact ⟨fun _ => l5, den_ret rfl ⟨l1.trans (l2.trans (l3.trans (l4.trans l5))), .inl ⟨h, _, rfl, rfl⟩⟩⟩

theorem toldR_form (r : Rat) : ∃ (n d : Nat) (e : Int), toldR r = .tuple #[shv n d, .int .i64 e] := by
  unfold toldR; split
  · exact ⟨_, _, 0, rfl⟩
  · exact ⟨0, 0, 6, rfl⟩
/-- What an operation hands back. -/
def resR (ok : Bool) (r : Rat) : Value := if ok then toldR r else .tuple #[shv 0 0, .int .i64 20]
theorem con_stold0 (hx : Rp H x r) : Con Tryz.prog 61 [x, .int .i64 0] H fun u H' => PH.le H H' ∧ u = toldR r := by
  have r1 := hx.rq
  have hx' := hx
  obtain ⟨w1, w2, rfl, _⟩ := hx
  refine con_of_tree mixed tr_stold np_stold rfl (den_rq r1 (den_rq ⟨_, rfl⟩ (den_false rfl (den_call (con_sRTold hx') rfl ?_))))
  rintro u1 H1 ⟨l1, rfl⟩
  obtain ⟨n, d, e, ht⟩ := toldR_form r
  rw [ht]
  exact ⟨fun h => (nomatch h), den_rq ⟨_, rfl, Nat.zero_lt_succ _⟩ (den_rq ⟨_, rfl, Nat.lt_succ_self _⟩ (den_rq (shv_one n d) (den_ret rfl ⟨l1, rfl⟩)))⟩
theorem con_stold1 (h1 : x.cells.size = 4) (h2 : oneAll x.cells) : Con Tryz.prog 61 [x, .int .i64 20] H fun u H' => PH.le H H' ∧ u = .tuple #[shv 0 0, .int .i64 20] := by
  refine con_of_tree mixed tr_stold np_stold rfl (den_rq ⟨h1, h2⟩ (den_rq ⟨_, rfl⟩ (den_true rfl (den_ret (congrArg (fun z => Value.tuple #[z, .int .i64 20]) z_share) ⟨PH.le.refl _, rfl⟩))))

theorem ent_sAdd : entB Tryz.prog 74 = true := by kernel_rfl
theorem con_sAdd (n d m e : Nat) : Con Tryz.prog 25 [shv n d, shv m e] H fun u H' => PH.le H H' ∧ u = resR (okB n d && okB m e) (ratOf n d + ratOf m e) := by
  obtain ⟨K, hK⟩ : ∃ K, K = 512 := ⟨_, rfl⟩
  refine con_of_tree mixed tr_sAdd np_sAdd rfl (den_rq (shv_one n d) (den_rq (shv_one m e) (den_call (con_stwoR (f := 74) ent_sAdd n d m e (ratOf n d + ratOf m e) (fun h1 h2 H x y hx hy => con_sRPlus hx hy (ok_rb h1 hK) (ok_rb h2 hK) (by omega))) rfl ?_)))
  rintro u1 H1 ⟨l1, hu1⟩
  unfold resR
  rcases hu1 with ⟨h, v, rfl, hv⟩ | ⟨h, v, rfl, h4, h5⟩
  · rw [h, if_pos rfl]
    simp only [List.cons_append, List.nil_append]
    refine ⟨fun h => (nomatch h), den_rq ⟨_, rfl, Nat.zero_lt_succ _⟩ (den_rq ⟨_, rfl, Nat.lt_succ_self _⟩ (den_call (con_stold0 hv) rfl ?_))⟩
    rintro u2 H2 ⟨l2, rfl⟩
    obtain ⟨a, b, c, ht⟩ := toldR_form (ratOf n d + ratOf m e)
    rw [ht]
    exact ⟨fun h => (nomatch h), den_rq ⟨_, rfl, Nat.zero_lt_succ _⟩ (den_rq ⟨_, rfl, Nat.lt_succ_self _⟩ (den_rq (shv_one a b) (den_ret rfl ⟨l1.trans l2, rfl⟩)))⟩
  · rw [h, if_neg (by simp)]
    simp only [List.cons_append, List.nil_append]
    refine ⟨fun h => (nomatch h), den_rq ⟨_, rfl, Nat.zero_lt_succ _⟩ (den_rq ⟨_, rfl, Nat.lt_succ_self _⟩ (den_call (con_stold1 h4 h5) rfl ?_))⟩
    rintro u2 H2 ⟨l2, rfl⟩
    exact ⟨fun h => (nomatch h), den_rq ⟨_, rfl, Nat.zero_lt_succ _⟩ (den_rq ⟨_, rfl, Nat.lt_succ_self _⟩ (den_rq (shv_one 0 0) (den_ret rfl ⟨l1.trans l2, rfl⟩)))⟩

theorem ent_sSub : entB Tryz.prog 63 = true := by kernel_rfl
theorem con_sSub (n d m e : Nat) : Con Tryz.prog 16 [shv n d, shv m e] H fun u H' => PH.le H H' ∧ u = resR (okB n d && okB m e) (ratOf n d - ratOf m e) := by
  obtain ⟨K, hK⟩ : ∃ K, K = 512 := ⟨_, rfl⟩
  refine con_of_tree mixed tr_sSub np_sSub rfl (den_rq (shv_one n d) (den_rq (shv_one m e) (den_call (con_stwoR (f := 63) ent_sSub n d m e (ratOf n d - ratOf m e) (fun h1 h2 H x y hx hy => con_sRMinus hx hy (ok_rb h1 hK) (ok_rb h2 hK) (by omega))) rfl ?_)))
  rintro u1 H1 ⟨l1, hu1⟩
  unfold resR
  rcases hu1 with ⟨h, v, rfl, hv⟩ | ⟨h, v, rfl, h4, h5⟩
  · rw [h, if_pos rfl]
    simp only [List.cons_append, List.nil_append]
    refine ⟨fun h => (nomatch h), den_rq ⟨_, rfl, Nat.zero_lt_succ _⟩ (den_rq ⟨_, rfl, Nat.lt_succ_self _⟩ (den_call (con_stold0 hv) rfl ?_))⟩
    rintro u2 H2 ⟨l2, rfl⟩
    obtain ⟨a, b, c, ht⟩ := toldR_form (ratOf n d - ratOf m e)
    rw [ht]
    exact ⟨fun h => (nomatch h), den_rq ⟨_, rfl, Nat.zero_lt_succ _⟩ (den_rq ⟨_, rfl, Nat.lt_succ_self _⟩ (den_rq (shv_one a b) (den_ret rfl ⟨l1.trans l2, rfl⟩)))⟩
  · rw [h, if_neg (by simp)]
    simp only [List.cons_append, List.nil_append]
    refine ⟨fun h => (nomatch h), den_rq ⟨_, rfl, Nat.zero_lt_succ _⟩ (den_rq ⟨_, rfl, Nat.lt_succ_self _⟩ (den_call (con_stold1 h4 h5) rfl ?_))⟩
    rintro u2 H2 ⟨l2, rfl⟩
    exact ⟨fun h => (nomatch h), den_rq ⟨_, rfl, Nat.zero_lt_succ _⟩ (den_rq ⟨_, rfl, Nat.lt_succ_self _⟩ (den_rq (shv_one 0 0) (den_ret rfl ⟨l1.trans l2, rfl⟩)))⟩

theorem ent_sMul : entB Tryz.prog 41 = true := by kernel_rfl
theorem ent_sMin : entB Tryz.prog 112 = true := by kernel_rfl
theorem ent_sMax : entB Tryz.prog 65 = true := by kernel_rfl
theorem con_sMax (n d m e : Nat) : Con Tryz.prog 28 [shv n d, shv m e] H fun u H' => PH.le H H' ∧ u = resR (okB n d && okB m e) (-(if sgR (-ratOf n d) (-ratOf m e) ≤ 0 then -ratOf n d else -ratOf m e)) := by
  obtain ⟨K, hK⟩ : ∃ K, K = 512 := ⟨_, rfl⟩
  refine con_of_tree mixed tr_sMax np_sMax rfl (den_rq (shv_one n d) (den_rq (shv_one m e) (den_call (con_stwoR (f := 65) ent_sMax n d m e (-(if sgR (-ratOf n d) (-ratOf m e) ≤ 0 then -ratOf n d else -ratOf m e)) (fun h1 h2 H x y hx hy => con_sgreater hx hy (ok_rb h1 hK) (ok_rb h2 hK) (by omega))) rfl ?_)))
  rintro u1 H1 ⟨l1, hu1⟩
  unfold resR
  rcases hu1 with ⟨h, v, rfl, hv⟩ | ⟨h, v, rfl, h4, h5⟩
  · rw [h, if_pos rfl]
    simp only [List.cons_append, List.nil_append]
    refine ⟨fun h => (nomatch h), den_rq ⟨_, rfl, Nat.zero_lt_succ _⟩ (den_rq ⟨_, rfl, Nat.lt_succ_self _⟩ (den_call (con_stold0 hv) rfl ?_))⟩
    rintro u2 H2 ⟨l2, rfl⟩
    obtain ⟨a, b, c, ht⟩ := toldR_form (-(if sgR (-ratOf n d) (-ratOf m e) ≤ 0 then -ratOf n d else -ratOf m e))
    rw [ht]
    exact ⟨fun h => (nomatch h), den_rq ⟨_, rfl, Nat.zero_lt_succ _⟩ (den_rq ⟨_, rfl, Nat.lt_succ_self _⟩ (den_rq (shv_one a b) (den_ret rfl ⟨l1.trans l2, rfl⟩)))⟩
  · rw [h, if_neg (by simp)]
    simp only [List.cons_append, List.nil_append]
    refine ⟨fun h => (nomatch h), den_rq ⟨_, rfl, Nat.zero_lt_succ _⟩ (den_rq ⟨_, rfl, Nat.lt_succ_self _⟩ (den_call (con_stold1 h4 h5) rfl ?_))⟩
    rintro u2 H2 ⟨l2, rfl⟩
    exact ⟨fun h => (nomatch h), den_rq ⟨_, rfl, Nat.zero_lt_succ _⟩ (den_rq ⟨_, rfl, Nat.lt_succ_self _⟩ (den_rq (shv_one 0 0) (den_ret rfl ⟨l1.trans l2, rfl⟩)))⟩

theorem con_sAbs1 {k : Nat} (hx : Rp H x r) (hy : Rp H y s) (hr : Rb k r) (_hk : k + k ≤ 320000) : Con Tryz.prog 64 [x, y] H fun u H' => PH.le H H' ∧ Rp H' u (-(if sgR (-r) (- -r) ≤ 0 then -r else - -r)) := by
  have r1 := hx.rq
  have r2 := hy.rq
  have hx' := hx
  obtain ⟨w1, w2, rfl, _⟩ := hx
  obtain ⟨w3, w4, rfl, _⟩ := hy
  refine con_of_tree mixed tr_sAbs1 np_sAbs1 rfl (den_rq r1 (den_rq r2 (den_call (con_sRTurned hx') rfl ?_)))
  rintro u1 H1 ⟨l1, hu1⟩
  simp only [List.cons_append, List.nil_append]
  refine ⟨fun _ => l1, den_call (con_sgreater (hx'.mono l1) hu1 hr hr.neg (by omega)) rfl ?_⟩
  rintro u2 H2 ⟨l2, hu2⟩
  have r5 := hu2.rq
  obtain ⟨w5, w6, rfl, n5⟩ := hu2
  exact ⟨fun _ => l2, den_rq r5 (den_ret rfl ⟨l1.trans l2, w5, w6, rfl, n5⟩)⟩
theorem ent_sAbs : entB Tryz.prog 64 = true := by kernel_rfl
theorem con_sAbs (n d : Nat) : Con Tryz.prog 17 [shv n d] H fun u H' => PH.le H H' ∧ u = resR (okB n d && okB n d) (-(if sgR (-ratOf n d) (- -ratOf n d) ≤ 0 then -ratOf n d else - -ratOf n d)) := by
  obtain ⟨K, hK⟩ : ∃ K, K = 512 := ⟨_, rfl⟩
  refine con_of_tree mixed tr_sAbs np_sAbs rfl (den_rq (shv_one n d) (den_call (con_stwoR (f := 64) ent_sAbs n d n d (-(if sgR (-ratOf n d) (- -ratOf n d) ≤ 0 then -ratOf n d else - -ratOf n d)) (fun h1 h2 H x y hx hy => con_sAbs1 hx hy (ok_rb h1 hK) (by omega))) rfl ?_))
  rintro u1 H1 ⟨l1, hu1⟩
  unfold resR
  rcases hu1 with ⟨h, v, rfl, hv⟩ | ⟨h, v, rfl, h4, h5⟩
  · rw [h, if_pos rfl]
    simp only [List.cons_append, List.nil_append]
    refine ⟨fun h => (nomatch h), den_rq ⟨_, rfl, Nat.zero_lt_succ _⟩ (den_rq ⟨_, rfl, Nat.lt_succ_self _⟩ (den_call (con_stold0 hv) rfl ?_))⟩
    rintro u2 H2 ⟨l2, rfl⟩
    obtain ⟨a, b, c, ht⟩ := toldR_form (-(if sgR (-ratOf n d) (- -ratOf n d) ≤ 0 then -ratOf n d else - -ratOf n d))
    rw [ht]
    exact ⟨fun h => (nomatch h), den_rq ⟨_, rfl, Nat.zero_lt_succ _⟩ (den_rq ⟨_, rfl, Nat.lt_succ_self _⟩ (den_rq (shv_one a b) (den_ret rfl ⟨l1.trans l2, rfl⟩)))⟩
  · rw [h, if_neg (by simp)]
    simp only [List.cons_append, List.nil_append]
    refine ⟨fun h => (nomatch h), den_rq ⟨_, rfl, Nat.zero_lt_succ _⟩ (den_rq ⟨_, rfl, Nat.lt_succ_self _⟩ (den_call (con_stold1 h4 h5) rfl ?_))⟩
    rintro u2 H2 ⟨l2, rfl⟩
    exact ⟨fun h => (nomatch h), den_rq ⟨_, rfl, Nat.zero_lt_succ _⟩ (den_rq ⟨_, rfl, Nat.lt_succ_self _⟩ (den_rq (shv_one 0 0) (den_ret rfl ⟨l1.trans l2, rfl⟩)))⟩

theorem ent_sCmp : entB Tryz.prog 69 = true := by kernel_rfl
/-- What a comparison hands back. -/
def resI (ok : Bool) (t : Int) : Value := if ok then .tuple #[.int .i64 t, .int .i64 0] else .tuple #[.int .i64 0, .int .i64 20]
theorem con_sCmp (n d m e : Nat) : Con Tryz.prog 19 [shv n d, shv m e] H fun u H' => PH.le H H' ∧ u = resI (okB n d && okB m e) (sgR (ratOf n d) (ratOf m e)) := by
  obtain ⟨K, hK⟩ : ∃ K, K = 512 := ⟨_, rfl⟩
  refine con_of_tree mixed tr_sCmp np_sCmp rfl (den_rq (shv_one n d) (den_rq (shv_one m e) (den_call (con_stwoI (f := 69) ent_sCmp n d m e (sgR (ratOf n d) (ratOf m e)) (fun h1 h2 H x y hx hy => con_sRCmp hx hy (ok_rb h1 hK) (ok_rb h2 hK) (by omega))) rfl ?_)))
  rintro u1 H1 ⟨l1, hu1⟩
  unfold resI
  rcases hu1 with ⟨h, v, rfl, rfl⟩ | ⟨h, v, rfl, rfl⟩
  · rw [h, if_pos rfl]
    exact ⟨fun h => (nomatch h), den_rq ⟨_, rfl, Nat.zero_lt_succ _⟩ (den_rq ⟨_, rfl, Nat.lt_succ_self _⟩ (den_ret rfl ⟨l1, rfl⟩))⟩
  · rw [h, if_neg (by simp)]
    exact ⟨fun h => (nomatch h), den_rq ⟨_, rfl, Nat.zero_lt_succ _⟩ (den_rq ⟨_, rfl, Nat.lt_succ_self _⟩ (den_ret rfl ⟨l1, rfl⟩))⟩

/-- What an integer of a share is. -/
def resW (ok : Bool) (z : Int) : Value := if ok then told z else .tuple #[wd 0, .int .i64 20]
set_option maxRecDepth 100000 in
theorem con_sinteger {f : FuncId} (hent : entB Tryz.prog f = true) (n d : Nat) (z : Int) (hf : okB n d = true → ∀ H x, Rp H x (ratOf n d) → Con Tryz.prog f [x] H fun u H' => PH.le H H' ∧ Lw H' u z) :
    Con Tryz.prog 78 [shv n d, .func (.func f) #[] #[]] H fun u H' => PH.le H H' ∧ u = resW (okB n d) z := by
  refine con_of_tree mixed tr_sinteger np_sinteger rfl (den_rq (shv_one n d) (den_shbuild (vs := [shv n d]) [(n, d)] op_sinteger_1_1 (by simp) (by simp) rfl rfl fun v1 H1 l1 hv1 => ?_))
  simp only [List.cons_append, List.nil_append]
  refine den_call (con_svalid hv1) rfl ?_
  rintro u2 H2 ⟨l2, rfl⟩
  rw [all1]
  unfold resW
  simp only [List.cons_append, List.nil_append]
  refine ⟨fun h => (nomatch h), den_rq ⟨_, rfl⟩ (den_br (b := !okB n d) rfl (fun h => ?_) (fun h => ?_))⟩
  · have h : okB n d = false := by simpa using h
    rw [h, if_neg (by simp)]
    refine den_ret ?_ ⟨l1.trans l2, rfl⟩
    simp only [rxs, retV, z_wide]
  · have h : okB n d = true := by simpa using h
    rw [h, if_pos rfl]
    refine den_call (con_sRead n d) rfl ?_
    rintro u3 H3 ⟨l3, hu3⟩
    simp only [List.cons_append, List.nil_append]
    have hx := hu3.rp (ok_rat h).1 (ok_rat h).2
    refine ⟨fun h => (nomatch h), den_eff (opn_callv (f := f) (caps := #[]) (vs := [u3]) op_sinteger_3_3 rfl rfl hent (hf h H3 u3 hx)) rfl ?_⟩
    rintro u5 H5 ⟨l5, hu5⟩
    simp only [List.cons_append, List.nil_append]
    refine ⟨fun h => (nomatch h), den_call (con_gTold hu5) rfl ?_⟩
    rintro u6 H6 ⟨l6, rfl⟩
    obtain ⟨a, b, ht⟩ := told_form z
    rw [ht]
    exact ⟨fun h => (nomatch h), den_rq ⟨_, rfl, Nat.zero_lt_succ _⟩ (den_rq ⟨_, rfl, Nat.lt_succ_self _⟩ (den_rq ⟨words_size a, words_one a⟩ (den_ret rfl ⟨l1.trans (l2.trans (l3.trans (l5.trans l6))), rfl⟩)))⟩
theorem con_sCeil1 {k : Nat} (hx : Rp H x r) (hr : Rb k r) (hk : k ≤ 320000) : Con Tryz.prog 80 [x] H fun u H' => PH.le H H' ∧ Lw H' u (-(-r).floor) := by
  have r1 := hx.rq
  have hx' := hx
  obtain ⟨w1, w2, rfl, _⟩ := hx
  refine con_of_tree mixed tr_sCeil1 np_sCeil1 rfl (den_rq r1 (den_call (con_sRTurned hx') rfl ?_))
  rintro u1 H1 ⟨l1, hu1⟩
  simp only [List.cons_append, List.nil_append]
  refine ⟨fun h => (nomatch h), den_call (con_sRDown hu1 hr.neg hk) rfl ?_⟩
  rintro u2 H2 ⟨l2, hu2⟩
  simp only [List.cons_append, List.nil_append]
  refine ⟨fun h => (nomatch h), den_call (con_gTurned hu2) rfl ?_⟩
  rintro u3 H3 ⟨rfl, hu3⟩
  have r5 := hu3.rq
  obtain ⟨w5, rfl, n5⟩ := hu3
  exact ⟨fun h => (nomatch h), den_rq r5 (den_ret rfl ⟨l1.trans l2, w5, rfl, n5⟩)⟩

theorem ent_sFloor : entB Tryz.prog 79 = true := by kernel_rfl
theorem con_sFloor (n d : Nat) : Con Tryz.prog 30 [shv n d] H fun u H' => PH.le H H' ∧ u = resW (okB n d) ((ratOf n d).floor) := by
  obtain ⟨K, hK⟩ : ∃ K, K = 512 := ⟨_, rfl⟩
  refine con_of_tree mixed tr_sFloor np_sFloor rfl (den_rq (shv_one n d) (den_call (con_sinteger (f := 79) ent_sFloor n d ((ratOf n d).floor) (fun h1 H x hx => con_sRDown hx (ok_rb h1 hK) (by omega))) rfl ?_))
  rintro u1 H1 ⟨l1, rfl⟩
  obtain ⟨a, b, ht⟩ : ∃ (a : Nat) (b : Value), resW (okB n d) ((ratOf n d).floor) = .tuple #[wd a, b] := by
    unfold resW; split
    · exact told_form _
    · exact ⟨0, _, rfl⟩
  rw [ht]
  exact ⟨fun h => (nomatch h), den_rq ⟨_, rfl, Nat.zero_lt_succ _⟩ (den_rq ⟨_, rfl, Nat.lt_succ_self _⟩ (den_rq ⟨words_size a, words_one a⟩ (den_ret rfl ⟨l1, rfl⟩)))⟩
theorem ent_sCeil : entB Tryz.prog 80 = true := by kernel_rfl
theorem con_sCeil (n d : Nat) : Con Tryz.prog 31 [shv n d] H fun u H' => PH.le H H' ∧ u = resW (okB n d) (-(-ratOf n d).floor) := by
  obtain ⟨K, hK⟩ : ∃ K, K = 512 := ⟨_, rfl⟩
  refine con_of_tree mixed tr_sCeil np_sCeil rfl (den_rq (shv_one n d) (den_call (con_sinteger (f := 80) ent_sCeil n d (-(-ratOf n d).floor) (fun h1 H x hx => con_sCeil1 hx (ok_rb h1 hK) (by omega))) rfl ?_))
  rintro u1 H1 ⟨l1, rfl⟩
  obtain ⟨a, b, ht⟩ : ∃ (a : Nat) (b : Value), resW (okB n d) (-(-ratOf n d).floor) = .tuple #[wd a, b] := by
    unfold resW; split
    · exact told_form _
    · exact ⟨0, _, rfl⟩
  rw [ht]
  exact ⟨fun h => (nomatch h), den_rq ⟨_, rfl, Nat.zero_lt_succ _⟩ (den_rq ⟨_, rfl, Nat.lt_succ_self _⟩ (den_rq ⟨words_size a, words_one a⟩ (den_ret rfl ⟨l1, rfl⟩)))⟩
theorem ent_sNear : entB Tryz.prog 45 = true := by kernel_rfl
theorem con_sNear (n d : Nat) : Con Tryz.prog 32 [shv n d] H fun u H' => PH.le H H' ∧ u = resW (okB n d) ((ratOf n d + 1 / 2).floor) := by
  obtain ⟨K, hK⟩ : ∃ K, K = 512 := ⟨_, rfl⟩
  refine con_of_tree mixed tr_sNear np_sNear rfl (den_rq (shv_one n d) (den_call (con_sinteger (f := 45) ent_sNear n d ((ratOf n d + 1 / 2).floor) (fun h1 H x hx => con_sRNearest hx (ok_rb h1 hK) (by omega))) rfl ?_))
  rintro u1 H1 ⟨l1, rfl⟩
  obtain ⟨a, b, ht⟩ : ∃ (a : Nat) (b : Value), resW (okB n d) ((ratOf n d + 1 / 2).floor) = .tuple #[wd a, b] := by
    unfold resW; split
    · exact told_form _
    · exact ⟨0, _, rfl⟩
  rw [ht]
  exact ⟨fun h => (nomatch h), den_rq ⟨_, rfl, Nat.zero_lt_succ _⟩ (den_rq ⟨_, rfl, Nat.lt_succ_self _⟩ (den_rq ⟨words_size a, words_one a⟩ (den_ret rfl ⟨l1, rfl⟩)))⟩
/-- What Make hands back. -/
def makeV (p q : Int) : Value := if q = 0 then .tuple #[shv 0 0, .int .i64 7] else toldR (Rat.divInt p q)
theorem makeV_form (p q : Int) : ∃ (n d : Nat) (e : Int), makeV p q = .tuple #[shv n d, .int .i64 e] := by
  unfold makeV; split
  · exact ⟨0, 0, 7, rfl⟩
  · exact toldR_form _
theorem toI_zer (d : Nat) : d % M = 0 ↔ toI d = 0 := by
  have := HM_pos
  have := M_HM
  have := Nat.mod_lt d M_pos
  unfold toI
  split <;> omega
set_option maxRecDepth 100000 in
theorem con_sMake (n d : Nat) : Con Tryz.prog 15 [wd n, wd d] H fun u H' => PH.le H H' ∧ u = makeV (toI n) (toI d) := by
  refine con_of_tree mixed tr_sMake np_sMake rfl (den_rq ⟨words_size n, words_one n⟩ (den_rq ⟨words_size d, words_one d⟩ (den_prim ((eq_wide (a := d) (b := 0) op_sMake_1_2 rfl rfl rfl rfl).rds _) ?_ (den_rq ⟨_, rfl⟩ (den_br (b := decide (d % M = 0 % M)) rfl (fun h => ?_) (fun h => ?_))))))
  · simp only [rxs, z_wide]; rfl
  · have h := of_decide_eq_true h
    rw [Nat.zero_mod, toI_zer] at h
    unfold makeV
    rw [if_pos h]
    exact den_ret (congrArg (fun z => Value.tuple #[z, .int .i64 7]) z_share) ⟨PH.le.refl _, rfl⟩
  · have h := of_decide_eq_false h
    rw [Nat.zero_mod, toI_zer] at h
    unfold makeV
    rw [if_neg h]
    refine den_call (con_gLonger n) rfl ?_
    rintro u1 H1 ⟨l1, hu1⟩
    simp only [List.cons_append, List.nil_append]
    refine ⟨fun _ => l1, den_call (con_gLonger d) rfl ?_⟩
    rintro u2 H2 ⟨l2, hu2⟩
    simp only [List.cons_append, List.nil_append]
    refine ⟨fun _ => l2, den_call (con_sLowest (hu1.mono l2) hu2 (lm_toI n) (lm_toI d) h) rfl ?_⟩
    rintro u3 H3 ⟨l3, hu3⟩
    simp only [List.cons_append, List.nil_append]
    refine ⟨fun _ => l3, den_call (con_sRTold hu3) rfl ?_⟩
    rintro u4 H4 ⟨l4, rfl⟩
    obtain ⟨a, b, c, ht⟩ := toldR_form (Rat.divInt (toI n) (toI d))
    rw [ht]
    exact ⟨fun _ => l4, den_rq ⟨_, rfl, Nat.zero_lt_succ _⟩ (den_rq ⟨_, rfl, Nat.lt_succ_self _⟩ (den_rq (shv_one a b) (den_ret rfl ⟨l1.trans (l2.trans (l3.trans l4)), rfl⟩)))⟩
theorem con_sOf (p q : Int) (p0 : -9223372036854775808 ≤ p) (p1 : p < 9223372036854775808) (q0 : -9223372036854775808 ≤ q) (q1 : q < 9223372036854775808) : Con Tryz.prog 21 [.int .i64 p, .int .i64 q] H fun u H' => PH.le H H' ∧ u = makeV p q := by
  refine con_of_tree mixed tr_sOf np_sOf rfl (den_det (det_Of p p0 p1) rfl (den_det (det_Of q q0 q1) rfl (den_call (con_sMake (rs p) (rs q)) rfl ?_)))
  rintro u1 H1 ⟨l1, rfl⟩
  rw [toI_rs (fits_small p0 p1), toI_rs (fits_small q0 q1)]
  obtain ⟨a, b, c, ht⟩ := makeV_form p q
  rw [ht]
  exact ⟨fun h => (nomatch h), den_rq ⟨_, rfl, Nat.zero_lt_succ _⟩ (den_rq ⟨_, rfl, Nat.lt_succ_self _⟩ (den_rq (shv_one a b) (den_ret rfl ⟨l1, rfl⟩)))⟩
end
end Go.Proofs.YtcleogdmobdnpacGreatRDoor

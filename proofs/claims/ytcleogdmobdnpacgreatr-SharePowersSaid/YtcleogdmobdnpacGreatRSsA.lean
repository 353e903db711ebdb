/- Sums and powers of shares: the program and the reference. -/
import Derived.Test.YtcleogdmobdnpacGreatRSrD
import Derived.Test.YtcleogdmobdnpacGreatRShC
import Derived.Test.YtcleogdmobdnpacGreatRSpA
namespace Go.Proofs.YtcleogdmobdnpacGreatR
open Go.RowKit Go.RX Go.WD

def ratP (p : Nat × Nat) : Rat := ratOf p.1 p.2
/-- The sum of a list, from the left. -/
def sumR (ps : List (Nat × Nat)) : Rat := (ps.map ratP).foldl (· + ·) 0
theorem sumR_snoc (ps : List (Nat × Nat)) (p : Nat × Nat) : sumR (ps ++ [p]) = sumR ps + ratP p := by
  unfold sumR; rw [List.map_append, List.foldl_append]; rfl
def sumV (ps : List (Nat × Nat)) : Value := if 400 < ps.length then .tuple #[shv 0 0, .int .i64 3] else if ps.all okP then toldR (sumR ps) else .tuple #[shv 0 0, .int .i64 20]
def powR (ok : Bool) (r : Rat) (k : Int) : Value := if ok then (if k < 0 ∨ 600 < k then .tuple #[shv 0 0, .int .i64 2] else toldR (r ^ k.toNat)) else .tuple #[shv 0 0, .int .i64 20]
theorem sumV_form (ps : List (Nat × Nat)) : ∃ (n d : Nat) (e : Int), sumV ps = .tuple #[shv n d, .int .i64 e] := by
  unfold sumV
  split
  · exact ⟨_, _, _, rfl⟩
  · split
    · exact toldR_form _
    · exact ⟨_, _, _, rfl⟩
theorem powR_form (ok : Bool) (r : Rat) (k : Int) : ∃ (n d : Nat) (e : Int), powR ok r k = .tuple #[shv n d, .int .i64 e] := by
  unfold powR
  split
  · split
    · exact ⟨_, _, _, rfl⟩
    · exact toldR_form _
  · exact ⟨_, _, _, rfl⟩
theorem rb_zero : Rb 1 (0 : Rat) := ⟨by decide, by decide⟩
theorem take_snoc {ps : List (Nat × Nat)} {i : Nat} (h : i < ps.length) : ps.take (i + 1) = ps.take i ++ [ps.getD i (0, 0)] := by
  rw [List.take_add_one, List.getElem?_eq_getElem h, List.getD_eq_getElem?_getD, List.getElem?_eq_getElem h]; rfl
theorem getD_mem {ps : List (Nat × Nat)} {i : Nat} (h : i < ps.length) : ps.getD i (0, 0) ∈ ps := by
  rw [List.getD_eq_getElem?_getD, List.getElem?_eq_getElem h]; exact List.getElem_mem h
theorem Rp.agg {H : PH} {v : Value} {r : Rat} (h : Rp H v r) : Value.agg v.cells = v := by
  obtain ⟨w1, w2, rfl, _⟩ := h; rfl
theorem Rr.agg {H : PH} {v : Value} {r : Rat} (h : Rr H v r) : Value.agg v.cells = v := by
  obtain ⟨w1, w2, rfl, _⟩ := h; rfl
section
variable {H : PH} {x y v : Value} {r s : Rat} {ps : List (Nat × Nat)}
set_option maxRecDepth 100000 in
theorem con_sFrom (n : Int) (h0 : -9223372036854775808 ≤ n) (h1 : n < 9223372036854775808) : Con Tryz.prog 34 [.int .i64 n] H fun u H' => PH.le H H' ∧ Rp H' u (n : Rat) := by
  refine con_of_tree mixed tr_sFrom np_sFrom rfl (den_call (con_gFrom n h0 h1) rfl ?_)
  rintro u1 H1 ⟨l1, hu1⟩
  simp only [List.cons_append, List.nil_append]
  refine ⟨fun h => (nomatch h), den_call (con_sWhole hu1) rfl ?_⟩
  rintro u2 H2 ⟨l2, hu2⟩
  refine ⟨fun h => (nomatch h), den_rq hu2.rq (den_ret hu2.agg ⟨l1.trans l2, hu2⟩)⟩
set_option maxRecDepth 100000 in
theorem con_sSum (h : Shs H v ps) : Con Tryz.prog 8 [v] H fun u H' => PH.le H H' ∧ u = sumV ps := by
  obtain ⟨K, hK⟩ : ∃ K, K = 512 := ⟨_, rfl⟩
  refine con_of_tree mixed tr_sSum np_sSum rfl (den_shlen op_sSum_1_1 rfl h rfl (den_rq ⟨_, rfl⟩ (den_br (b := decide ((ps.length : Int) > 400)) rfl (fun hb => ?_) (fun hb => ?_))))
  · have hb : 400 < ps.length := by have := of_decide_eq_true hb; omega
    exact den_ret (congrArg (fun z => Value.tuple #[z, .int .i64 3]) z_share) ⟨PH.le.refl _, by unfold sumV; rw [if_pos hb]⟩
  have hb : ¬ 400 < ps.length := by have := of_decide_eq_false hb; omega
  unfold sumV
  rw [if_neg hb]
  simp only [List.cons_append, List.nil_append]
  refine den_call (con_svalid h) rfl ?_
  rintro u1 H1 ⟨l1, rfl⟩
  simp only [List.cons_append, List.nil_append]
  refine ⟨fun h => (nomatch h), den_rq ⟨_, rfl⟩ (den_br (b := !ps.all okP) rfl (fun ho => ?_) (fun ho => ?_))⟩
  · rw [not_t ho]
    exact den_ret (congrArg (fun z => Value.tuple #[z, .int .i64 20]) z_share) ⟨l1, rfl⟩
  have ho := not_f ho
  rw [ho, if_pos rfl]
  refine den_call (con_sFrom 0 (by omega) (by omega)) rfl ?_
  rintro u2 H2 ⟨l2, hu2⟩
  simp only [List.cons_append, List.nil_append]
  refine ⟨fun h => (nomatch h), den_rq hu2.rq (den_shlen op_sSum_6_1 rfl (h.mono (l1.trans l2)) rfl ⟨fun vals H' => ∃ (i : Nat) (a : Value), vals = [iv i, a] ∧ i ≤ ps.length ∧ PH.le H2 H' ∧ Rp H' a (sumR (ps.take i)) ∧ Rb (513 * i + 1) (sumR (ps.take i)), fun vals _ => (ps.length - intOf (vals.getD 0 undef)).toNat, ⟨0, u2, ?_, by omega, PH.le.refl _, ?_, rb_zero⟩, ?_⟩)⟩
  · rfl
  · have e0 : ((0 : Int) : Rat) = 0 := rfl
    rw [e0] at hu2
    exact hu2
  rintro vals H3 - ⟨i, a, rfl, hi, l3, ha, hrb⟩
  simp only [List.cons_append, List.nil_append]
  refine den_rq ⟨_, rfl⟩ (den_rq ⟨_, rfl⟩ (den_br (b := decide ((i : Int) < ps.length)) rfl (fun hc => ?_) (fun hc => ?_)))
  · have hc : i < ps.length := by have := of_decide_eq_true hc; omega
    have e1 : IntKind.i64.wrap ((i : Int) + 1) = ((i + 1 : Nat) : Int) := wadd1 (by omega)
    refine den_shat (k := .i64) (j := i) op_sSum_8_0 op_sSum_8_1 rfl rfl (fun _ => rfl) (h.mono (l1.trans (l2.trans l3))) hc rfl (fun _ => rfl) fun pp => ?_
    obtain ⟨p, hp⟩ : ∃ p, p = ps.getD i (0, 0) := ⟨_, rfl⟩
    have hpo : okB p.1 p.2 = true := by
      have hm := getD_mem hc
      rw [← hp] at hm
      exact List.all_eq_true.1 ho p hm
    rw [← hp]
    simp only [List.cons_append, List.nil_append]
    refine den_rq (shv_one p.1 p.2) (den_call (con_sRead p.1 p.2) rfl ?_)
    rintro u4 H4 ⟨l4, h4⟩
    have h4 : Rp H4 u4 (ratP p) := h4.rp (ok_rat hpo).1 (ok_rat hpo).2
    simp only [List.cons_append, List.nil_append]
    refine ⟨fun _ => l4, den_call (con_sRPlus (ha.mono l4) h4 hrb (ok_rb hpo hK) (by omega)) ?_ ?_⟩
    · show [Value.agg a.cells, u4] = _
      rw [ha.agg]
    rintro u5 H5 ⟨l5, h5⟩
    have e5 : sumR (ps.take i) + ratP p = sumR (ps.take (i + 1)) := by rw [take_snoc hc, sumR_snoc, hp]
    have e5' : sumR (ps.take i) + ratOf p.1 p.2 = sumR (ps.take (i + 1)) := e5
    have hb5 : Rb (513 * (i + 1) + 1) (sumR (ps.take (i + 1))) := by rw [← e5']; exact hrb.add (ok_rb hpo hK) (by omega)
    rw [e5] at h5
    refine ⟨fun _ => l5, den_rq h5.rq ⟨⟨i + 1, u5, ?_, by omega, l3.trans (l4.trans l5), h5, hb5⟩, ?_⟩⟩
    · simp only [rxs, iv, e1]
    · simp only [rxs, iv, e1]
      omega
  · have hc : i = ps.length := by have := of_decide_eq_false hc; omega
    rw [List.take_of_length_le (by omega)] at ha
    refine den_call (con_sRTold ha) ?_ ?_
    · show [Value.agg a.cells] = _
      rw [ha.agg]
    rintro u6 H6 ⟨l6, rfl⟩
    obtain ⟨a1, b1, c1, ht⟩ := toldR_form (sumR ps)
    rw [ht]
    exact ⟨fun h => (nomatch h), den_rq ⟨_, rfl, Nat.zero_lt_succ _⟩ (den_rq ⟨_, rfl, Nat.lt_succ_self _⟩ (den_rq (shv_one a1 b1) (den_ret rfl ⟨l1.trans (l2.trans (l3.trans l6)), rfl⟩)))⟩
/-! ### Powers -/
theorem toldR_pow {n d : Nat} (h : okB n d = true) (k : Nat) : toldR (ratOf n d ^ k) = if (-(HM : Int) ≤ toI n ^ k ∧ toI n ^ k < HM) ∧ (-(HM : Int) ≤ toI d ^ k ∧ toI d ^ k < HM) then .tuple #[shv (rs (toI n ^ k)) (rs (toI d ^ k)), .int .i64 0] else .tuple #[shv 0 0, .int .i64 6] := by
  obtain ⟨e1, e2⟩ := ok_rat h
  have hHM := HM_pos
  unfold toldR
  rw [Rat.num_pow, Rat.den_pow, e1, Int.natCast_pow, e2]
  have hd : 0 ≤ toI d ^ k := by rw [← e2]; exact Int.pow_nonneg (by omega)
  by_cases h1 : (-(HM : Int) ≤ toI n ^ k ∧ toI n ^ k < HM) ∧ toI d ^ k < HM
  · rw [if_pos h1, if_pos ⟨h1.1, by omega, h1.2⟩]
  · rw [if_neg h1, if_neg (fun h2 => h1 ⟨h2.1, h2.2.2⟩)]
set_option maxRecDepth 100000 in
theorem con_sPow (n d : Nat) (k : Int) : Con Tryz.prog 6 [shv n d, .int .i64 k] H fun u H' => PH.le H H' ∧ u = powR (okB n d) (ratOf n d) k := by
  refine con_of_tree mixed tr_sPow np_sPow rfl (den_rq (shv_one n d) (den_shbuild (vs := [shv n d]) [(n, d)] op_sPow_1_1 (by simp) (by simp) rfl rfl fun v1 H1 l1 hv1 => ?_))
  simp only [List.cons_append, List.nil_append]
  refine den_call (con_svalid hv1) rfl ?_
  rintro u2 H2 ⟨l2, rfl⟩
  rw [all1]
  simp only [List.cons_append, List.nil_append]
  unfold powR
  refine ⟨fun h => (nomatch h), den_rq ⟨_, rfl⟩ (den_br (b := !okB n d) rfl (fun ho => ?_) (fun ho => ?_))⟩
  · rw [not_t ho]
    exact den_ret (congrArg (fun z => Value.tuple #[z, .int .i64 20]) z_share) ⟨l1.trans l2, rfl⟩
  have ho := not_f ho
  rw [ho, if_pos rfl]
  refine den_rq ⟨_, rfl⟩ (den_br (b := decide (k < 0)) rfl (fun h => ?_) (fun h => den_br (b := decide (k > 600)) rfl (fun h2 => ?_) (fun h2 => ?_)))
  · have h := of_decide_eq_true h
    rw [if_pos (.inl h)]
    exact den_ret (congrArg (fun z => Value.tuple #[z, .int .i64 2]) z_share) ⟨l1.trans l2, rfl⟩
  · have h2 := of_decide_eq_true h2
    rw [if_pos (.inr h2)]
    exact den_ret (congrArg (fun z => Value.tuple #[z, .int .i64 2]) z_share) ⟨l1.trans l2, rfl⟩
  have h := of_decide_eq_false h
  have h2 := of_decide_eq_false h2
  rw [if_neg (by omega), toldR_pow ho]
  have hp : ∀ x, powV x k = told (x ^ k.toNat) := fun x => by unfold powV; rw [if_neg (by omega)]
  have d1 := det_Pow n k
  have d2 := det_Pow d k
  rw [hp] at d1 d2
  refine den_det d1 (congrArg (fun z => [z, Value.int .i64 k]) (sh_n n d)) ?_
  have l12 := l1.trans l2
  by_cases f1 : -(HM : Int) ≤ toI n ^ k.toNat ∧ toI n ^ k.toNat < HM
  · rw [told_fits f1]
    simp only [List.cons_append, List.nil_append]
    refine den_rq ⟨_, rfl, Nat.zero_lt_succ _⟩ (den_rq ⟨_, rfl, Nat.lt_succ_self _⟩ (den_rq ⟨words_size _, words_one _⟩ (den_det d2 (congrArg (fun z => [z, Value.int .i64 k]) (sh_d n d)) ?_)))
    by_cases f2 : -(HM : Int) ≤ toI d ^ k.toNat ∧ toI d ^ k.toNat < HM
    · rw [told_fits f2, if_pos ⟨f1, f2⟩]
      exact den_rq ⟨_, rfl, Nat.zero_lt_succ _⟩ (den_rq ⟨_, rfl, Nat.lt_succ_self _⟩ (den_rq ⟨words_size _, words_one _⟩ (den_rq ⟨_, rfl⟩ (den_false rfl (den_rq ⟨_, rfl⟩ (den_false rfl (den_ret rfl ⟨l12, rfl⟩)))))))
    · rw [told_big f2, if_neg (fun h => f2 h.2)]
      exact den_rq ⟨_, rfl, Nat.zero_lt_succ _⟩ (den_rq ⟨_, rfl, Nat.lt_succ_self _⟩ (den_rq ⟨words_size _, words_one _⟩ (den_rq ⟨_, rfl⟩ (den_false rfl (den_rq ⟨_, rfl⟩ (den_true rfl (den_ret (congrArg (fun z => Value.tuple #[z, .int .i64 6]) z_share) ⟨l12, rfl⟩)))))))
  · rw [told_big f1, if_neg (fun h => f1 h.1)]
    simp only [List.cons_append, List.nil_append]
    refine den_rq ⟨_, rfl, Nat.zero_lt_succ _⟩ (den_rq ⟨_, rfl, Nat.lt_succ_self _⟩ (den_rq ⟨words_size _, words_one _⟩ (den_det d2 (congrArg (fun z => [z, Value.int .i64 k]) (sh_d n d)) ?_)))
    obtain ⟨m, e, ht⟩ := told_form (toI d ^ k.toNat)
    rw [ht]
    exact den_rq ⟨_, rfl, Nat.zero_lt_succ _⟩ (den_rq ⟨_, rfl, Nat.lt_succ_self _⟩ (den_rq ⟨words_size _, words_one _⟩ (den_rq ⟨_, rfl⟩ (den_true rfl (den_ret (congrArg (fun z => Value.tuple #[z, .int .i64 6]) z_share) ⟨l12, rfl⟩)))))
theorem big17 {z : Int} {l : List Nat} (hd : Tm l) (hv : vl l = z.natAbs) (h : 17 < l.length) : ¬ (-(HM : Int) ≤ z ∧ z < HM) := by
  have h1 : BP 17 ≤ vl l := by
    rcases Nat.lt_or_ge (vl l) (BP 17) with h2 | h2
    · have := hd 17 h2; omega
    · exact h2
  have h2 : BP 16 < BP 17 := BP_lt_iff.2 (by omega)
  have h3 : M = 2 * HM := M_HM
  rw [BP_M] at h2
  omega
theorem small17 {z : Int} {l : List Nat} (hd : Dg l) (hv : vl l = z.natAbs) (h : l.length ≤ 17) {K : Nat} (hK : K = 32 * 17) : z.natAbs < 2 ^ K := by
  rw [← hv, hK, ← show BP 17 = 2 ^ (32 * 17) from by unfold BP; rfl]
  exact Nat.lt_of_lt_of_le (vl_lt hd) (BP_le h)
end
end Go.Proofs.YtcleogdmobdnpacGreatR
namespace Go.Proofs.YtcleogdmobdnpacGreatR
open Go.RowKit Go.RX Go.WD

def Sho (H0 H : PH) (v : Value) (ps : List (Nat × Nat)) : Prop := OwS H0 H 34 16 v ps.length (ps.flatMap shf)
theorem Sho.sl {H0 H : PH} {v : Value} {ps : List (Nat × Nat)} (h : Sho H0 H v ps) : Shs H v ps := OwS.sl h
theorem Sho.mono {H0 H H' : PH} {v : Value} {ps : List (Nat × Nat)} (h : Sho H0 H v ps) (hl : PH.le H H') : Sho H0 H' v ps := OwS.mono h hl
theorem Sho.nil (H0 H : PH) : Sho H0 H (.slice none 0 0) [] := OwS.nil H0 H _ 16
theorem Shs.one {H : PH} {v : Value} {ps : List (Nat × Nat)} (h : Shs H v ps) : v.cells = #[v] ∧ v.cells.size = 1 ∧ oneAll v.cells := by
  obtain ⟨_, a, c, rfl, _⟩ := h
  exact ⟨rfl, rfl, fun x hx => by rw [cells_slice] at hx; simp only [List.mem_cons, List.not_mem_nil, or_false] at hx; subst hx; rfl⟩
def slNo : Value → Nat | .slice _ n _ => n | _ => 0
theorem Shs.no {H : PH} {v : Value} {ps : List (Nat × Nat)} (h : Shs H v ps) : slNo v = ps.length := by
  obtain ⟨_, a, c, rfl, _⟩ := h; rfl
theorem shf_one' (ps : List (Nat × Nat)) : ∀ c ∈ ps.flatMap shf, c.oneCell' = true := fun c hc => by
  obtain ⟨p, _, hp⟩ := List.mem_flatMap.1 hc
  rw [oneC_eq]
  refine (shv_one p.1 p.2).2 c ?_
  rw [Array.toList_append]
  exact hp
theorem D_put1 {P : Program} {ρ : List Value} {x y : SV} {cs : Array Value} {o : Nat} (hx : D P ρ x = .agg cs) (hy : (D P ρ y).cells = #[D P ρ y]) : D P ρ (.put x o 1 y 0 noI) = .agg (cs.setIfInBounds o (D P ρ y)) := by
  show Value.agg (spl (D P ρ x).cells (o + 0 * ixOf (D P ρ noI)) (D P ρ y).cells.toList) = _
  rw [hx, Nat.zero_mul, hy]; rfl
section
variable {G : Value → PH → Prop} {nx : List (List Value → PH → Prop)} {ρ : List Value} {H H0 : PH} {o o1 o2 : Oper} {x y x2 y2 : Operand} {id i id2 i2 : Nat} {args args2 : List SV} {t : Tree} {v : Value} {ps : List (Nat × Nat)}
theorem sho_new {g : Nat} (hg : H0 g = none) (hp : ps.length ≤ 1000) : Sho H0 (H.put g (.cells (ps.flatMap shf).toArray 34 (0, 0))) (.slice (some ⟨g, 0, none⟩) ps.length ps.length) ps := by
  refine ⟨shf_flat ps, .inr ⟨g, ps.length, _, rfl, hg, PH.put_self _ _ _, Nat.le_refl _, by simp only [maxLen]; omega, ?_, ?_⟩⟩
  · rw [List.size_toArray, shf_flat]
  · rw [List.toList_toArray, List.take_of_length_le (by rw [shf_flat]; exact Nat.le_refl _)]
theorem none_of_le (hle : PH.le H0 H) {g : Nat} (h : H g = none) : H0 g = none := by
  cases e : H0 g with
  | none => rfl
  | some ob => rw [hle _ _ e] at h; cases h
theorem den_shbuildO {pb : Bool} {parts : Array (Nat × Operand)} {vs : List Value} (hle : PH.le H0 H) (ps : List (Nat × Nat)) (ho : o.op = .buildSlice 40 ps.length parts) (hps : 0 < ps.length) (hp2 : ps.length ≤ 1000) (hpar : (parts.toList.map fun p => (p.1, argEv (parts.toList.map (·.2)) vs p.2)) = (ps.map shp).zipIdx.map fun p => (p.2, p.1)) (ha : args.map (D Tryz.prog ρ) = vs)
    (n : ∀ v H', PH.le H H' → PH.le H0 H' → Sho H0 H' v ps → den Tryz.prog G t nx (ρ ++ [v]) H') : den Tryz.prog G (.eff pb id i o args t) nx ρ H := by
  obtain ⟨ti, z, i1, i2, i3, i4, i5⟩ := info_share
  refine den_eff (vs := vs) (sl_build (cells := (ps.flatMap shf).toArray) ho und_shares i1 i2 (by rw [i3]; omega) (by rw [i3]; omega) ?_) ha ?_
  · rw [i3, hpar]
    have := Go.Great.fill_whole (s := 16) (by omega) (ps.map shp) (Array.map (fun x => z.cells[x % z.cells.size]!) (Array.range (ps.length * 16))) (fun v hv => by
      obtain ⟨p, _, rfl⟩ := List.mem_map.1 hv
      exact (shv_one p.1 p.2).1) (by simp)
    rw [shp_flat] at this
    exact this
  · rintro v H' ⟨g, hg, rfl, rfl⟩
    exact ⟨fun _ => PH.le_put hg _, n _ _ (PH.le_put hg _) (hle.trans (PH.le_put hg _)) (sho_new (none_of_le hle hg) hp2)⟩
theorem den_shbuild0 {pb : Bool} (hle : PH.le H0 H) (ho : o.op = .buildSlice 40 0 #[]) (ha : args.map (D Tryz.prog ρ) = [])
    (n : ∀ v H', PH.le H H' → PH.le H0 H' → Sho H0 H' v [] → den Tryz.prog G t nx (ρ ++ [v]) H') : den Tryz.prog G (.eff pb id i o args t) nx ρ H := by
  obtain ⟨ti, z, i1, i2, i3, i4, i5⟩ := info_share
  refine den_eff (sl_build0 ho und_shares i1) ha ?_
  rintro v H' ⟨g, hg, rfl, rfl⟩
  exact ⟨fun _ => PH.le_put hg _, n _ _ (PH.le_put hg _) (hle.trans (PH.le_put hg _)) (sho_new (ps := []) (none_of_le hle hg) (by simp))⟩
/-- append to a slice of the call's own. -/
theorem den_shappend {qs : List (Nat × Nat)} {u : Value} (ho : o.op = .call ⟨.builtin .append, #[x, y], #[40, 40]⟩) (hx : argEv [x, y] [v, u] x = v) (hy : argEv [x, y] [v, u] y = u) (hle : PH.le H0 H) (h : Sho H0 H v ps) (h2 : Shs H u qs) (hb : ps.length + qs.length ≤ 1000000)
    (ha : args.map (D Tryz.prog ρ) = [v, u]) (n : ∀ v' H', PH.le H0 H' → Sho H0 H' v' (ps ++ qs) → den Tryz.prog G t nx (ρ ++ [v']) H') : den Tryz.prog G (.eff false id i o args t) nx ρ H := by
  obtain ⟨ti, z, i1, i2, i3, i4, i5⟩ := info_share
  by_cases hm : 0 < qs.length
  · refine den_eff (own_append ho hx hy und_shares i1 i2 i3 i4 hle h h2 hm (shf_one' qs) (by simp only [maxLen]; omega) (by rw [i5]; omega)) ha ?_
    rintro v' H' ⟨h6, h7, g, ob, h8, h9⟩
    refine ⟨fun h => (nomatch h), n v' H' h6 ?_⟩
    unfold Sho
    rw [List.length_append, List.flatMap_append]; exact h7
  · have hl2 : qs = [] := List.eq_nil_of_length_eq_zero (by omega)
    subst hl2
    refine den_eff (own_append0 ho hx hy und_shares i1 h.sl h2) ha ?_
    rintro v' H' ⟨rfl, rfl⟩
    exact ⟨fun h => (nomatch h), n _ _ hle (by rw [List.append_nil]; exact h)⟩
end
end Go.Proofs.YtcleogdmobdnpacGreatR

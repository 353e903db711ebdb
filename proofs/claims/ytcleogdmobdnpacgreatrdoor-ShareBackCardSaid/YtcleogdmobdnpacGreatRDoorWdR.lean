/- Contract of Parse. -/
import Derived.Test.YtcleogdmobdnpacGreatRDoorWdQ
import Derived.Test.YtcleogdmobdnpacGreatRDoorRxN
namespace Go.WD
open Go.RX
/-! ### What a text says -/
def ng (l : List UInt8) : Bool := l.getD 0 0 == 45
def dg (l : List UInt8) : List UInt8 := if ng l then l.drop 1 else l
def digB (c : UInt8) : Bool := decide (48 ≤ c.toNat) && decide (c.toNat ≤ 57)
def badB (l : List UInt8) : Bool := dg l == [] || ((dg l).getD 0 0 == 48 && decide (1 < l.length))
def rightB (l : List UInt8) : Bool := !badB l && (dg l).all digB
def valL (l : List UInt8) : Nat := l.foldl (fun n c => 10 * n + (c.toNat - 48)) 0
def numL (l : List UInt8) : Int := if ng l then -(valL (dg l) : Int) else valL (dg l)
theorem valL_snoc (l : List UInt8) (c : UInt8) : valL (l ++ [c]) = 10 * valL l + (c.toNat - 48) := by simp [valL]
theorem take_snoc {l : List UInt8} {p : Nat} (h : p < l.length) : l.take (p + 1) = l.take p ++ [l.getD p 0] := by
  rw [List.take_succ_eq_append_getElem h, List.getD_eq_getElem?_getD, List.getElem?_eq_getElem h]; rfl
theorem all_take {l : List UInt8} {p : Nat} (h : p < l.length) (hd : digB (l.getD p 0) = false) : l.all digB = false := by
  rw [List.getD_eq_getElem?_getD, List.getElem?_eq_getElem h] at hd
  rw [List.all_eq_false]
  exact ⟨l[p], List.getElem_mem h, by simpa using hd⟩
theorem digB_val {c : UInt8} (h : digB c = true) : 48 ≤ c.toNat ∧ c.toNat ≤ 57 := by simpa [digB] using h
theorem u8_eq (a b : UInt8) : (a == b) = decide (a.toNat = b.toNat) := by
  rw [Bool.eq_iff_iff, beq_iff_eq, decide_eq_true_iff, UInt8.toNat_inj]
end Go.WD
namespace Go.Proofs.YtcleogdmobdnpacGreatRDoor
open Go.RowKit Go.RX Go.WD Go.IntWalk

theorem uStr : Tryz.prog.underlying 9 = some .string := by kernel_rfl
theorem gStr : Tryz.prog.eqGuardType Tryz.prog.depth 9 = false := by kernel_rfl
theorem det_hasP (l m : List UInt8) (hl : l.length ≤ 9223372036854775807) : Det Tryz.prog 106 [st l, st m] (.bool (decide (m.length ≤ l.length) && l.take m.length == m)) := by
  refine det_of_tree mixed tr_hasP np_hasP rfl (pd_prim (st_len (l := l) (vs := [st l]) op_hasP_1_1 rfl uStr) rfl (pd_prim (st_len (l := m) (vs := [st m]) op_hasP_1_3 rfl uStr) rfl (pd_rq ⟨_, rfl⟩ (pd_rq ⟨_, rfl⟩ (pd_br (b := decide ((l.length : Int) ≥ (m.length : Int))) rfl (fun h => ?_) (fun h => ?_))))))
  · have h : m.length ≤ l.length := by have := of_decide_eq_true h; omega
    refine pd_prim (st_len (l := m) (vs := [st m]) op_hasP_1_8 rfl uStr) rfl (pd_prim (st_take (l := l) (k := .i64) (i := m.length) (vs := [st l, .int .i64 m.length]) op_hasP_1_9 rfl rfl uStr h) rfl (pd_prim (st_eq (l := l.take m.length) (m := m) (vs := [st (l.take m.length), st m]) op_hasP_1_11 rfl rfl uStr gStr) rfl (pd_ret ?_ rfl)))
    rw [decide_eq_true h]; rfl
  · have h : ¬ m.length ≤ l.length := by have := of_decide_eq_false h; omega
    refine pd_ret ?_ rfl
    rw [decide_eq_false h]; rfl
theorem minus_pre (l : List UInt8) : (decide (([45] : List UInt8).length ≤ l.length) && l.take ([45] : List UInt8).length == [45]) = ng l := by
  cases l with
  | nil => rfl
  | cons a l => simp [ng, List.take]
theorem det_trimP (l : List UInt8) (hl : l.length ≤ 9223372036854775807) : Det Tryz.prog 50 [st l, st [45]] (st (dg l)) := by
  have hp := det_hasP l [45] hl
  rw [minus_pre] at hp
  have hi : Det Tryz.prog 100 [st l, st [45]] (st (dg l)) := by
    refine det_of_tree mixed tr_trimPi np_trimPi rfl (pd_call hp rfl (pd_rq ⟨_, rfl⟩ (pd_br rfl (fun h => ?_) (fun h => ?_))))
    · have h1 : 1 ≤ l.length := by
        cases l with
        | nil => cases h
        | cons a l => simp
      refine pd_prim (st_len (l := [45]) (vs := [st [45]]) op_trimPi_2_2 rfl uStr) rfl (pd_prim (st_drop (l := l) (k := .i64) (i := 1) (vs := [st l, .int .i64 1]) op_trimPi_2_3 rfl rfl uStr h1) rfl (pd_ret ?_ rfl))
      unfold dg; rw [if_pos h]; rfl
    · refine pd_ret ?_ rfl
      unfold dg; rw [if_neg (by rw [h]; simp)]; rfl
  exact det_of_tree mixed tr_trimP np_trimP rfl (pd_call hi rfl (pd_ret rfl rfl))
/-- What Parse gives. -/
def parseV (l : List UInt8) : Value := if rightB l then told (numL l) else .tuple #[wd 0, .int .i64 5]
theorem z_num : (zeroV Tryz.prog 4).cells ++ (zeroV Tryz.prog 87).cells = #[.bool false] ++ words 0 := by
  rw [z_size, show zeroV Tryz.prog 4 = .bool false from by kernel_rfl]
  rfl
theorem ten_small {n : Nat} (h : n < M) : n * 10 < PW 9 := by
  rw [PW_succ, ← M_def]; omega
theorem carry_sum {n d : Nat} (h : n < M) (hd : d < 10) : orn (n * 10) 8 + cr (n * 10) d 8 = (n * 10 + d) / M ∧ (n * 10 + d) / M ≤ 10 := by
  have hb := M_big
  rw [orn_small (ten_small h)]
  unfold cr
  rw [← M_def]
  constructor
  · have e := Nat.div_add_mod (n * 10) M
    rw [Nat.mod_eq_of_lt (show d < M by omega)]
    conv => rhs; rw [← e, Nat.add_assoc, Nat.mul_add_div M_pos]
  · have : (n * 10 + d) / M < 11 := (Nat.div_lt_iff_lt_mul M_pos).2 (by omega)
    omega
set_option maxRecDepth 100000 in
set_option maxHeartbeats 2000000 in
theorem det_Parse (l : List UInt8) (hl : l.length ≤ 9223372036854775807) : Det Tryz.prog 11 [st l] (parseV l) := by
  have hM := M_HM
  have hbig := M_big
  have hform : ∀ ρ, rightB l = false → retV (List.map (D Tryz.prog ρ) [.z 31, .k (.int .i64 5)]) = parseV l := fun ρ h => by
    unfold parseV
    rw [h]
    simp only [rxs, retV, z_wide]
    rfl
  refine det_of_con (con_of_tree mixed tr_Parse np_Parse rfl (den_det (det_trimP l hl) rfl ⟨fun v H' => v = [.bool (badB l)] ∧ H' = PH.nil, ?_, ?_⟩))
  · refine den_prim ((st_eq (l := dg l) (m := []) (vs := [st (dg l), st []]) op_Parse_2_1 rfl rfl uStr gStr).rds _) rfl (den_rq ⟨_, rfl⟩ (den_br rfl (fun h => ?_) (fun h => ?_)))
    · refine ⟨?_, rfl⟩
      show [Value.bool true] = _
      unfold badB; rw [h]; rfl
    · have hne : 0 < (dg l).length := by
        cases e : dg l with
        | nil => rw [e] at h; cases h
        | cons a l => simp
      refine den_prim ((st_index (l := dg l) (k := .i64) (i := 0) (vs := [st (dg l), .int .i64 0]) op_Parse_2_4 rfl rfl uStr hne).rds _) rfl (den_rq ⟨_, rfl⟩ (den_br (b := (dg l).getD 0 0 == 48) ?_ (fun h1 => ?_) (fun h1 => ?_)))
      · show Value.bool ((((dg l).getD 0 0).toNat : Int) == 48) = _
        rw [u8_eq]
        congr 1
        rw [Bool.eq_iff_iff]; simp; omega
      · refine den_prim ((st_len (l := l) (vs := [st l]) op_Parse_2_8 rfl uStr).rds _) rfl (den_rq ⟨_, rfl⟩ ⟨?_, rfl⟩)
        show [Value.bool (decide ((l.length : Int) > 1))] = _
        unfold badB; rw [h, h1]
        congr 2
        rw [Bool.false_or, Bool.true_and, decide_eq_decide]; omega
      · refine ⟨?_, rfl⟩
        show [Value.bool false] = _
        unfold badB; rw [h, h1]; rfl
  rintro vals H' - ⟨rfl, rfl⟩
  simp only [List.cons_append, List.nil_append]
  refine den_rq ⟨_, rfl⟩ (den_br rfl (fun h => ?_) (fun h => ?_))
  · exact den_ret (hform _ (by unfold rightB; rw [h]; rfl)) rfl
  have hne : 0 < l.length := by
    cases l with
    | nil => unfold badB at h; cases h
    | cons a l => simp
  refine den_eff (opn_range (s := ba (dg l)) (vs := [st (dg l)]) op_Parse_5_1 rfl uStr) rfl ?_
  rintro v H1 ⟨r, hr, rfl, rfl⟩
  refine ⟨(fun h => nomatch h), ?_⟩
  simp only [List.cons_append, List.nil_append]
  refine ⟨fun v H' => ∃ p, p ≤ (dg l).length ∧ ((dg l).take p).all digB = true ∧ H' = PH.nil.put r (.stringIter (ba (dg l)) p) ∧ ∃ u, v = [.int .i64 0, .bool (decide (M ≤ valL ((dg l).take p))), u] ∧ (valL ((dg l).take p) < M → u = nm (if ng l then -(valL ((dg l).take p) : Int) else (valL ((dg l).take p) : Int))), fun _ H' => match H' r with | some (.stringIter _ p) => (dg l).length - p | _ => 0, ⟨0, by omega, rfl, rfl, nm 0, ?_, fun _ => ?_⟩, ?_⟩
  · rw [List.take_zero, show valL [] = 0 from rfl, decide_eq_false (by omega)]
    simp only [rxs, z_num]
    rfl
  · rw [List.take_zero, show valL [] = 0 from rfl]; simp
  rintro vals H' - ⟨p, hp, hall, rfl, u, rfl, hu⟩
  simp only [List.cons_append, List.nil_append]
  by_cases hlt : p < (dg l).length
  · have hts := take_snoc hlt
    refine den_eff (st_next (l := dg l) (p := p) (r := r) (vs := [.pointer (some ⟨r, 0, none⟩)]) op_Parse_6_0 rfl (PH.put_self _ _ _) hlt) rfl ?_
    rintro v H1 ⟨rfl, rfl⟩
    refine ⟨(fun h => nomatch h), den_rq ⟨_, rfl, Nat.zero_lt_succ _⟩ (den_rq ⟨_, rfl⟩ (den_true rfl (den_rq ⟨_, rfl, Nat.lt_succ_self _⟩ (den_rq ⟨_, rfl⟩ ?_))))⟩
    rw [PH.put_put]
    have hbad : ∀ c : Nat, (c < 48 ∨ 57 < c) → (128 ≤ c ∨ c = ((dg l).getD p 0).toNat) → (¬ ((dg l).getD p 0).toNat < 128 ∨ c = ((dg l).getD p 0).toNat) → rightB l = false := fun c h1 h2 h3 => by
      unfold rightB
      rw [all_take hlt (by rw [digB, Bool.and_eq_false_iff, decide_eq_false_iff_not, decide_eq_false_iff_not]; omega), Bool.and_false]
    by_cases h128 : ((dg l).getD p 0).toNat < 128
    · rw [st_low h128]
      refine den_br (b := decide ((((dg l).getD p 0).toNat : Int) < 48)) rfl (fun h1 => ?_) (fun h1 => den_br (b := decide ((((dg l).getD p 0).toNat : Int) > 57)) rfl (fun h2 => ?_) (fun h2 => ?_))
      · have h1 := of_decide_eq_true h1
        exact den_ret (hform _ (hbad _ (.inl (by omega)) (.inr rfl) (.inr rfl))) rfl
      · have h2 := of_decide_eq_true h2
        exact den_ret (hform _ (hbad _ (.inr (by omega)) (.inr rfl) (.inr rfl))) rfl
      have h1 := of_decide_eq_false h1
      have h2 := of_decide_eq_false h2
      have hdig : digB ((dg l).getD p 0) = true := by rw [digB, Bool.and_eq_true, decide_eq_true_iff, decide_eq_true_iff]; omega
      have hall' : ((dg l).take (p + 1)).all digB = true := by rw [hts, List.all_append, hall]; simpa using hdig
      have hval : valL ((dg l).take (p + 1)) = valL ((dg l).take p) * 10 + (((dg l).getD p 0).toNat - 48) := by rw [hts, valL_snoc, Nat.mul_comm]
      generalize hcd : (dg l).getD p 0 = c at *
      have hmeas : (dg l).length - (p + 1) < (dg l).length - p := by omega
      refine den_rq ⟨_, rfl⟩ (den_br rfl (fun hb => ?_) (fun hb => ?_))
      · have hb := of_decide_eq_true hb
        refine ⟨⟨p + 1, by omega, hall', rfl, u, ?_, fun h => by omega⟩, ?_⟩
        · show [Value.int .i64 0, .bool (decide (M ≤ valL ((dg l).take p))), u] = _
          rw [decide_eq_true hb, decide_eq_true (show M ≤ valL ((dg l).take (p + 1)) by omega)]
        · simp only [PH.put_self]; exact hmeas
      · have hb := of_decide_eq_false hb
        have hnM : valL ((dg l).take p) < M := by omega
        have hun := hu hnM
        generalize hnd : valL ((dg l).take p) = n at *
        obtain ⟨k, hk⟩ : ∃ k, k = c.toNat - 48 := ⟨_, rfl⟩
        rw [← hk] at hval
        have hk10 : k < 10 := by omega
        obtain ⟨cs1, cs2⟩ := carry_sum hnM hk10
        have ht := det_times' n 10 hnM (by omega)
        have hpl := det_plus (n * 10) k
        have hcl := cr_le (n * 10) k 8
        have hsub : Value.agg (u.cells.extract 1 9) = wd n := by
          rw [hun]
          show Value.agg ((#[Value.bool _] ++ words _).extract 1 9) = _
          rw [nb_sub]
          congr 1
          split <;> simp
        have h10 : Value.agg (spl (zeroV Tryz.prog 87).cells 0 [.int .u64 10]) = wd 10 := by
          rw [z_size, wd_cells, show (10 : Int) = ((10 : Nat) : Int) from rfl, put_word 10 (by omega)]; rfl
        have hkv : Value.agg (spl (zeroV Tryz.prog 87).cells 0 [.int .u64 (k : Nat)]) = wd k := by
          rw [z_size, wd_cells, put_word k (by omega)]; rfl
        have hcv : IntKind.u64.wrap (IntKind.i32.wrap ((c.toNat : Int) - 48)) = (k : Int) := by
          rw [IntKind.wrap_i32, IntKind.wrap_u64]; omega
        refine den_det ht ?_ (den_rq ⟨_, rfl, Nat.zero_lt_succ _⟩ (den_rq ⟨_, rfl, Nat.lt_succ_self _⟩ (den_rq ⟨words_size _, words_one _⟩ (den_det hpl ?_ ?_))))
        · simp only [rxs]
          rw [hsub, h10]
        · simp only [rxs, hcv]
          rw [hkv]; rfl
        refine den_rq ⟨_, rfl, Nat.zero_lt_succ _⟩ (den_rq ⟨_, rfl, Nat.lt_succ_self _⟩ (den_rq ⟨words_size _, words_one _⟩ ?_))
        refine den_prim ((st_index (l := l) (k := .i64) (i := 0) (vs := [st l, .int .i64 0]) op_Parse_13_1 rfl rfl uStr hne).rds _) rfl (den_rq ⟨_, rfl⟩ (den_rq ⟨_, rfl⟩ (den_rq ⟨_, rfl⟩ ?_)))
        refine den_det (det_of (ng l) (n * 10 + k)) ?_ (den_rq ⟨nb_size _ _, nb_one _ _⟩ ⟨⟨p + 1, by omega, hall', rfl, nb (ng l && !decide ((n * 10 + k) % M = 0)) (n * 10 + k), ?_, fun h => ?_⟩, ?_⟩)
        · show [Value.bool (((l.getD 0 0).toNat : Int) == 45), wd (n * 10 + k)] = _
          unfold ng
          rw [u8_eq]
          congr 2
          rw [Bool.eq_iff_iff]; simp; omega
        · have : IntKind.u64.wrap (((orn (n * 10) 8 : Nat) : Int) + ((cr (n * 10) k 8 : Nat) : Int)) = (((n * 10 + k) / M : Nat) : Int) := by
            rw [addN, cs1, wrapN _ (by omega)]
          simp only [rxs, this, hval]
          congr 3
          rw [decide_eq_decide]
          constructor
          · intro h
            rcases Nat.lt_or_ge (n * 10 + k) M with h1 | h1
            · rw [Nat.div_eq_of_lt h1] at h; omega
            · exact h1
          · intro h
            have := Nat.div_pos h M_pos
            omega
        · rw [hval] at h ⊢
          exact nb_nm (ng l) (n * 10 + k) h
        · simp only [PH.put_self]; exact hmeas
    · have hhi := st_high (l := dg l) h128
      generalize Utf8.decode (ba (dg l)) p = dc at hhi ⊢
      refine den_br (b := decide (((dc.1 : Nat) : Int) < 48)) rfl (fun h1 => ?_) (fun h1 => den_br (b := decide (((dc.1 : Nat) : Int) > 57)) rfl (fun h2 => ?_) (fun h2 => ?_))
      · have h1 := of_decide_eq_true h1; omega
      · exact den_ret (hform _ (hbad _ (.inr (show 57 < dc.1 by omega)) (.inl hhi) (.inl h128))) rfl
      · have h2 := of_decide_eq_false h2; omega
  · have hpe : (dg l).take p = dg l := List.take_of_length_le (by omega)
    rw [hpe] at hall hu
    have hright : rightB l = true := by unfold rightB; rw [h, hall]; rfl
    have hpv : parseV l = told (numL l) := by unfold parseV; rw [hright]; rfl
    rw [hpe, hpv]
    refine den_eff (st_over (l := dg l) (p := p) (r := r) (vs := [.pointer (some ⟨r, 0, none⟩)]) op_Parse_6_0 rfl (PH.put_self _ _ _) hlt) rfl ?_
    rintro v H1 ⟨rfl, rfl⟩
    refine ⟨(fun h => nomatch h), den_rq ⟨_, rfl, Nat.zero_lt_succ _⟩ (den_rq ⟨_, rfl⟩ (den_false rfl (den_rq ⟨_, rfl⟩ (den_br rfl (fun hb => ?_) (fun hb => ?_)))))⟩
    · have hb := of_decide_eq_true hb
      refine den_ret ?_ rfl
      rw [told_big (by unfold numL; split <;> omega)]
      simp only [rxs, retV, z_wide]
    · have hb := of_decide_eq_false hb
      have hun := hu (by omega)
      obtain ⟨a, b, hf⟩ := told_form (numL l)
      have ht := det_told (numL l) (by unfold numL; split <;> omega)
      rw [hf] at ht ⊢
      refine den_det ht ?_ (den_rq ⟨_, rfl, Nat.zero_lt_succ _⟩ (den_rq ⟨_, rfl, Nat.lt_succ_self _⟩ (den_rq ⟨words_size _, words_one _⟩ (den_ret rfl rfl))))
      show [Value.agg u.cells] = _
      rw [hun]; rfl
end Go.Proofs.YtcleogdmobdnpacGreatRDoor

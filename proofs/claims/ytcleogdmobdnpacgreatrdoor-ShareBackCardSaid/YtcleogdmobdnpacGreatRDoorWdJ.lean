/- Contracts of package wide: Add, Sub, Mul, Of, Int, Sign, Cmp. -/
import Derived.Test.YtcleogdmobdnpacGreatRDoorWdI
import Derived.Test.YtcleogdmobdnpacGreatRDoorWdM
import Derived.Test.YtcleogdmobdnpacGreatRDoorRxJ
namespace Go.Proofs.YtcleogdmobdnpacGreatRDoor
open Go.RowKit Go.RX Go.WD Go.IntWalk

theorem natAbs_lt_mul {x y : Int} (hx : x.natAbs < M) (hy : y.natAbs < M) : x.natAbs * y.natAbs < PW 16 := by
  rw [show (16 : Nat) = 8 + 8 from rfl, PW_add, ← M_def]
  exact Nat.mul_lt_mul'' hx hy
theorem det_prod (x y : Int) (hx : x.natAbs < M) (hy : y.natAbs < M) : ∃ v, Det Tryz.prog 142 [nm x, nm y] (.tuple #[.agg v, .bool (decide (M ≤ (x * y).natAbs))]) ∧ v.size = 9 ∧ oneAll v ∧ ((x * y).natAbs < M → Value.agg v = nm (x * y)) := by
  have ho := orn_eight (natAbs_lt_mul hx hy)
  have ht := det_times x.natAbs y.natAbs
  rw [Nat.mod_eq_of_lt hx, Nat.mod_eq_of_lt hy, ← Int.natAbs_mul] at ht
  rw [← Int.natAbs_mul] at ho
  refine ⟨#[.bool ((decide (x < 0) != decide (y < 0)) && !decide ((x * y).natAbs % M = 0))] ++ words (x * y).natAbs, det_of_tree mixed tr_prod np_prod rfl ?_, nb_size _ _, nb_one _ _, fun h => ?_⟩
  · refine pd_rq ⟨nb_size _ _, nb_one _ _⟩ (pd_rq ⟨nb_size _ _, nb_one _ _⟩ (pd_call ht rfl ?_))
    refine pd_rq ⟨_, rfl, Nat.zero_lt_succ _⟩ (pd_rq ⟨_, rfl, Nat.lt_succ_self _⟩ (pd_rq ⟨words_size _, words_one _⟩ (pd_rq ⟨_, rfl⟩ (pd_rq ⟨_, rfl⟩ ?_))))
    refine pd_call (det_of (decide (x < 0) != decide (y < 0)) (x * y).natAbs) ?_ (pd_rq ⟨_, rfl⟩ (pd_rq ⟨nb_size _ _, nb_one _ _⟩ (pd_ret rfl ?_)))
    · show [Value.bool (true != (decide (x < 0) == decide (y < 0))), wd (x * y).natAbs] = _
      congr 2
      cases decide (x < 0) <;> cases decide (y < 0) <;> rfl
    · show Value.tuple #[nb _ _, .bool (decide (((orn (x * y).natAbs 8 : Nat) : Int) > 0))] = _
      have : decide (((orn (x * y).natAbs 8 : Nat) : Int) > 0) = decide (M ≤ (x * y).natAbs) := by
        rw [Bool.eq_iff_iff, decide_eq_true_iff, decide_eq_true_iff]
        omega
      rw [this]; rfl
  · show nb _ _ = nb _ _
    refine nb_congr ?_ rfl
    rw [Nat.mod_eq_of_lt h]
    rcases Int.lt_trichotomy x 0 with h1 | h1 | h1 <;> rcases Int.lt_trichotomy y 0 with h2 | h2 | h2
    · have := Int.mul_pos_of_neg_of_neg h1 h2
      simp [h1, h2]; omega
    · subst h2; simp
    · have := Int.mul_neg_of_neg_of_pos h1 h2
      simp [h1, this, show ¬ y < 0 by omega]; omega
    · subst h1; simp
    · subst h1; simp
    · subst h1; simp
    · have := Int.mul_neg_of_pos_of_neg h1 h2
      simp [h2, this, show ¬ x < 0 by omega]; omega
    · subst h2; simp
    · have := Int.mul_pos h1 h2
      simp [show ¬ x < 0 by omega, show ¬ y < 0 by omega]; omega

/-! ### The map of operations -/
def opM : Array MapEntry := #[⟨.int .u8 43, .func (.func 140) #[] #[], 0⟩, ⟨.int .u8 45, .func (.func 141) #[] #[], 1⟩, ⟨.int .u8 42, .func (.func 142) #[] #[], 2⟩]
theorem uMap : Tryz.prog.underlying 152 = some (.map 5 (Tryz.prog.mapElemOf 152)) := by kernel_rfl
theorem uU8 : Tryz.prog.underlying 5 = some (.int .u8) := by kernel_rfl
set_option maxRecDepth 100000 in
theorem con_oper (H : PH) : Con Tryz.prog 113 [] H fun v H' => ∃ r, H r = none ∧ v = .map (some r) ∧ H' = H.put r (.map opM 3) := by
  refine con_of_tree mixed tr_oper np_oper rfl (den_eff (opn_makeMap op_oper_1_0) rfl ?_)
  rintro v H1 ⟨r, hr, rfl, rfl⟩
  refine ⟨(fun h => nomatch h), den_eff (opn_insert (r := r) (key := .int .u8 43) (val := .func (.func 140) #[] #[]) (vs := [.map (some r), .int .u8 43, .func (.func 140) #[] #[]]) (.inl op_oper_1_1) rfl rfl rfl uMap uU8 (run_checkInt uU8 false) (PH.put_self _ _ _) rfl) rfl ?_⟩
  rintro v H2 ⟨rfl, rfl⟩
  refine ⟨(fun h => nomatch h), den_eff (opn_insert (r := r) (key := .int .u8 45) (val := .func (.func 141) #[] #[]) (vs := [.map (some r), .int .u8 45, .func (.func 141) #[] #[]]) (.inl op_oper_1_2) rfl rfl rfl uMap uU8 (run_checkInt uU8 false) (PH.put_self _ _ _) rfl) rfl ?_⟩
  rintro v H3 ⟨rfl, rfl⟩
  refine ⟨(fun h => nomatch h), den_eff (opn_insert (r := r) (key := .int .u8 42) (val := .func (.func 142) #[] #[]) (vs := [.map (some r), .int .u8 42, .func (.func 142) #[] #[]]) (.inl op_oper_1_3) rfl rfl rfl uMap uU8 (run_checkInt uU8 false) (PH.put_self _ _ _) rfl) rfl ?_⟩
  rintro v H4 ⟨rfl, rfl⟩
  refine ⟨(fun h => nomatch h), den_ret rfl ⟨r, hr, rfl, ?_⟩⟩
  rw [PH.put_put, PH.put_put, PH.put_put]
  rfl
set_option maxRecDepth 100000 in
theorem det_both (a b : Nat) (s : Int) (i : Nat) (f : FuncId) (z : Int) (v : Array Value) (hs : Instr.findNow (.int .u8) (.int .u8 s) opM.toList 0 = some (some (i, .func (.func f) #[] #[]))) (he : entB Tryz.prog f = true)
    (hd : Det Tryz.prog f [nm (toI a), nm (toI b)] (.tuple #[.agg v, .bool (decide (M ≤ z.natAbs))])) (hv : v.size = 9) (h1 : oneAll v) (hz : z.natAbs < M → Value.agg v = nm z) : Det Tryz.prog 67 [wd a, wd b, .int .u8 s] (told z) := by
  have hM := M_HM
  refine det_of_con (con_of_tree mixed tr_both np_both rfl (den_rq ⟨words_size a, words_one a⟩ (den_rq ⟨words_size b, words_one b⟩ (den_call (con_oper _) rfl ?_))))
  rintro m H1 ⟨r, hr, rfl, rfl⟩
  refine ⟨fun _ => PH.le_put hr _, den_prim (rds_lookup (r := r) (key := .int .u8 s) (vs := [.map (some r), .int .u8 s]) op_both_1_2 rfl rfl uMap uU8 (run_checkInt uU8) (PH.put_self _ _ _) hs) rfl ?_⟩
  refine den_det (det_read a) rfl (den_det (det_read b) rfl ?_)
  refine den_eff (opn_callv (f := f) (caps := #[]) (vs := [nm (toI a), nm (toI b)]) op_both_1_7 rfl rfl he (hd.con _)) rfl ?_
  rintro u H2 ⟨rfl, rfl⟩
  refine ⟨fun _ => PH.le.refl _, den_rq ⟨_, rfl, Nat.zero_lt_succ _⟩ (den_rq ⟨_, rfl, Nat.lt_succ_self _⟩ (den_rq ⟨hv, h1⟩ (den_rq ⟨_, rfl⟩ (den_br rfl (fun h => ?_) (fun h => ?_)))))⟩
  · have h := of_decide_eq_true h
    refine den_ret rfl ?_
    simp only [rxs, retV, z_wide, told]
    rw [if_neg (by omega)]
  · have h := of_decide_eq_false h
    have hzz := hz (by omega)
    obtain ⟨p, q, hf⟩ := told_form z
    have ht := det_told z (by omega)
    rw [hf] at ht ⊢
    refine den_det ht ?_ (den_rq ⟨_, rfl, Nat.zero_lt_succ _⟩ (den_rq ⟨_, rfl, Nat.lt_succ_self _⟩ (den_rq ⟨words_size _, words_one _⟩ (den_ret rfl rfl))))
    show [Value.agg v] = _
    rw [hzz]
theorem det_Mul (a b : Nat) : Det Tryz.prog 18 [wd a, wd b] (told (toI a * toI b)) := by
  obtain ⟨v, hd, hs, h1, hv⟩ := det_prod (toI a) (toI b) (toI_abs_lt a) (toI_abs_lt b)
  have hb := det_both a b 42 2 _ _ v rfl (by kernel_rfl) hd hs h1 hv
  obtain ⟨p, q, hf⟩ := told_form (toI a * toI b)
  rw [hf] at hb ⊢
  exact det_of_tree mixed tr_Mul np_Mul rfl (pd_rq ⟨words_size a, words_one a⟩ (pd_rq ⟨words_size b, words_one b⟩ (pd_call hb rfl (pd_rq ⟨_, rfl, Nat.zero_lt_succ _⟩ (pd_rq ⟨_, rfl, Nat.lt_succ_self _⟩ (pd_rq ⟨words_size _, words_one _⟩ (pd_ret rfl rfl)))))))

/-! ### Of, Int, Sign, Cmp -/
theorem wrap_u64n (n : Int) : IntKind.u64.wrap n = ((n % 18446744073709551616).toNat : Int) := by
  rw [IntKind.wrap_u64]; omega
theorem put0 (u : Nat) : spl (words 0) 0 [.int .u64 (u : Int)] = wf fun j => if j = 0 then u else 0 := by
  refine Eq.trans (wf_spl (dig 0) (show 0 < 8 by omega) u) (wf_congr fun i _ => ?_)
  rw [dig_zero]
theorem det_Of (n : Int) (h0 : -9223372036854775808 ≤ n) (h1 : n < 9223372036854775808) : Det Tryz.prog 14 [.int .i64 n] (iw n) := by
  have hw := words_small (n := n) (by omega) (by omega)
  refine det_of_tree mixed tr_Of np_Of rfl (pd_rq ⟨n, rfl⟩ (pd_br (b := decide (n < 0)) rfl (fun h => ?_) (fun h => ?_)))
  · have hn := of_decide_eq_true h
    refine ⟨fun l => ∃ k, 1 ≤ k ∧ k ≤ 8 ∧ l = [.int .i64 (k : Nat), .agg (wf fun j => if j < k then (if j = 0 then (n % 18446744073709551616).toNat else 18446744073709551615) else 0)], fun l => (8 - intOf (l.getD 0 undef)).toNat, ⟨1, by omega, by omega, ?_⟩, ?_⟩
    · simp only [rxs, z_wide, wrap_u64n, put0]
      congr 3
    · rintro vals - ⟨k, hk1, hk, rfl⟩
      refine pd_rq ⟨_, rfl⟩ (pd_br (b := decide ((k : Int) < 8)) rfl (fun h => ?_) (fun h => ?_))
      · have hk : k < 8 := by simp at h; omega
        have e3 : IntKind.i64.wrap ((k : Int) + 1) = ((k + 1 : Nat) : Int) := i64n (k + 1) (by omega)
        refine pd_rq ⟨_, _, rfl⟩ (pd_rq ⟨?_, ?_⟩ ?_)
        · show (0 : Int) ≤ (k : Int); omega
        · show (k : Int) < 8; omega
        · refine ⟨⟨k + 1, by omega, by omega, ?_⟩, ?_⟩
          · have := wf_spl (fun j => if j < k then (if j = 0 then (n % 18446744073709551616).toNat else 18446744073709551615) else 0) hk 18446744073709551615
            simp only [rxs, e3]
            rw [show (18446744073709551615 : Int) = ((18446744073709551615 : Nat) : Int) from rfl, this]
            congr 3
            refine wf_congr fun i _ => ?_
            by_cases e : i = k
            · subst e; rw [if_pos rfl, if_pos (show i < i + 1 by omega), if_neg (show ¬ i = 0 by omega)]
            · rw [if_neg e]
              by_cases e' : i < k
              · rw [if_pos e', if_pos (show i < k + 1 by omega)]
              · rw [if_neg e', if_neg (show ¬ i < k + 1 by omega)]
          · simp only [rxs, e3]
            omega
      · have hk : k = 8 := by simp at h; omega
        subst hk
        refine pd_ret rfl ?_
        simp only [rxs, retV, iw, wd, hw]
        congr 1
        exact wf_congr fun i hi => by rw [if_pos hi, if_pos hn]
  · have hn := of_decide_eq_false h
    refine pd_ret rfl ?_
    simp only [rxs, retV, z_wide, wrap_u64n, put0, iw, wd, hw]
    congr 1
    exact wf_congr fun i hi => by rw [if_neg hn]
/-- What Int gives. -/
def told64 (z : Int) : Value := if -9223372036854775808 ≤ z ∧ z < 9223372036854775808 then .tuple #[.int .i64 z, .int .i64 0] else .tuple #[.int .i64 0, .int .i64 6]
theorem wrap64n (n : Int) : -9223372036854775808 ≤ IntKind.i64.wrap n ∧ IntKind.i64.wrap n < 9223372036854775808 ∧ (IntKind.i64.wrap n - n) % 18446744073709551616 = 0 := by
  rw [IntKind.wrap_i64]; omega
theorem toI_zero (a : Nat) : toI a = 0 ↔ a % M = 0 := by
  have := M_HM
  have hl := Nat.mod_lt a M_pos
  unfold toI; split <;> omega
end Go.Proofs.YtcleogdmobdnpacGreatRDoor

/- The helpers of the laws of chapter 02. -/
import Derived.Test.YtcleogdmobdnpabGreatShD
import Derived.Test.YtcleogdmobdnpabGreatSwT
import Derived.Laws.StructEq
namespace Go.Proofs.YtcleogdmobdnpabGreat
open Go.RowKit Go.RX Go.WD

theorem run_eq_wide {a b : Nat} (d : Nat) (w : World) : (Op.equalIn (d + 2) 24 (wd a) (wd b)).run Tryz.prog w = .ok (decide (a % M = b % M)) w := by
  obtain ⟨i, hi⟩ : ∃ i, Tryz.prog.info? 22 = some i := by
    have h := hasT_u64
    unfold hasT at h; rw [Bool.and_eq_true, Option.isSome_iff_exists] at h; exact h.1
  show (Op.equalIn (d + 1 + 1) 24 (.agg (wf (dig a))) (.agg (wf (dig b)))).run Tryz.prog w = _
  rw [run_equalIn_array (n := 8) (e := 22) w (d + 1) _ _ (by kernel_rfl) hi, run_eq_words hasT_u64 cells_u64 agg_u64 (by kernel_rfl) d (dig a) (dig b) w _ (fun i hi => List.mem_range.1 hi)]
  refine congrArg (fun z => Result.ok z w) ?_
  rw [Bool.eq_iff_iff, decide_eq_true_iff, decide_eq_true_iff]; exact eq_words_iff a b
theorem run_eq_wide9 {a b : Nat} (w : World) : (Op.equalIn 9999 24 (wd a) (wd b)).run Tryz.prog w = .ok (decide (a % M = b % M)) w := run_eq_wide 9997 w
noncomputable def fN : Field := ((Tryz.prog.fieldsOf 26)[0]?).getD default
noncomputable def fD : Field := ((Tryz.prog.fieldsOf 26)[1]?).getD default
theorem f_share : (Tryz.prog.fieldsOf 26).toList = [fN, fD] := by kernel_rfl
theorem fN_t : fN.type = 24 := by kernel_rfl
theorem fN_o : fN.offset = 0 := by kernel_rfl
theorem fN_n : (fN.name ≠ "_") = True := eq_true (by decide +kernel)
theorem fD_t : fD.type = 24 := by kernel_rfl
theorem fD_o : fD.offset = 8 := by kernel_rfl
theorem fD_n : (fD.name ≠ "_") = True := eq_true (by decide +kernel)
theorem cells_wide : Tryz.prog.cellsOf 24 = 8 := by kernel_rfl
theorem part_n (a b : Nat) (w : World) : (part 24 (words a ++ words b) 0).run Tryz.prog w = .ok (wd a) w := by
  rw [run_partV (by kernel_rfl) (by rw [cells_wide, (shv_one a b).1]; omega) (by rw [cells_wide]; omega) w, cells_wide, show isAggB Tryz.prog 24 = true from by kernel_rfl, if_pos rfl]
  rw [sh_n]
theorem part_d (a b : Nat) (w : World) : (part 24 (words a ++ words b) 8).run Tryz.prog w = .ok (wd b) w := by
  rw [run_partV (by kernel_rfl) (by rw [cells_wide, (shv_one a b).1]; omega) (by rw [cells_wide]; omega) w, cells_wide, show isAggB Tryz.prog 24 = true from by kernel_rfl, if_pos rfl]
  rw [sh_d]
theorem run_eq_share (a b c d : Nat) (w : World) : (Op.equalIn 10000 26 (shv a b) (shv c d)).run Tryz.prog w = .ok (decide (a % M = c % M) && decide (b % M = d % M)) w := by
  show (Op.equalIn (9999 + 1) 26 (.agg (words a ++ words b)) (.agg (words c ++ words d))).run Tryz.prog w = _
  rw [run_equalIn_struct w 9999 _ _ _ (by kernel_rfl) (by kernel_rfl), f_share]
  simp only [Op.eqFields, fN_n, fD_n, fN_t, fN_o, fD_t, fD_o, if_true, Sem.run_bind, part_n, Result.andThen_ok, run_eq_wide9]
  by_cases h1 : a % M = c % M
  · by_cases h2 : b % M = d % M
    · simp [h1, h2, part_d, run_eq_wide9]
    · simp [h1, h2, part_d, run_eq_wide9]
  · simp [h1]
section
variable {o : Oper} {x y : Operand} {H : PH} {a b c d : Nat}
theorem eq_share (ho : o.op = .binOp .eql 26 x y 26) (hx : ∀ u v, argEv [x, y] [u, v] x = u) (hy : ∀ u v, argEv [x, y] [u, v] y = v) : Yld Tryz.prog o [shv a b, shv c d] (.bool (decide (a % M = c % M) && decide (b % M = d % M))) := fun w => by
  have hos : o.op.operands.toList = [x, y] := by simp [ho, Op.operands]
  rw [hos]
  have h1 := run_eql_struct (P := Tryz.prog) w 26 (words a ++ words b) (words c ++ words d)
  have h2 := run_eqGuard_agg (P := Tryz.prog) w .eql 26 x y (words a ++ words b) (words c ++ words d) (by kernel_rfl)
  have h3 := run_eq_share a b c d w
  simp only [shv] at h3
  rw [h3] at h1
  simp only [execOp, ho, hx, hy, shv, Sem.run_bind, h2, h1, Result.andThen_ok]
  rfl
theorem ne_share (ho : o.op = .binOp .neq 26 x y 26) (hx : ∀ u v, argEv [x, y] [u, v] x = u) (hy : ∀ u v, argEv [x, y] [u, v] y = v) : Yld Tryz.prog o [shv a b, shv c d] (.bool (!(decide (a % M = c % M) && decide (b % M = d % M)))) := fun w => by
  have hos : o.op.operands.toList = [x, y] := by simp [ho, Op.operands]
  rw [hos]
  have h1 := run_neq_struct (P := Tryz.prog) w 26 (words a ++ words b) (words c ++ words d)
  have h2 := run_eqGuard_agg (P := Tryz.prog) w .neq 26 x y (words a ++ words b) (words c ++ words d) (by kernel_rfl)
  have h3 := run_eq_share a b c d w
  simp only [shv] at h3
  rw [h3] at h1
  simp only [execOp, ho, hx, hy, shv, Sem.run_bind, h2, h1, Result.andThen_ok]
  rfl
theorem eq_share_self (ho : o.op = .binOp .eql 26 x y 26) (hx : ∀ u v, argEv [x, y] [u, v] x = u) (hy : ∀ u v, argEv [x, y] [u, v] y = v) : Yld Tryz.prog o [shv a b, shv a b] (.bool true) := by
  have := eq_share (a := a) (b := b) (c := a) (d := b) ho hx hy
  rwa [decide_eq_true rfl, decide_eq_true rfl] at this
theorem ne_share_self (ho : o.op = .binOp .neq 26 x y 26) (hx : ∀ u v, argEv [x, y] [u, v] x = u) (hy : ∀ u v, argEv [x, y] [u, v] y = v) : Yld Tryz.prog o [shv a b, shv a b] (.bool false) := by
  have := ne_share (a := a) (b := b) (c := a) (d := b) ho hx hy
  rwa [decide_eq_true rfl, decide_eq_true rfl] at this
end
/-- The share of a fraction. -/
def shR (r : Rat) : Value := shv (rs r.num) (rs (r.den : Int))
/-- Small fractions. -/
def Sm (r : Rat) : Prop := -9223372036854775808 ≤ r.num ∧ r.num < 9223372036854775808 ∧ (r.den : Int) < 9223372036854775808
theorem big64 : (9223372036854775808 : Int) < HM := by
  have := M_big.1
  omega
theorem told_small {r : Rat} (h : Sm r) : toldR r = .tuple #[shR r, .int .i64 0] := by
  have := big64
  unfold Sm at h
  unfold toldR
  rw [if_pos (by omega)]; rfl
theorem shR_ok {r : Rat} (h : -(HM : Int) ≤ r.num ∧ r.num < HM) (h2 : (r.den : Int) < HM) : okB (rs r.num) (rs (r.den : Int)) = true ∧ ratOf (rs r.num) (rs (r.den : Int)) = r := by
  have hd : 0 < (r.den : Int) := by have := r.den_nz; omega
  have e1 : toI (rs r.num) = r.num := toI_rs h
  have e2 : toI (rs (r.den : Int)) = (r.den : Int) := toI_rs (show Fits _ from ⟨by have := HM_pos; omega, h2⟩)
  constructor
  · unfold okB
    rw [e1, e2, decide_eq_true hd, Int.natAbs_natCast, decide_eq_true r.reduced]; rfl
  · unfold ratOf
    rw [e1, e2, Rat.num_divInt_den]
theorem sm_ok {r : Rat} (h : Sm r) : okB (rs r.num) (rs (r.den : Int)) = true ∧ ratOf (rs r.num) (rs (r.den : Int)) = r := by
  have := big64
  unfold Sm at h
  exact shR_ok (by omega) (by omega)
section
variable {H : PH}
theorem con_hq {p q : Int} (r : Rat) (p0 : -9223372036854775808 ≤ p) (p1 : p < 9223372036854775808) (q0 : -9223372036854775808 ≤ q) (q1 : q < 9223372036854775808) (h0 : q ≠ 0) (hr : Rat.divInt p q = r) (hs : Sm r) : Con Tryz.prog 34 [.int .i64 p, .int .i64 q] H fun u H' => PH.le H H' ∧ u = shR r := by
  refine con_of_tree mixed tr_hq np_hq rfl (den_call (con_sOf p q p0 p1 q0 q1) rfl ?_)
  rintro u1 H1 ⟨l1, rfl⟩
  unfold makeV
  rw [if_neg h0, hr, told_small hs]
  exact ⟨fun h => (nomatch h), den_rq ⟨_, rfl, Nat.zero_lt_succ _⟩ (den_rq ⟨_, rfl, Nat.lt_succ_self _⟩ (den_rq (shv_one _ _) (den_ret rfl ⟨l1, rfl⟩)))⟩
theorem one_i (n : Int) : (Value.int .i64 n).cells.size = 1 ∧ oneAll (Value.int .i64 n).cells := ⟨rfl, one_int _ _⟩
theorem con_his (n d : Int) : Con Tryz.prog 44 [.int .i64 n, .int .i64 d] H fun v H' => ∃ b c, v = .func (.func 98) #[] #[ptr b, ptr c] ∧ PH.le H H' ∧ H' b = some (.cells #[.int .i64 n] 3 (0, 0)) ∧ H' c = some (.cells #[.int .i64 d] 3 (0, 0)) := by
  refine con_of_tree mixed tr_his np_his rfl (den_rq (one_i n) ?_)
  intro b hb
  simp only [List.cons_append, List.nil_append]
  refine den_rq (one_i d) ?_
  intro c hc
  have hne : b ≠ c := fun e => by
    have hc' : (H.put b (.cells #[.int .i64 n] 3 (0, 0))) c = none := hc
    rw [← e, PH.put_self] at hc'; cases hc'
  simp only [List.cons_append, List.nil_append]
  refine den_eff ((run_makeFunc (vs := [ptr b, ptr c]) op_his_1_0 rfl).opn _) rfl ?_
  rintro u H3 ⟨rfl, rfl⟩
  refine ⟨fun h => (nomatch h), den_ret rfl ⟨b, c, rfl, ?_, ?_, ?_⟩⟩
  · exact (PH.le_put hb (.cells #[.int .i64 n] 3 (0, 0))).trans (PH.le_put hc (.cells #[.int .i64 d] 3 (0, 0)))
  · show ((H.put b (.cells #[.int .i64 n] 3 (0, 0))).put c (.cells #[.int .i64 d] 3 (0, 0))) b = _
    rw [PH.put_ne _ _ hne, PH.put_self]
  · exact PH.put_self _ _ _
theorem ent_his1 : entB Tryz.prog 98 = true := by kernel_rfl
theorem con_his1 {b c : Nat} {p q : Int} (r : Rat) (p0 : -9223372036854775808 ≤ p) (p1 : p < 9223372036854775808) (q0 : -9223372036854775808 ≤ q) (q1 : q < 9223372036854775808) (h0 : q ≠ 0) (hr : Rat.divInt p q = r) (hs : Sm r) (hb : H b = some (.cells #[.int .i64 p] 3 (0, 0))) (hc : H c = some (.cells #[.int .i64 q] 3 (0, 0))) : Con Tryz.prog 98 [shR r, .int .i64 0, ptr b, ptr c] H fun u H' => PH.le H H' ∧ u = .bool true := by
  refine con_of_tree mixed tr_his1 np_his1 rfl (den_rq (shv_one _ _) (den_prim (sl_load1 (w := .int .i64 p) op_his1_1_1 rfl hb hasT_int agg_int cells_int' (by simp) rfl) rfl (den_prim (sl_load1 (w := .int .i64 q) op_his1_1_2 rfl hc hasT_int agg_int cells_int' (by simp) rfl) rfl (den_call (con_hq r p0 p1 q0 q1 h0 hr hs) rfl ?_))))
  rintro u1 H1 ⟨l1, rfl⟩
  exact ⟨fun _ => l1, den_prim ((eq_share_self op_his1_1_4 (fun _ _ => rfl) (fun _ _ => rfl)).rds _) rfl (den_rq ⟨_, rfl⟩ (den_true rfl (den_rq ⟨_, rfl⟩ (den_ret rfl ⟨l1, rfl⟩))))⟩
theorem con_hfails (n : Int) : Con Tryz.prog 45 [.int .i64 n] H fun v H' => ∃ b, v = .func (.func 99) #[] #[ptr b] ∧ PH.le H H' ∧ H' b = some (.cells #[.int .i64 n] 41 (0, 0)) := by
  refine con_of_tree mixed tr_hfails np_hfails rfl (den_rq (one_i n) ?_)
  intro b hb
  simp only [List.cons_append, List.nil_append]
  refine den_eff ((run_makeFunc (vs := [ptr b]) op_hfails_1_0 rfl).opn _) rfl ?_
  rintro u H3 ⟨rfl, rfl⟩
  exact ⟨fun h => (nomatch h), den_ret rfl ⟨b, rfl, PH.le_put hb (.cells #[.int .i64 n] 41 (0, 0)), PH.put_self _ _ _⟩⟩
theorem ent_hfails1 : entB Tryz.prog 99 = true := by kernel_rfl
theorem con_hfails1 {b : Nat} {n : Int} (hb : H b = some (.cells #[.int .i64 n] 41 (0, 0))) : Con Tryz.prog 99 [shv 0 0, .int .i64 n, ptr b] H fun u H' => PH.le H H' ∧ u = .bool true := by
  refine con_of_tree mixed tr_hfails1 np_hfails1 rfl (den_rq (shv_one _ _) (den_prim ((eq_share_self (a := 0) (b := 0) op_hfails1_1_2 (fun _ _ => rfl) (fun _ _ => rfl)).rds _) (congrArg (fun z => [shv 0 0, z]) z_share) (den_rq ⟨_, rfl⟩ (den_true rfl (den_prim (sl_load1 (w := .int .i64 n) op_hfails1_1_5 rfl hb (by kernel_rfl) (by kernel_rfl) (by kernel_rfl) (by simp) rfl) rfl (den_rq ⟨_, rfl⟩ (den_rq ⟨_, rfl⟩ (den_ret rfl ⟨PH.le.refl _, ?_⟩))))))))
  show Value.bool (n == n) = _
  rw [beq_self_eq_true]
theorem con_hsays (n : Int) : Con Tryz.prog 46 [.int .i64 n] H fun v H' => ∃ b, v = .func (.func 100) #[] #[ptr b] ∧ PH.le H H' ∧ H' b = some (.cells #[.int .i64 n] 3 (0, 0)) := by
  refine con_of_tree mixed tr_hsays np_hsays rfl (den_rq (one_i n) ?_)
  intro b hb
  simp only [List.cons_append, List.nil_append]
  refine den_eff ((run_makeFunc (vs := [ptr b]) op_hsays_1_0 rfl).opn _) rfl ?_
  rintro u H3 ⟨rfl, rfl⟩
  exact ⟨fun h => (nomatch h), den_ret rfl ⟨b, rfl, PH.le_put hb (.cells #[.int .i64 n] 3 (0, 0)), PH.put_self _ _ _⟩⟩
theorem ent_hsays1 : entB Tryz.prog 100 = true := by kernel_rfl
theorem con_hsays1 {b : Nat} {n : Int} (n0 : -9223372036854775808 ≤ n) (n1 : n < 9223372036854775808) (hb : H b = some (.cells #[.int .i64 n] 3 (0, 0))) : Con Tryz.prog 100 [iw n, .int .i64 0, ptr b] H fun u H' => PH.le H H' ∧ u = .bool true := by
  refine con_of_tree mixed tr_hsays1 np_hsays1 rfl (den_rq ⟨words_size _, words_one _⟩ (den_prim (sl_load1 (w := .int .i64 n) op_hsays1_1_1 rfl hb hasT_int agg_int cells_int' (by simp) rfl) rfl (den_det (det_Of n n0 n1) rfl (den_prim ((eq_wide (a := rs n) (b := rs n) op_hsays1_1_3 rfl rfl rfl rfl).rds _) rfl (den_rq ⟨_, rfl⟩ (den_true (by show Value.bool (decide (rs n % M = rs n % M)) = _; rw [decide_eq_true rfl]) (den_rq ⟨_, rfl⟩ (den_ret rfl ⟨PH.le.refl _, rfl⟩))))))))
theorem con_htells (l : List UInt8) : Con Tryz.prog 47 [st l] H fun v H' => ∃ b, v = .func (.func 101) #[] #[ptr b] ∧ PH.le H H' ∧ H' b = some (.cells #[st l] 9 (0, 0)) := by
  refine con_of_tree mixed tr_htells np_htells rfl (den_rq ⟨rfl, st_one l⟩ ?_)
  intro b hb
  simp only [List.cons_append, List.nil_append]
  refine den_eff ((run_makeFunc (vs := [ptr b]) op_htells_1_0 rfl).opn _) rfl ?_
  rintro u H3 ⟨rfl, rfl⟩
  exact ⟨fun h => (nomatch h), den_ret rfl ⟨b, rfl, PH.le_put hb (.cells #[st l] 9 (0, 0)), PH.put_self _ _ _⟩⟩
theorem ent_htells1 : entB Tryz.prog 101 = true := by kernel_rfl
theorem con_htells1 {b : Nat} {l : List UInt8} (hb : H b = some (.cells #[st l] 9 (0, 0))) : Con Tryz.prog 101 [st l, .int .i64 0, ptr b] H fun u H' => PH.le H H' ∧ u = .bool true := by
  refine con_of_tree mixed tr_htells1 np_htells1 rfl (den_prim (sl_load1 (w := st l) op_htells1_1_1 rfl hb (by kernel_rfl) (by kernel_rfl) (by kernel_rfl) (by simp) rfl) rfl (den_prim ((st_eq (l := l) (m := l) (vs := [st l, st l]) op_htells1_1_2 rfl rfl uStr gStr).rds _) rfl (den_rq ⟨_, rfl⟩ (den_true (by show Value.bool (l == l) = _; rw [beq_self_eq_true]) (den_rq ⟨_, rfl⟩ (den_ret rfl ⟨PH.le.refl _, rfl⟩))))))
end
end Go.Proofs.YtcleogdmobdnpabGreat

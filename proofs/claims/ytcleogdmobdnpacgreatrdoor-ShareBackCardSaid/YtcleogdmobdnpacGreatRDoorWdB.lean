/- Contracts of package wide: words. -/
import Derived.Test.YtcleogdmobdnpacGreatRDoorWdT
import Derived.Test.YtcleogdmobdnpacGreatRDoorWdA
import Derived.Laws.Externs
import Derived.Shelf.Spec.BitsCarry
import Derived.IntWalk
import Derived.ChangeKeysEq
namespace Go.Proofs.YtcleogdmobdnpacGreatRDoor
open Go.RowKit Go.RX Go.WD Go.IntWalk


theorem nb_sub (b : Bool) (n : Nat) : Value.agg ((#[Value.bool b] ++ words n).extract 1 9) = wd n := rfl
theorem nb_size (b : Bool) (n : Nat) : (#[Value.bool b] ++ words n).size = 9 := rfl
theorem nb_one (b : Bool) (n : Nat) : oneAll (#[Value.bool b] ++ words n) := by
  intro c hc
  simp only [Array.toList_append, List.mem_append] at hc
  rcases hc with h | h
  · simp at h; subst h; rfl
  · exact words_one n c h
theorem z_size : zeroV Tryz.prog 87 = wd 0 := by
  have : zeroV Tryz.prog 87 = .agg #[.int .u64 0, .int .u64 0, .int .u64 0, .int .u64 0, .int .u64 0, .int .u64 0, .int .u64 0, .int .u64 0] := by kernel_rfl
  rw [this]; simp [wd, words, wf, dig_zero]
theorem z_wide : zeroV Tryz.prog 31 = wd 0 := by
  have : zeroV Tryz.prog 31 = .agg #[.int .u64 0, .int .u64 0, .int .u64 0, .int .u64 0, .int .u64 0, .int .u64 0, .int .u64 0, .int .u64 0] := by kernel_rfl
  rw [this]; simp [wd, words, wf, dig_zero]

theorem own_add64 (x y c : Nat) (hx : x < 18446744073709551616) (hy : y < 18446744073709551616) (hc : c ≤ 1) : Own Tryz.prog 103 [.int .u64 x, .int .u64 y, .int .u64 c] (.tuple #[.int .u64 (((x + y + c) % 18446744073709551616 : Nat) : Int), .int .u64 (((x + y + c) / 18446744073709551616 : Nat) : Int)]) := fun w => by
  show (callFunc _ #[_, _, _]).run _ w = _
  rw [run_callFunc_extern Tryz.func103 (by kernel_rfl) (by kernel_rfl) (by kernel_rfl) (e := add64Entry) (by kernel_rfl), run_add64 x y c (by omega) (by omega) (by omega) (by omega)]
  simp only [Result.andThen]
  congr 5 <;> omega
theorem own_sub64 (x y b : Nat) (hb : b ≤ 1) : Own Tryz.prog 132 [.int .u64 x, .int .u64 y, .int .u64 b] (.tuple #[.int .u64 (((x + 18446744073709551616 - y - b) % 18446744073709551616 : Nat) : Int), .int .u64 ((if x < y + b then 1 else 0 : Nat) : Int)]) := fun w => by
  show (callFunc _ #[_, _, _]).run _ w = _
  rw [run_callFunc_extern Tryz.func132 (by kernel_rfl) (by kernel_rfl) (by kernel_rfl) (e := sub64Entry) (by kernel_rfl), run_sub64 x y b hb]
  rfl

theorem len5 {l : List Value} (h : l.length = 5) : ∃ a b c d e, l = [a, b, c, d, e] := by
  match l, h with
  | [a, b, c, d, e], _ => exact ⟨a, b, c, d, e, rfl⟩

theorem ite_step (f g : Nat → Nat) (k i : Nat) : (if i = k then f k else if i < k then f i else g i) = if i < k + 1 then f i else g i := by
  by_cases h1 : i = k
  · subst h1; rw [if_pos rfl, if_pos (by omega)]
  · rw [if_neg h1]
    by_cases h2 : i < k
    · rw [if_pos h2, if_pos (by omega)]
    · rw [if_neg h2, if_neg (by omega)]

theorem det_plus (a b : Nat) : Det Tryz.prog 52 [wd a, wd b] (.tuple #[wd (a + b), .int .u64 (cr a b 8)]) := by
  refine det_of_tree mixed tr_plus np_plus rfl ?_
  refine pd_rq ⟨words_size a, words_one a⟩ (pd_rq ⟨words_size b, words_one b⟩ ?_)
  refine ⟨fun l => ∃ k, k ≤ 8 ∧ l = [.int .u64 (cr a b k), .int .i64 (k : Nat), .agg (wf fun j => if j < k then dig (a + b) j else dig a j)], fun l => (8 - intOf (l.getD 1 undef)).toNat, ⟨0, by omega, ?_⟩, ?_⟩
  · rw [cr_zero]; rfl
  · rintro vals - ⟨k, hk, rfl⟩
    refine pd_rq ⟨_, rfl⟩ (pd_br (b := decide ((k : Int) < 8)) rfl (fun h => ?_) (fun h => ?_))
    · have hk : k < 8 := by simp at h; omega
      refine pd_rq ⟨_, _, rfl⟩ (pd_rq ⟨?_, ?_⟩ ?_)
      · show (0 : Int) ≤ (k : Int); omega
      · show (k : Int) < 8; omega
      · refine pd_ext (own_add64 (dig a k) (dig b k) (cr a b k) (dig_lt _ _) (dig_lt _ _) (cr_le _ _ _)) ?_ ?_
        · simp only [rxs, wf_get _ hk, words_get b hk, Nat.lt_irrefl, if_false]
        · refine pd_rq ⟨_, rfl, Nat.zero_lt_succ _⟩ (pd_rq ⟨_, rfl, Nat.lt_succ_self _⟩ (pd_rq ⟨rfl, ?_⟩ ?_))
          · exact one_int _ _
          · refine ⟨⟨k + 1, by omega, ?_⟩, ?_⟩
            · have e : (k : Int) + 1 = ((k + 1 : Nat) : Int) := by omega
              simp only [rxs, ← cr_succ, ← dig_add, e, i64_in _ (show -9223372036854775808 ≤ ((k + 1 : Nat) : Int) ∧ ((k + 1 : Nat) : Int) ≤ 9223372036854775807 from by omega)]
              rw [wf_spl _ hk, wf_congr (g := fun j => if j < k + 1 then dig (a + b) j else dig a j) (fun i _ => ?_)]
              exact ite_step _ _ k i
            · simp only [rxs, i64_in _ (show -9223372036854775808 ≤ (k : Int) + 1 ∧ (k : Int) + 1 ≤ 9223372036854775807 from by omega)]
              omega
    · have hk : k = 8 := by simp at h; omega
      subst hk
      refine pd_ret ?_ rfl
      simp only [rxs, retV, wf_words (n := a + b) (f := fun j => if j < 8 then dig (a + b) j else dig a j) (fun i hi => by rw [if_pos hi])]
      rfl
theorem det_minus (a b : Nat) : Det Tryz.prog 105 [wd a, wd b] (.tuple #[wd (sb a b), .int .u64 (bw a b 8)]) := by
  refine det_of_tree mixed tr_minus np_minus rfl ?_
  refine pd_rq ⟨words_size a, words_one a⟩ (pd_rq ⟨words_size b, words_one b⟩ ?_)
  refine ⟨fun l => ∃ k, k ≤ 8 ∧ l = [.int .u64 (bw a b k), .int .i64 (k : Nat), .agg (wf fun j => if j < k then dig (sb a b) j else dig a j)], fun l => (8 - intOf (l.getD 1 undef)).toNat, ⟨0, by omega, ?_⟩, ?_⟩
  · rw [bw_zero]; rfl
  · rintro vals - ⟨k, hk, rfl⟩
    refine pd_rq ⟨_, rfl⟩ (pd_br (b := decide ((k : Int) < 8)) rfl (fun h => ?_) (fun h => ?_))
    · have hk : k < 8 := by simp at h; omega
      refine pd_rq ⟨_, _, rfl⟩ (pd_rq ⟨?_, ?_⟩ ?_)
      · show (0 : Int) ≤ (k : Int); omega
      · show (k : Int) < 8; omega
      · refine pd_ext (own_sub64 (dig a k) (dig b k) (bw a b k) (bw_le _ _ _)) ?_ ?_
        · simp only [rxs, wf_get _ hk, words_get b hk, Nat.lt_irrefl, if_false]
        · refine pd_rq ⟨_, rfl, Nat.zero_lt_succ _⟩ (pd_rq ⟨_, rfl, Nat.lt_succ_self _⟩ (pd_rq ⟨rfl, ?_⟩ ?_))
          · exact one_int _ _
          · refine ⟨⟨k + 1, by omega, ?_⟩, ?_⟩
            · have e : (k : Int) + 1 = ((k + 1 : Nat) : Int) := by omega
              simp only [rxs, ← bw_succ, ← dig_sb a b hk, e, i64_in _ (show -9223372036854775808 ≤ ((k + 1 : Nat) : Int) ∧ ((k + 1 : Nat) : Int) ≤ 9223372036854775807 from by omega)]
              rw [wf_spl _ hk, wf_congr (g := fun j => if j < k + 1 then dig (sb a b) j else dig a j) (fun i _ => ?_)]
              exact ite_step _ _ k i
            · simp only [rxs, i64_in _ (show -9223372036854775808 ≤ (k : Int) + 1 ∧ (k : Int) + 1 ≤ 9223372036854775807 from by omega)]
              omega
    · have hk : k = 8 := by simp at h; omega
      subst hk
      refine pd_ret ?_ rfl
      simp only [rxs, retV, wf_words (n := sb a b) (f := fun j => if j < 8 then dig (sb a b) j else dig a j) (fun i hi => by rw [if_pos hi])]
      rfl

/-! ### Order -/
theorem wd_cell (n : Nat) {k : Nat} (h : k < 8) : (wd n).cells.getD k undef = .int .u64 (dig n k) := words_get n h
theorem det_order (a b : Nat) : Det Tryz.prog 104 [wd a, wd b] (.int .i64 (sg (a % M) (b % M))) := by
  refine det_of_tree mixed tr_order np_order rfl ?_
  refine pd_rq ⟨words_size a, words_one a⟩ (pd_rq ⟨words_size b, words_one b⟩ ?_)
  -- the words from k on are the same
  refine ⟨fun l => ∃ k, k ≤ 8 ∧ (∀ j, k ≤ j → j < 8 → dig a j = dig b j) ∧ l = [.int .i64 0, .int .i64 ((k : Int) - 1)], fun l => (intOf (l.getD 1 undef) + 1).toNat, ⟨8, by omega, fun j h1 h2 => by omega, rfl⟩, ?_⟩
  rintro vals - ⟨k, hk, hs, rfl⟩
  refine pd_rq ⟨_, rfl⟩ (pd_br (b := decide ((k : Int) - 1 ≥ 0)) rfl (fun h => ?_) (fun h => ?_))
  · have hk0 : 0 < k := by simp at h; omega
    obtain ⟨m, rfl⟩ : ∃ m, k = m + 1 := ⟨k - 1, by omega⟩
    have hm : m < 8 := by omega
    have em : ((m + 1 : Nat) : Int) - 1 = (m : Int) := by omega
    rw [em]
    refine pd_rq ⟨_, _, rfl⟩ (pd_rq ⟨?_, ?_⟩ (pd_rq ⟨dig a m, ?_⟩ (pd_rq ⟨dig b m, ?_⟩ ?_)))
    · show (0 : Int) ≤ (m : Int); omega
    · show (m : Int) < 8; omega
    · simp only [rxs, words_get a hm]
    · simp only [rxs, words_get b hm]
    · refine pd_br (b := decide (dig a m ≠ dig b m)) ?_ (fun h1 => ?_) (fun h1 => ?_)
      · simp only [rxs, words_get a hm, words_get b hm]
        congr 1
        rw [Bool.eq_iff_iff]; simp; omega
      · have h1 : dig a m ≠ dig b m := by simpa using h1
        refine pd_br (b := decide (dig a m < dig b m)) ?_ (fun h2 => ?_) (fun h2 => ?_)
        · simp only [rxs, words_get a hm, words_get b hm]
          congr 1
          rw [Bool.eq_iff_iff]; simp
        · have := lt_of_dig hm (fun j h h' => hs j (by omega) h') (by simpa using h2)
          exact pd_ret rfl (by simp [D, retV, sg, this])
        · have := lt_of_dig (a := b) (b := a) hm (fun j h h' => (hs j (by omega) h').symm) (by simp at h2; omega)
          exact pd_ret rfl (by simp only [rxs, retV, sg]; rw [if_neg (by omega), if_neg (by omega)])
      · have h1 : dig a m = dig b m := by simpa using h1
        refine ⟨⟨m, by omega, fun j h h' => ?_, ?_⟩, ?_⟩
        · rcases Nat.eq_or_lt_of_le h with rfl | h
          · exact h1
          · exact hs j (by omega) h'
        · simp only [rxs, i64_in _ (show -9223372036854775808 ≤ (m : Int) - 1 ∧ (m : Int) - 1 ≤ 9223372036854775807 from by omega)]
        · simp only [rxs, i64_in _ (show -9223372036854775808 ≤ (m : Int) - 1 ∧ (m : Int) - 1 ≤ 9223372036854775807 from by omega)]
          omega
  · have hk0 : k = 0 := by simp at h; omega
    subst hk0
    refine pd_ret rfl ?_
    have : a % M = b % M := by rw [M_def]; exact mod_of_dig fun i hi => hs i (by omega) hi
    simp [D, retV, sg, this]
end Go.Proofs.YtcleogdmobdnpacGreatRDoor
namespace Go.Proofs.YtcleogdmobdnpacGreatRDoor
open Go.RowKit Go.RX Go.WD Go.IntWalk

theorem run_eq_word {P : Program} {e : TypeId} (hu : P.underlying e = some (.int .u64)) (d x y : Nat) (w : World) : (Op.equalIn (d + 1) e (.int .u64 x) (.int .u64 y)).run P w = .ok (decide (x = y)) w := by
  simp only [Op.equalIn, Sem.run_bind, run_underlying hu, Result.andThen_ok, if_true, Sem.run_pure]
  congr 1
  rw [Bool.eq_iff_iff]; simp; omega
theorem run_eq_words {P : Program} {e : TypeId} (hT : hasT P e = true) (hc : P.cellsOf e = 1) (hag : isAggB P e = false) (hu : P.underlying e = some (.int .u64)) (d : Nat) (f g : Nat → Nat) (w : World) : ∀ is : List Nat, (∀ i ∈ is, i < 8) →
    (Op.eqItems (d + 1) e (P.cellsOf e) (wf f) (wf g) is).run P w = .ok (decide (∀ i ∈ is, f i = g i)) w := by
  intro is
  induction is with
  | nil => intro _; simp [Op.eqItems]
  | cons i is ih =>
    intro h
    have hi := h i (by simp)
    have hp : ∀ f : Nat → Nat, (part e (wf f) (i * P.cellsOf e)).run P w = .ok (.int .u64 (f i)) w := fun f => by
      rw [run_partV hT (by rw [wf_size, hc]; omega) (by omega) w, hag, hc, Nat.mul_one]
      simp only [Bool.false_eq_true, if_false, wf_get f hi]
    simp only [Op.eqItems, Sem.run_bind, hp, Result.andThen_ok, run_eq_word hu]
    by_cases he : f i = g i
    · simp only [he, decide_true, Bool.not_true, Bool.false_eq_true, if_false, ih (fun j hj => h j (by simp [hj]))]
      congr 1
      rw [Bool.eq_iff_iff]; simp [he]
    · simp [he]

theorem eq_words_iff (a b : Nat) : (∀ i ∈ List.range 8, dig a i = dig b i) ↔ a % M = b % M :=
  ⟨fun h => by rw [M_def]; exact mod_of_dig fun i hi => h i (List.mem_range.2 hi), fun h i hi => by rw [M_def] at h; exact dig_congr h (List.mem_range.1 hi)⟩

/-- Equality of two numbers, as an operation. -/
theorem yld_eqw {P : Program} {o : Oper} {t t' e : TypeId} {x y : Operand} {va vb : Value} {a b : Nat} (ho : o.op = .binOp .eql t x y t') (hva : va = wd a) (hvb : vb = wd b) (hx : argEv [x, y] [va, vb] x = va) (hy : argEv [x, y] [va, vb] y = vb)
    (hu : P.underlying t = some (.array 8 e)) (hg : P.eqGuardType P.depth t = false) (hT : hasT P e = true) (hc : P.cellsOf e = 1) (hag : isAggB P e = false) (hue : P.underlying e = some (.int .u64)) :
    Yld P o [va, vb] (.bool (decide (a % M = b % M))) := fun w => by
  have hos : o.op.operands.toList = [x, y] := by simp [ho, Op.operands]
  obtain ⟨i, hi⟩ : ∃ i, P.info? e = some i := by
    unfold hasT at hT; rw [Bool.and_eq_true, Option.isSome_iff_exists] at hT; exact hT.1
  subst hva; subst hvb
  have hr : (Op.equal t (wd a) (wd b)).run P w = .ok (decide (a % M = b % M)) w := by
    show (Op.equalIn (9999 + 1) t (.agg (wf (dig a))) (.agg (wf (dig b)))).run P w = _
    rw [run_equalIn_array w 9999 _ _ hu hi, show (9999 : Nat) = 9998 + 1 from rfl, run_eq_words hT hc hag hue 9998 (dig a) (dig b) w _ (fun i hi => List.mem_range.1 hi)]
    congr 1
    rw [Bool.eq_iff_iff, decide_eq_true_iff, decide_eq_true_iff]; exact eq_words_iff a b
  rw [hos]
  simp only [execOp, ho, hx, hy]
  simp only [wd] at hr ⊢
  simp [eqGuard, binOp, hg, hr]
theorem yld_new {P : Program} {o : Oper} {t t' e : TypeId} {x y : Operand} {va vb : Value} {a b : Nat} (ho : o.op = .binOp .neq t x y t') (hva : va = wd a) (hvb : vb = wd b) (hx : argEv [x, y] [va, vb] x = va) (hy : argEv [x, y] [va, vb] y = vb)
    (hu : P.underlying t = some (.array 8 e)) (hg : P.eqGuardType P.depth t = false) (hT : hasT P e = true) (hc : P.cellsOf e = 1) (hag : isAggB P e = false) (hue : P.underlying e = some (.int .u64)) :
    Yld P o [va, vb] (.bool (!decide (a % M = b % M))) := fun w => by
  have hos : o.op.operands.toList = [x, y] := by simp [ho, Op.operands]
  obtain ⟨i, hi⟩ : ∃ i, P.info? e = some i := by
    unfold hasT at hT; rw [Bool.and_eq_true, Option.isSome_iff_exists] at hT; exact hT.1
  subst hva; subst hvb
  have hr : (Op.equal t (wd a) (wd b)).run P w = .ok (decide (a % M = b % M)) w := by
    show (Op.equalIn (9999 + 1) t (.agg (wf (dig a))) (.agg (wf (dig b)))).run P w = _
    rw [run_equalIn_array w 9999 _ _ hu hi, show (9999 : Nat) = 9998 + 1 from rfl, run_eq_words hT hc hag hue 9998 (dig a) (dig b) w _ (fun i hi => List.mem_range.1 hi)]
    congr 1
    rw [Bool.eq_iff_iff, decide_eq_true_iff, decide_eq_true_iff]; exact eq_words_iff a b
  rw [hos]
  simp only [execOp, ho, hx, hy]
  simp only [wd] at hr ⊢
  simp [eqGuard, binOp, hg, hr]

section
variable {o : Oper} {x y : Operand} {va vb : Value} {a b : Nat}
theorem eq_size (ho : o.op = .binOp .eql 87 x y 87) (hva : va = wd a) (hvb : vb = wd b) (hx : argEv [x, y] [va, vb] x = va) (hy : argEv [x, y] [va, vb] y = vb) : Yld Tryz.prog o [va, vb] (.bool (decide (a % M = b % M))) :=
  yld_eqw (e := 29) ho hva hvb hx hy (by kernel_rfl) (by kernel_rfl) (by kernel_rfl) (by kernel_rfl) (by kernel_rfl) (by kernel_rfl)
theorem eq_wide (ho : o.op = .binOp .eql 31 x y 31) (hva : va = wd a) (hvb : vb = wd b) (hx : argEv [x, y] [va, vb] x = va) (hy : argEv [x, y] [va, vb] y = vb) : Yld Tryz.prog o [va, vb] (.bool (decide (a % M = b % M))) :=
  yld_eqw (e := 29) ho hva hvb hx hy (by kernel_rfl) (by kernel_rfl) (by kernel_rfl) (by kernel_rfl) (by kernel_rfl) (by kernel_rfl)
theorem ne_wide (ho : o.op = .binOp .neq 31 x y 31) (hva : va = wd a) (hvb : vb = wd b) (hx : argEv [x, y] [va, vb] x = va) (hy : argEv [x, y] [va, vb] y = vb) : Yld Tryz.prog o [va, vb] (.bool (!decide (a % M = b % M))) :=
  yld_new (e := 29) ho hva hvb hx hy (by kernel_rfl) (by kernel_rfl) (by kernel_rfl) (by kernel_rfl) (by kernel_rfl) (by kernel_rfl)
end

theorem det_zero (a : Nat) : Det Tryz.prog 91 [wd a] (.bool (decide (a % M = 0))) := by
  refine det_of_tree mixed tr_zero np_zero rfl (pd_rq ⟨words_size a, words_one a⟩ ?_)
  refine pd_prim (eq_size (a := a) (b := 0) op_zero_1_2 rfl z_size rfl rfl) rfl (pd_ret rfl ?_)
  show Value.bool (decide (a % M = 0 % M)) = Value.bool (decide (a % M = 0))
  congr 1
theorem det_of (b : Bool) (a : Nat) : Det Tryz.prog 53 [.bool b, wd a] (nb (b && !decide (a % M = 0)) a) := by
  refine det_of_tree mixed tr_of np_of rfl (pd_rq ⟨words_size a, words_one a⟩ (pd_rq ⟨b, rfl⟩ (pd_br (b := b) rfl (fun h => ?_) (fun h => ?_))))
  · subst h
    exact pd_call (det_zero a) rfl (pd_rq ⟨_, rfl⟩ (pd_ret rfl rfl))
  · subst h
    exact pd_ret rfl rfl
end Go.Proofs.YtcleogdmobdnpacGreatRDoor

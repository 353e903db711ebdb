/- Equality of arrays of words. -/
import Derived.Test.YtmndieeelnicpaaRRWdB
import Derived.ChangeKeysEq
namespace Go.Proofs.YtmndieeelnicpaaRR
open Go.RowKit Go.RX Go.WD Go.IntWalk

theorem run_eq_word {P : Program} {e : TypeId} (hu : P.underlying e = some (.int .u64)) (d x y : Nat) (w : World) : (Op.equalIn (d + 1) e (.int .u64 x) (.int .u64 y)).run P w = .ok (decide (x = y)) w := by
  simp only [Op.equalIn, Sem.run_bind, run_underlying hu, Result.andThen_ok, if_true, Sem.run_pure]
  congr 1
  rw [Bool.eq_iff_iff]; simp; omega
theorem run_eq_words {P : Program} {e : TypeId} (hT : hasT P e = true) (hc : P.cellsOf e = 1) (hag : isAggB P e = false) (hu : P.underlying e = some (.int .u64)) (d : Nat) (f g : Nat → Nat) (w : World) : ∀ is : List Nat, (∀ i ∈ is, i < 8) →
    (Op.eqItems (d + 1) e (P.cellsOf e) (wf f) (wf g) is).run P w = .ok (decide (∀ i ∈ is, f i = g i)) w := by
  intro is
  induction is with
  | nil => intro _; simp [Op.eqItems]
  | cons i is ih =>
    intro h
    have hi := h i (by simp)
    have hp : ∀ f : Nat → Nat, (part e (wf f) (i * P.cellsOf e)).run P w = .ok (.int .u64 (f i)) w := fun f => by
      rw [run_partV hT (by rw [wf_size, hc]; omega) (by omega) w, hag, hc, Nat.mul_one]
      simp only [Bool.false_eq_true, if_false, wf_get f hi]
    simp only [Op.eqItems, Sem.run_bind, hp, Result.andThen_ok, run_eq_word hu]
    by_cases he : f i = g i
    · simp only [he, decide_true, Bool.not_true, Bool.false_eq_true, if_false, ih (fun j hj => h j (by simp [hj]))]
      congr 1
      rw [Bool.eq_iff_iff]; simp [he]
    · simp [he]

theorem eq_words_iff (a b : Nat) : (∀ i ∈ List.range 8, dig a i = dig b i) ↔ a % M = b % M :=
  ⟨fun h => by rw [M_def]; exact mod_of_dig fun i hi => h i (List.mem_range.2 hi), fun h i hi => by rw [M_def] at h; exact dig_congr h (List.mem_range.1 hi)⟩

/-- Equality of two numbers, as an operation. -/
theorem yld_eqw {P : Program} {o : Oper} {t t' e : TypeId} {x y : Operand} {va vb : Value} {a b : Nat} (ho : o.op = .binOp .eql t x y t') (hva : va = wd a) (hvb : vb = wd b) (hx : argEv [x, y] [va, vb] x = va) (hy : argEv [x, y] [va, vb] y = vb)
    (hu : P.underlying t = some (.array 8 e)) (hg : P.eqGuardType P.depth t = false) (hT : hasT P e = true) (hc : P.cellsOf e = 1) (hag : isAggB P e = false) (hue : P.underlying e = some (.int .u64)) :
    Yld P o [va, vb] (.bool (decide (a % M = b % M))) := fun w => by
  have hos : o.op.operands.toList = [x, y] := by simp [ho, Op.operands]
  obtain ⟨i, hi⟩ : ∃ i, P.info? e = some i := by
    unfold hasT at hT; rw [Bool.and_eq_true, Option.isSome_iff_exists] at hT; exact hT.1
  subst hva; subst hvb
  have hr : (Op.equal t (wd a) (wd b)).run P w = .ok (decide (a % M = b % M)) w := by
    show (Op.equalIn (9999 + 1) t (.agg (wf (dig a))) (.agg (wf (dig b)))).run P w = _
    rw [run_equalIn_array w 9999 _ _ hu hi, show (9999 : Nat) = 9998 + 1 from rfl, run_eq_words hT hc hag hue 9998 (dig a) (dig b) w _ (fun i hi => List.mem_range.1 hi)]
    congr 1
    rw [Bool.eq_iff_iff, decide_eq_true_iff, decide_eq_true_iff]; exact eq_words_iff a b
  rw [hos]
  simp only [execOp, ho, hx, hy]
  simp only [wd] at hr ⊢
  simp [eqGuard, binOp, hg, hr]
theorem yld_new {P : Program} {o : Oper} {t t' e : TypeId} {x y : Operand} {va vb : Value} {a b : Nat} (ho : o.op = .binOp .neq t x y t') (hva : va = wd a) (hvb : vb = wd b) (hx : argEv [x, y] [va, vb] x = va) (hy : argEv [x, y] [va, vb] y = vb)
    (hu : P.underlying t = some (.array 8 e)) (hg : P.eqGuardType P.depth t = false) (hT : hasT P e = true) (hc : P.cellsOf e = 1) (hag : isAggB P e = false) (hue : P.underlying e = some (.int .u64)) :
    Yld P o [va, vb] (.bool (!decide (a % M = b % M))) := fun w => by
  have hos : o.op.operands.toList = [x, y] := by simp [ho, Op.operands]
  obtain ⟨i, hi⟩ : ∃ i, P.info? e = some i := by
    unfold hasT at hT; rw [Bool.and_eq_true, Option.isSome_iff_exists] at hT; exact hT.1
  subst hva; subst hvb
  have hr : (Op.equal t (wd a) (wd b)).run P w = .ok (decide (a % M = b % M)) w := by
    show (Op.equalIn (9999 + 1) t (.agg (wf (dig a))) (.agg (wf (dig b)))).run P w = _
    rw [run_equalIn_array w 9999 _ _ hu hi, show (9999 : Nat) = 9998 + 1 from rfl, run_eq_words hT hc hag hue 9998 (dig a) (dig b) w _ (fun i hi => List.mem_range.1 hi)]
    congr 1
    rw [Bool.eq_iff_iff, decide_eq_true_iff, decide_eq_true_iff]; exact eq_words_iff a b
  rw [hos]
  simp only [execOp, ho, hx, hy]
  simp only [wd] at hr ⊢
  simp [eqGuard, binOp, hg, hr]

section
variable {o : Oper} {x y : Operand} {va vb : Value} {a b : Nat}
theorem eq_size (ho : o.op = .binOp .eql 69 x y 69) (hva : va = wd a) (hvb : vb = wd b) (hx : argEv [x, y] [va, vb] x = va) (hy : argEv [x, y] [va, vb] y = vb) : Yld Try.prog o [va, vb] (.bool (decide (a % M = b % M))) :=
  yld_eqw (e := 22) ho hva hvb hx hy (by kernel_rfl) (by kernel_rfl) (by kernel_rfl) (by kernel_rfl) (by kernel_rfl) (by kernel_rfl)
theorem eq_wide (ho : o.op = .binOp .eql 24 x y 24) (hva : va = wd a) (hvb : vb = wd b) (hx : argEv [x, y] [va, vb] x = va) (hy : argEv [x, y] [va, vb] y = vb) : Yld Try.prog o [va, vb] (.bool (decide (a % M = b % M))) :=
  yld_eqw (e := 22) ho hva hvb hx hy (by kernel_rfl) (by kernel_rfl) (by kernel_rfl) (by kernel_rfl) (by kernel_rfl) (by kernel_rfl)
theorem ne_wide (ho : o.op = .binOp .neq 24 x y 24) (hva : va = wd a) (hvb : vb = wd b) (hx : argEv [x, y] [va, vb] x = va) (hy : argEv [x, y] [va, vb] y = vb) : Yld Try.prog o [va, vb] (.bool (!decide (a % M = b % M))) :=
  yld_new (e := 22) ho hva hvb hx hy (by kernel_rfl) (by kernel_rfl) (by kernel_rfl) (by kernel_rfl) (by kernel_rfl) (by kernel_rfl)
end

theorem det_zero (a : Nat) : Det Try.prog 55 [wd a] (.bool (decide (a % M = 0))) := by
  refine det_of_tree mixed tr_zero np_zero rfl (pd_rq ⟨words_size a, words_one a⟩ ?_)
  refine pd_prim (eq_size (a := a) (b := 0) op_zero_1_2 rfl z_size rfl rfl) rfl (pd_ret rfl ?_)
  show Value.bool (decide (a % M = 0 % M)) = Value.bool (decide (a % M = 0))
  congr 1
theorem det_of (b : Bool) (a : Nat) : Det Try.prog 58 [.bool b, wd a] (nb (b && !decide (a % M = 0)) a) := by
  refine det_of_tree mixed tr_of np_of rfl (pd_rq ⟨words_size a, words_one a⟩ (pd_rq ⟨b, rfl⟩ (pd_br (b := b) rfl (fun h => ?_) (fun h => ?_))))
  · subst h
    exact pd_call (det_zero a) rfl (pd_rq ⟨_, rfl⟩ (pd_ret rfl rfl))
  · subst h
    exact pd_ret rfl rfl
end Go.Proofs.YtmndieeelnicpaaRR

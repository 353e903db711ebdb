/- Contracts of the helpers of the laws of chapter 01: two, most; the examples. -/
import Derived.Test.YtimnofpofbnjbaaLwA
namespace Go.WD
open Go.RX
theorem dig_negP {m t : Nat} (h0 : 0 < t) (h1 : t ≤ 18446744073709551616) {i : Nat} (hi : i ≤ m) : dig (PW (m + 1) - t) i = if i = 0 then 18446744073709551616 - t else 18446744073709551615 := by
  have e : PW (m + 1) - t = (18446744073709551616 - t) + 18446744073709551616 * (PW m - 1) := by
    have := PW_pos m
    rw [PW_succ]; omega
  rw [e]
  split
  · rename_i h; subst h
    rw [dig_p0, Nat.add_mul_mod_self_left, Nat.mod_eq_of_lt (by omega)]
  · rename_i h
    obtain ⟨j, rfl⟩ : ∃ j, i = j + 1 := ⟨i - 1, by omega⟩
    rw [← dig_ones (show j < m by omega)]
    unfold dig
    rw [PW_succ j, Nat.mul_comm (PW j), ← Nat.div_div_eq_div_mul, Nat.add_mul_div_left _ _ (by omega), Nat.div_eq_of_lt (show 18446744073709551616 - t < 18446744073709551616 by omega), Nat.zero_add]
theorem dig_pneg {q r : Nat} (hq : q < 8) (hr : r < 64) {j : Nat} (hj : j < 8) : dig (M - 2 ^ (64 * q + r)) j = if j = q then 18446744073709551616 - 2 ^ r else if q < j then 18446744073709551615 else 0 := by
  have hp : 0 < 2 ^ r := Nat.pow_pos (by omega)
  have hw : 2 ^ r < 18446744073709551616 := by rw [W_pow]; exact Nat.pow_lt_pow_right (by omega) hr
  have e : M - 2 ^ (64 * q + r) = (PW (8 - q) - 2 ^ r) * PW q := by
    have h1 := shift_split 1 q r
    rw [Nat.one_mul, Nat.one_mul] at h1
    rw [h1, Nat.sub_mul, ← PW_add, show 8 - q + q = 8 from by omega, M_def]
  rw [e]
  obtain ⟨m, hm⟩ : ∃ m, 8 - q = m + 1 := ⟨7 - q, by omega⟩
  rw [hm]
  rcases Nat.lt_or_ge j q with h | h
  · rw [dig_shift_lt _ h, if_neg (by omega), if_neg (by omega)]
  · obtain ⟨i, rfl⟩ := Nat.exists_eq_add_of_le h
    rw [dig_shift, dig_negP hp (by omega) (by omega)]
    by_cases hi : i = 0
    · subst hi; rw [if_pos rfl, if_pos (by omega)]
    · rw [if_neg hi, if_neg (by omega), if_pos (by omega)]
theorem and_full (a : Nat) (ha : a < 18446744073709551616) : IntKind.u64.wrap ((BitVec.ofInt (IntKind.bits .u64) (a : Int) &&& BitVec.ofInt (IntKind.bits .u64) 18446744073709551615).toNat : Int) = (a : Int) := by
  have e : (BitVec.ofInt 64 (a : Int) &&& BitVec.ofInt 64 18446744073709551615).toNat = a := by
    rw [BitVec.toNat_and, BitVec.toNat_ofInt, BitVec.toNat_ofInt, show ((18446744073709551615 : Int) % (2 ^ 64 : Nat)).toNat = 2 ^ 64 - 1 from by decide, Nat.and_two_pow_sub_one_eq_mod]
    omega
  show IntKind.u64.wrap ((BitVec.ofInt 64 (a : Int) &&& BitVec.ofInt 64 18446744073709551615).toNat : Int) = _
  rw [e, IntKind.wrap_u64]
  omega
theorem pow_sum {a b k : Nat} (h : k = a + b) : 2 ^ a * 2 ^ b = 2 ^ k := by rw [h, Nat.pow_add]
theorem pow_HM {k : Nat} (h : k = 511) : HM = 2 ^ k := by
  have e := PW_pow 7
  rw [HM_PW, e]
  generalize hb : 64 * 7 = b
  exact pow_sum (a := 63) (b := b) (by omega)
theorem pow_lt_HM {k : Nat} (h : k < 511) : 2 ^ k < HM := by
  obtain ⟨n, hn⟩ : ∃ n : Nat, n = 511 := ⟨_, rfl⟩
  rw [pow_HM hn]; exact Nat.pow_lt_pow_right (by omega) (by omega)
theorem pow_le_HM {k : Nat} (h : k ≤ 511) : 2 ^ k ≤ HM := by
  obtain ⟨n, hn⟩ : ∃ n : Nat, n = 511 := ⟨_, rfl⟩
  rw [pow_HM hn]; exact Nat.pow_le_pow_right (by omega) (by omega)
/-- 2^k, with the sign of k. -/
def twoI (k : Int) : Int := if k < 0 then -((2 ^ k.natAbs : Nat) : Int) else ((2 ^ k.natAbs : Nat) : Int)
theorem dig_most {j : Nat} (hj : j < 8) : dig (HM - 1) j = if j = 7 then 9223372036854775807 else 18446744073709551615 := by
  have hp := PW_pos 7
  have e : HM - 1 = (PW 7 - 1) + PW 7 * 9223372036854775807 := by rw [HM_PW]; omega
  split
  · rename_i h; subst h
    unfold dig
    rw [e, Nat.add_mul_div_left _ _ hp, Nat.div_eq_of_lt (by omega)]
  · rw [← dig_ones (show j < 7 by omega)]
    refine dig_congr (k := 7) ?_ (by omega)
    rw [e, Nat.add_mul_mod_self_left]
end Go.WD
namespace Go.Proofs.Ytimnofpofbnjbaa
open Go.RowKit Go.RX Go.WD Go.IntWalk

theorem yld_max {o : Oper} {x y : Operand} {t u : TypeId} {a b : Int} {vs : List Value} (ho : o.op = .call ⟨.builtin .max, #[x, y], #[t, u]⟩) (hx : argEv [x, y] vs x = .int .i64 a) (hy : argEv [x, y] vs y = .int .i64 b) : Yld Try.prog o vs (.int .i64 (if b > a then b else a)) := fun w => by
  have hos : o.op.operands.toList = [x, y] := by simp [ho, Op.operands, Call.operands]
  rw [hos]
  simp only [execOp, ho, resolve, invoke, Sem.run_bind, Sem.run_pure, Result.andThen_ok, List.map_toArray, List.map_cons, List.map_nil, hx, hy]
  simp only [builtin, Sem.run_bind, run_max_int2, Result.andThen_ok]
  rfl
theorem det_two (k : Int) (h0 : -511 ≤ k) (h1 : k ≤ 511) : Det Try.prog 14 [.int .i64 k] (iw (twoI k)) := by
  have hM := M_HM
  have hHP := HM_pos
  obtain ⟨n, hn⟩ : ∃ n, n = k.natAbs := ⟨_, rfl⟩
  have hn511 : n ≤ 511 := by omega
  have hpn := pow_le_HM hn511
  have hpp : 0 < 2 ^ n := Nat.pow_pos (by omega)
  have hneg : IntKind.i64.wrap (0 - k) = -k := by rw [show (0 : Int) - k = -k from by omega]; exact i64_in _ ⟨by omega, by omega⟩
  have hQ := quoI n (by omega)
  have hR := remI n
  have hq8 : n / 64 < 8 := by omega
  have hr64 : n % 64 < 64 := Nat.mod_lt _ (by omega)
  have hbit := bit_u64 (n % 64) hr64
  have hput : spl (words 0) (n / 64) [.int .u64 ((2 ^ (n % 64) : Nat) : Int)] = words (2 ^ n) := by
    have := words_bit (q := 0) (k := n) (Nat.dvd_zero _) (by omega)
    rwa [dig_zero, Nat.zero_or, Nat.zero_add] at this
  refine det_of_tree mixed tr_two np_two rfl (pd_rq ⟨_, rfl⟩ (pd_prim (yld_max (a := k) (b := -k) (vs := [.int .i64 k, .int .i64 (-k)]) op_two_3_3 rfl rfl) ?_ ?_))
  · simp only [rxs, unV, hneg]
  rw [show (if -k > k then -k else k) = (n : Int) from by rw [hn]; split <;> omega]
  refine pd_rq ⟨_, rfl⟩ (pd_rq ?_ (pd_rq ⟨?_, ?_⟩ ⟨fun l => l = [iw (twoI k)], ?_, ?_⟩))
  · simp only [Rq.holds, rxs, hR]; omega
  · simp only [rxs, hQ]; omega
  · simp only [rxs, hQ]; omega
  · refine pd_br (b := decide (k < 0)) rfl (fun h => ?_) (fun h => ?_)
    · have h := of_decide_eq_true h
      have hw64 : 2 ^ (n % 64) < 18446744073709551616 := by rw [W_pow]; exact Nat.pow_lt_pow_right (by omega) hr64
      have hq1 : IntKind.i64.wrap (((n / 64 : Nat) : Int) + 1) = ((n / 64 + 1 : Nat) : Int) := i64n (n / 64 + 1) (by omega)
      simp only [List.cons_append, List.nil_append]
      refine ⟨fun l => ∃ i, n / 64 + 1 ≤ i ∧ i ≤ 8 ∧ l = [.int .i64 (i : Nat), .agg (wf fun j => if j = n / 64 then 2 ^ (n % 64) else if n / 64 < j ∧ j < i then 18446744073709551615 else 0)], fun l => (8 - intOf (l.getD 0 undef)).toNat, ⟨n / 64 + 1, by omega, by omega, ?_⟩, ?_⟩
      · simp only [rxs, z_wide, hQ, hR, hbit, hq1]
        rw [show spl (words 0) (n / 64) [.int .u64 ((2 ^ (n % 64) : Nat) : Int)] = _ from wf_spl (dig 0) hq8 _]
        congr 3
        refine wf_congr fun j _ => ?_
        rw [dig_zero]
        split
        · rfl
        · rw [if_neg (by omega)]
      · rintro vals - ⟨i, hi1, hi2, rfl⟩
        simp only [List.cons_append, List.nil_append]
        refine pd_rq ⟨_, rfl⟩ (pd_br (b := decide ((i : Int) < 8)) rfl (fun hl => ?_) (fun hl => ?_))
        · have hl : i < 8 := by simp at hl; omega
          have e3 : IntKind.i64.wrap ((i : Int) + 1) = ((i + 1 : Nat) : Int) := i64n (i + 1) (by omega)
          refine pd_rq ⟨_, _, rfl⟩ (pd_rq ⟨?_, ?_⟩ ?_)
          · show (0 : Int) ≤ (i : Int); omega
          · show (i : Int) < 8; omega
          · refine ⟨⟨i + 1, by omega, by omega, ?_⟩, ?_⟩
            · simp only [rxs, e3]
              rw [show (18446744073709551615 : Int) = ((18446744073709551615 : Nat) : Int) from rfl, wf_spl _ hl]
              congr 3
              refine wf_congr fun j _ => ?_
              by_cases hj : j = i
              · rw [if_pos hj, if_neg (by omega), if_pos (by omega)]
              · rw [if_neg hj]
                by_cases hj2 : j = n / 64
                · rw [if_pos hj2, if_pos hj2]
                · rw [if_neg hj2, if_neg hj2]
                  by_cases hj3 : n / 64 < j ∧ j < i
                  · rw [if_pos hj3, if_pos (by omega)]
                  · rw [if_neg hj3, if_neg (by omega)]
            · simp only [rxs, e3]; omega
        · have hl : i = 8 := by simp at hl; omega
          subst hl
          have hng : IntKind.u64.wrap (0 - ((2 ^ (n % 64) : Nat) : Int)) = ((18446744073709551616 - 2 ^ (n % 64) : Nat) : Int) := by
            have : 0 < 2 ^ (n % 64) := Nat.pow_pos (by omega)
            rw [IntKind.wrap_u64]; omega
          simp only [pd, List.nil_append, List.getD_cons_zero, rxs, unV, hQ, hR, hbit, hng, and_full _ (show 18446744073709551616 - 2 ^ (n % 64) < 18446744073709551616 by have : 0 < 2 ^ (n % 64) := Nat.pow_pos (by omega); omega)]
          show [Value.agg (spl (wf _) (n / 64) [.int .u64 ((18446744073709551616 - 2 ^ (n % 64) : Nat) : Int)])] = _
          rw [wf_spl _ hq8]
          unfold twoI iw wd
          rw [if_pos h, ← hn, rs_neg (by omega) (by omega), show (-((2 ^ n : Nat) : Int) + (M : Int)).toNat = M - 2 ^ n from by omega]
          congr 2
          refine wf_words fun j hj => ?_
          have hd := dig_pneg hq8 hr64 hj
          rw [show 64 * (n / 64) + n % 64 = n from by omega] at hd
          rw [hd]
          by_cases hj2 : j = n / 64
          · rw [if_pos hj2, if_pos hj2]
          · rw [if_neg hj2, if_neg hj2, if_neg hj2]
            by_cases hj3 : n / 64 < j
            · rw [if_pos ⟨hj3, hj⟩, if_pos hj3]
            · rw [if_neg (by omega), if_neg hj3]
    · have h := of_decide_eq_false h
      simp only [pd, List.nil_append, List.getD_cons_zero, rxs, z_wide, hQ, hR, hbit, hput]
      unfold twoI iw wd
      rw [if_neg h, ← hn, rs_pos (by omega) (by omega), Int.toNat_natCast]
  · rintro vals - rfl
    exact pd_ret rfl rfl
theorem det_most : Det Try.prog 17 [] (iw ((HM : Int) - 1)) := by
  have hM := M_HM
  have hHP := HM_pos
  refine det_of_tree mixed tr_most np_most rfl ⟨fun l => ∃ k, k ≤ 8 ∧ l = [.int .i64 (k : Nat), .agg (wf fun j => if j < k then 18446744073709551615 else 0)], fun l => (8 - intOf (l.getD 0 undef)).toNat, ⟨0, by omega, ?_⟩, ?_⟩
  · simp only [rxs, z_wide, wd]
    congr 3
    exact wf_congr fun j _ => by rw [dig_zero]; rfl
  rintro vals - ⟨k, hk, rfl⟩
  refine pd_rq ⟨_, rfl⟩ (pd_br (b := decide ((k : Int) < 8)) rfl (fun hl => ?_) (fun hl => ?_))
  · have hl : k < 8 := by simp at hl; omega
    have e3 : IntKind.i64.wrap ((k : Int) + 1) = ((k + 1 : Nat) : Int) := i64n (k + 1) (by omega)
    refine pd_rq ⟨_, _, rfl⟩ (pd_rq ⟨?_, ?_⟩ ⟨⟨k + 1, by omega, ?_⟩, ?_⟩)
    · show (0 : Int) ≤ (k : Int); omega
    · show (k : Int) < 8; omega
    · simp only [rxs, e3]
      rw [show (18446744073709551615 : Int) = ((18446744073709551615 : Nat) : Int) from rfl, wf_spl _ hl]
      congr 3
      exact wf_congr fun j _ => ite_step (fun _ => 18446744073709551615) (fun _ => 0) k j
    · simp only [rxs, e3]; omega
  · have hl : k = 8 := by simp at hl; omega
    subst hl
    have hsh : ((18446744073709551615 : Nat) : Int).fdiv (2 ^ min (Int.toNat 1) (IntKind.bits .u64)) = ((9223372036854775807 : Nat) : Int) := shr_u64 18446744073709551615 1 (by omega)
    refine pd_rq ⟨18446744073709551615, rfl⟩ (pd_ret ?_ rfl)
    show Value.agg (spl (wf fun j => if j < 8 then 18446744073709551615 else 0) 7 [.int .u64 (((18446744073709551615 : Nat) : Int).fdiv (2 ^ min (Int.toNat 1) (IntKind.bits .u64)))]) = _
    rw [hsh, wf_spl _ (by omega)]
    unfold iw wd
    rw [rs_pos (by omega) (by omega), show ((HM : Int) - 1).toNat = HM - 1 from by omega]
    congr 1
    refine wf_words fun j hj => ?_
    rw [dig_most hj]
    split
    · rfl
    · rfl

/-! ### The operations on integers that fit -/
theorem Add_iw {x y : Int} (hx : Fits x) (hy : Fits y) : Det Try.prog 16 [iw x, iw y] (told (x + y)) := by
  have := det_Add (rs x) (rs y); rwa [toI_rs hx, toI_rs hy] at this
theorem Mul_iw {x y : Int} (hx : Fits x) (hy : Fits y) : Det Try.prog 20 [iw x, iw y] (told (x * y)) := by
  have := det_Mul (rs x) (rs y); rwa [toI_rs hx, toI_rs hy] at this
theorem Div_iw {x y : Int} (hx : Fits x) (hy : Fits y) : Det Try.prog 22 [iw x, iw y] (divV x y) := by
  have := det_Div (rs x) (rs y); rwa [toI_rs hx, toI_rs hy] at this
theorem Gcd_iw {x y : Int} (hx : Fits x) (hy : Fits y) : Det Try.prog 24 [iw x, iw y] (told (Nat.gcd x.natAbs y.natAbs : Nat)) := by
  have := det_Gcd (rs x) (rs y); rwa [toI_rs hx, toI_rs hy] at this
theorem Pow_iw {x : Int} (n : Int) (hx : Fits x) : Det Try.prog 25 [iw x, .int .i64 n] (powV x n) := by
  have := det_Pow (rs x) n; rwa [toI_rs hx] at this
theorem Neg_iw {x : Int} (hx : Fits x) : Det Try.prog 18 [iw x] (told (-x)) := by
  have := det_Neg (rs x); rwa [toI_rs hx] at this
theorem Int_iw {x : Int} (hx : Fits x) : Det Try.prog 12 [iw x] (told64 x) := by
  have := det_Int (rs x); rwa [toI_rs hx] at this
theorem Root_iw {x : Int} (s : Nat) (hx : Fits x) (h : 0 ≤ x) (h1 : (s : Int) * s ≤ x) (h2 : x < ((s : Int) + 1) * ((s : Int) + 1)) : Det Try.prog 26 [iw x] (.tuple #[wd s, .int .i64 0]) :=
  det_Root (rs x) s (by rw [toI_rs hx]; exact h) (by rw [toI_rs hx]; exact h1) (by rw [toI_rs hx]; exact h2)
theorem Root_iw_neg {x : Int} (hx : Fits x) (h : x < 0) : Det Try.prog 26 [iw x] (.tuple #[wd 0, .int .i64 2]) := det_Root_neg (rs x) (by rw [toI_rs hx]; exact h)
theorem iw_zero : iw 0 = wd 0 := rfl
theorem rs_least : rs (-(HM : Int)) = HM := by
  have hM := M_HM
  have hHP := HM_pos
  rw [rs_neg (by omega) (by omega)]; omega
theorem least_eq : Value.agg (spl (zeroV Try.prog 24).cells 7 [.int .u64 9223372036854775808]) = iw (-(HM : Int)) := by
  rw [z_wide, wd_cells, limit_words]
  unfold iw; rw [rs_least]; rfl
theorem fitsS {n : Int} (h0 : -9223372036854775808 ≤ n) (h1 : n < 9223372036854775808) : Fits n := fits_small h0 h1
theorem fits_least : Fits (-(HM : Int)) := by have := HM_pos; unfold Fits; omega
theorem fits_most : Fits ((HM : Int) - 1) := by have := HM_pos; unfold Fits; omega
theorem fits_two {k : Int} (h0 : -511 ≤ k) (h1 : k < 511) : Fits (twoI k) := by
  unfold Fits twoI
  have h2 := pow_le_HM (show k.natAbs ≤ 511 by omega)
  have h3 : 0 < 2 ^ k.natAbs := Nat.pow_pos (by omega)
  split
  · omega
  · have := pow_lt_HM (show k.natAbs < 511 by omega); omega
end Go.Proofs.Ytimnofpofbnjbaa

/- Contracts of the helpers of the laws of chapter 01. -/
import Derived.Test.YtcleogdmobdnpacGreatRDoorLwT
import Derived.Test.YtcleogdmobdnpacGreatRDoorWdR
import Derived.Laws.Small
namespace Go.Proofs.YtcleogdmobdnpacGreatRDoor
open Go.RowKit Go.RX Go.WD Go.IntWalk

/-! ### Tests -/
section
variable {o : Oper} {x : Operand} {H : PH} {b : Nat} {T : TypeId}
theorem ldWide {a : Nat} (ho : o.op = .load 31 x) (hx : argEv [x] [.pointer (some ⟨b, 0, none⟩)] x = .pointer (some ⟨b, 0, none⟩)) (hH : H b = some (.cells (words a) T (0, 0))) : Rds Tryz.prog o [.pointer (some ⟨b, 0, none⟩)] H (wd a) := by
  have hc : Tryz.prog.cellsOf 31 = 8 := by kernel_rfl
  have := rds_load (P := Tryz.prog) ho hx hH (by kernel_rfl) (by rw [hc, words_size]; omega) (fun _ => by rw [words_size]; omega)
  rw [show isAggB Tryz.prog 31 = true from by kernel_rfl, hc, if_pos rfl] at this
  exact this
theorem ldInt {n : Int} (ho : o.op = .load 3 x) (hx : argEv [x] [.pointer (some ⟨b, 0, none⟩)] x = .pointer (some ⟨b, 0, none⟩)) (hH : H b = some (.cells #[.int .i64 n] T (0, 0))) : Rds Tryz.prog o [.pointer (some ⟨b, 0, none⟩)] H (.int .i64 n) := by
  have hc : Tryz.prog.cellsOf 3 = 1 := by kernel_rfl
  have := rds_load (P := Tryz.prog) ho hx hH (by kernel_rfl) (by rw [hc]; exact Nat.le_refl 1) (fun _ => Nat.zero_lt_one)
  rw [show isAggB Tryz.prog 3 = false from by kernel_rfl] at this
  exact this
theorem ldErr {n : Int} (ho : o.op = .load 36 x) (hx : argEv [x] [.pointer (some ⟨b, 0, none⟩)] x = .pointer (some ⟨b, 0, none⟩)) (hH : H b = some (.cells #[.int .i64 n] T (0, 0))) : Rds Tryz.prog o [.pointer (some ⟨b, 0, none⟩)] H (.int .i64 n) := by
  have hc : Tryz.prog.cellsOf 36 = 1 := by kernel_rfl
  have := rds_load (P := Tryz.prog) ho hx hH (by kernel_rfl) (by rw [hc]; exact Nat.le_refl 1) (fun _ => Nat.zero_lt_one)
  rw [show isAggB Tryz.prog 36 = false from by kernel_rfl] at this
  exact this
end
def ptr (b : Nat) : Value := .pointer (some ⟨b, 0, none⟩)
/-- A test that holds one value. -/
def cloV (f : FuncId) (b : Nat) : Value := .func (.func f) #[] #[ptr b]
theorem beq_dec (x y : Int) : (x == y) = decide (x = y) := rfl
section
variable (H : PH)
variable {H} {b : Nat} {T : TypeId}
end
end Go.Proofs.YtcleogdmobdnpacGreatRDoor
namespace Go.WD
open Go.RX
theorem dig_negP {m t : Nat} (h0 : 0 < t) (h1 : t ≤ 18446744073709551616) {i : Nat} (hi : i ≤ m) : dig (PW (m + 1) - t) i = if i = 0 then 18446744073709551616 - t else 18446744073709551615 := by
  have e : PW (m + 1) - t = (18446744073709551616 - t) + 18446744073709551616 * (PW m - 1) := by
    have := PW_pos m
    rw [PW_succ]; omega
  rw [e]
  split
  · rename_i h; subst h
    rw [dig_p0, Nat.add_mul_mod_self_left, Nat.mod_eq_of_lt (by omega)]
  · rename_i h
    obtain ⟨j, rfl⟩ : ∃ j, i = j + 1 := ⟨i - 1, by omega⟩
    rw [← dig_ones (show j < m by omega)]
    unfold dig
    rw [PW_succ j, Nat.mul_comm (PW j), ← Nat.div_div_eq_div_mul, Nat.add_mul_div_left _ _ (by omega), Nat.div_eq_of_lt (show 18446744073709551616 - t < 18446744073709551616 by omega), Nat.zero_add]
theorem dig_pneg {q r : Nat} (hq : q < 8) (hr : r < 64) {j : Nat} (hj : j < 8) : dig (M - 2 ^ (64 * q + r)) j = if j = q then 18446744073709551616 - 2 ^ r else if q < j then 18446744073709551615 else 0 := by
  have hp : 0 < 2 ^ r := Nat.pow_pos (by omega)
  have hw : 2 ^ r < 18446744073709551616 := by rw [W_pow]; exact Nat.pow_lt_pow_right (by omega) hr
  have e : M - 2 ^ (64 * q + r) = (PW (8 - q) - 2 ^ r) * PW q := by
    have h1 := shift_split 1 q r
    rw [Nat.one_mul, Nat.one_mul] at h1
    rw [h1, Nat.sub_mul, ← PW_add, show 8 - q + q = 8 from by omega, M_def]
  rw [e]
  obtain ⟨m, hm⟩ : ∃ m, 8 - q = m + 1 := ⟨7 - q, by omega⟩
  rw [hm]
  rcases Nat.lt_or_ge j q with h | h
  · rw [dig_shift_lt _ h, if_neg (by omega), if_neg (by omega)]
  · obtain ⟨i, rfl⟩ := Nat.exists_eq_add_of_le h
    rw [dig_shift, dig_negP hp (by omega) (by omega)]
    by_cases hi : i = 0
    · subst hi; rw [if_pos rfl, if_pos (by omega)]
    · rw [if_neg hi, if_neg (by omega), if_pos (by omega)]
theorem and_full (a : Nat) (ha : a < 18446744073709551616) : IntKind.u64.wrap ((BitVec.ofInt (IntKind.bits .u64) (a : Int) &&& BitVec.ofInt (IntKind.bits .u64) 18446744073709551615).toNat : Int) = (a : Int) := by
  have e : (BitVec.ofInt 64 (a : Int) &&& BitVec.ofInt 64 18446744073709551615).toNat = a := by
    rw [BitVec.toNat_and, BitVec.toNat_ofInt, BitVec.toNat_ofInt, show ((18446744073709551615 : Int) % (2 ^ 64 : Nat)).toNat = 2 ^ 64 - 1 from by decide, Nat.and_two_pow_sub_one_eq_mod]
    omega
  show IntKind.u64.wrap ((BitVec.ofInt 64 (a : Int) &&& BitVec.ofInt 64 18446744073709551615).toNat : Int) = _
  rw [e, IntKind.wrap_u64]
  omega
theorem pow_sum {a b k : Nat} (h : k = a + b) : 2 ^ a * 2 ^ b = 2 ^ k := by rw [h, Nat.pow_add]
theorem pow_HM {k : Nat} (h : k = 511) : HM = 2 ^ k := by
  have e := PW_pow 7
  rw [HM_PW, e]
  generalize hb : 64 * 7 = b
  exact pow_sum (a := 63) (b := b) (by omega)
theorem pow_lt_HM {k : Nat} (h : k < 511) : 2 ^ k < HM := by
  obtain ⟨n, hn⟩ : ∃ n : Nat, n = 511 := ⟨_, rfl⟩
  rw [pow_HM hn]; exact Nat.pow_lt_pow_right (by omega) (by omega)
theorem pow_le_HM {k : Nat} (h : k ≤ 511) : 2 ^ k ≤ HM := by
  obtain ⟨n, hn⟩ : ∃ n : Nat, n = 511 := ⟨_, rfl⟩
  rw [pow_HM hn]; exact Nat.pow_le_pow_right (by omega) (by omega)
/-- 2^k, with the sign of k. -/
def twoI (k : Int) : Int := if k < 0 then -((2 ^ k.natAbs : Nat) : Int) else ((2 ^ k.natAbs : Nat) : Int)
theorem dig_most {j : Nat} (hj : j < 8) : dig (HM - 1) j = if j = 7 then 9223372036854775807 else 18446744073709551615 := by
  have hp := PW_pos 7
  have e : HM - 1 = (PW 7 - 1) + PW 7 * 9223372036854775807 := by rw [HM_PW]; omega
  split
  · rename_i h; subst h
    unfold dig
    rw [e, Nat.add_mul_div_left _ _ hp, Nat.div_eq_of_lt (by omega)]
  · rw [← dig_ones (show j < 7 by omega)]
    refine dig_congr (k := 7) ?_ (by omega)
    rw [e, Nat.add_mul_mod_self_left]
end Go.WD
namespace Go.Proofs.YtcleogdmobdnpacGreatRDoor
open Go.RowKit Go.RX Go.WD Go.IntWalk

theorem yld_max {o : Oper} {x y : Operand} {t u : TypeId} {a b : Int} {vs : List Value} (ho : o.op = .call ⟨.builtin .max, #[x, y], #[t, u]⟩) (hx : argEv [x, y] vs x = .int .i64 a) (hy : argEv [x, y] vs y = .int .i64 b) : Yld Tryz.prog o vs (.int .i64 (if b > a then b else a)) := fun w => by
  have hos : o.op.operands.toList = [x, y] := by simp [ho, Op.operands, Call.operands]
  rw [hos]
  simp only [execOp, ho, resolve, invoke, Sem.run_bind, Sem.run_pure, Result.andThen_ok, List.map_toArray, List.map_cons, List.map_nil, hx, hy]
  simp only [builtin, Sem.run_bind, run_max_int2, Result.andThen_ok]
  rfl
/-! ### The operations on integers that fit -/
theorem Mul_iw {x y : Int} (hx : Fits x) (hy : Fits y) : Det Tryz.prog 18 [iw x, iw y] (told (x * y)) := by
  have := det_Mul (rs x) (rs y); rwa [toI_rs hx, toI_rs hy] at this
theorem Pow_iw {x : Int} (n : Int) (hx : Fits x) : Det Tryz.prog 13 [iw x, .int .i64 n] (powV x n) := by
  have := det_Pow (rs x) n; rwa [toI_rs hx] at this
theorem iw_zero : iw 0 = wd 0 := rfl
theorem rs_least : rs (-(HM : Int)) = HM := by
  have hM := M_HM
  have hHP := HM_pos
  rw [rs_neg (by omega) (by omega)]; omega
theorem least_eq : Value.agg (spl (zeroV Tryz.prog 31).cells 7 [.int .u64 9223372036854775808]) = iw (-(HM : Int)) := by
  rw [z_wide, wd_cells, limit_words]
  unfold iw; rw [rs_least]; rfl
theorem fitsS {n : Int} (h0 : -9223372036854775808 ≤ n) (h1 : n < 9223372036854775808) : Fits n := fits_small h0 h1
theorem fits_least : Fits (-(HM : Int)) := by have := HM_pos; unfold Fits; omega
theorem fits_most : Fits ((HM : Int) - 1) := by have := HM_pos; unfold Fits; omega
theorem fits_two {k : Int} (h0 : -511 ≤ k) (h1 : k < 511) : Fits (twoI k) := by
  unfold Fits twoI
  have h2 := pow_le_HM (show k.natAbs ≤ 511 by omega)
  have h3 : 0 < 2 ^ k.natAbs := Nat.pow_pos (by omega)
  split
  · omega
  · have := pow_lt_HM (show k.natAbs < 511 by omega); omega
end Go.Proofs.YtcleogdmobdnpacGreatRDoor

/- Contracts: lengths, division by words. -/
import Derived.Test.YtcleogdmobdnpacGreatRDoorWdJ
import Derived.Test.YtcleogdmobdnpacGreatRDoorWdM
import Derived.Test.YtcleogdmobdnpacGreatRDoorRxN
namespace Go.Proofs.YtcleogdmobdnpacGreatRDoor
open Go.RowKit Go.RX Go.WD Go.IntWalk

theorem shr16 (a : Nat) : (a : Int).fdiv (2 ^ min (Int.toNat 16) (IntKind.bits .u64)) = ((a / 65536 : Nat) : Int) := shr_u64 a 16 (by omega)
theorem shr8 (a : Nat) : (a : Int).fdiv (2 ^ min (Int.toNat 8) (IntKind.bits .u64)) = ((a / 256 : Nat) : Int) := shr_u64 a 8 (by omega)
def len8 : ByteArray := ⟨#[0, 1, 2, 2, 3, 3, 3, 3, 4, 4, 4, 4, 4, 4, 4, 4, 5, 5, 5, 5, 5, 5, 5, 5, 5, 5, 5, 5, 5, 5, 5, 5, 6, 6, 6, 6, 6, 6, 6, 6, 6, 6, 6, 6, 6, 6, 6, 6, 6, 6, 6, 6, 6, 6, 6, 6, 6, 6, 6, 6, 6, 6, 6, 6, 7, 7, 7, 7, 7, 7, 7, 7, 7, 7, 7, 7, 7, 7, 7, 7, 7, 7, 7, 7, 7, 7, 7, 7, 7, 7, 7, 7, 7, 7, 7, 7, 7, 7, 7, 7, 7, 7, 7, 7, 7, 7, 7, 7, 7, 7, 7, 7, 7, 7, 7, 7, 7, 7, 7, 7, 7, 7, 7, 7, 7, 7, 7, 7, 8, 8, 8, 8, 8, 8, 8, 8, 8, 8, 8, 8, 8, 8, 8, 8, 8, 8, 8, 8, 8, 8, 8, 8, 8, 8, 8, 8, 8, 8, 8, 8, 8, 8, 8, 8, 8, 8, 8, 8, 8, 8, 8, 8, 8, 8, 8, 8, 8, 8, 8, 8, 8, 8, 8, 8, 8, 8, 8, 8, 8, 8, 8, 8, 8, 8, 8, 8, 8, 8, 8, 8, 8, 8, 8, 8, 8, 8, 8, 8, 8, 8, 8, 8, 8, 8, 8, 8, 8, 8, 8, 8, 8, 8, 8, 8, 8, 8, 8, 8, 8, 8, 8, 8, 8, 8, 8, 8, 8, 8, 8, 8, 8, 8, 8, 8, 8, 8, 8, 8, 8, 8, 8, 8, 8, 8, 8, 8]⟩
theorem len8_size : len8.size = 256 := by kernel_rfl
theorem len8_all : (List.range 256).all (fun b => (len8.data.getD b 0).toNat == blen b) = true := by kernel_rfl
theorem len8_get {b : Nat} (h : b < 256) : (len8.data.getD b 0).toNat = blen b := by
  have := List.all_eq_true.1 len8_all b (List.mem_range.2 h)
  simpa using this
set_option maxRecDepth 100000 in
theorem det_len64 (x : Nat) (hx : x < 18446744073709551616) : Det Tryz.prog 161 [.int .u64 x] (.int .i64 (blen x)) := by
  refine det_of_tree mixed tr_len64 np_len64 rfl (pd_rq ⟨_, rfl⟩ ⟨fun l => ∃ y n, l = [.int .u64 (y : Nat), .int .i64 (n : Nat)] ∧ y < 4294967296 ∧ n ≤ 32 ∧ n + blen y = blen x, ?_, ?_⟩)
  · refine pd_br (b := decide ((x : Int) ≥ 4294967296)) rfl (fun h => ?_) (fun h => ?_)
    · have h := of_decide_eq_true h
      exact ⟨x / 4294967296, 32, by simp only [rxs, shr32]; rfl, by omega, by omega, (blen_shift (k := 32) (by omega)).symm⟩
    · have h := of_decide_eq_false h
      exact ⟨x, 0, rfl, by omega, by omega, by omega⟩
  rintro vals - ⟨y, n, rfl, hy, hn, hb⟩
  refine pd_rq ⟨_, rfl⟩ ⟨fun l => ∃ y n, l = [.int .u64 (y : Nat), .int .i64 (n : Nat)] ∧ y < 65536 ∧ n ≤ 48 ∧ n + blen y = blen x, ?_, ?_⟩
  · refine pd_br (b := decide ((y : Int) ≥ 65536)) rfl (fun h => ?_) (fun h => ?_)
    · have h := of_decide_eq_true h
      have e := blen_shift (x := y) (k := 16) (by omega)
      refine pd_rq ⟨_, rfl⟩ ⟨y / 65536, n + 16, ?_, by omega, by omega, ?_⟩
      · have e3 : IntKind.i64.wrap ((n : Int) + 16) = ((n + 16 : Nat) : Int) := i64n (n + 16) (by omega)
        simp only [rxs, shr16, e3]
      · rw [show (2 : Nat) ^ 16 = 65536 from rfl] at e
        omega
    · have h := of_decide_eq_false h
      exact ⟨y, n, rfl, by omega, by omega, hb⟩
  rintro vals - ⟨y, n, rfl, hy, hn, hb⟩
  refine pd_rq ⟨_, rfl⟩ ⟨fun l => ∃ y n, l = [.int .u64 (y : Nat), .int .i64 (n : Nat)] ∧ y < 256 ∧ n ≤ 56 ∧ n + blen y = blen x, ?_, ?_⟩
  · refine pd_br (b := decide ((y : Int) ≥ 256)) rfl (fun h => ?_) (fun h => ?_)
    · have h := of_decide_eq_true h
      have e := blen_shift (x := y) (k := 8) (by omega)
      refine pd_rq ⟨_, rfl⟩ ⟨y / 256, n + 8, ?_, by omega, by omega, ?_⟩
      · have e3 : IntKind.i64.wrap ((n : Int) + 8) = ((n + 8 : Nat) : Int) := i64n (n + 8) (by omega)
        simp only [rxs, shr8, e3]
      · rw [show (2 : Nat) ^ 8 = 256 from rfl] at e
        omega
    · have h := of_decide_eq_false h
      exact ⟨y, n, rfl, by omega, by omega, hb⟩
  rintro vals - ⟨y, n, rfl, hy, hn, hb⟩
  have hu8 : IntKind.u8.wrap (y : Int) = (y : Int) := by rw [IntKind.wrap_u8]; omega
  have hyl : blen y ≤ 8 := blen_le hy
  refine pd_rq ⟨_, rfl⟩ (pd_prim (yld_indexStr (s := len8) (k := .u8) (m := y) (vs := [.string len8, .int .u8 y]) op_len64_10_3 rfl rfl (by kernel_rfl) (by rw [len8_size]; exact hy)) ?_ ?_)
  · simp only [rxs, hu8]; rfl
  · rw [len8_get hy]
    refine pd_rq ⟨_, rfl⟩ (pd_rq ⟨_, rfl⟩ (pd_ret ?_ rfl))
    simp only [rxs, retV]
    rw [i64n (blen y) (by omega), addI, i64n (n + blen y) (by omega), hb]
theorem det_lz64 (x : Nat) (hx : x < 18446744073709551616) : Det Tryz.prog 148 [.int .u64 x] (.int .i64 ((64 - blen x : Nat) : Int)) := by
  have hl : blen x ≤ 64 := blen_le hx
  refine det_of_tree mixed tr_lz64 np_lz64 rfl (pd_call (det_len64 x hx) rfl (pd_rq ⟨_, rfl⟩ (pd_ret ?_ rfl)))
  simp only [rxs, retV]
  rw [show (64 : Int) - (blen x : Int) = ((64 - blen x : Nat) : Int) from by omega, i64n _ (by omega)]
end Go.Proofs.YtcleogdmobdnpacGreatRDoor

/- Contracts of package wide: products. -/
import Derived.Test.YtcleogdmobdnpacGreatRDoorWdG
import Derived.Test.YtcleogdmobdnpacGreatRDoorWdM
import Derived.Test.YtcleogdmobdnpacGreatRDoorRxJ
namespace Go.Proofs.YtcleogdmobdnpacGreatRDoor
open Go.RowKit Go.RX Go.WD Go.IntWalk

theorem wrapN (a : Nat) (ha : a < 18446744073709551616) : IntKind.u64.wrap (a : Int) = (a : Int) := by rw [IntKind.wrap_u64]; omega
theorem wrapM (a : Nat) : IntKind.u64.wrap (a : Int) = ((a % 18446744073709551616 : Nat) : Int) := by rw [IntKind.wrap_u64]; omega
theorem mulN (a b : Nat) : (a : Int) * (b : Int) = ((a * b : Nat) : Int) := (Int.natCast_mul a b).symm
theorem addN (a b : Nat) : (a : Int) + (b : Int) = ((a + b : Nat) : Int) := (Int.natCast_add a b).symm
theorem shr32 (a : Nat) : (a : Int).fdiv (2 ^ min (Int.toNat 32) (IntKind.bits .u64)) = ((a / 4294967296 : Nat) : Int) := shr_u64 a 32 (by omega)

theorem det_mul64 (x y : Nat) (hx : x < 18446744073709551616) (hy : y < 18446744073709551616) : Det Tryz.prog 102 [.int .u64 x, .int .u64 y] (.tuple #[.int .u64 ((x * y / 18446744073709551616 : Nat) : Int), .int .u64 ((x * y % 18446744073709551616 : Nat) : Int)]) := by
  obtain ⟨bd, bt, bw, hhi⟩ := Lib.mul64_hi x y hx hy
  have ba := Lib.half_mul_le (a := x / 4294967296) (b := y / 4294967296) (by omega) (by omega)
  have bb := Lib.half_mul_le (a := x / 4294967296) (b := y % 4294967296) (by omega) (by omega)
  have bc := Lib.half_mul_le (a := x % 4294967296) (b := y / 4294967296) (by omega) (by omega)
  have ba' : x / 4294967296 * (y / 4294967296) < 18446744073709551616 := by omega
  have bb' : x / 4294967296 * (y % 4294967296) < 18446744073709551616 := by omega
  have bc' : x % 4294967296 * (y / 4294967296) < 18446744073709551616 := by omega
  have bh1 : x / 4294967296 * (y / 4294967296) + (x / 4294967296 * (y % 4294967296) + x % 4294967296 * (y % 4294967296) / 4294967296) / 4294967296 < 18446744073709551616 := by omega
  have bh : x / 4294967296 * (y / 4294967296) + (x / 4294967296 * (y % 4294967296) + x % 4294967296 * (y % 4294967296) / 4294967296) / 4294967296 + ((x / 4294967296 * (y % 4294967296) + x % 4294967296 * (y % 4294967296) / 4294967296) % 4294967296 + x % 4294967296 * (y / 4294967296)) / 4294967296 < 18446744073709551616 := by
    have := (Nat.div_lt_iff_lt_mul (show 0 < 18446744073709551616 by omega)).2 (Nat.mul_lt_mul'' hx hy)
    omega
  refine det_of_tree mixed tr_mul64 np_mul64 rfl (pd_rq ⟨_, rfl⟩ (pd_rq ⟨_, rfl⟩ (pd_ret ?_ rfl)))
  simp only [rxs, retV, shr32, mask32 x hx, mask32 y hy, mulN, addN, wrapN _ bd, wrapN _ bb', wrapN _ bt, mask32 _ bt, wrapN _ bc', wrapN _ bw, wrapN _ ba', wrapN _ bh1, wrapN _ bh, wrapM (x * y)]
  rw [hhi]

/-! ### Words in memory -/
section
variable {o : Oper} {x y : Operand} {H : PH} {b q n T : Nat} {f : Nat → Nat} {vs : List Value}
theorem ixA16 {m : Int} (ho : o.op = .indexAddr 136 x y) (hx : argEv [x, y] [.pointer (some ⟨b, 0, none⟩), .int .i64 m] x = .pointer (some ⟨b, 0, none⟩)) (hy : argEv [x, y] [.pointer (some ⟨b, 0, none⟩), .int .i64 m] y = .int .i64 m) (h0 : 0 ≤ m) (h1 : m < 16) : Yld Tryz.prog o [.pointer (some ⟨b, 0, none⟩), .int .i64 m] (.pointer (some ⟨b, m.toNat, none⟩)) := by
  have := rds_indexA (P := Tryz.prog) (len := 16) (e := 29) ho hx hy (by kernel_rfl) (by kernel_rfl) h0 h1
  rw [show Tryz.prog.cellsOf 29 = 1 from by kernel_rfl, Nat.zero_add, Nat.mul_one] at this
  exact this
theorem ld64 {fz : Nat × Nat} (ho : o.op = .load 29 x) (hx : argEv [x] [.pointer (some ⟨b, q, none⟩)] x = .pointer (some ⟨b, q, none⟩)) (hH : H b = some (.cells (wa n f) T fz)) (hq : q < n) : Rds Tryz.prog o [.pointer (some ⟨b, q, none⟩)] H (.int .u64 (f q)) := by
  have h1 : Tryz.prog.cellsOf 29 = 1 := by kernel_rfl
  have := rds_load (P := Tryz.prog) ho hx hH (by kernel_rfl) (by rw [h1, wa_size]; omega) (fun _ => by rw [wa_size]; exact hq)
  rw [show isAggB Tryz.prog 29 = false from by kernel_rfl, wa_get f hq] at this
  exact this
theorem st64 {d : Nat} (ho : o.op = .store 29 x y) (hx : argEv [x, y] [.pointer (some ⟨b, q, none⟩), .int .u64 d] x = .pointer (some ⟨b, q, none⟩)) (hy : argEv [x, y] [.pointer (some ⟨b, q, none⟩), .int .u64 d] y = .int .u64 d) (hH : H b = some (.cells (wa n f) T (0, 0))) (hq : q < n) :
    Opn Tryz.prog o [.pointer (some ⟨b, q, none⟩), .int .u64 d] H fun u H' => u = undef ∧ H' = H.put b (.cells (wa n fun j => if j = q then d else f j) T (0, 0)) := by
  have h1 : Tryz.prog.cellsOf 29 = 1 := by kernel_rfl
  have := opn_store (P := Tryz.prog) ho hx hy hH (by kernel_rfl) (by rw [h1, wa_size]; omega) (by rw [h1]; rfl) (one_int _ _)
  rw [cl_int, wa_spl f hq] at this
  exact this
end
theorem i64n (k : Nat) (h : k ≤ 9223372036854775807) : IntKind.i64.wrap (k : Int) = (k : Int) := i64_in _ ⟨by omega, by omega⟩
theorem addI (k : Nat) (j : Nat) : (k : Int) + (j : Int) = ((k + j : Nat) : Int) := by omega

set_option maxRecDepth 100000 in
/-- gather: x y 2^(64 c) is added. -/
theorem con_gather (x y N c : Nat) (hx : x < 18446744073709551616) (hy : y < 18446744073709551616) (hc : c ≤ 14) (H : PH) (b T : Nat) (hH : H b = some (.cells (wa 16 (dig N)) T (0, 0))) :
    Con Tryz.prog 101 [.int .u64 x, .int .u64 y, .int .i64 c, .pointer (some ⟨b, 0, none⟩)] H fun v H' => v = .tuple #[] ∧ H' = H.put b (.cells (wa 16 (dig (N + x * y * PW c))) T (0, 0)) := by
  have hp := mul_lt_PW2 hx hy
  have hhi : x * y / 18446744073709551616 < 18446744073709551616 := by
    rw [PW_two] at hp
    exact (Nat.div_lt_iff_lt_mul (by omega)).2 hp
  obtain ⟨a1, a2⟩ := g0 (N := N) (p := x * y) (c := c)
  obtain ⟨b1, b2⟩ := g1 (N := N) (p := x * y) (c := c) hp
  refine con_of_tree mixed tr_times1 np_times1 rfl (den_det (det_mul64 x y hx hy) rfl (den_rq ⟨_, rfl, Nat.zero_lt_succ _⟩ (den_rq ⟨_, rfl, Nat.lt_succ_self _⟩ ?_)))
  refine den_prim ((ixA16 (b := b) (m := c) op_times1_1_1 rfl rfl (by omega) (by omega)).rds _) rfl ?_
  rw [Int.toNat_natCast]
  refine den_prim (ld64 (f := dig N) op_times1_1_2 rfl hH (by omega)) rfl ?_
  refine den_own (own_add64 (dig N c) (x * y % 18446744073709551616) 0 (dig_lt _ _) (Nat.mod_lt _ (by omega)) (by omega)) rfl ?_
  rw [a1, a2]
  refine den_rq ⟨_, rfl, Nat.zero_lt_succ _⟩ (den_rq ⟨_, rfl, Nat.lt_succ_self _⟩ ?_)
  refine den_prim ((ixA16 (b := b) (m := c) op_times1_2_2 rfl rfl (by omega) (by omega)).rds _) rfl ?_
  rw [Int.toNat_natCast]
  have hq16 : c < 16 := by omega
  refine den_eff (st64 (d := dig (N + x * y * PW c) c) op_times1_2_3 rfl rfl hH hq16) (by simp only [rxs]) ?_
  rintro v H1 ⟨rfl, rfl⟩
  refine ⟨(fun h => nomatch h), den_rq ⟨_, rfl⟩ ?_⟩
  have e1 : IntKind.i64.wrap ((c : Int) + 1) = ((c + 1 : Nat) : Int) := i64n (c + 1) (by omega)
  refine den_prim ((ixA16 (b := b) (m := ((c + 1 : Nat) : Int)) op_times1_3_4 rfl rfl (by omega) (by omega)).rds _) (by simp only [rxs, e1]) ?_
  rw [Int.toNat_natCast]
  refine den_prim (ld64 (q := c + 1) op_times1_3_5 rfl (PH.put_self _ _ _) (by omega)) rfl ?_
  rw [if_neg (show ¬ c + 1 = c by omega)]
  refine den_own (own_add64 (dig N (c + 1)) (x * y / 18446744073709551616) (cr N (x * y * PW c) (c + 1)) (dig_lt _ _) hhi (cr_le _ _ _)) rfl ?_
  rw [b1, b2]
  refine den_rq ⟨_, rfl, Nat.zero_lt_succ _⟩ (den_rq ⟨_, rfl, Nat.lt_succ_self _⟩ ?_)
  refine den_prim ((ixA16 (b := b) (m := ((c + 1 : Nat) : Int)) op_times1_3_12 rfl rfl (by omega) (by omega)).rds _) (by simp only [rxs, e1]) ?_
  rw [Int.toNat_natCast]
  refine den_eff (st64 (q := c + 1) (n := 16) (d := dig (N + x * y * PW c) (c + 1)) op_times1_3_13 rfl rfl (PH.put_self _ _ _) (by omega)) (by simp only [rxs]) ?_
  rintro v H1 ⟨rfl, rfl⟩
  refine ⟨(fun h => nomatch h), ?_⟩
  rw [PH.put_put]
  simp only [List.cons_append, List.nil_append]
  refine ⟨fun l H' => ∃ k, c + 2 ≤ k ∧ k ≤ 16 ∧ l = [.int .u64 (cr N (x * y * PW c) k), .int .i64 (k : Nat)] ∧ H' = H.put b (.cells (wa 16 fun i => if i < k then dig (N + x * y * PW c) i else dig N i) T (0, 0)), fun l _ => (16 - intOf (l.getD 1 undef)).toNat, ⟨c + 2, Nat.le_refl _, by omega, ?_, ?_⟩, ?_⟩
  · have e2 : IntKind.i64.wrap ((c : Int) + 2) = ((c + 2 : Nat) : Int) := i64n (c + 2) (by omega)
    simp only [rxs, e2]
  · congr 2
    refine wa_congr fun i _ => ?_
    by_cases h1 : i = c + 1
    · subst h1; simp
    · by_cases h2 : i = c
      · subst h2; simp
      · rw [if_neg h1, if_neg h2]
        by_cases h3 : i < c
        · rw [if_pos (by omega)]
          have h4 := dig_add N (x * y * PW c) i
          rw [dig_shift_lt _ h3, cr_shift _ _ (by omega)] at h4
          rw [h4, Nat.add_zero, Nat.mod_eq_of_lt (dig_lt _ _)]
        · rw [if_neg (by omega)]
  · rintro vals H' - ⟨k, hk1, hk2, rfl, rfl⟩
    obtain ⟨c1, c2⟩ := gk (N := N) (p := x * y) (c := c) hp hk1
    simp only [List.cons_append, List.nil_append]
    refine den_rq ⟨_, rfl⟩ (den_br (b := decide (((cr N (x * y * PW c) k : Nat) : Int) > 0)) rfl (fun h => ?_) (fun h => ?_))
    · refine den_rq ⟨_, rfl⟩ (den_br (b := decide (k = 16)) ?_ (fun h2 => ?_) (fun h2 => ?_))
      · simp only [rxs]
        congr 1
        rw [Bool.eq_iff_iff]; simp; omega
      · have h2 : k = 16 := by simpa using h2
        subst h2
        refine den_ret rfl ⟨rfl, ?_⟩
        congr 2
      · have h2 : k ≠ 16 := by simpa using h2
        refine den_prim ((ixA16 (b := b) (m := (k : Int)) op_times1_8_2 rfl rfl (by omega) (by omega)).rds _) rfl ?_
        rw [Int.toNat_natCast]
        refine den_prim (ld64 (q := k) op_times1_8_3 rfl (PH.put_self _ _ _) (by omega)) rfl ?_
        rw [if_neg (Nat.lt_irrefl k)]
        refine den_own (own_add64 (dig N k) 0 (cr N (x * y * PW c) k) (dig_lt _ _) (by omega) (cr_le _ _ _)) rfl ?_
        rw [c1, c2]
        refine den_rq ⟨_, rfl, Nat.zero_lt_succ _⟩ (den_rq ⟨_, rfl, Nat.lt_succ_self _⟩ ?_)
        refine den_prim ((ixA16 (b := b) (m := (k : Int)) op_times1_8_9 rfl rfl (by omega) (by omega)).rds _) rfl ?_
        rw [Int.toNat_natCast]
        refine den_eff (st64 (q := k) (n := 16) (d := dig (N + x * y * PW c) k) op_times1_8_10 rfl rfl (PH.put_self _ _ _) (by omega)) (by simp only [rxs]) ?_
        rintro v H1 ⟨rfl, rfl⟩
        refine ⟨(fun h => nomatch h), ?_⟩
        rw [PH.put_put]
        have e3 : IntKind.i64.wrap ((k : Int) + 1) = ((k + 1 : Nat) : Int) := i64n (k + 1) (by omega)
        refine ⟨⟨k + 1, by omega, by omega, ?_, ?_⟩, ?_⟩
        · simp only [rxs, e3]
        · congr 2
          exact wa_congr fun i _ => ite_step _ _ k i
        · simp only [rxs, e3]
          omega
    · have h0 : cr N (x * y * PW c) k = 0 := by simp at h; omega
      have hend := gend (N := N) hp hk1 h0
      refine den_ret rfl ⟨rfl, ?_⟩
      congr 2
      refine wa_congr fun i _ => ?_
      split
      · rfl
      · rename_i hi; exact (hend i (by omega)).2.symm

theorem z16 : (zeroV Tryz.prog 136).cells = wa 16 (dig 0) := by
  have : zeroV Tryz.prog 136 = .agg #[.int .u64 0, .int .u64 0, .int .u64 0, .int .u64 0, .int .u64 0, .int .u64 0, .int .u64 0, .int .u64 0, .int .u64 0, .int .u64 0, .int .u64 0, .int .u64 0, .int .u64 0, .int .u64 0, .int .u64 0, .int .u64 0] := by kernel_rfl
  rw [this, wa_congr (g := fun _ => 0) (fun i _ => dig_zero i)]
  rfl
theorem low8 (N : Nat) : Value.agg ((wa 16 (dig N)).extract 0 8) = wd N := rfl
theorem ent_gather : entB Tryz.prog 101 = true := by kernel_rfl
set_option maxRecDepth 100000 in
set_option maxHeartbeats 1000000 in
theorem det_times' (A B : Nat) (hA : A < M) (hB : B < M) : Det Tryz.prog 51 [wd A, wd B] (.tuple #[wd (A * B), .int .u64 (orn (A * B) 8)]) := by
  rw [M_def] at hA hB
  refine det_of_con (con_of_tree mixed tr_times np_times rfl (den_rq ⟨words_size A, words_one A⟩ (den_rq ⟨words_size B, words_one B⟩ ?_)))
  intro b hb
  rw [show D Tryz.prog [wd A, wd B] (.z 136) = zeroV Tryz.prog 136 from rfl, z16]
  refine den_eff ((run_makeFunc (vs := [.pointer (some ⟨b, 0, none⟩)]) op_times_2_0 rfl).opn _) rfl ?_
  rintro v H1 ⟨rfl, rfl⟩
  refine ⟨(fun h => nomatch h), ?_⟩
  simp only [List.cons_append, List.nil_append]
  refine ⟨fun l H' => ∃ i, i ≤ 8 ∧ l = [.int .i64 (i : Nat)] ∧ H' = PH.nil.put b (.cells (wa 16 (dig (acc A B i 0))) 136 (0, 0)), fun l _ => (8 - intOf (l.getD 0 undef)).toNat, ⟨0, by omega, rfl, by rw [acc_zero]⟩, ?_⟩
  rintro vals H' - ⟨i, hi, rfl, rfl⟩
  simp only [List.cons_append, List.nil_append]
  refine den_rq ⟨_, rfl⟩ (den_br (b := decide ((i : Int) < 8)) rfl (fun h => ?_) (fun h => ?_))
  · have hi : i < 8 := by simp at h; omega
    refine den_rq ⟨_, _, rfl⟩ (den_rq ⟨?_, ?_⟩ ?_)
    · show (0 : Int) ≤ (i : Int); omega
    · show (i : Int) < 8; omega
    refine ⟨fun l H' => ∃ j, j ≤ 8 ∧ l = [.int .i64 (j : Nat)] ∧ H' = PH.nil.put b (.cells (wa 16 (dig (acc A B i j))) 136 (0, 0)), fun l _ => (8 - intOf (l.getD 0 undef)).toNat, ⟨0, by omega, rfl, rfl⟩, ?_⟩
    rintro vals H' - ⟨j, hj, rfl, rfl⟩
    simp only [List.cons_append, List.nil_append]
    have e3 : IntKind.i64.wrap ((i : Int) + 1) = ((i + 1 : Nat) : Int) := i64n (i + 1) (by omega)
    have e4 : IntKind.i64.wrap ((j : Int) + 1) = ((j + 1 : Nat) : Int) := i64n (j + 1) (by omega)
    refine den_rq ⟨_, rfl⟩ (den_br (b := decide ((j : Int) < 8)) rfl (fun h => ?_) (fun h => ?_))
    · have hj : j < 8 := by simp at h; omega
      have hstep := acc_step A B i j
      refine den_rq ⟨_, _, rfl⟩ (den_rq ⟨?_, ?_⟩ (den_rq ⟨dig A i, by simp only [rxs, words_get A hi]⟩ ?_))
      · show (0 : Int) ≤ (j : Int); omega
      · show (j : Int) < 8; omega
      have hnext : ∀ H', H' = PH.nil.put b (.cells (wa 16 (dig (acc A B i (j + 1)))) 136 (0, 0)) → (∃ j', j' ≤ 8 ∧ [Value.int .i64 (IntKind.i64.wrap ((j : Int) + 1))] = [.int .i64 (j' : Nat)] ∧ H' = PH.nil.put b (.cells (wa 16 (dig (acc A B i j'))) 136 (0, 0))) ∧ (8 - intOf ([Value.int .i64 (IntKind.i64.wrap ((j : Int) + 1))].getD 0 undef)).toNat < (8 - intOf ([Value.int .i64 (j : Nat)].getD 0 undef)).toNat := fun H' hH' => by
        refine ⟨⟨j + 1, by omega, by rw [e4], hH'⟩, ?_⟩
        simp only [List.getD_cons_zero, intOf, e4]
        omega
      refine den_br (b := decide (dig A i ≠ 0)) ?_ (fun h1 => ?_) (fun h1 => ?_)
      · simp only [rxs, words_get A hi]
        congr 1
        rw [Bool.eq_iff_iff]; simp
      · refine den_rq ⟨dig B j, by simp only [rxs, words_get B hj]⟩ (den_br (b := decide (dig B j ≠ 0)) ?_ (fun h2 => ?_) (fun h2 => ?_))
        · simp only [rxs, words_get B hj]
          congr 1
          rw [Bool.eq_iff_iff]; simp
        · refine den_eff (opn_callv (vs := [.int .u64 (dig A i), .int .u64 (dig B j), .int .i64 ((i + j : Nat) : Int)]) (f := 101) (caps := #[.pointer (some ⟨b, 0, none⟩)]) op_times_10_6 rfl rfl ent_gather (con_gather (dig A i) (dig B j) (acc A B i j) (i + j) (dig_lt _ _) (dig_lt _ _) (by omega) _ b _ (PH.put_self _ _ _))) ?_ ?_
          · simp only [rxs, words_get A hi, words_get B hj, addI, i64n (i + j) (by omega)]
          · rintro v H' ⟨rfl, rfl⟩
            refine ⟨(fun h => nomatch h), ?_⟩
            rw [PH.put_put, hstep]
            exact hnext _ rfl
        · have h2 : dig B j = 0 := by simpa using h2
          rw [h2, Nat.mul_zero, Nat.zero_mul, Nat.add_zero] at hstep
          exact hnext _ (by rw [hstep])
      · have h1 : dig A i = 0 := by simpa using h1
        rw [h1, Nat.zero_mul, Nat.zero_mul, Nat.add_zero] at hstep
        exact hnext _ (by rw [hstep])
    · have hj : j = 8 := by simp at h; omega
      subst hj
      refine ⟨⟨i + 1, by omega, ?_, ?_⟩, ?_⟩
      · simp only [rxs, e3]
      · rw [acc_next A B i hB]
      · simp only [rxs, e3]
        omega
  · have hi : i = 8 := by simp at h; omega
    subst hi
    rw [acc_end A B hA]
    have hc1 : Tryz.prog.cellsOf 29 = 1 := by kernel_rfl
    refine den_prim ((yld_sliceA_l (e := 29) (n := 16) (l := 8) (k := .i64) (b := b) (q := 0) (vs := [.pointer (some ⟨b, 0, none⟩), .int .i64 8]) op_times_14_0 rfl rfl (by kernel_rfl) (by kernel_rfl) (by omega) (by omega)).rds _) rfl ?_
    rw [hc1, Nat.mul_one, Nat.zero_add]
    refine den_prim ((yld_len (e := 29) (n := 8) (vs := [.slice (some ⟨b, 8, none⟩) 8 8]) op_times_14_1 rfl (by kernel_rfl)).rds _) rfl ?_
    simp only [List.cons_append, List.nil_append]
    refine ⟨fun l H' => ∃ k, k ≤ 8 ∧ l = [.int .u64 (orn (A * B) k), .int .i64 (k : Nat)] ∧ H' = PH.nil.put b (.cells (wa 16 (dig (A * B))) 136 (0, 0)), fun l _ => (8 - intOf (l.getD 1 undef)).toNat, ⟨0, by omega, rfl, rfl⟩, ?_⟩
    rintro vals H' - ⟨k, hk, rfl, rfl⟩
    simp only [List.cons_append, List.nil_append]
    refine den_rq ⟨_, rfl⟩ (den_rq ⟨8, rfl⟩ (den_br (b := decide ((k : Int) < 8)) rfl (fun h => ?_) (fun h => ?_)))
    · have hk : k < 8 := by simp at h; omega
      have e3 : IntKind.i64.wrap ((k : Int) + 1) = ((k + 1 : Nat) : Int) := i64n (k + 1) (by omega)
      refine den_prim ((yld_indexS (e := 29) (b := b) (q := 8) (n := 8) (c := 8) (k := .i64) (m := (k : Int)) (vs := [.slice (some ⟨b, 8, none⟩) 8 8, .int .i64 (k : Nat)]) op_times_16_0 rfl rfl (by kernel_rfl) (by kernel_rfl) (by omega) (by omega)).rds _) rfl ?_
      rw [hc1, Int.toNat_natCast, Nat.mul_one]
      refine den_prim (ld64 (q := 8 + k) op_times_16_1 rfl (PH.put_self _ _ _) (by omega)) rfl (den_rq ⟨_, rfl⟩ (den_rq ⟨_, rfl⟩ ?_))
      refine ⟨⟨k + 1, by omega, ?_, rfl⟩, ?_⟩
      · simp only [rxs, e3, or_u64 _ _ (orn_lt (A * B) k) (dig_lt (A * B) (8 + k))]
        rfl
      · simp only [rxs, e3]
        omega
    · have hk : k = 8 := by simp at h; omega
      subst hk
      refine den_prim ((yld_sliceA_h (e := 29) (n := 16) (l := 8) (k := .i64) (b := b) (q := 0) (vs := [.pointer (some ⟨b, 0, none⟩), .int .i64 8]) op_times_19_0 rfl rfl (by kernel_rfl) (by kernel_rfl) (by omega) (by omega)).rds _) rfl ?_
      refine den_prim ((yld_arrayAt (e := 29) (n := 8) (len := 8) (a := some ⟨b, 0, none⟩) (c := 16) (vs := [.slice (some ⟨b, 0, none⟩) 8 16]) op_times_19_1 rfl (by kernel_rfl) (by omega)).rds _) rfl ?_
      have hc8 : Tryz.prog.cellsOf 87 = 8 := by kernel_rfl
      have hld := rds_load (P := Tryz.prog) (H := PH.nil.put b (.cells (wa 16 (dig (A * B))) 136 (0, 0))) (b := b) (q := 0) op_times_19_2 rfl (PH.put_self _ _ _) (by kernel_rfl) (by rw [hc8, wa_size]; omega) (fun _ => by rw [wa_size]; omega)
      rw [show isAggB Tryz.prog 87 = true from by kernel_rfl, hc8, if_pos rfl, Nat.zero_add, low8] at hld
      exact den_prim hld rfl (den_rq ⟨words_size _, words_one _⟩ (den_ret rfl rfl))
theorem det_times (a b : Nat) : Det Tryz.prog 51 [wd a, wd b] (.tuple #[wd (a % M * (b % M)), .int .u64 (orn (a % M * (b % M)) 8)]) := by
  have := det_times' (a % M) (b % M) (Nat.mod_lt _ M_pos) (Nat.mod_lt _ M_pos)
  rwa [show wd (a % M) = wd a from wd_congr (Nat.mod_mod _ _), show wd (b % M) = wd b from wd_congr (Nat.mod_mod _ _)] at this
end Go.Proofs.YtcleogdmobdnpacGreatRDoor

/- Contracts of the helpers of the laws of chapter 01. -/
import Derived.Test.YtimnofpofbnjbaaLwT
import Derived.Test.YtimnofpofbnjbaaWdR
import Derived.Laws.Small
namespace Go.Proofs.Ytimnofpofbnjbaa
open Go.RowKit Go.RX Go.WD Go.IntWalk

/-! ### Tests -/
section
variable {o : Oper} {x : Operand} {H : PH} {b : Nat} {T : TypeId}
theorem ldWide {a : Nat} (ho : o.op = .load 24 x) (hx : argEv [x] [.pointer (some ⟨b, 0, none⟩)] x = .pointer (some ⟨b, 0, none⟩)) (hH : H b = some (.cells (words a) T (0, 0))) : Rds Try.prog o [.pointer (some ⟨b, 0, none⟩)] H (wd a) := by
  have hc : Try.prog.cellsOf 24 = 8 := by kernel_rfl
  have := rds_load (P := Try.prog) ho hx hH (by kernel_rfl) (by rw [hc, words_size]; omega) (fun _ => by rw [words_size]; omega)
  rw [show isAggB Try.prog 24 = true from by kernel_rfl, hc, if_pos rfl] at this
  exact this
theorem ldInt {n : Int} (ho : o.op = .load 3 x) (hx : argEv [x] [.pointer (some ⟨b, 0, none⟩)] x = .pointer (some ⟨b, 0, none⟩)) (hH : H b = some (.cells #[.int .i64 n] T (0, 0))) : Rds Try.prog o [.pointer (some ⟨b, 0, none⟩)] H (.int .i64 n) := by
  have hc : Try.prog.cellsOf 3 = 1 := by kernel_rfl
  have := rds_load (P := Try.prog) ho hx hH (by kernel_rfl) (by rw [hc]; exact Nat.le_refl 1) (fun _ => Nat.zero_lt_one)
  rw [show isAggB Try.prog 3 = false from by kernel_rfl] at this
  exact this
theorem ldErr {n : Int} (ho : o.op = .load 38 x) (hx : argEv [x] [.pointer (some ⟨b, 0, none⟩)] x = .pointer (some ⟨b, 0, none⟩)) (hH : H b = some (.cells #[.int .i64 n] T (0, 0))) : Rds Try.prog o [.pointer (some ⟨b, 0, none⟩)] H (.int .i64 n) := by
  have hc : Try.prog.cellsOf 38 = 1 := by kernel_rfl
  have := rds_load (P := Try.prog) ho hx hH (by kernel_rfl) (by rw [hc]; exact Nat.le_refl 1) (fun _ => Nat.zero_lt_one)
  rw [show isAggB Try.prog 38 = false from by kernel_rfl] at this
  exact this
end
def ptr (b : Nat) : Value := .pointer (some ⟨b, 0, none⟩)
/-- A test that holds one value. -/
def cloV (f : FuncId) (b : Nat) : Value := .func (.func f) #[] #[ptr b]
theorem beq_dec (x y : Int) : (x == y) = decide (x = y) := rfl
section
variable (H : PH)
theorem con_is (a : Nat) : Con Try.prog 19 [wd a] H fun v H' => ∃ b, H b = none ∧ v = cloV 51 b ∧ H' = H.put b (.cells (words a) 24 (0, 0)) := by
  refine con_of_tree mixed tr_is np_is rfl (den_rq ⟨words_size a, words_one a⟩ (fun b hb => den_eff ((run_makeFunc (vs := [ptr b]) op_is_1_0 rfl).opn _) rfl ?_))
  rintro v H1 ⟨rfl, rfl⟩
  exact ⟨(fun h => nomatch h), den_ret rfl ⟨b, hb, rfl, rfl⟩⟩
theorem con_fails (n : Int) : Con Try.prog 15 [.int .i64 n] H fun v H' => ∃ b, H b = none ∧ v = cloV 48 b ∧ H' = H.put b (.cells #[.int .i64 n] 38 (0, 0)) := by
  refine con_of_tree mixed tr_fails np_fails rfl (den_rq ⟨rfl, one_int _ _⟩ (fun b hb => den_eff ((run_makeFunc (vs := [ptr b]) op_fails_1_0 rfl).opn _) rfl ?_))
  rintro v H1 ⟨rfl, rfl⟩
  exact ⟨(fun h => nomatch h), den_ret rfl ⟨b, hb, rfl, rfl⟩⟩
theorem con_says (n : Int) : Con Try.prog 11 [.int .i64 n] H fun v H' => ∃ b, H b = none ∧ v = cloV 46 b ∧ H' = H.put b (.cells #[.int .i64 n] 3 (0, 0)) := by
  refine con_of_tree mixed tr_says np_says rfl (den_rq ⟨rfl, one_int _ _⟩ (fun b hb => den_eff ((run_makeFunc (vs := [ptr b]) op_says_1_0 rfl).opn _) rfl ?_))
  rintro v H1 ⟨rfl, rfl⟩
  exact ⟨(fun h => nomatch h), den_ret rfl ⟨b, hb, rfl, rfl⟩⟩
theorem con_stops (n : Int) : Con Try.prog 13 [.int .i64 n] H fun v H' => ∃ b, H b = none ∧ v = cloV 47 b ∧ H' = H.put b (.cells #[.int .i64 n] 38 (0, 0)) := by
  refine con_of_tree mixed tr_stops np_stops rfl (den_rq ⟨rfl, one_int _ _⟩ (fun b hb => den_eff ((run_makeFunc (vs := [ptr b]) op_stops_1_0 rfl).opn _) rfl ?_))
  rintro v H1 ⟨rfl, rfl⟩
  exact ⟨(fun h => nomatch h), den_ret rfl ⟨b, hb, rfl, rfl⟩⟩
theorem con_ends (n : Int) : Con Try.prog 23 [.int .i64 n] H fun v H' => ∃ b, H b = none ∧ v = cloV 55 b ∧ H' = H.put b (.cells #[.int .i64 n] 38 (0, 0)) := by
  refine con_of_tree mixed tr_ends np_ends rfl (den_rq ⟨rfl, one_int _ _⟩ (fun b hb => den_eff ((run_makeFunc (vs := [ptr b]) op_ends_1_0 rfl).opn _) rfl ?_))
  rintro v H1 ⟨rfl, rfl⟩
  exact ⟨(fun h => nomatch h), den_ret rfl ⟨b, hb, rfl, rfl⟩⟩
theorem con_parts (n m : Int) : Con Try.prog 21 [.int .i64 n, .int .i64 m] H fun v H' => ∃ b c, H b = none ∧ H c = none ∧ b ≠ c ∧ v = .func (.func 52) #[] #[ptr b, ptr c] ∧ H' = (H.put b (.cells #[.int .i64 n] 3 (0, 0))).put c (.cells #[.int .i64 m] 3 (0, 0)) := by
  refine con_of_tree mixed tr_parts np_parts rfl (den_rq ⟨rfl, one_int _ _⟩ (fun b hb => den_rq ⟨rfl, one_int _ _⟩ (fun c hc => den_eff ((run_makeFunc (vs := [ptr b, ptr c]) op_parts_1_0 rfl).opn _) rfl ?_)))
  rintro v H1 ⟨rfl, rfl⟩
  have hne : b ≠ c := fun e => by subst e; rw [PH.put_self] at hc; cases hc
  rw [PH.put_ne H _ (fun e => hne e.symm)] at hc
  exact ⟨(fun h => nomatch h), den_ret rfl ⟨b, c, hb, hc, hne, rfl, rfl⟩⟩
variable {H} {b : Nat} {T : TypeId}
theorem con_is1 (x a : Nat) (e : Int) (hH : H b = some (.cells (words a) T (0, 0))) : Con Try.prog 51 [wd x, .int .i64 e, ptr b] H fun v H' => v = .bool (decide (x % M = a % M) && decide (e = 0)) ∧ H' = H := by
  refine con_of_tree mixed tr_is1 np_is1 rfl (den_rq ⟨words_size x, words_one x⟩ (den_prim (ldWide op_is1_1_1 rfl hH) rfl (den_prim ((eq_wide (a := x) (b := a) op_is1_1_2 rfl rfl rfl rfl).rds _) rfl (den_rq ⟨_, rfl⟩ (den_br rfl (fun h => ?_) (fun h => ?_))))))
  · rw [h]
    exact den_rq ⟨_, rfl⟩ (den_ret rfl ⟨rfl, rfl⟩)
  · rw [h]
    exact den_ret rfl ⟨rfl, rfl⟩
theorem con_fails1 (x : Nat) (e n : Int) (hH : H b = some (.cells #[.int .i64 n] T (0, 0))) : Con Try.prog 48 [wd x, .int .i64 e, ptr b] H fun v H' => v = .bool (decide (x % M = 0) && decide (e = n)) ∧ H' = H := by
  refine con_of_tree mixed tr_fails1 np_fails1 rfl (den_rq ⟨words_size x, words_one x⟩ (den_prim ((eq_wide (a := x) (b := 0) op_fails1_1_2 rfl z_wide rfl rfl).rds _) rfl (den_rq ⟨_, rfl⟩ (den_br rfl (fun h => ?_) (fun h => ?_)))))
  · rw [Nat.zero_mod] at h
    rw [h]
    exact den_prim (ldErr op_fails1_1_5 rfl hH) rfl (den_rq ⟨_, rfl⟩ (den_rq ⟨_, rfl⟩ (den_ret rfl ⟨rfl, rfl⟩)))
  · rw [Nat.zero_mod] at h
    rw [h]
    exact den_ret rfl ⟨rfl, rfl⟩
theorem con_says1 (x e n : Int) (hH : H b = some (.cells #[.int .i64 n] T (0, 0))) : Con Try.prog 46 [.int .i64 x, .int .i64 e, ptr b] H fun v H' => v = .bool (decide (x = n) && decide (e = 0)) ∧ H' = H := by
  refine con_of_tree mixed tr_says1 np_says1 rfl (den_prim (ldInt op_says1_1_1 rfl hH) rfl (den_rq ⟨_, rfl⟩ (den_rq ⟨_, rfl⟩ (den_br (b := decide (x = n)) rfl (fun h => ?_) (fun h => ?_)))))
  · rw [h]
    exact den_rq ⟨_, rfl⟩ (den_ret rfl ⟨rfl, rfl⟩)
  · rw [h]
    exact den_ret rfl ⟨rfl, rfl⟩
theorem con_stops1 (x e n : Int) (hH : H b = some (.cells #[.int .i64 n] T (0, 0))) : Con Try.prog 47 [.int .i64 x, .int .i64 e, ptr b] H fun v H' => v = .bool (decide (x = 0) && decide (e = n)) ∧ H' = H := by
  refine con_of_tree mixed tr_stops1 np_stops1 rfl (den_rq ⟨_, rfl⟩ (den_br (b := decide (x = 0)) rfl (fun h => ?_) (fun h => ?_)))
  · rw [h]
    exact den_prim (ldErr op_stops1_1_4 rfl hH) rfl (den_rq ⟨_, rfl⟩ (den_rq ⟨_, rfl⟩ (den_ret rfl ⟨rfl, rfl⟩)))
  · rw [h]
    exact den_ret rfl ⟨rfl, rfl⟩
theorem con_ends1 (x y : Nat) (e n : Int) (hH : H b = some (.cells #[.int .i64 n] T (0, 0))) : Con Try.prog 55 [wd x, wd y, .int .i64 e, ptr b] H fun v H' => v = .bool (decide (x % M = 0) && (decide (y % M = 0) && decide (e = n))) ∧ H' = H := by
  refine con_of_tree mixed tr_ends1 np_ends1 rfl (den_rq ⟨words_size x, words_one x⟩ (den_rq ⟨words_size y, words_one y⟩ (den_prim ((eq_wide (a := x) (b := 0) op_ends1_1_2 rfl z_wide rfl rfl).rds _) rfl (den_rq ⟨_, rfl⟩ (den_br rfl (fun h => ?_) (fun h => ?_))))))
  · rw [Nat.zero_mod] at h
    rw [h]
    refine den_prim ((eq_wide (a := y) (b := 0) op_ends1_1_6 rfl z_wide rfl rfl).rds _) rfl (den_rq ⟨_, rfl⟩ (den_br rfl (fun h1 => ?_) (fun h1 => ?_)))
    · rw [Nat.zero_mod] at h1
      rw [h1]
      exact den_prim (ldErr op_ends1_1_10 rfl hH) rfl (den_rq ⟨_, rfl⟩ (den_rq ⟨_, rfl⟩ (den_ret rfl ⟨rfl, rfl⟩)))
    · rw [Nat.zero_mod] at h1
      rw [h1]
      exact den_ret rfl ⟨rfl, rfl⟩
  · rw [Nat.zero_mod] at h
    rw [h]
    exact den_ret rfl ⟨rfl, rfl⟩
theorem con_parts1 {c : Nat} {T' : TypeId} (x y : Nat) (e n m : Int) (hn : -9223372036854775808 ≤ n ∧ n < 9223372036854775808) (hm : -9223372036854775808 ≤ m ∧ m < 9223372036854775808) (hH : H b = some (.cells #[.int .i64 n] T (0, 0))) (hH' : H c = some (.cells #[.int .i64 m] T' (0, 0))) : Con Try.prog 52 [wd x, wd y, .int .i64 e, ptr b, ptr c] H fun v H' => v = .bool (decide (x % M = rs n % M) && (decide (y % M = rs m % M) && decide (e = 0))) ∧ H' = H := by
  refine con_of_tree mixed tr_parts1 np_parts1 rfl (den_rq ⟨words_size x, words_one x⟩ (den_rq ⟨words_size y, words_one y⟩ (den_prim (ldInt op_parts1_1_1 rfl hH) rfl (den_det (det_Of n hn.1 hn.2) rfl (den_prim ((eq_wide (a := x) (b := rs n) op_parts1_1_3 rfl rfl rfl rfl).rds _) rfl (den_rq ⟨_, rfl⟩ (den_br rfl (fun h => ?_) (fun h => ?_))))))))
  · rw [h]
    refine den_prim (ldInt op_parts1_1_6 rfl hH') rfl (den_det (det_Of m hm.1 hm.2) rfl (den_prim ((eq_wide (a := y) (b := rs m) op_parts1_1_8 rfl rfl rfl rfl).rds _) rfl (den_rq ⟨_, rfl⟩ (den_br rfl (fun h1 => ?_) (fun h1 => ?_)))))
    · rw [h1]
      exact den_rq ⟨_, rfl⟩ (den_ret rfl ⟨rfl, rfl⟩)
    · rw [h1]
      exact den_ret rfl ⟨rfl, rfl⟩
  · rw [h]
    exact den_ret rfl ⟨rfl, rfl⟩
end
end Go.Proofs.Ytimnofpofbnjbaa

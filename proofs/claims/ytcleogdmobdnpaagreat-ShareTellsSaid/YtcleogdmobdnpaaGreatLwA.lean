/- Contracts of the helpers of the laws of chapter 01. -/
import Derived.Test.YtcleogdmobdnpaaGreatLwT
import Derived.Test.YtcleogdmobdnpaaGreatWdR
import Derived.Laws.Small
namespace Go.Proofs.YtcleogdmobdnpaaGreat
open Go.RowKit Go.RX Go.WD Go.IntWalk

/-! ### Tests -/
section
variable {o : Oper} {x : Operand} {H : PH} {b : Nat} {T : TypeId}
theorem ldWide {a : Nat} (ho : o.op = .load 24 x) (hx : argEv [x] [.pointer (some ⟨b, 0, none⟩)] x = .pointer (some ⟨b, 0, none⟩)) (hH : H b = some (.cells (words a) T (0, 0))) : Rds Tryz.prog o [.pointer (some ⟨b, 0, none⟩)] H (wd a) := by
  have hc : Tryz.prog.cellsOf 24 = 8 := by kernel_rfl
  have := rds_load (P := Tryz.prog) ho hx hH (by kernel_rfl) (by rw [hc, words_size]; omega) (fun _ => by rw [words_size]; omega)
  rw [show isAggB Tryz.prog 24 = true from by kernel_rfl, hc, if_pos rfl] at this
  exact this
theorem ldInt {n : Int} (ho : o.op = .load 3 x) (hx : argEv [x] [.pointer (some ⟨b, 0, none⟩)] x = .pointer (some ⟨b, 0, none⟩)) (hH : H b = some (.cells #[.int .i64 n] T (0, 0))) : Rds Tryz.prog o [.pointer (some ⟨b, 0, none⟩)] H (.int .i64 n) := by
  have hc : Tryz.prog.cellsOf 3 = 1 := by kernel_rfl
  have := rds_load (P := Tryz.prog) ho hx hH (by kernel_rfl) (by rw [hc]; exact Nat.le_refl 1) (fun _ => Nat.zero_lt_one)
  rw [show isAggB Tryz.prog 3 = false from by kernel_rfl] at this
  exact this
theorem ldErr {n : Int} (ho : o.op = .load 39 x) (hx : argEv [x] [.pointer (some ⟨b, 0, none⟩)] x = .pointer (some ⟨b, 0, none⟩)) (hH : H b = some (.cells #[.int .i64 n] T (0, 0))) : Rds Tryz.prog o [.pointer (some ⟨b, 0, none⟩)] H (.int .i64 n) := by
  have hc : Tryz.prog.cellsOf 39 = 1 := by kernel_rfl
  have := rds_load (P := Tryz.prog) ho hx hH (by kernel_rfl) (by rw [hc]; exact Nat.le_refl 1) (fun _ => Nat.zero_lt_one)
  rw [show isAggB Tryz.prog 39 = false from by kernel_rfl] at this
  exact this
end
def ptr (b : Nat) : Value := .pointer (some ⟨b, 0, none⟩)
/-- A test that holds one value. -/
def cloV (f : FuncId) (b : Nat) : Value := .func (.func f) #[] #[ptr b]
theorem beq_dec (x y : Int) : (x == y) = decide (x = y) := rfl
section
variable (H : PH)
variable {H} {b : Nat} {T : TypeId}
end
end Go.Proofs.YtcleogdmobdnpaaGreat

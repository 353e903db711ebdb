/- works() of chapter 32, evaluated. -/
import Derived.Test.YtpdipcopnmiddaaGreatDoorRzU
namespace Go.Proofs.YtpdipcopnmiddaaGreatDoor
open Go.RowKit Go.RX Go.RZ
noncomputable def allT : List (AV × S) -> Bool
 | [] => true
 | p :: r => eqV p.1 (.bool true) && allT r
noncomputable def chkT : Option (List (AV × S)) -> Bool
 | some l => allT l
 | none => false
theorem works_run : chkT (ev Tryz.prog kty tab pur orc own itb 100000 tt_lwor [] [] 0 ⟨0,.nil⟩ 0) = true := by kernel_rfl
end Go.Proofs.YtpdipcopnmiddaaGreatDoor


/-
  DERIVED. GIVEN WITH THE SEED: THE CARDS: each row of YtcleogdmobdnpacGreatRDoorRows.lean that lists a variable, with what it lists TIED to the program's text (the seventh form; the later family's looks); each row that meets fmt, with fmt's text TOLD by the authors' own Lean function (tested against real Go, not proved from fmt's source: count such statements apart). THE CARD IS WHAT COUNTS. Prove the row's statement (the work); the ties are given (YtcleogdmobdnpacGreatRDoorTie.lean); close each card by the builder's one call (the guide's Derived/Test/ToyasCard.lean, 'card_holds'). Laid BY PROGRAM, IN A SANDBOX (cutbox-door.mjs). By AI agents, Wed Nov 11 2026. No macro, syntax, notation, axiom, sorry.
-/
import Derived.Test.YtcleogdmobdnpacGreatRDoorRows
import GoSem.ClaimSeven
namespace Go.Proofs.YtcleogdmobdnpacGreatRDoor
namespace Rows

/-- THE TIED CARD OF 'wardmotelaw02.ShareBack'. -/
def shareBackCard : Claim7 := { stood := { row := shareBackRow, standIns := [], harness := (true, "6e66edda6f15a1375f1e92500db1d3d58ec9878345cc470d72ec838f9bcf3e3a"), looks := false }, kinds := [], alts := [], laidByText := true, laidKinds := [.data, .pinned], laidTests := true, laidLooks := .later }
def ShareBackCardSaid : Prop := Claim7.holds Tryz.pinned (.plain (OpenSpec.ofChange shareBackSpec)) shareBackCard

/-- THE SECOND FORM's CARD OF 'wardmotelaw02.ShareBack'. -/
def shareBackUptoCard : Claim7 := { stood := { row := shareBackUptoRow, standIns := [], harness := (true, "6e66edda6f15a1375f1e92500db1d3d58ec9878345cc470d72ec838f9bcf3e3a"), looks := false }, kinds := [], alts := [], laidByText := true, laidKinds := [.data, .pinned], laidTests := true, laidLooks := .later }
def ShareBackUptoCardSaid : Prop := Claim7.holds Tryz.pinned (.plain (OpenSpec.upto shareBackSpec)) shareBackUptoCard
end Rows
end Go.Proofs.YtcleogdmobdnpacGreatRDoor

/-
  DERIVED. GIVEN WITH THE SEED: THE CARDS: each row of YtcdnhlplkhldbaaGreatDoorRows.lean that lists a variable, with what it lists TIED to the program's text (the seventh form; the later family's looks); each row that meets fmt, with fmt's text TOLD by the authors' own Lean function (tested against real Go, not proved from fmt's source: count such statements apart). THE CARD IS WHAT COUNTS. Prove the row's statement (the work); the ties are given (YtcdnhlplkhldbaaGreatDoorTie.lean); close each card by the builder's one call (the guide's Derived/Test/ToyasCard.lean, 'card_holds'). Laid BY PROGRAM, IN A SANDBOX (cutbox-door.mjs). By AI agents, Wed Nov 11 2026. No macro, syntax, notation, axiom, sorry.
-/
import Derived.Test.YtcdnhlplkhldbaaGreatDoorRows
import GoSem.ClaimSeven
namespace Go.Proofs.YtcdnhlplkhldbaaGreatDoor
namespace Rows

/-- THE TIED CARD OF 'wardmotelaw37.EnsembleOrders'. -/
def ensembleOrdersCard : Claim7 := { stood := { row := ensembleOrdersRow, standIns := [], harness := (true, "228e8797b81c337b7832faac8cd887a694439cc1d25013893de02ca969e6db06"), looks := true }, kinds := [], alts := [], laidByText := true, laidKinds := [.data, .data, .data, .pinned], laidTests := true, laidLooks := .later }
def EnsembleOrdersCardSaid : Prop := Claim7.holds Tryz.pinned (.plain (OpenSpec.ofChange ensembleOrdersSpec)) ensembleOrdersCard

/-- THE SECOND FORM's CARD OF 'wardmotelaw37.EnsembleOrders'. -/
def ensembleOrdersUptoCard : Claim7 := { stood := { row := ensembleOrdersUptoRow, standIns := [], harness := (true, "228e8797b81c337b7832faac8cd887a694439cc1d25013893de02ca969e6db06"), looks := true }, kinds := [], alts := [], laidByText := true, laidKinds := [.data, .data, .data, .pinned], laidTests := true, laidLooks := .later }
def EnsembleOrdersUptoCardSaid : Prop := Claim7.holds Tryz.pinned (.plain (OpenSpec.upto ensembleOrdersSpec)) ensembleOrdersUptoCard
end Rows
end Go.Proofs.YtcdnhlplkhldbaaGreatDoor

/-
  DERIVED. GIVEN WITH THE SEED: THE CARDS: each row of YtlmbepjdokomkaaGreatDoorRows.lean that lists a variable, with what it lists TIED to the program's text (the seventh form; the later family's looks); each row that meets fmt, with fmt's text TOLD by the authors' own Lean function (tested against real Go, not proved from fmt's source: count such statements apart). THE CARD IS WHAT COUNTS. Prove the row's statement (the work); the ties are given (YtlmbepjdokomkaaGreatDoorTie.lean); close each card by the builder's one call (the guide's Derived/Test/ToyasCard.lean, 'card_holds'). Laid BY PROGRAM, IN A SANDBOX (cutbox-door.mjs). By AI agents, Wed Nov 11 2026. No macro, syntax, notation, axiom, sorry.
-/
import Derived.Test.YtlmbepjdokomkaaGreatDoorRows
import GoSem.ClaimSeven
namespace Go.Proofs.YtlmbepjdokomkaaGreatDoor
namespace Rows

/-- THE TIED CARD OF 'wardmotelaw37.EnsembleKnown'. -/
def ensembleKnownCard : Claim7 := { stood := { row := ensembleKnownRow, standIns := [], harness := (true, "8fedb49b4f57e4313cd111cc48c3284b3e544a99b4f8387e9f0a67e8495debea"), looks := true }, kinds := [], alts := [], laidByText := true, laidKinds := [.data, .data, .data, .pinned], laidTests := true, laidLooks := .later }
def EnsembleKnownCardSaid : Prop := Claim7.holds Tryz.pinned (.plain (OpenSpec.ofChange ensembleKnownSpec)) ensembleKnownCard

/-- THE SECOND FORM's CARD OF 'wardmotelaw37.EnsembleKnown'. -/
def ensembleKnownUptoCard : Claim7 := { stood := { row := ensembleKnownUptoRow, standIns := [], harness := (true, "8fedb49b4f57e4313cd111cc48c3284b3e544a99b4f8387e9f0a67e8495debea"), looks := true }, kinds := [], alts := [], laidByText := true, laidKinds := [.data, .data, .data, .pinned], laidTests := true, laidLooks := .later }
def EnsembleKnownUptoCardSaid : Prop := Claim7.holds Tryz.pinned (.plain (OpenSpec.upto ensembleKnownSpec)) ensembleKnownUptoCard
end Rows
end Go.Proofs.YtlmbepjdokomkaaGreatDoor

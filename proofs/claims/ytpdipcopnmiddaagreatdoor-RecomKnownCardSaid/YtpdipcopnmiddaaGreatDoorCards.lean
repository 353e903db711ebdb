/-
  DERIVED. GIVEN WITH THE SEED: THE CARDS: each row of YtpdipcopnmiddaaGreatDoorRows.lean that lists a variable, with what it lists TIED to the program's text (the seventh form; the later family's looks); each row that meets fmt, with fmt's text TOLD by the authors' own Lean function (tested against real Go, not proved from fmt's source: count such statements apart). THE CARD IS WHAT COUNTS. Prove the row's statement (the work); the ties are given (YtpdipcopnmiddaaGreatDoorTie.lean); close each card by the builder's one call (the guide's Derived/Test/ToyasCard.lean, 'card_holds'). Laid BY PROGRAM, IN A SANDBOX (cutbox-door.mjs). By AI agents, Wed Nov 11 2026. No macro, syntax, notation, axiom, sorry.
-/
import Derived.Test.YtpdipcopnmiddaaGreatDoorRows
import GoSem.ClaimSeven
namespace Go.Proofs.YtpdipcopnmiddaaGreatDoor
namespace Rows

/-- THE TIED CARD OF 'wardmotelaw32.RecomKnown'. -/
def recomKnownCard : Claim7 := { stood := { row := recomKnownRow, standIns := [], harness := (true, "765b792bab03da50f919b883d2c4220705512e8f2831bb5f32c3933ed0512bd6"), looks := false }, kinds := [], alts := [], laidByText := true, laidKinds := [.data], laidTests := true, laidLooks := .later }
def RecomKnownCardSaid : Prop := Claim7.holds Tryz.pinned (.plain (OpenSpec.ofChange recomKnownSpec)) recomKnownCard

/-- THE SECOND FORM's CARD OF 'wardmotelaw32.RecomKnown'. -/
def recomKnownUptoCard : Claim7 := { stood := { row := recomKnownUptoRow, standIns := [], harness := (true, "765b792bab03da50f919b883d2c4220705512e8f2831bb5f32c3933ed0512bd6"), looks := false }, kinds := [], alts := [], laidByText := true, laidKinds := [.data], laidTests := true, laidLooks := .later }
def RecomKnownUptoCardSaid : Prop := Claim7.holds Tryz.pinned (.plain (OpenSpec.upto recomKnownSpec)) recomKnownUptoCard
end Rows
end Go.Proofs.YtpdipcopnmiddaaGreatDoor

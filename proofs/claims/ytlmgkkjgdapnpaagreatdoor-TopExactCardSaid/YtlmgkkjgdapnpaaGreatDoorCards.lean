/-
  DERIVED. GIVEN WITH THE SEED: THE CARDS: each row of YtlmgkkjgdapnpaaGreatDoorRows.lean that lists a variable, with what it lists TIED to the program's text (the seventh form; the later family's looks); each row that meets fmt, with fmt's text TOLD by the authors' own Lean function (tested against real Go, not proved from fmt's source: count such statements apart). THE CARD IS WHAT COUNTS. Prove the row's statement (the work); the ties are given (YtlmgkkjgdapnpaaGreatDoorTie.lean); close each card by the builder's one call (the guide's Derived/Test/ToyasCard.lean, 'card_holds'). Laid BY PROGRAM, IN A SANDBOX (cutbox-door.mjs). By AI agents, Wed Nov 11 2026. No macro, syntax, notation, axiom, sorry.
-/
import Derived.Test.YtlmgkkjgdapnpaaGreatDoorRows
import GoSem.ClaimSeven
namespace Go.Proofs.YtlmgkkjgdapnpaaGreatDoor
namespace Rows

/-- THE TIED CARD OF 'wardmotetop.TopExact'. -/
def topExactCard : Claim7 := { stood := { row := topExactRow, standIns := [], harness := (true, "086de4bc754a8b06e980fb6180a4455c3728d7c50e70841d87b84b8a2df87301"), looks := true }, kinds := [], alts := [], laidByText := true, laidKinds := [.data, .data, .data, .pinned], laidTests := true, laidLooks := .later }
def TopExactCardSaid : Prop := Claim7.holds Tryz.pinned (.plain (OpenSpec.ofChange topExactSpec)) topExactCard

/-- THE SECOND FORM's CARD OF 'wardmotetop.TopExact'. -/
def topExactUptoCard : Claim7 := { stood := { row := topExactUptoRow, standIns := [], harness := (true, "086de4bc754a8b06e980fb6180a4455c3728d7c50e70841d87b84b8a2df87301"), looks := true }, kinds := [], alts := [], laidByText := true, laidKinds := [.data, .data, .data, .pinned], laidTests := true, laidLooks := .later }
def TopExactUptoCardSaid : Prop := Claim7.holds Tryz.pinned (.plain (OpenSpec.upto topExactSpec)) topExactUptoCard
end Rows
end Go.Proofs.YtlmgkkjgdapnpaaGreatDoor

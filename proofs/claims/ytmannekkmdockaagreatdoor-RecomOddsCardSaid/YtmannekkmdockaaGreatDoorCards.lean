/-
  DERIVED. GIVEN WITH THE SEED: THE CARDS: each row of YtmannekkmdockaaGreatDoorRows.lean that lists a variable, with what it lists TIED to the program's text (the seventh form; the later family's looks); each row that meets fmt, with fmt's text TOLD by the authors' own Lean function (tested against real Go, not proved from fmt's source: count such statements apart). THE CARD IS WHAT COUNTS. Prove the row's statement (the work); the ties are given (YtmannekkmdockaaGreatDoorTie.lean); close each card by the builder's one call (the guide's Derived/Test/ToyasCard.lean, 'card_holds'). Laid BY PROGRAM, IN A SANDBOX (cutbox-door.mjs). By AI agents, Wed Nov 11 2026. No macro, syntax, notation, axiom, sorry.
-/
import Derived.Test.YtmannekkmdockaaGreatDoorRows
import GoSem.ClaimSeven
namespace Go.Proofs.YtmannekkmdockaaGreatDoor
namespace Rows

/-- THE TIED CARD OF 'wardmotelaw32.RecomOdds'. -/
def recomOddsCard : Claim7 := { stood := { row := recomOddsRow, standIns := [], harness := (true, "35a9207884f540d2c801eb13bce3493b5ae7cf7b1170880cd0022f19ffa927af"), looks := false }, kinds := [], alts := [], laidByText := true, laidKinds := [.data], laidTests := true, laidLooks := .later }
def RecomOddsCardSaid : Prop := Claim7.holds Tryz.pinned (.plain (OpenSpec.ofChange recomOddsSpec)) recomOddsCard

/-- THE TIED CARD OF 'wardmotelaw32.RecomGoes'. -/
def recomGoesCard : Claim7 := { stood := { row := recomGoesRow, standIns := [], harness := (true, "35a9207884f540d2c801eb13bce3493b5ae7cf7b1170880cd0022f19ffa927af"), looks := false }, kinds := [], alts := [], laidByText := true, laidKinds := [.data], laidTests := true, laidLooks := .later }
def RecomGoesCardSaid : Prop := Claim7.holds Tryz.pinned (.plain (OpenSpec.ofChange recomGoesSpec)) recomGoesCard

/-- THE TIED CARD OF 'wardmotelaw32.RecomFormula'. -/
def recomFormulaCard : Claim7 := { stood := { row := recomFormulaRow, standIns := [], harness := (true, "35a9207884f540d2c801eb13bce3493b5ae7cf7b1170880cd0022f19ffa927af"), looks := false }, kinds := [], alts := [], laidByText := true, laidKinds := [.data], laidTests := true, laidLooks := .later }
def RecomFormulaCardSaid : Prop := Claim7.holds Tryz.pinned (.plain (OpenSpec.ofChange recomFormulaSpec)) recomFormulaCard

/-- THE TIED CARD OF 'wardmotelaw32.RecomReversible'. -/
def recomReversibleCard : Claim7 := { stood := { row := recomReversibleRow, standIns := [], harness := (true, "35a9207884f540d2c801eb13bce3493b5ae7cf7b1170880cd0022f19ffa927af"), looks := false }, kinds := [], alts := [], laidByText := true, laidKinds := [.data], laidTests := true, laidLooks := .later }
def RecomReversibleCardSaid : Prop := Claim7.holds Tryz.pinned (.plain (OpenSpec.ofChange recomReversibleSpec)) recomReversibleCard

/-- THE SECOND FORM's CARD OF 'wardmotelaw32.RecomOdds'. -/
def recomOddsUptoCard : Claim7 := { stood := { row := recomOddsUptoRow, standIns := [], harness := (true, "35a9207884f540d2c801eb13bce3493b5ae7cf7b1170880cd0022f19ffa927af"), looks := false }, kinds := [], alts := [], laidByText := true, laidKinds := [.data], laidTests := true, laidLooks := .later }
def RecomOddsUptoCardSaid : Prop := Claim7.holds Tryz.pinned (.plain (OpenSpec.upto recomOddsSpec)) recomOddsUptoCard

/-- THE SECOND FORM's CARD OF 'wardmotelaw32.RecomGoes'. -/
def recomGoesUptoCard : Claim7 := { stood := { row := recomGoesUptoRow, standIns := [], harness := (true, "35a9207884f540d2c801eb13bce3493b5ae7cf7b1170880cd0022f19ffa927af"), looks := false }, kinds := [], alts := [], laidByText := true, laidKinds := [.data], laidTests := true, laidLooks := .later }
def RecomGoesUptoCardSaid : Prop := Claim7.holds Tryz.pinned (.plain (OpenSpec.upto recomGoesSpec)) recomGoesUptoCard

/-- THE SECOND FORM's CARD OF 'wardmotelaw32.RecomFormula'. -/
def recomFormulaUptoCard : Claim7 := { stood := { row := recomFormulaUptoRow, standIns := [], harness := (true, "35a9207884f540d2c801eb13bce3493b5ae7cf7b1170880cd0022f19ffa927af"), looks := false }, kinds := [], alts := [], laidByText := true, laidKinds := [.data], laidTests := true, laidLooks := .later }
def RecomFormulaUptoCardSaid : Prop := Claim7.holds Tryz.pinned (.plain (OpenSpec.upto recomFormulaSpec)) recomFormulaUptoCard

/-- THE SECOND FORM's CARD OF 'wardmotelaw32.RecomReversible'. -/
def recomReversibleUptoCard : Claim7 := { stood := { row := recomReversibleUptoRow, standIns := [], harness := (true, "35a9207884f540d2c801eb13bce3493b5ae7cf7b1170880cd0022f19ffa927af"), looks := false }, kinds := [], alts := [], laidByText := true, laidKinds := [.data], laidTests := true, laidLooks := .later }
def RecomReversibleUptoCardSaid : Prop := Claim7.holds Tryz.pinned (.plain (OpenSpec.upto recomReversibleSpec)) recomReversibleUptoCard
end Rows
end Go.Proofs.YtmannekkmdockaaGreatDoor

/-
  DERIVED. GIVEN WITH THE SEED: THE CARDS: each row of YtkcjbfoejpfbbaaGreatDoorRows.lean that lists a variable, with what it lists TIED to the program's text (the seventh form; the later family's looks); each row that meets fmt, with fmt's text TOLD by the authors' own Lean function (tested against real Go, not proved from fmt's source: count such statements apart). THE CARD IS WHAT COUNTS. Prove the row's statement (the work); the ties are given (YtkcjbfoejpfbbaaGreatDoorTie.lean); close each card by the builder's one call (the guide's Derived/Test/ToyasCard.lean, 'card_holds'). Laid BY PROGRAM, IN A SANDBOX (cutbox-door.mjs). By AI agents, Wed Nov 11 2026. No macro, syntax, notation, axiom, sorry.
-/
import Derived.Test.YtkcjbfoejpfbbaaGreatDoorRows
import GoSem.ClaimSeven
namespace Go.Proofs.YtkcjbfoejpfbbaaGreatDoor
namespace Rows

/-- THE TIED CARD OF 'wardmotelaw32.RecomChecks'. -/
def recomChecksCard : Claim7 := { stood := { row := recomChecksRow, standIns := [], harness := (true, "f62926286bec12e336df17def1f06c66bf4c443f4d8b505c65e328383a5e3781"), looks := false }, kinds := [], alts := [], laidByText := true, laidKinds := [.data], laidTests := true, laidLooks := .later }
def RecomChecksCardSaid : Prop := Claim7.holds Tryz.pinned (.plain (OpenSpec.ofChange recomChecksSpec)) recomChecksCard

/-- THE TIED CARD OF 'wardmotelaw32.RecomSteps'. -/
def recomStepsCard : Claim7 := { stood := { row := recomStepsRow, standIns := [], harness := (true, "f62926286bec12e336df17def1f06c66bf4c443f4d8b505c65e328383a5e3781"), looks := false }, kinds := [], alts := [], laidByText := true, laidKinds := [.data], laidTests := true, laidLooks := .later }
def RecomStepsCardSaid : Prop := Claim7.holds Tryz.pinned (.plain (OpenSpec.ofChange recomStepsSpec)) recomStepsCard

/-- THE TIED CARD OF 'wardmotelaw32.RecomOdds'. -/
def recomOddsCard : Claim7 := { stood := { row := recomOddsRow, standIns := [], harness := (true, "f62926286bec12e336df17def1f06c66bf4c443f4d8b505c65e328383a5e3781"), looks := false }, kinds := [], alts := [], laidByText := true, laidKinds := [.data], laidTests := true, laidLooks := .later }
def RecomOddsCardSaid : Prop := Claim7.holds Tryz.pinned (.plain (OpenSpec.ofChange recomOddsSpec)) recomOddsCard

/-- THE TIED CARD OF 'wardmotelaw32.RecomCuts'. -/
def recomCutsCard : Claim7 := { stood := { row := recomCutsRow, standIns := [], harness := (true, "f62926286bec12e336df17def1f06c66bf4c443f4d8b505c65e328383a5e3781"), looks := false }, kinds := [], alts := [], laidByText := true, laidKinds := [.data], laidTests := true, laidLooks := .later }
def RecomCutsCardSaid : Prop := Claim7.holds Tryz.pinned (.plain (OpenSpec.ofChange recomCutsSpec)) recomCutsCard

/-- THE SECOND FORM's CARD OF 'wardmotelaw32.RecomChecks'. -/
def recomChecksUptoCard : Claim7 := { stood := { row := recomChecksUptoRow, standIns := [], harness := (true, "f62926286bec12e336df17def1f06c66bf4c443f4d8b505c65e328383a5e3781"), looks := false }, kinds := [], alts := [], laidByText := true, laidKinds := [.data], laidTests := true, laidLooks := .later }
def RecomChecksUptoCardSaid : Prop := Claim7.holds Tryz.pinned (.plain (OpenSpec.upto recomChecksSpec)) recomChecksUptoCard

/-- THE SECOND FORM's CARD OF 'wardmotelaw32.RecomSteps'. -/
def recomStepsUptoCard : Claim7 := { stood := { row := recomStepsUptoRow, standIns := [], harness := (true, "f62926286bec12e336df17def1f06c66bf4c443f4d8b505c65e328383a5e3781"), looks := false }, kinds := [], alts := [], laidByText := true, laidKinds := [.data], laidTests := true, laidLooks := .later }
def RecomStepsUptoCardSaid : Prop := Claim7.holds Tryz.pinned (.plain (OpenSpec.upto recomStepsSpec)) recomStepsUptoCard

/-- THE SECOND FORM's CARD OF 'wardmotelaw32.RecomOdds'. -/
def recomOddsUptoCard : Claim7 := { stood := { row := recomOddsUptoRow, standIns := [], harness := (true, "f62926286bec12e336df17def1f06c66bf4c443f4d8b505c65e328383a5e3781"), looks := false }, kinds := [], alts := [], laidByText := true, laidKinds := [.data], laidTests := true, laidLooks := .later }
def RecomOddsUptoCardSaid : Prop := Claim7.holds Tryz.pinned (.plain (OpenSpec.upto recomOddsSpec)) recomOddsUptoCard

/-- THE SECOND FORM's CARD OF 'wardmotelaw32.RecomCuts'. -/
def recomCutsUptoCard : Claim7 := { stood := { row := recomCutsUptoRow, standIns := [], harness := (true, "f62926286bec12e336df17def1f06c66bf4c443f4d8b505c65e328383a5e3781"), looks := false }, kinds := [], alts := [], laidByText := true, laidKinds := [.data], laidTests := true, laidLooks := .later }
def RecomCutsUptoCardSaid : Prop := Claim7.holds Tryz.pinned (.plain (OpenSpec.upto recomCutsSpec)) recomCutsUptoCard
end Rows
end Go.Proofs.YtkcjbfoejpfbbaaGreatDoor

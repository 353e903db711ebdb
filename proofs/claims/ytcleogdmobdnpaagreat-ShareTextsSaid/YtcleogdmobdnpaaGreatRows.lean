/-
  No cell of these rows narrows 'for every input' (looked for: loops, veiled, ifaces, maps, wideKeys, modest, calm, conditions, laid).
  DERIVED. THE GIVEN ROWS OF THIS SEAT. 4 by the template 'for every input the law returns true; each argument reads behind the call as it read before'; 0 by the template 'total and deterministic' (their statements: YtcleogdmobdnpaaGreatTotals.lean).
  GIVEN WITH THE SEED: the statements are not yours to turn. If you find one false, say at which input.
  Laid BY PROGRAM, IN A SANDBOX (cutbox-rows.mjs): the forced cells as the released guide's own fill.sh prints them over the translation 41afd5d2a1498b7c… (all of the seat's roots in one cut). By AI agents, Wed Nov 11 2026. No macro, syntax, notation, axiom, sorry.
-/
import Derived.Test.YtcleogdmobdnpaaGreatChecked
import GoSem.Claim
import GoSem.ClaimJoined
import GoSem.ClaimMapViews
import Derived.JoinedTies
import Derived.KernelRfl
namespace Go.Proofs.YtcleogdmobdnpaaGreat
/- THE CELL 'sum', in the pinned program and in every row, IS THE sha256 OF THE DUMP (.gsa) THAT YtcleogdmobdnpaaGreatProg.lean LOADS. Nothing in Lean hashes anything: it is a label: what it is worth is what the hold of that sum in a sandbox is worth. -/
noncomputable def Tryz.pinned : Pinned := { name := "ytcleogdmobdnpaagreat", sum := "41afd5d2a1498b7c9c1eef566a93af98d563fdca38c8891d8e8c6f5ba4c18503", checked := Tryz.checked }
namespace Rows
def none {H : Type} : Left H := { results := [], args := [] }

/-- 'wardmotelaw02.ShareMakes': WHATEVER THE INPUT: true; the input reads as it did. -/
def shareMakesSpec : ChangeSpec := { name := "shareMakes", fn := fun _ => fun
  | [d1, d2, d3] => { results := [.lit (.bool true)], args := [d1, d2, d3] }
  | _ => none }
def shareMakesRow : OpenClaim := { program := "ytcleogdmobdnpaagreat", sum := "41afd5d2a1498b7c9c1eef566a93af98d563fdca38c8891d8e8c6f5ba4c18503", func := "wardmote/wardmotelaw02.ShareMakes", spec := "shareMakes", inPlace := ["math/bits.Sub64", "math/bits.Add64", "internal/abi.NoEscape", "internal/bytealg.IndexByteString", "internal/bytealg.IndexString"], unfollowed := true, recurses := true, named := ["math/bits.divideError", "math/bits.overflowError", "internal/bytealg.MaxLen"], apart := false }
def ShareMakesSaid : Prop := shareMakesRow.holds Tryz.pinned (OpenSpec.ofChange shareMakesSpec)

/-- ITS FALSE NEIGHBOUR: 'it returns false'. Refute it at one input. -/
def shareMakesWrong : ChangeSpec := { name := "shareMakes", fn := fun _ => fun
  | [d1, d2, d3] => { results := [.lit (.bool false)], args := [d1, d2, d3] }
  | _ => none }
def ShareMakesWrongFalsely : Prop := shareMakesRow.holds Tryz.pinned (OpenSpec.ofChange shareMakesWrong)

/-- 'wardmotelaw02.ShareTexts': WHATEVER THE INPUT: true; the input reads as it did. -/
def shareTextsSpec : ChangeSpec := { name := "shareTexts", fn := fun _ => fun
  | [d1, d2, d3, d4, d5] => { results := [.lit (.bool true)], args := [d1, d2, d3, d4, d5] }
  | _ => none }
def shareTextsRow : OpenClaim := { program := "ytcleogdmobdnpaagreat", sum := "41afd5d2a1498b7c9c1eef566a93af98d563fdca38c8891d8e8c6f5ba4c18503", func := "wardmote/wardmotelaw02.ShareTexts", spec := "shareTexts", inPlace := ["math/bits.Sub64", "math/bits.Add64", "internal/abi.NoEscape", "internal/bytealg.IndexByteString", "internal/bytealg.IndexString"], unfollowed := true, recurses := true, named := ["math/bits.divideError", "math/bits.overflowError", "internal/bytealg.MaxLen"], apart := false }
def ShareTextsSaid : Prop := shareTextsRow.holds Tryz.pinned (OpenSpec.ofChange shareTextsSpec)

/-- ITS FALSE NEIGHBOUR: 'it returns false'. Refute it at one input. -/
def shareTextsWrong : ChangeSpec := { name := "shareTexts", fn := fun _ => fun
  | [d1, d2, d3, d4, d5] => { results := [.lit (.bool false)], args := [d1, d2, d3, d4, d5] }
  | _ => none }
def ShareTextsWrongFalsely : Prop := shareTextsRow.holds Tryz.pinned (OpenSpec.ofChange shareTextsWrong)

/-- 'wardmotelaw02.ShareTells': WHATEVER THE INPUT: true; the input reads as it did. -/
def shareTellsSpec : ChangeSpec := { name := "shareTells", fn := fun _ => fun
  | [d] => { results := [.lit (.bool true)], args := [d] }
  | _ => none }
def shareTellsRow : OpenClaim := { program := "ytcleogdmobdnpaagreat", sum := "41afd5d2a1498b7c9c1eef566a93af98d563fdca38c8891d8e8c6f5ba4c18503", func := "wardmote/wardmotelaw02.ShareTells", spec := "shareTells", inPlace := ["math/bits.Sub64", "math/bits.Add64", "internal/abi.NoEscape", "internal/bytealg.IndexByteString", "internal/bytealg.IndexString"], unfollowed := true, recurses := true, named := ["math/bits.divideError", "math/bits.overflowError", "internal/bytealg.MaxLen"], apart := false }
def ShareTellsSaid : Prop := shareTellsRow.holds Tryz.pinned (OpenSpec.ofChange shareTellsSpec)

/-- ITS FALSE NEIGHBOUR: 'it returns false'. Refute it at one input. -/
def shareTellsWrong : ChangeSpec := { name := "shareTells", fn := fun _ => fun
  | [d] => { results := [.lit (.bool false)], args := [d] }
  | _ => none }
def ShareTellsWrongFalsely : Prop := shareTellsRow.holds Tryz.pinned (OpenSpec.ofChange shareTellsWrong)

/-- 'wardmotelaw02.ShareField': WHATEVER THE INPUT: true; the input reads as it did. -/
def shareFieldSpec : ChangeSpec := { name := "shareField", fn := fun _ => fun
  | [d1, d2, d3] => { results := [.lit (.bool true)], args := [d1, d2, d3] }
  | _ => none }
def shareFieldRow : OpenClaim := { program := "ytcleogdmobdnpaagreat", sum := "41afd5d2a1498b7c9c1eef566a93af98d563fdca38c8891d8e8c6f5ba4c18503", func := "wardmote/wardmotelaw02.ShareField", spec := "shareField", inPlace := ["math/bits.Sub64", "math/bits.Add64", "internal/abi.NoEscape", "internal/bytealg.IndexByteString", "internal/bytealg.IndexString"], unfollowed := true, recurses := true, named := ["math/bits.divideError", "math/bits.overflowError", "internal/bytealg.MaxLen"], apart := false }
def ShareFieldSaid : Prop := shareFieldRow.holds Tryz.pinned (OpenSpec.ofChange shareFieldSpec)

/-- ITS FALSE NEIGHBOUR: 'it returns false'. Refute it at one input. -/
def shareFieldWrong : ChangeSpec := { name := "shareField", fn := fun _ => fun
  | [d1, d2, d3] => { results := [.lit (.bool false)], args := [d1, d2, d3] }
  | _ => none }
def ShareFieldWrongFalsely : Prop := shareFieldRow.holds Tryz.pinned (OpenSpec.ofChange shareFieldWrong)

/- THE SECOND FORM. 'bulk': how many values and letters a reading holds, each counted each time it is reached (what is shared counts as often as it is met; a slice's spare places count too). A statement '..UptoSaid' is the law's where the arguments, and the package variables that the reading takes, are together of bulk at most 1048576: NARROWER than '..Said'. Prove '..Said' where nothing that the law and all that it calls make is longer than what came in: it says more and counts as full. Else prove '..UptoSaid'. A law counts once. -/
mutual
def uptoBulk {H : Type} : DataW H → Nat
  | .lit (.string bytes) => bytes.length + 1
  | .lit _ => 1
  | .nil => 1
  | .ptr d => uptoBulk d + 1
  | .slice elems spare => uptoBulkAll elems + uptoBulkAll spare + 1
  | .agg parts => uptoBulkAll parts + 1
  | .iface _ d => uptoBulk d + 1
  | .map entries => uptoBulkEntries entries + 1
  | .held _ => 1
def uptoBulkAll {H : Type} : List (DataW H) → Nat
  | [] => 0
  | d :: r => uptoBulk d + uptoBulkAll r
def uptoBulkEntries {H : Type} : List (Lit × DataW H) → Nat
  | [] => 0
  | x :: r => uptoBulkEntry x + uptoBulkEntries r
def uptoBulkEntry {H : Type} : Lit × DataW H → Nat
  | (.string bytes, d) => bytes.length + uptoBulk d + 1
  | (_, d) => uptoBulk d + 1
 end
def uptoSmall : (H : Type) → List (DataW H) → Bool := fun _ ds => decide (uptoBulkAll ds ≤ 1048576)
def OpenSpec.upto (s : _root_.Go.ChangeSpec) : _root_.Go.OpenSpec := { _root_.Go.OpenSpec.ofChange s with cond := some uptoSmall }

/-- 'wardmotelaw02.ShareMakes', WHERE WHAT IT READS IS OF BULK AT MOST 1048576: true; the input reads as it did. -/
def shareMakesUptoRow : OpenClaim := { program := "ytcleogdmobdnpaagreat", sum := "41afd5d2a1498b7c9c1eef566a93af98d563fdca38c8891d8e8c6f5ba4c18503", func := "wardmote/wardmotelaw02.ShareMakes", spec := "shareMakes", inPlace := ["math/bits.Sub64", "math/bits.Add64", "internal/abi.NoEscape", "internal/bytealg.IndexByteString", "internal/bytealg.IndexString"], unfollowed := true, recurses := true, named := ["math/bits.divideError", "math/bits.overflowError", "internal/bytealg.MaxLen"], apart := false, narrowed := true }
def ShareMakesUptoSaid : Prop := shareMakesUptoRow.holds Tryz.pinned (OpenSpec.upto shareMakesSpec)

/-- 'wardmotelaw02.ShareTexts', WHERE WHAT IT READS IS OF BULK AT MOST 1048576: true; the input reads as it did. -/
def shareTextsUptoRow : OpenClaim := { program := "ytcleogdmobdnpaagreat", sum := "41afd5d2a1498b7c9c1eef566a93af98d563fdca38c8891d8e8c6f5ba4c18503", func := "wardmote/wardmotelaw02.ShareTexts", spec := "shareTexts", inPlace := ["math/bits.Sub64", "math/bits.Add64", "internal/abi.NoEscape", "internal/bytealg.IndexByteString", "internal/bytealg.IndexString"], unfollowed := true, recurses := true, named := ["math/bits.divideError", "math/bits.overflowError", "internal/bytealg.MaxLen"], apart := false, narrowed := true }
def ShareTextsUptoSaid : Prop := shareTextsUptoRow.holds Tryz.pinned (OpenSpec.upto shareTextsSpec)

/-- 'wardmotelaw02.ShareTells', WHERE WHAT IT READS IS OF BULK AT MOST 1048576: true; the input reads as it did. -/
def shareTellsUptoRow : OpenClaim := { program := "ytcleogdmobdnpaagreat", sum := "41afd5d2a1498b7c9c1eef566a93af98d563fdca38c8891d8e8c6f5ba4c18503", func := "wardmote/wardmotelaw02.ShareTells", spec := "shareTells", inPlace := ["math/bits.Sub64", "math/bits.Add64", "internal/abi.NoEscape", "internal/bytealg.IndexByteString", "internal/bytealg.IndexString"], unfollowed := true, recurses := true, named := ["math/bits.divideError", "math/bits.overflowError", "internal/bytealg.MaxLen"], apart := false, narrowed := true }
def ShareTellsUptoSaid : Prop := shareTellsUptoRow.holds Tryz.pinned (OpenSpec.upto shareTellsSpec)

/-- 'wardmotelaw02.ShareField', WHERE WHAT IT READS IS OF BULK AT MOST 1048576: true; the input reads as it did. -/
def shareFieldUptoRow : OpenClaim := { program := "ytcleogdmobdnpaagreat", sum := "41afd5d2a1498b7c9c1eef566a93af98d563fdca38c8891d8e8c6f5ba4c18503", func := "wardmote/wardmotelaw02.ShareField", spec := "shareField", inPlace := ["math/bits.Sub64", "math/bits.Add64", "internal/abi.NoEscape", "internal/bytealg.IndexByteString", "internal/bytealg.IndexString"], unfollowed := true, recurses := true, named := ["math/bits.divideError", "math/bits.overflowError", "internal/bytealg.MaxLen"], apart := false, narrowed := true }
def ShareFieldUptoSaid : Prop := shareFieldUptoRow.holds Tryz.pinned (OpenSpec.upto shareFieldSpec)

end Rows
end Go.Proofs.YtcleogdmobdnpaaGreat

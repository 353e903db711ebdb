/- Arguments of laws as values: slices of numbers, and of pairs; a table that is laid. -/
import Derived.Test.YtpdipcopnmiddaaGreatDoorRxY
import Derived.WalkKit
import Derived.ProofKit
import Derived.OpenShut
import Derived.ShutString
import Derived.ChangeOld
import Derived.Below
import Derived.MakeChecks
import Derived.Deep.Slices
import Derived.Deep.Strs
namespace Go.OP
open Go.ChangeShapes Go.WideShapes Go.ChangeAt Go.RowKit Go.RX
theorem walk_of {P : Program} {f : FuncId} {args : List Value} {H : PH} {W : World} (h : Con P f args H fun v H' => v = .bool true /\ PH.le H H') (hW : H.In W) : Calls P f args.toArray W fun e W' => e = .returned (.bool true) /\ Below W.heap.size W W' :=
 (h W hW).mono fun _ _ ⟨_,_,he,hs,hv,hl⟩ => ⟨by rw [he,hv],hs.toExt hW hl⟩
section
variable {Hh : Type} {enc : TypeId × Value -> Hh} {W : World} {base : Nat} {spare : Nat -> Bool} {held : Bool} {fuel : Nat} {P : Program}
end
end Go.OP
namespace Go.OP
open Go.ChangeShapes Go.WideShapes Go.ChangeAt Go.RowKit Go.RX
theorem ints_of_trod {H : Type} {enc : TypeId × Value -> H} {P : Program} {W : World} {base : Nat} {sp : Nat -> Bool} {held : Bool} {fuel n : Nat} {t e : TypeId} {k : IntKind} {cs : List Value} {vals : List Int} {q : List MemPlace}
  (hu : P.underlying t = some (.array n e)) (he : P.underlying e = some (.int k)) (hc : P.cellsOf e = 1) (hct : P.cellsOf t = n) (h : DataW.trod enc P W base sp held fuel t cs = some (.agg (vals.map fun n => .lit (.int k n)),q)) : cs = vals.map fun n => .int k n := by
 obtain ⟨xs,m,_,hx,hl,hxl,hi⟩ := DataW.trod_array hu h
 rw [hct] at hl
 rw [hc] at hi
 have hx := congrArg Prod.fst hx
 simp only [DataW.agg.injEq] at hx
 have hvl : vals.length = n := by have := congrArg List.length hx; simp only [List.length_map] at this; omega
 apply List.ext_getElem?
 intro i
 by_cases h1 : i < n
 ·have h2 := hi i h1
  rw [Nat.mul_one] at h2
  have hxi : i < xs.length := by omega
  rw [List.getElem?_eq_getElem hxi] at h2
  obtain ⟨z,h3,h4,_⟩ := DataW.trod_int he h2
  have h5 := congrArg (fun l : List Value => l[0]?) h3
  simp only [List.getElem?_take,List.getElem?_drop,Nat.add_zero,List.getElem?_cons_zero] at h5
  have h6 := congrArg (fun l : List (DataW H) => l[i]?) hx
  simp only [List.getElem?_map,List.getElem?_eq_getElem hxi,Option.map_some,h4] at h6
  have hvi : i < vals.length := by omega
  rw [List.getElem?_eq_getElem hvi] at h6
  simp only [Option.map_some,Option.some.injEq,DataW.lit.injEq,Lit.int.injEq,true_and] at h6
  rw [List.getElem?_map,List.getElem?_eq_getElem hvi,Option.map_some,h6]
  simpa using h5
 ·rw [List.getElem?_eq_none (by omega),List.getElem?_eq_none (by simp; omega)]
end Go.OP


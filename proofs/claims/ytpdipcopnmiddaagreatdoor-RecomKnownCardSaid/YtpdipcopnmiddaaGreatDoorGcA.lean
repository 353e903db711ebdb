/- Chapter 32: trees. -/
import Derived.Test.YtpdipcopnmiddaaGreatDoorGaD
import Derived.Test.YtpdipcopnmiddaaGreatDoorGsC
import Derived.Test.YtpdipcopnmiddaaGreatDoorGmT
import Derived.Test.YtpdipcopnmiddaaGreatDoorGtT
namespace Go.GS
end Go.GS
namespace Go.Proofs.YtpdipcopnmiddaaGreatDoor
open Go.RowKit Go.RX Go.GS
section
variable {H H0 : PH} {u v w wts : Value} {p : List Nat} {wl : List Int} {n : Nat} {es : List (Nat × Nat)} {lo hi ds : Int} {set x : Nat} {f : Nat -> Nat} {e : Nat × Nat}
theorem det_thas (hs : set < M64) (h1 : e.1 <= 64) (h2 : e.2 <= 64) : Asks Tryz.prog 46 [uv set,ev2 e] H (.bool (bit set e.1 && bit set e.2)) := by
 refine con_of_tree mixed tr_thas np_thas rfl ?_
 refine den_rq (el_edge.vcells e) ?_
 refine den_rq ⟨_,rfl⟩ ?_
 refine den_rq ⟨_,_,rfl⟩ ?_
 refine den_rq (by show (0 : Int) <= ((e.1 : Nat) : Int); omega) ?_
 refine den_br (b := bit set e.1) (D_bit rfl hs rfl h1) (fun b1 => ?_) (fun b1 => ?_)
 ·skip
  refine den_rq ⟨_,_,rfl⟩ ?_
  refine den_rq (by show (0 : Int) <= ((e.2 : Nat) : Int); omega) ?_
  exact den_ret rfl ⟨rfl,by rw [b1]; exact (D_bit rfl hs rfl h2)⟩
 ·skip
  exact den_ret rfl ⟨rfl,by rw [b1]; rfl⟩
end
end Go.Proofs.YtpdipcopnmiddaaGreatDoor


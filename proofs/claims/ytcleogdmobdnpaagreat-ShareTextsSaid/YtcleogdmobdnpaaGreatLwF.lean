/- Arguments of the laws as values. -/
import Derived.Test.YtcleogdmobdnpaaGreatLwA
import Derived.WalkKit
import Derived.ProofKit
import Derived.OpenShut
import Derived.ShutString
import Derived.ChangeOld
import Derived.Below
namespace Go.WD
open Go.RX
/-! ### Any eight words are those of a number -/
def numF (f : Nat → Nat) : Nat → Nat
  | 0 => 0
  | k + 1 => numF f k + f k * PW k
theorem numF_lt (f : Nat → Nat) : ∀ k, (∀ i, i < k → f i < 18446744073709551616) → numF f k < PW k
  | 0, _ => by rw [PW_zero]; exact Nat.zero_lt_one
  | k + 1, h => by
    have h1 := numF_lt f k (fun i hi => h i (by omega))
    have h2 := Nat.mul_le_mul_right (PW k) (show f k + 1 ≤ 18446744073709551616 from h k (by omega))
    rw [numF, PW_succ, Nat.mul_comm (PW k)]
    rw [Nat.add_mul, Nat.one_mul] at h2
    omega
theorem dig_numF (f : Nat → Nat) : ∀ k, (∀ i, i < k → f i < 18446744073709551616) → ∀ i, i < k → dig (numF f k) i = f i
  | 0, _, i, hi => by omega
  | k + 1, h, i, hi => by
    have h1 := numF_lt f k (fun i hi => h i (by omega))
    rcases Nat.lt_or_eq_of_le (Nat.le_of_lt_succ hi) with hlt | rfl
    · rw [← dig_numF f k (fun i hi => h i (by omega)) i hlt]
      refine dig_congr (k := k) ?_ hlt
      rw [numF, Nat.add_mul_mod_self_right]
    · unfold dig
      rw [numF, Nat.add_mul_div_right _ _ (PW_pos i), Nat.div_eq_of_lt h1, Nat.zero_add, Nat.mod_eq_of_lt (h i (by omega))]
theorem exists_words (f : Nat → Nat) (h : ∀ i, i < 8 → f i < 18446744073709551616) : ∃ a, wf f = words a :=
  ⟨numF f 8, wf_words fun i hi => (dig_numF f 8 h i hi).symm⟩
end Go.WD
namespace Go.Proofs.YtcleogdmobdnpaaGreat
open Go.ChangeShapes Go.WideShapes Go.ChangeAt Go.RowKit Go.RX Go.WD
open Go.ChangeMaps (open_string shut_string)

theorem walk_of {P : Program} {f : FuncId} {args : List Value} {H : PH} {W : World} (h : Con P f args H fun v H' => v = .bool true ∧ PH.le H H') (hW : H.In W) : Calls P f args.toArray W fun e W' => e = .returned (.bool true) ∧ Below W.heap.size W W' :=
  (h W hW).mono fun _ _ ⟨_, _, he, hs, hv, hl⟩ => ⟨by rw [he, hv], hs.toExt hW hl⟩
theorem own : ownKnob Tryz.prog.godebug = none := by kernel_rfl
theorem laidOut : laidOutB Tryz.prog = true := by kernel_rfl
theorem okWide_array {P : Program} {w : World} {r : Reach} {base : Nat} {t e : TypeId} {n : Nat} {v : Value} (ht : P.underlying t = some (.array n e)) (h : Value.okWide P w r base t v) : ∃ cs, v = .agg cs ∧ cs.size = P.cellsOf t := by
  simp only [Value.okWide, ht] at h
  obtain ⟨cs, h1, h2, _⟩ := h
  exact ⟨cs, h1, h2⟩
theorem wf_u64 {n : Int} (h : (Lit.int .u64 n).wf = true) : 0 ≤ n ∧ n < 18446744073709551616 := by
  have := bounds_u64 h
  omega
/-- Eight words that are read are those of a number. -/
theorem words_of_cells {cs : List Value} (h8 : cs.length = 8) (h : ∀ i, i < 8 → ∃ n : Int, (cs.drop i).take 1 = [.int .u64 n] ∧ (Lit.int .u64 n).wf = true) : ∃ a, cs.toArray = words a := by
  match cs, h8 with
  | [c0, c1, c2, c3, c4, c5, c6, c7], _ =>
    have key : ∀ i (hi : i < 8), ∃ m : Nat, [c0, c1, c2, c3, c4, c5, c6, c7][i]? = some (.int .u64 m) ∧ m < 18446744073709551616 := fun i hi => by
      obtain ⟨n, hn, hw⟩ := h i hi
      obtain ⟨b0, b1⟩ := wf_u64 hw
      refine ⟨n.toNat, ?_, by omega⟩
      have : ([c0, c1, c2, c3, c4, c5, c6, c7].drop i)[0]? = some (.int .u64 n) := by
        have := congrArg (fun l : List Value => l[0]?) hn
        simpa [List.getElem?_take] using this
      rw [List.getElem?_drop, Nat.add_zero] at this
      rw [this, show ((n.toNat : Nat) : Int) = n from by omega]
    obtain ⟨f, hf⟩ : ∃ f : Nat → Nat, ∀ i, i < 8 → [c0, c1, c2, c3, c4, c5, c6, c7][i]? = some (.int .u64 (f i)) ∧ f i < 18446744073709551616 :=
      ⟨fun i => match [c0, c1, c2, c3, c4, c5, c6, c7][i]? with | some (.int _ n) => n.toNat | _ => 0, fun i hi => by
        obtain ⟨m, hm, hlt⟩ := key i hi
        simp only [hm, Int.toNat_natCast]
        exact ⟨trivial, hlt⟩⟩
    obtain ⟨a, ha⟩ := exists_words f (fun i hi => (hf i hi).2)
    refine ⟨a, ?_⟩
    rw [← ha]
    have g0 := (hf 0 (by omega)).1
    have g1 := (hf 1 (by omega)).1
    have g2 := (hf 2 (by omega)).1
    have g3 := (hf 3 (by omega)).1
    have g4 := (hf 4 (by omega)).1
    have g5 := (hf 5 (by omega)).1
    have g6 := (hf 6 (by omega)).1
    have g7 := (hf 7 (by omega)).1
    simp only [List.getElem?_cons_zero, List.getElem?_cons_succ, Option.some.injEq] at g0 g1 g2 g3 g4 g5 g6 g7
    rw [g0, g1, g2, g3, g4, g5, g6, g7]
    rfl
section
variable {H : Type} {enc : TypeId × Value → H} {W : World} {base : Nat} {spare : Nat → Bool} {held : Bool} {fuel : Nat}
theorem trod_wide {cs : List Value} {x : DataW H × List MemPlace} (h : DataW.trod enc Tryz.prog W base spare held fuel 24 cs = some x) : (∃ a, cs.toArray = words a) ∧ x.2 = [] := by
  have hu : Tryz.prog.underlying 24 = some (.array 8 22) := by kernel_rfl
  have he : Tryz.prog.underlying 22 = some (.int .u64) := by kernel_rfl
  have hc : Tryz.prog.cellsOf 22 = 1 := by kernel_rfl
  have hc8 : Tryz.prog.cellsOf 24 = 8 := by kernel_rfl
  obtain ⟨xs, m, rfl, rfl, hl, hx, hi⟩ := DataW.trod_array hu h
  rw [hc] at hi
  have hone : ∀ i, i < 8 → ∃ n : Int, (cs.drop i).take 1 = [.int .u64 n] ∧ xs[i]? = some (.lit (.int .u64 n), []) ∧ (Lit.int .u64 n).wf = true := fun i hi8 => by
    have h1 := hi i hi8
    rw [Nat.mul_one] at h1
    have hlt : i < xs.length := by omega
    rw [List.getElem?_eq_getElem hlt] at h1
    obtain ⟨n, h2, h3, h4⟩ := DataW.trod_int he h1
    exact ⟨n, h2, by rw [List.getElem?_eq_getElem hlt, h3], h4⟩
  refine ⟨words_of_cells (by rw [hl, hc8]) (fun i hi8 => let ⟨n, h1, _, h3⟩ := hone i hi8; ⟨n, h1, h3⟩), ?_⟩
  show xs.flatMap (·.2) = []
  rw [List.flatMap_eq_nil_iff]
  intro y hy
  obtain ⟨i, hi2⟩ := List.getElem?_of_mem hy
  have hlt : i < 8 := by have := (List.getElem?_eq_some_iff.1 hi2).1; omega
  obtain ⟨n, _, h2, _⟩ := hone i hlt
  rw [hi2] at h2
  rw [Option.some.inj h2]
set_option maxRecDepth 100000 in
theorem open_wide {r : Reach} {b0 : Nat} {v : Value} {d : DataW H} {p : List MemPlace} (hv : Value.okWide Tryz.prog W r b0 24 v) (h : DataW.Trod enc Tryz.prog W base spare held 24 v d p) : ∃ a, v = wd a := by
  obtain ⟨cs, rfl, _⟩ := okWide_array (n := 8) (e := 22) (by kernel_rfl) hv
  obtain ⟨m, hm⟩ := h
  obtain ⟨⟨a, ha⟩, _⟩ := trod_wide hm
  refine ⟨a, ?_⟩
  simp only [Value.cells, Array.toArray_toList] at ha
  rw [ha]; rfl
end
end Go.Proofs.YtcleogdmobdnpaaGreat

/- The reference of chapter 02: Ten, Text. -/
import Derived.Test.YtcleogdmobdnpacGreatRDoorSrT
import Derived.Test.YtcleogdmobdnpacGreatRDoorRnT
import Derived.Test.YtcleogdmobdnpacGreatRDoorRfK
import Derived.Test.YtcleogdmobdnpacGreatRDoorShD
import Derived.Test.YtcleogdmobdnpacGreatRDoorSrD
import Derived.Lib.IndexLaws
namespace Go.Proofs.YtcleogdmobdnpacGreatRDoor
open Go.RowKit Go.RX Go.WD

section
variable {H : PH} {x : Value}
set_option maxRecDepth 100000 in
theorem con_rRaisedB (n : Nat) (B : Int) (hn : n ≤ 600) (hx : Lg H x B) (hp : ∀ k, k ≤ n → Lm (B ^ k)) (hB : Lm B) : Con Tryz.prog 83 [x, .int .i64 (n : Nat)] H fun u H' => PH.le H H' ∧ Lg H' u (B ^ n) := by
  have r1 := hx.rq
  have hx' := hx
  obtain ⟨wx, rfl, nx⟩ := hx
  refine con_of_tree mixed tr_rRaised np_rRaised rfl (den_rq r1 (den_call (con_rLong1 1 (by omega) (by omega)) rfl ?_))
  rintro u H1 ⟨hl1, hu⟩
  refine ⟨fun h => (nomatch h), den_rq hu.rq ⟨fun vals H' => ∃ (i : Nat) (o : Value), vals = [iv i, o] ∧ i ≤ n ∧ PH.le H H' ∧ Lg H' o (B ^ i), fun vals _ => (n - intOf (vals.getD 0 undef)).toNat, ⟨0, u, rfl, by omega, hl1, by rw [Int.pow_zero]; exact hu⟩, ?_⟩⟩
  rintro vals H' - ⟨i, o, rfl, hi, hle, ho⟩
  simp only [List.cons_append, List.nil_append]
  have ho' := ho
  obtain ⟨wo, rfl, no⟩ := ho
  refine den_rq ⟨_, rfl⟩ (den_rq ⟨_, rfl⟩ (den_br (b := decide ((i : Int) < n)) rfl (fun h => ?_) (fun h => ?_)))
  · have h : i < n := by have := of_decide_eq_true h; omega
    have e1 : IntKind.i64.wrap ((i : Int) + 1) = ((i + 1 : Nat) : Int) := wadd1 (by omega)
    refine den_call (con_rTimes ho' (hx'.mono hle) (hp i hi) hB) rfl ?_
    rintro u2 H2 ⟨hl2, hu2⟩
    rw [← Int.pow_succ] at hu2
    refine ⟨fun h => (nomatch h), den_rq hu2.rq ⟨⟨i + 1, u2, ?_, by omega, hle.trans hl2, hu2⟩, ?_⟩⟩
    · simp only [rxs, iv, e1]
    · simp only [rxs, iv, e1]
      omega
  · have h : i = n := by have := of_decide_eq_false h; omega
    subst h
    exact den_ret rfl ⟨hle, wo, rfl, no⟩
theorem dz_two {m K : Nat} (h : m < 2 ^ K) : (dz m).length ≤ K + 1 := by
  refine dz_len m K (Nat.lt_of_lt_of_le h ?_)
  exact Nat.le_trans (Nat.pow_le_pow_left (by omega) K) (Nat.pow_le_pow_right (by omega) (by omega))
end
end Go.Proofs.YtcleogdmobdnpacGreatRDoor
namespace Go.WD
open Go.RX
/-- Where a slash is first. -/
theorem cut_at {l : List UInt8} {i : Nat} (hi : i ≤ l.length) (hno : ∀ j, j < i → l[j]? ≠ some 47) (h : ¬ (i < l.length ∧ l[i]? ≠ some 47)) :
    cutB l = decide (i < l.length) ∧ cutA l = l.take i ∧ (i < l.length → cutU l = l.drop (i + 1)) := by
  have hg := Go.Lib.indexByte_ge l 47
  by_cases h1 : i < l.length
  · have h2 : l[i]? = some 47 := Classical.byContradiction fun e => h ⟨h1, e⟩
    obtain ⟨o, ho⟩ : ∃ o : Nat, Go.Lib.indexByte l 47 = o := by
      rcases Int.lt_or_le (Go.Lib.indexByte l 47) 0 with h3 | h3
      · exact absurd h2 (Go.Lib.indexByte_none (show Go.Lib.indexByte l 47 = -1 by omega) i)
      · exact ⟨(Go.Lib.indexByte l 47).toNat, by omega⟩
    obtain ⟨s1, s2⟩ := Go.Lib.indexByte_some ho
    have : o = i := by
      rcases Nat.lt_trichotomy o i with h3 | h3 | h3
      · exact absurd s1 (hno o h3)
      · exact h3
      · exact absurd h2 (s2 i h3)
    subst this
    unfold cutB cutA cutU
    rw [ho, if_neg (by omega), Int.toNat_natCast, if_neg (by omega)]
    refine ⟨?_, rfl, fun _ => rfl⟩
    rw [decide_eq_true (show (0 : Int) ≤ (o : Int) by omega), decide_eq_true h1]
  · have h2 : Go.Lib.indexByte l 47 < 0 := by
      rcases Int.lt_or_le (Go.Lib.indexByte l 47) 0 with h3 | h3
      · exact h3
      · obtain ⟨o, ho⟩ : ∃ o : Nat, Go.Lib.indexByte l 47 = o := ⟨(Go.Lib.indexByte l 47).toNat, by omega⟩
        obtain ⟨s1, _⟩ := Go.Lib.indexByte_some ho
        have := (List.getElem?_eq_some_iff.1 s1).1
        exact absurd s1 (hno o (by omega))
    unfold cutB cutA
    rw [if_pos h2, decide_eq_false (by omega), decide_eq_false h1, List.take_of_length_le (by omega)]
    exact ⟨rfl, rfl, fun h => absurd h h1⟩
theorem get47 {l : List UInt8} {i : Nat} (h : i < l.length) : (((l.getD i 0).toNat : Int) != 47) = decide (i < l.length ∧ l[i]? ≠ some 47) := by
  rw [List.getD_eq_getElem?_getD, List.getElem?_eq_getElem h, Option.getD_some, Bool.eq_iff_iff, bne_iff_ne, decide_eq_true_iff]
  have h47 : (47 : UInt8).toNat = 47 := rfl
  constructor
  · intro e; refine ⟨h, fun e2 => e ?_⟩
    have := Option.some.inj e2
    rw [this]; rfl
  · intro e e2
    refine e.2 ?_
    congr 1
    apply UInt8.toNat_inj.1
    omega
end Go.WD
namespace Go.Proofs.YtcleogdmobdnpacGreatRDoor
open Go.RowKit Go.RX Go.WD
section
variable {H : PH} {x : Value}
theorem pad_dr (m N : Nat) : pad (m + 1) (dr N) = pad (m + 1) (dzn N) := by
  unfold dzn
  by_cases h : N = 0
  · subst h
    rw [if_pos rfl, dr_small (show 0 < 10 by omega), pad_nil (by omega)]
    exact pad_snoc (m + 1) [] _
  · rw [if_neg h]
theorem pad_zero {m : Nat} {s : List UInt8} (h : s.length < m) : pad m (48 :: s) = pad m s := by
  unfold pad
  rw [List.length_cons, show m - s.length = m - (s.length + 1) + 1 from by omega, List.replicate_succ', List.append_assoc]
  rfl
theorem pad_long {m : Nat} {s : List UInt8} (h : m ≤ s.length) : pad m s = s := by
  unfold pad
  rw [show m - s.length = 0 from by omega]; rfl
end
end Go.Proofs.YtcleogdmobdnpacGreatRDoor

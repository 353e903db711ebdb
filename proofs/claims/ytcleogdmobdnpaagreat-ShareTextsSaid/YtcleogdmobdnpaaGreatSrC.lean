/- The reference of chapter 02: Ten, Text. -/
import Derived.Test.YtcleogdmobdnpaaGreatSrA
import Derived.Test.YtcleogdmobdnpaaGreatRfN
import Derived.Test.YtcleogdmobdnpaaGreatRfK
import Derived.Test.YtcleogdmobdnpaaGreatShD
import Derived.Test.YtcleogdmobdnpaaGreatSrD
import Derived.Lib.IndexLaws
namespace Go.Proofs.YtcleogdmobdnpaaGreat
open Go.RowKit Go.RX Go.WD

section
variable {H : PH} {x : Value}
set_option maxRecDepth 100000 in
theorem con_rRaisedB (n : Nat) (B : Int) (hn : n ≤ 600) (hx : Lg H x B) (hp : ∀ k, k ≤ n → Lm (B ^ k)) (hB : Lm B) : Con Tryz.prog 133 [x, .int .i64 (n : Nat)] H fun u H' => PH.le H H' ∧ Lg H' u (B ^ n) := by
  have r1 := hx.rq
  have hx' := hx
  obtain ⟨wx, rfl, nx⟩ := hx
  refine con_of_tree mixed tr_rRaised np_rRaised rfl (den_rq r1 (den_call (con_rLong1 1 (by omega) (by omega)) rfl ?_))
  rintro u H1 ⟨hl1, hu⟩
  refine ⟨fun h => (nomatch h), den_rq hu.rq ⟨fun vals H' => ∃ (i : Nat) (o : Value), vals = [iv i, o] ∧ i ≤ n ∧ PH.le H H' ∧ Lg H' o (B ^ i), fun vals _ => (n - intOf (vals.getD 0 undef)).toNat, ⟨0, u, rfl, by omega, hl1, by rw [Int.pow_zero]; exact hu⟩, ?_⟩⟩
  rintro vals H' - ⟨i, o, rfl, hi, hle, ho⟩
  simp only [List.cons_append, List.nil_append]
  have ho' := ho
  obtain ⟨wo, rfl, no⟩ := ho
  refine den_rq ⟨_, rfl⟩ (den_rq ⟨_, rfl⟩ (den_br (b := decide ((i : Int) < n)) rfl (fun h => ?_) (fun h => ?_)))
  · have h : i < n := by have := of_decide_eq_true h; omega
    have e1 : IntKind.i64.wrap ((i : Int) + 1) = ((i + 1 : Nat) : Int) := wadd1 (by omega)
    refine den_call (con_rTimes ho' (hx'.mono hle) (hp i hi) hB) rfl ?_
    rintro u2 H2 ⟨hl2, hu2⟩
    rw [← Int.pow_succ] at hu2
    refine ⟨fun h => (nomatch h), den_rq hu2.rq ⟨⟨i + 1, u2, ?_, by omega, hle.trans hl2, hu2⟩, ?_⟩⟩
    · simp only [rxs, iv, e1]
    · simp only [rxs, iv, e1]
      omega
  · have h : i = n := by have := of_decide_eq_false h; omega
    subst h
    exact den_ret rfl ⟨hle, wo, rfl, no⟩
set_option maxRecDepth 100000 in
theorem con_qTen (P : Nat) (hP : P ≤ 20) : Con Tryz.prog 76 [.int .i64 (P : Nat)] H fun u H' => PH.le H H' ∧ Lg H' u ((10 : Int) ^ P) := by
  have hpow : ∀ k, k ≤ P → Lm ((10 : Int) ^ k) := fun k hk => Lm.two (k := 70) (by rw [Int.natAbs_pow]; exact ten20 (by omega)) (by omega)
  refine con_of_tree mixed tr_qTen np_qTen rfl (den_call (con_rLong1 10 (by omega) (by omega)) rfl ?_)
  rintro u1 H1 ⟨l1, h1⟩
  simp only [List.cons_append, List.nil_append]
  refine ⟨fun h => (nomatch h), den_call (con_rRaisedB P 10 (by omega) h1 hpow (Lm.two (k := 70) (by decide) (by omega))) rfl ?_⟩
  rintro u2 H2 ⟨l2, h2⟩
  have r2 := h2.rq
  obtain ⟨w2, rfl, n2⟩ := h2
  exact ⟨fun h => (nomatch h), den_rq r2 (den_ret rfl ⟨l1.trans l2, w2, rfl, n2⟩)⟩
theorem dz_two {m K : Nat} (h : m < 2 ^ K) : (dz m).length ≤ K + 1 := by
  refine dz_len m K (Nat.lt_of_lt_of_le h ?_)
  exact Nat.le_trans (Nat.pow_le_pow_left (by omega) K) (Nat.pow_le_pow_right (by omega) (by omega))
set_option maxRecDepth 100000 in
theorem con_qText (n d : Nat) : Con Tryz.prog 15 [shv n d] H fun u H' => PH.le H H' ∧ u = textV n d := by
  obtain ⟨K, hK⟩ : ∃ K, K = 512 := ⟨_, rfl⟩
  refine con_of_tree mixed tr_qText np_qText rfl (den_rq (shv_one n d) (den_call (con_qRight n d) rfl ?_))
  rintro u1 H1 ⟨l1, rfl⟩
  simp only [List.cons_append, List.nil_append]
  unfold textV
  refine ⟨fun h => (nomatch h), den_rq ⟨_, rfl⟩ (den_br (b := !okB n d) rfl (fun h => ?_) (fun h => ?_))⟩
  · rw [not_t h, if_neg (by simp)]
    exact den_ret rfl ⟨l1, rfl⟩
  · have h := not_f h
    rw [h, if_pos rfl]
    obtain ⟨e1, e2⟩ := ok_rat h
    have hr := ok_rb h hK
    have t1 := txt_len (toI_fits n)
    have t2 := txt_len (toI_fits d)
    rw [← e1] at t1
    rw [← e2] at t2
    have m1 : Lm (ratOf n d).num := Lm.two hr.1 (by omega)
    have m2 : Lm ((ratOf n d).den : Int) := Lm.two (dabs hr.2) (by omega)
    have z1 : (dz (ratOf n d).num.natAbs).length ≤ 9000000000000000000 := Nat.le_trans (dz_two hr.1) (by omega)
    have z2 : (dz ((ratOf n d).den : Int).natAbs).length ≤ 9000000000000000000 := Nat.le_trans (dz_two (by rw [Int.natAbs_natCast]; exact hr.2)) (by omega)
    refine den_call (con_qInR h) rfl ?_
    rintro u2 H2 ⟨l2, h2⟩
    have r2 := h2.rq
    obtain ⟨w1, w2, rfl, g1, g2⟩ := h2.out
    simp only [List.cons_append, List.nil_append]
    refine ⟨fun h => (nomatch h), den_rq r2 (den_call (con_qone g2) rfl ?_)⟩
    rintro u3 H3 ⟨l3, rfl⟩
    simp only [List.cons_append, List.nil_append]
    refine ⟨fun h => (nomatch h), den_rq ⟨_, rfl⟩ (den_br rfl (fun h1 => ?_) (fun h1 => ?_))⟩
    · have h1 : (ratOf n d).den = 1 := by have := of_decide_eq_true h1; omega
      refine den_call (con_rDigits (g1.mono l3) m1 z1) rfl ?_
      rintro u4 H4 ⟨l4, rfl⟩
      refine ⟨fun h => (nomatch h), den_ret rfl ⟨l1.trans (l2.trans (l3.trans l4)), ?_⟩⟩
      unfold txtR
      rw [if_pos h1]; rfl
    · have h1 : ¬ (ratOf n d).den = 1 := by have := of_decide_eq_false h1; omega
      refine den_call (con_rDigits (g1.mono l3) m1 z1) rfl ?_
      rintro u4 H4 ⟨l4, rfl⟩
      simp only [List.cons_append, List.nil_append]
      refine ⟨fun _ => l4, den_prim ((st_add (l := txt (ratOf n d).num) (m := [47]) (vs := [st (txt (ratOf n d).num), st [47]]) op_qText_6_3 rfl rfl (by simp; omega)).rds _) rfl (den_call (con_rDigits (g2.mono (l3.trans l4)) m2 z2) rfl ?_)⟩
      rintro u5 H5 ⟨l5, rfl⟩
      simp only [List.cons_append, List.nil_append]
      refine ⟨fun _ => l5, den_prim ((st_add (l := txt (ratOf n d).num ++ [47]) (m := txt ((ratOf n d).den : Int)) (vs := [st (txt (ratOf n d).num ++ [47]), st (txt ((ratOf n d).den : Int))]) op_qText_6_7 rfl rfl (by simp; omega)).rds _) rfl (den_ret rfl ⟨l1.trans (l2.trans (l3.trans (l4.trans l5))), ?_⟩)⟩
      unfold txtR
      rw [if_neg h1, show txt (ratOf n d).num ++ 47 :: txt ((ratOf n d).den : Int) = txt (ratOf n d).num ++ [47] ++ txt ((ratOf n d).den : Int) from by rw [List.append_assoc]; rfl]
      rfl
end
end Go.Proofs.YtcleogdmobdnpaaGreat
namespace Go.WD
open Go.RX
/-- Where a slash is first. -/
theorem cut_at {l : List UInt8} {i : Nat} (hi : i ≤ l.length) (hno : ∀ j, j < i → l[j]? ≠ some 47) (h : ¬ (i < l.length ∧ l[i]? ≠ some 47)) :
    cutB l = decide (i < l.length) ∧ cutA l = l.take i ∧ (i < l.length → cutU l = l.drop (i + 1)) := by
  have hg := Go.Lib.indexByte_ge l 47
  by_cases h1 : i < l.length
  · have h2 : l[i]? = some 47 := Classical.byContradiction fun e => h ⟨h1, e⟩
    obtain ⟨o, ho⟩ : ∃ o : Nat, Go.Lib.indexByte l 47 = o := by
      rcases Int.lt_or_le (Go.Lib.indexByte l 47) 0 with h3 | h3
      · exact absurd h2 (Go.Lib.indexByte_none (show Go.Lib.indexByte l 47 = -1 by omega) i)
      · exact ⟨(Go.Lib.indexByte l 47).toNat, by omega⟩
    obtain ⟨s1, s2⟩ := Go.Lib.indexByte_some ho
    have : o = i := by
      rcases Nat.lt_trichotomy o i with h3 | h3 | h3
      · exact absurd s1 (hno o h3)
      · exact h3
      · exact absurd h2 (s2 i h3)
    subst this
    unfold cutB cutA cutU
    rw [ho, if_neg (by omega), Int.toNat_natCast, if_neg (by omega)]
    refine ⟨?_, rfl, fun _ => rfl⟩
    rw [decide_eq_true (show (0 : Int) ≤ (o : Int) by omega), decide_eq_true h1]
  · have h2 : Go.Lib.indexByte l 47 < 0 := by
      rcases Int.lt_or_le (Go.Lib.indexByte l 47) 0 with h3 | h3
      · exact h3
      · obtain ⟨o, ho⟩ : ∃ o : Nat, Go.Lib.indexByte l 47 = o := ⟨(Go.Lib.indexByte l 47).toNat, by omega⟩
        obtain ⟨s1, _⟩ := Go.Lib.indexByte_some ho
        have := (List.getElem?_eq_some_iff.1 s1).1
        exact absurd s1 (hno o (by omega))
    unfold cutB cutA
    rw [if_pos h2, decide_eq_false (by omega), decide_eq_false h1, List.take_of_length_le (by omega)]
    exact ⟨rfl, rfl, fun h => absurd h h1⟩
theorem get47 {l : List UInt8} {i : Nat} (h : i < l.length) : (((l.getD i 0).toNat : Int) != 47) = decide (i < l.length ∧ l[i]? ≠ some 47) := by
  rw [List.getD_eq_getElem?_getD, List.getElem?_eq_getElem h, Option.getD_some, Bool.eq_iff_iff, bne_iff_ne, decide_eq_true_iff]
  have h47 : (47 : UInt8).toNat = 47 := rfl
  constructor
  · intro e; refine ⟨h, fun e2 => e ?_⟩
    have := Option.some.inj e2
    rw [this]; rfl
  · intro e e2
    refine e.2 ?_
    congr 1
    apply UInt8.toNat_inj.1
    omega
end Go.WD
namespace Go.Proofs.YtcleogdmobdnpaaGreat
open Go.RowKit Go.RX Go.WD
section
variable {H : PH} {x : Value}
set_option maxRecDepth 100000 in
set_option maxHeartbeats 1000000 in
theorem con_qParse (l : List UInt8) (hl : l.length < 9000000000000000000) : Con Tryz.prog 18 [st l] H fun u H' => PH.le H H' ∧ u = parS l := by
  have lA := cutA_len l
  have lU := undr_len l
  refine con_of_tree mixed tr_qParse np_qParse rfl ⟨fun vals H' => ∃ i : Nat, vals = [iv i] ∧ i ≤ l.length ∧ H' = H ∧ ∀ j, j < i → l[j]? ≠ some 47, fun vals _ => (l.length - intOf (vals.getD 0 undef)).toNat, ⟨0, rfl, by omega, rfl, by omega⟩, ?_⟩
  rintro vals H0 - ⟨i, rfl, hi, hH0, hno⟩
  subst hH0
  simp only [List.cons_append, List.nil_append]
  refine ⟨fun vals H' => vals = [.bool (decide (i < l.length ∧ l[i]? ≠ some 47))] ∧ H' = H0, den_prim ((st_len (l := l) (vs := [st l]) op_qParse_2_2 rfl uStr).rds _) rfl (den_rq ⟨_, rfl⟩ (den_rq ⟨_, rfl⟩ (den_br (b := decide ((i : Int) < l.length)) rfl (fun h => ?_) (fun h => ?_)))), ?_⟩
  · have h : i < l.length := by have := of_decide_eq_true h; omega
    refine den_prim ((st_index (l := l) (k := .i64) (i := i) (vs := [st l, .int .i64 (i : Nat)]) op_qParse_2_7 rfl rfl uStr h).rds _) rfl (den_rq ⟨_, rfl⟩ ⟨?_, rfl⟩)
    show [Value.bool (((l.getD i 0).toNat : Int) != 47)] = _
    rw [get47 h]
  · have h : ¬ i < l.length := by have := of_decide_eq_false h; omega
    refine ⟨?_, rfl⟩
    show [Value.bool false] = _
    rw [decide_eq_false (fun e => h e.1)]
  rintro vals H1 - ⟨rfl, rfl⟩
  simp only [List.cons_append, List.nil_append]
  refine den_rq ⟨_, rfl⟩ (den_br rfl (fun h => ?_) (fun h => ?_))
  · have h := of_decide_eq_true h
    have e1 : IntKind.i64.wrap ((i : Int) + 1) = ((i + 1 : Nat) : Int) := wadd1 (by omega)
    refine den_rq ⟨_, rfl⟩ ⟨⟨i + 1, ?_, by omega, rfl, fun j hj => ?_⟩, ?_⟩
    · simp only [rxs, iv, e1]
    · rcases Nat.lt_or_ge j i with h2 | h2
      · exact hno j h2
      · rw [show j = i from by omega]; exact h.2
    · simp only [rxs, iv, e1]
      omega
  have h := of_decide_eq_false h
  obtain ⟨cB, cA, cU⟩ := cut_at hi hno h
  refine den_prim ((st_take (l := l) (k := .i64) (i := i) (vs := [st l, .int .i64 (i : Nat)]) op_qParse_4_2 rfl rfl uStr hi).rds _) rfl (den_prim ((st_len (l := l) (vs := [st l]) op_qParse_5_2 rfl uStr).rds _) rfl (den_rq ⟨_, rfl⟩ (den_rq ⟨_, rfl⟩ ⟨fun vals H' => vals = [st (undr l)] ∧ H' = H1, den_br (b := decide ((i : Int) < l.length)) rfl (fun h => ?_) (fun h => ?_), ?_⟩)))
  · have h : i < l.length := by have := of_decide_eq_true h; omega
    have e1 : IntKind.i64.wrap ((i : Int) + 1) = ((i + 1 : Nat) : Int) := wadd1 (by omega)
    refine den_prim ((st_drop (l := l) (k := .i64) (i := i + 1) (vs := [st l, .int .i64 ((i + 1 : Nat) : Int)]) op_qParse_6_3 rfl rfl uStr (by omega)).rds _) (by simp only [rxs, iv, e1]) ⟨?_, rfl⟩
    show [st (l.drop (i + 1))] = _
    unfold undr
    rw [cB, decide_eq_true h, if_pos rfl, cU h]
  · have h : ¬ i < l.length := by have := of_decide_eq_false h; omega
    refine ⟨?_, rfl⟩
    show [st [49]] = _
    unfold undr
    rw [cB, decide_eq_false h, if_neg (by simp)]
  rintro vals H2 - ⟨rfl, rfl⟩
  rw [← cA]
  simp only [List.cons_append, List.nil_append]
  unfold parS
  rw [cB]
  generalize cutA l = a at lA
  generalize undr l = u at lU
  have hune : rightB u = true → 0 < u.length := fun ru => by
    rcases Nat.eq_zero_or_pos u.length with e | e
    · obtain rfl : u = [] := List.eq_nil_of_length_eq_zero e
      cases ru
    · exact e
  refine ⟨fun vals H' => vals = [.bool (!(rightB a && rightB u && !(ng u || u == [48])))] ∧ PH.le H2 H', den_det (det_rRight a (by omega)) rfl (den_rq ⟨_, rfl⟩ (den_br (b := !rightB a) rfl (fun h => ?_) (fun h => den_det (det_rRight u (by omega)) rfl (den_rq ⟨_, rfl⟩ (den_br (b := !rightB u) rfl (fun h2 => ?_) (fun h2 => ?_)))))), ?_⟩
  · exact ⟨by rw [not_t h]; rfl, PH.le.refl _⟩
  · exact ⟨by rw [not_t h2, Bool.and_false]; rfl, PH.le.refl _⟩
  · have h2 := not_f h2
    rw [not_f h, h2, Bool.and_true, Bool.true_and, Bool.not_not]
    refine den_prim ((st_index (l := u) (k := .i64) (i := 0) (vs := [st u, .int .i64 0]) op_qParse_7_10 rfl rfl uStr (hune h2)).rds _) rfl (den_rq ⟨_, rfl⟩ (den_br (b := (((u.getD 0 0).toNat : Int) == 45)) rfl (fun h => ?_) (fun h => ?_)))
    · have h : ng u = true := by
        have := beq_iff_eq.1 h
        unfold ng
        rw [u8_eq, decide_eq_true_iff]
        have h45 : (45 : UInt8).toNat = 45 := rfl
        omega
      exact ⟨by rw [h]; rfl, PH.le.refl _⟩
    · have h : ng u = false := by
        have := beq_eq_false_iff_ne.1 h
        unfold ng
        rw [u8_eq, decide_eq_false_iff_not]
        have h45 : (45 : UInt8).toNat = 45 := rfl
        omega
      exact den_prim ((st_eq (l := u) (m := [48]) (vs := [st u, st [48]]) op_qParse_7_15 rfl rfl uStr gStr).rds _) rfl ⟨by rw [h]; rfl, PH.le.refl _⟩
  rintro vals H3 - ⟨rfl, l3⟩
  simp only [List.cons_append, List.nil_append]
  refine den_rq ⟨_, rfl⟩ (den_br rfl (fun h => ?_) (fun h => ?_))
  · rw [not_t h, if_neg (by simp)]
    exact den_ret (congrArg (fun z => Value.tuple #[z, .int .i64 5]) z_share) ⟨l3, rfl⟩
  have h := not_f h
  rw [h, if_pos rfl]
  rw [Bool.and_eq_true, Bool.and_eq_true] at h
  refine den_call (con_rParse a (by omega)) rfl ?_
  rintro u4 H4 ⟨l4, rfl⟩
  have pa : parseV a = told (numL a) := by unfold parseV; rw [if_pos h.1.1]
  have pu : parseV u = told (numL u) := by unfold parseV; rw [if_pos h.1.2]
  have l34 := l3.trans l4
  rw [pa]
  by_cases fa : -(HM : Int) ≤ numL a ∧ numL a < HM
  · rw [told_fits fa]
    simp only [List.cons_append, List.nil_append]
    refine ⟨fun h => (nomatch h), den_rq ⟨_, rfl, Nat.zero_lt_succ _⟩ (den_rq ⟨_, rfl, Nat.lt_succ_self _⟩ (den_rq ⟨words_size _, words_one _⟩ (den_call (con_rParse u (by omega)) rfl ?_)))⟩
    rintro u5 H5 ⟨l5, rfl⟩
    rw [pu]
    by_cases fu : -(HM : Int) ≤ numL u ∧ numL u < HM
    · rw [told_fits fu, if_pos ⟨fa, fu⟩]
      simp only [List.cons_append, List.nil_append]
      refine ⟨fun h => (nomatch h), den_rq ⟨_, rfl, Nat.zero_lt_succ _⟩ (den_rq ⟨_, rfl, Nat.lt_succ_self _⟩ (den_rq ⟨words_size _, words_one _⟩ ⟨fun vals H' => vals = [.bool false] ∧ H' = H5, den_rq ⟨_, rfl⟩ (den_false rfl (den_rq ⟨_, rfl⟩ ⟨rfl, rfl⟩)), ?_⟩))⟩
      rintro vals H6 - ⟨rfl, rfl⟩
      simp only [List.cons_append, List.nil_append]
      refine den_rq ⟨_, rfl⟩ (den_false rfl ⟨fun vals H' => vals = [.bool (!(okB (rs (numL a)) (rs (numL u)) && !(decide (i < l.length) && u == [49])))] ∧ PH.le H6 H', den_call (con_qRight (rs (numL a)) (rs (numL u))) rfl ?_, ?_⟩)
      · rintro u7 H7 ⟨l7, rfl⟩
        simp only [List.cons_append, List.nil_append]
        refine ⟨fun h => (nomatch h), den_rq ⟨_, rfl⟩ (den_br (b := !okB (rs (numL a)) (rs (numL u))) rfl (fun ho => ?_) (fun ho => ?_))⟩
        · exact ⟨by rw [not_t ho]; rfl, l7⟩
        · rw [not_f ho, Bool.true_and, Bool.not_not]
          refine den_prim ((st_len (l := l) (vs := [st l]) op_qParse_14_6 rfl uStr).rds _) rfl (den_rq ⟨_, rfl⟩ (den_br (b := decide ((i : Int) < l.length)) rfl (fun hc => ?_) (fun hc => ?_)))
          · have hc : i < l.length := by have := of_decide_eq_true hc; omega
            rw [decide_eq_true hc, Bool.true_and]
            exact den_prim ((st_eq (l := u) (m := [49]) (vs := [st u, st [49]]) op_qParse_14_10 rfl rfl uStr gStr).rds _) rfl ⟨rfl, l7⟩
          · have hc : ¬ i < l.length := by have := of_decide_eq_false hc; omega
            rw [decide_eq_false hc, Bool.false_and]
            exact ⟨rfl, l7⟩
      rintro vals H8 - ⟨rfl, l8⟩
      simp only [List.cons_append, List.nil_append]
      have l8' := l34.trans (l5.trans l8)
      refine den_rq ⟨_, rfl⟩ (den_br rfl (fun ho => ?_) (fun ho => ?_))
      · rw [not_t ho, if_neg (by simp)]
        exact den_ret (congrArg (fun z => Value.tuple #[z, .int .i64 5]) z_share) ⟨l8', rfl⟩
      · rw [not_f ho, if_pos rfl]
        exact den_ret rfl ⟨l8', rfl⟩
    · rw [told_big fu, if_neg (fun hh => fu hh.2)]
      simp only [List.cons_append, List.nil_append]
      refine ⟨fun h => (nomatch h), den_rq ⟨_, rfl, Nat.zero_lt_succ _⟩ (den_rq ⟨_, rfl, Nat.lt_succ_self _⟩ (den_rq ⟨words_size _, words_one _⟩ ⟨fun vals H' => vals = [.bool true] ∧ H' = H5, den_rq ⟨_, rfl⟩ (den_false rfl (den_rq ⟨_, rfl⟩ ⟨rfl, rfl⟩)), ?_⟩))⟩
      rintro vals H6 - ⟨rfl, rfl⟩
      exact den_rq ⟨_, rfl⟩ (den_true rfl (den_ret (congrArg (fun z => Value.tuple #[z, .int .i64 6]) z_share) ⟨l34.trans l5, rfl⟩))
  · rw [told_big fa, if_neg (fun hh => fa hh.1)]
    simp only [List.cons_append, List.nil_append]
    refine ⟨fun h => (nomatch h), den_rq ⟨_, rfl, Nat.zero_lt_succ _⟩ (den_rq ⟨_, rfl, Nat.lt_succ_self _⟩ (den_rq ⟨words_size _, words_one _⟩ (den_call (con_rParse u (by omega)) rfl ?_)))⟩
    rintro u5 H5 ⟨l5, rfl⟩
    rw [pu]
    obtain ⟨m, e, ht⟩ := told_form (numL u)
    rw [ht]
    simp only [List.cons_append, List.nil_append]
    refine ⟨fun h => (nomatch h), den_rq ⟨_, rfl, Nat.zero_lt_succ _⟩ (den_rq ⟨_, rfl, Nat.lt_succ_self _⟩ (den_rq ⟨words_size _, words_one _⟩ ⟨fun vals H' => vals = [.bool true] ∧ H' = H5, den_rq ⟨_, rfl⟩ (den_true rfl ⟨rfl, rfl⟩), ?_⟩))⟩
    rintro vals H6 - ⟨rfl, rfl⟩
    exact den_rq ⟨_, rfl⟩ (den_true rfl (den_ret (congrArg (fun z => Value.tuple #[z, .int .i64 6]) z_share) ⟨l34.trans l5, rfl⟩))
theorem pad_dr (m N : Nat) : pad (m + 1) (dr N) = pad (m + 1) (dzn N) := by
  unfold dzn
  by_cases h : N = 0
  · subst h
    rw [if_pos rfl, dr_small (show 0 < 10 by omega), pad_nil (by omega)]
    exact pad_snoc (m + 1) [] _
  · rw [if_neg h]
theorem pad_zero {m : Nat} {s : List UInt8} (h : s.length < m) : pad m (48 :: s) = pad m s := by
  unfold pad
  rw [List.length_cons, show m - s.length = m - (s.length + 1) + 1 from by omega, List.replicate_succ', List.append_assoc]
  rfl
theorem pad_long {m : Nat} {s : List UInt8} (h : m ≤ s.length) : pad m s = s := by
  unfold pad
  rw [show m - s.length = 0 from by omega]; rfl
set_option maxRecDepth 100000 in
set_option maxHeartbeats 1000000 in
theorem con_qDecimal (n d : Nat) (p : Int) : Con Tryz.prog 20 [shv n d, .int .i64 p] H fun u H' => PH.le H H' ∧ u = decV n d p := by
  obtain ⟨K, hK⟩ : ∃ K, K = 512 := ⟨_, rfl⟩
  refine con_of_tree mixed tr_qDecimal np_qDecimal rfl (den_rq (shv_one n d) (den_call (con_qRight n d) rfl ?_))
  rintro u2 H2 ⟨l2, rfl⟩
  unfold decV
  simp only [List.cons_append, List.nil_append]
  refine ⟨fun h => (nomatch h), den_rq ⟨_, rfl⟩ (den_br (b := !okB n d) rfl (fun h => ?_) (fun h => ?_))⟩
  · rw [not_t h, if_neg (by simp)]
    exact den_ret rfl ⟨l2, rfl⟩
  have hok := not_f h
  rw [hok, if_pos rfl]
  refine ⟨fun vals H' => vals = [.bool (decide (p < 0 ∨ p > 20))] ∧ H' = H2, den_rq ⟨_, rfl⟩ (den_br (b := decide (p < 0)) rfl (fun h => ?_) (fun h => ?_)), ?_⟩
  · have h := of_decide_eq_true h
    exact ⟨by rw [decide_eq_true (show p < 0 ∨ p > 20 from .inl h)]; rfl, rfl⟩
  · have h := of_decide_eq_false h
    refine ⟨?_, rfl⟩
    show [Value.bool (decide (p > 20))] = _
    congr 2
    rw [decide_eq_decide]; omega
  rintro vals H3 - ⟨rfl, rfl⟩
  simp only [List.cons_append, List.nil_append]
  refine den_rq ⟨_, rfl⟩ (den_br rfl (fun h => ?_) (fun h => ?_))
  · rw [if_pos (of_decide_eq_true h)]
    exact den_ret rfl ⟨l2, rfl⟩
  have h := of_decide_eq_false h
  rw [if_neg h]
  obtain ⟨P, rfl⟩ : ∃ P : Nat, p = (P : Int) := ⟨p.toNat, by omega⟩
  have hP : P ≤ 20 := by omega
  rw [Int.toNat_natCast]
  have hz := decZ_abs hok hP hK
  have hr := ok_rb hok hK
  refine den_call (con_qInR hok) rfl ?_
  rintro u3 H4 ⟨l4, hu3⟩
  simp only [List.cons_append, List.nil_append]
  refine ⟨fun h => (nomatch h), den_call (con_qTen P hP) rfl ?_⟩
  rintro u4 H5 ⟨l5, hu4⟩
  simp only [List.cons_append, List.nil_append]
  refine ⟨fun h => (nomatch h), den_call (con_rLong1 1 (by omega) (by omega)) rfl ?_⟩
  rintro u5 H6 ⟨l6, hu5⟩
  have r4 := hu4.rq
  have r5 := hu5.rq
  have hu4 := hu4.mono l6
  obtain ⟨w4, rfl, n4⟩ := hu4
  obtain ⟨w5, rfl, n5⟩ := hu5
  have hten : Rr H6 (.agg #[.bool (decide ((10 : Int) ^ P < 0)), w4, .bool false, w5]) (((10 : Int) ^ P : Int) : Rat) := by
    refine ⟨w4, w5, ?_, ?_, ?_⟩
    · rw [Rat.num_intCast]
    · rw [Rat.num_intCast]; exact n4
    · rw [Rat.den_intCast]; exact n5
  simp only [List.cons_append, List.nil_append]
  refine ⟨fun h => (nomatch h), den_rq r4 (den_rq r5 (den_call (con_qTimes (hu3.mono (l5.trans l6)) hten hr (rb_ten hP) (by omega)) ?_ ?_))⟩
  · show [u3, Value.agg (spl ((#[Value.bool (decide ((10 : Int) ^ P < 0)), w4] : Array Value) ++ (zeroV Tryz.prog 85).cells) 2 [.bool (decide ((1 : Int) < 0)), w5])] = _
    rw [z_rlong]; rfl
  rintro u7 H8 ⟨l8, hu7⟩
  simp only [List.cons_append, List.nil_append]
  refine ⟨fun h => (nomatch h), den_call (con_qNearest hu7 (hr.mul (rb_ten hP) (Nat.le_refl _)) (by omega)) rfl ?_⟩
  rintro u8 H9 ⟨l9, hu8⟩
  have hu8 : Lg H9 u8 (decZ n d P) := hu8
  generalize decZ n d P = z at hz hu8
  have r8 := hu8.rq
  obtain ⟨w8, rfl, n8⟩ := hu8
  have g1 := n8.one
  have hN : Lg H9 (.agg #[.bool false, w8]) (z.natAbs : Int) := Lg.den n8
  have hlm : Lm ((z.natAbs : Nat) : Int) := Lm.two (k := K + 73) (by rw [Int.natAbs_natCast]; exact hz) (by omega)
  have hdz : (dz ((z.natAbs : Nat) : Int).natAbs).length ≤ 9000000000000000000 := Nat.le_trans (dz_two (by rw [Int.natAbs_natCast]; exact hz)) (by omega)
  simp only [List.cons_append, List.nil_append]
  refine ⟨fun h => (nomatch h), den_rq r8 (den_rq (r := .cells 1 _) ⟨g1.2.1, g1.2.2⟩ (den_call (con_rDigits hN hlm hdz) ?_ ?_))⟩
  · show [Value.agg ((zeroV Tryz.prog 4).cells ++ w8.cells)] = _
    rw [g1.1]; rfl
  rintro u9 H10 ⟨l10, rfl⟩
  have htx : txt ((z.natAbs : Nat) : Int) = dr z.natAbs := by rw [txt_dr, if_neg (by omega), Int.natAbs_natCast]
  rw [htx]
  have lall := l2.trans (l4.trans (l5.trans (l6.trans (l8.trans (l9.trans l10)))))
  obtain ⟨T, hT⟩ : ∃ T, T = pad (P + 1) (dzn z.natAbs) := ⟨_, rfl⟩
  have hTl : T.length ≤ 1000 := by
    rw [hT, pad_len]
    have := dzn_len z.natAbs (K + 72) (Nat.lt_of_lt_of_le hz (Nat.pow_le_pow_left (by omega) _))
    omega
  have hTp : P < T.length := by rw [hT, pad_len]; omega
  simp only [List.cons_append, List.nil_append]
  refine ⟨fun h => (nomatch h), fun vals H' => ∃ o : List UInt8, vals = [st o] ∧ H' = H10 ∧ pad (P + 1) o = T, fun vals _ => P + 1 - slL (vals.getD 0 undef), ⟨dr z.natAbs, rfl, rfl, by rw [hT, pad_dr]⟩, ?_⟩
  rintro vals H11 - ⟨o, rfl, rfl, ho⟩
  have hol : o.length ≤ T.length := by rw [← ho, pad_len]; omega
  simp only [List.cons_append, List.nil_append]
  refine den_prim ((st_len (l := o) (vs := [st o]) op_qDecimal_7_1 rfl uStr).rds _) rfl (den_rq ⟨_, rfl⟩ (den_rq ⟨_, rfl⟩ (den_br (b := decide ((o.length : Int) ≤ (P : Int))) rfl (fun h => ?_) (fun h => ?_))))
  · have h : o.length ≤ P := by have := of_decide_eq_true h; omega
    refine den_prim ((st_add (l := [48]) (m := o) (vs := [st [48], st o]) op_qDecimal_8_1 rfl rfl (by simp only [List.length_singleton]; omega)).rds _) rfl ⟨⟨_, rfl, rfl, ?_⟩, ?_⟩
    · rw [← ho]; exact pad_zero (s := o) (by omega)
    · show P + 1 - slL (st _) < P + 1 - slL (st o)
      rw [slL_st, slL_st, List.length_append, List.length_singleton]
      omega
  have h : P + 1 ≤ o.length := by have := of_decide_eq_false h; omega
  rw [pad_long h] at ho
  subst ho
  have e1 : IntKind.i64.wrap ((o.length : Int) - (P : Int)) = ((o.length - P : Nat) : Int) := wsub (by omega) (by omega)
  obtain ⟨sg, hsg⟩ : ∃ sg : List UInt8, sg = if z < 0 then [45] else [] := ⟨_, rfl⟩
  obtain ⟨body, hbody⟩ : ∃ body : List UInt8, body = if P = 0 then o else o.take (o.length - P) ++ [46] ++ o.drop (o.length - P) := ⟨_, rfl⟩
  have hbl : body.length ≤ 2000 := by
    rw [hbody]; split
    · omega
    · simp; omega
  have hdec : decL z P = sg ++ body := by
    unfold decL
    rw [hbody, ← hsg]
    by_cases hP0 : P = 0
    · subst hP0
      rw [if_pos rfl, if_pos rfl, hT]
    · rw [if_neg hP0, if_neg hP0, ← hT]; simp
  rw [hdec]
  refine den_prim ((st_len (l := o) (vs := [st o]) op_qDecimal_9_1 rfl uStr).rds _) rfl (den_rq ⟨_, rfl⟩ (den_prim ((st_take (l := o) (k := .i64) (i := o.length - P) (vs := [st o, .int .i64 ((o.length - P : Nat) : Int)]) op_qDecimal_10_2 rfl rfl uStr (by omega)).rds _) (by simp only [List.cons_append, List.nil_append, rxs, e1]) ⟨fun vals H' => vals = [st body] ∧ H' = H11, den_br (b := decide ((P : Int) > 0)) rfl (fun h0 => ?_) (fun h0 => ?_), ?_⟩))
  · have h0 : ¬ P = 0 := by have := of_decide_eq_true h0; omega
    rw [if_neg h0] at hbody
    simp only [List.cons_append, List.nil_append]
    refine den_prim ((st_add (l := o.take (o.length - P)) (m := [46]) (vs := [st (o.take (o.length - P)), st [46]]) op_qDecimal_12_1 rfl rfl (by simp; omega)).rds _) rfl (den_prim ((st_drop (l := o) (k := .i64) (i := o.length - P) (vs := [st o, .int .i64 ((o.length - P : Nat) : Int)]) op_qDecimal_12_4 rfl rfl uStr (by omega)).rds _) (by simp only [List.cons_append, List.nil_append, rxs, e1]) ?_)
    simp only [List.cons_append, List.nil_append]
    exact den_prim ((st_add (l := o.take (o.length - P) ++ [46]) (m := o.drop (o.length - P)) (vs := [st (o.take (o.length - P) ++ [46]), st (o.drop (o.length - P))]) op_qDecimal_12_5 rfl rfl (by simp; omega)).rds _) rfl ⟨by rw [hbody]; rfl, rfl⟩
  · have h0 : P = 0 := by have := of_decide_eq_false h0; omega
    rw [if_pos h0] at hbody
    refine ⟨?_, rfl⟩
    rw [hbody, h0]
    show [st (o.take (o.length - 0))] = _
    rw [Nat.sub_zero, List.take_length]
  rintro vals H12 - ⟨rfl, rfl⟩
  simp only [List.cons_append, List.nil_append]
  refine ⟨fun vals H' => vals = [st (sg ++ body)] ∧ H' = H12, den_rq ⟨_, rfl⟩ (den_br (b := decide (z < 0)) rfl (fun h0 => ?_) (fun h0 => ?_)), ?_⟩
  · have h0 := of_decide_eq_true h0
    rw [if_pos h0] at hsg
    exact den_prim ((st_add (l := [45]) (m := body) (vs := [st [45], st body]) op_qDecimal_14_1 rfl rfl (by simp only [List.length_singleton]; omega)).rds _) rfl ⟨by rw [hsg]; rfl, rfl⟩
  · have h0 := of_decide_eq_false h0
    rw [if_neg h0] at hsg
    refine ⟨?_, rfl⟩
    rw [hsg]; rfl
  rintro vals H13 - ⟨rfl, rfl⟩
  exact den_ret rfl ⟨lall, rfl⟩
end
end Go.Proofs.YtcleogdmobdnpaaGreat

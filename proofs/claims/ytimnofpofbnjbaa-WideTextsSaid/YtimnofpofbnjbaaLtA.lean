/- The law WideTexts of chapter 01: the walk. -/
import Derived.Test.YtimnofpofbnjbaaLpA
import Derived.Test.YtimnofpofbnjbaaRfN
namespace Go.Proofs.Ytimnofpofbnjbaa
open Go.RowKit Go.RX Go.WD

theorem z_str4 : zeroV Try.prog 37 = .agg #[st [], st [], st [], st []] := by kernel_rfl
def tx4 (a b c d : List UInt8) (j : Nat) : List UInt8 := if j = 0 then a else if j = 1 then b else if j = 2 then c else d
theorem str4 (a b c d : List UInt8) {j : Nat} (h : j < 4) : (spl (spl (spl (spl (zeroV Try.prog 37).cells (0 + 0 * ixOf undef) [st a]) (1 + 0 * ixOf undef) [st b]) (2 + 0 * ixOf undef) [st c]) (3 + 0 * ixOf undef) [st d]).getD (0 + 1 * ixOf (iv j)) undef = st (tx4 a b c d j) := by
  rw [z_str4]
  have : j = 0 ∨ j = 1 ∨ j = 2 ∨ j = 3 := by omega
  rcases this with rfl | rfl | rfl | rfl <;> rfl
theorem parse_two (l : List UInt8) : ∃ (n : Nat) (e : Int), parseV l = .tuple #[wd n, .int .i64 e] := by
  unfold parseV
  split
  · exact told_int _
  · exact ⟨0, 5, rfl⟩
set_option maxRecDepth 100000 in
set_option maxHeartbeats 1000000 in
theorem con_wideTexts {H : PH} {v : Value} (h : Tw H v) (s : List UInt8) (hs : s.length ≤ maxLen) (at' : Nat) (hat : at' < 256) (c : Nat) (hc : c < 256) : Con Try.prog 3 [v, st s, .int .u8 (at' : Nat), .int .u8 (c : Nat)] H fun u H' => u = .bool true ∧ PH.le H H' := by
  have hrq := h.rq
  have h' := h
  obtain ⟨a0, b0, dx, dy, rfl, _, _⟩ := h
  simp only [maxLen] at hs
  have hcb : Value.int .u8 (c : Nat) = bv (UInt8.ofNat c) := by
    unfold bv; congr 1; rw [UInt8.toNat_ofNat']; omega
  refine con_of_tree mixed tr_WideTexts np_WideTexts rfl (den_rq hrq (den_call (con_works H) rfl ?_))
  rintro u H1 ⟨rfl, l1⟩
  refine ⟨fun h => (nomatch h), den_rq ⟨_, rfl⟩ (den_rq rfl (den_call (con_pairs (h'.mono l1)) rfl ?_))⟩
  rintro u2 H2 ⟨l2, hp⟩
  refine ⟨fun h => (nomatch h), den_plen op_WideTexts_3_2 rfl hp rfl ⟨fun vals H' => ∃ i : Nat, vals = [.bool false, iv i, .agg (words a0 ++ words b0 ++ dx ++ dy)] ∧ i ≤ 6 ∧ PH.le H2 H', fun vals _ => (6 - intOf (vals.getD 1 undef)).toNat, ⟨0, rfl, by omega, PH.le.refl _⟩, ?_⟩⟩
  rintro vals H3 - ⟨i, rfl, hi, l3⟩
  simp only [List.cons_append, List.nil_append]
  have lall := l1.trans (l2.trans l3)
  refine den_rq ⟨_, rfl⟩ (den_rq ⟨_, rfl⟩ (den_br (b := decide ((i : Int) < 6)) rfl (fun hb => ?_) (fun hb => ?_)))
  · have hb : i < 6 := by have := of_decide_eq_true hb; omega
    have e1 : IntKind.i64.wrap ((i : Int) + 1) = ((i + 1 : Nat) : Int) := wadd1 (by omega)
    refine den_pat (k := .i64) (j := i) op_WideTexts_5_0 op_WideTexts_5_1 rfl rfl (fun _ => rfl) (hp.mono l3) hb rfl (fun _ => rfl) fun p a b => ?_
    simp only [List.cons_append, List.nil_append]
    have hA : Value.agg ((words a ++ words b).extract 0 8) = wd a := by rw [ext0]; rfl
    have arg1 : [Value.agg ((words a ++ words b).extract 0 8)] = [wd a] := by rw [hA]
    obtain ⟨t, ht⟩ : ∃ t, t = txt (toI a) := ⟨_, rfl⟩
    have htl : t.length ≤ 155 := by rw [ht]; exact txt_len (toI_fits a)
    refine den_rq (pair_rq a b) (den_call (con_rText a) arg1 ?_)
    rintro v1 H4 ⟨l4, rfl⟩
    rw [← ht]
    simp only [List.cons_append, List.nil_append]
    refine ⟨fun h => (nomatch h), den_call (con_wText a) arg1 ?_⟩
    rintro v2 H5 ⟨l5, rfl⟩
    rw [← ht]
    simp only [List.cons_append, List.nil_append]
    obtain ⟨k, hk⟩ : ∃ k, k = at' % (t.length + 1) := ⟨_, rfl⟩
    have hkl : k ≤ t.length := by have := Nat.mod_lt at' (show 0 < t.length + 1 by omega); omega
    have e2 : IntKind.i64.wrap ((t.length : Int) + 1) = ((t.length + 1 : Nat) : Int) := wadd1 (by omega)
    have e3 : IntKind.i64.wrap ((at' : Nat) : Int) = (at' : Int) := wfit (by omega) (by omega)
    have e4 : ((at' : Nat) : Int).tmod ((t.length + 1 : Nat) : Int) = (k : Int) := by rw [hk]; exact tmodn at' (t.length + 1)
    obtain ⟨m, hm⟩ : ∃ m, m = min s.length 220 := ⟨_, rfl⟩
    have em : (if (220 : Int) < (s.length : Int) then (220 : Int) else (s.length : Int)) = (m : Int) := by split <;> omega
    refine ⟨fun h => (nomatch h), den_prim ((st_neq (l := t) (m := t) (vs := [st t, st t]) op_WideTexts_7_4 rfl rfl).rds _) rfl (den_rq (by show Value.bool (!(t == t)) = _; rw [beq_self_eq_true]; rfl) (den_rq ⟨_, rfl⟩ (den_prim ((st_len (l := t) (vs := [st t]) op_WideTexts_9_3 rfl uStr).rds _) rfl (den_rq ⟨_, rfl⟩ (den_rq ?_ ?_)))))⟩
    · show IntKind.i64.wrap ((t.length : Int) + 1) ≠ 0
      rw [e2]; omega
    simp only [List.cons_append, List.nil_append]
    refine den_prim ((st_take (l := t) (k := .i64) (i := k) (vs := [st t, .int .i64 (k : Nat)]) op_WideTexts_10_3 rfl rfl uStr hkl).rds _) (by simp only [rxs, iv, e2, e3, e4]) (den_prim ((st_drop (l := t) (k := .i64) (i := k) (vs := [st t, .int .i64 (k : Nat)]) op_WideTexts_10_10 rfl rfl uStr hkl).rds _) (by simp only [List.cons_append, List.nil_append, rxs, iv, e2, e3, e4]) (den_prim ((st_drop (l := t) (k := .i64) (i := k) (vs := [st t, .int .i64 (k : Nat)]) op_WideTexts_10_14 rfl rfl uStr hkl).rds _) (by simp only [List.cons_append, List.nil_append, rxs, iv, e2, e3, e4]) ?_))
    simp only [List.cons_append, List.nil_append]
    refine den_prim ((st_len (l := s) (vs := [st s]) op_WideTexts_10_17 rfl uStr).rds _) rfl (den_prim ((yld_imin (a := (s.length : Nat)) (b := 220) (vs := [.int .i64 (s.length : Nat), .int .i64 220]) op_WideTexts_10_18 rfl rfl).rds _) rfl (den_prim ((st_take (l := s) (k := .i64) (i := m) (vs := [st s, .int .i64 (m : Nat)]) op_WideTexts_10_19 rfl rfl uStr (by omega)).rds _) (by simp only [List.cons_append, List.nil_append, rxs, em]) ?_))
    simp only [List.cons_append, List.nil_append]
    refine den_bstr (c := UInt8.ofNat c) op_WideTexts_10_5 op_WideTexts_10_6 rfl (fun _ => rfl) (by simp only [rxs, hcb]) (fun _ => rfl) fun p2 H6 l6 => ?_
    simp only [List.cons_append, List.nil_append]
    refine den_prim ((st_add (l := t.take k) (m := [UInt8.ofNat c]) (vs := [st (t.take k), st [UInt8.ofNat c]]) op_WideTexts_10_7 rfl rfl (by simp; omega)).rds _) rfl (den_prim ((st_add (l := t.take k ++ [UInt8.ofNat c]) (m := t.drop k) (vs := [st (t.take k ++ [UInt8.ofNat c]), st (t.drop k)]) op_WideTexts_10_11 rfl rfl (by simp; omega)).rds _) rfl ?_)
    simp only [List.cons_append, List.nil_append]
    obtain ⟨t1, ht1⟩ : ∃ t1, t1 = t.take k ++ [UInt8.ofNat c] ++ t.drop k := ⟨_, rfl⟩
    have hl1 : t1.length ≤ 1000 := by rw [ht1]; simp; omega
    rw [← ht1]
    refine den_rq ⟨rfl, st_one _⟩ (den_rq ⟨rfl, st_one _⟩ (den_rq ⟨rfl, st_one _⟩ (den_rq ⟨rfl, st_one _⟩ ?_)))
    refine ⟨fun vals H' => ∃ j : Nat, vals = [.bool false, iv j] ∧ j ≤ 4 ∧ PH.le H6 H', fun vals _ => (4 - intOf (vals.getD 1 undef)).toNat, ⟨0, rfl, by omega, PH.le.refl _⟩, ?_⟩
    rintro vals H7 - ⟨j, rfl, hj, l7⟩
    simp only [List.cons_append, List.nil_append]
    refine den_rq ⟨_, rfl⟩ (den_br (b := decide ((j : Int) < 4)) rfl (fun hj2 => ?_) (fun hj2 => ?_))
    · have hj2 : j < 4 := by have := of_decide_eq_true hj2; omega
      have e5 : IntKind.i64.wrap ((j : Int) + 1) = ((j + 1 : Nat) : Int) := wadd1 (by omega)
      obtain ⟨y, hy⟩ : ∃ y, y = tx4 t t1 (t.drop k) (s.take m) j := ⟨_, rfl⟩
      have hyl : y.length ≤ 1000 := by
        rw [hy]; unfold tx4
        repeat' split
        all_goals first | omega | (simp; omega)
      have argy : [(spl (spl (spl (spl (zeroV Try.prog 37).cells (0 + 0 * ixOf undef) [st t]) (1 + 0 * ixOf undef) [st t1]) (2 + 0 * ixOf undef) [st (t.drop k)]) (3 + 0 * ixOf undef) [st (s.take m)]).getD (0 + 1 * ixOf (iv j)) undef] = [st y] := by rw [str4 _ _ _ _ hj2, ← hy]
      obtain ⟨n, e, hn⟩ := parse_two y
      have d1 := det_Parse y (by omega)
      rw [hn] at d1
      refine den_rq ⟨_, _, rfl⟩ (den_rq ?_ (den_det d1 argy (den_rq ⟨_, rfl, Nat.zero_lt_succ _⟩ (den_rq ⟨_, rfl, Nat.lt_succ_self _⟩ (den_rq ⟨words_size n, words_one n⟩ (den_call (con_rParse y (by omega)) argy ?_))))))
      · show (0 : Int) ≤ (j : Int) ∧ (j : Int) < 4
        omega
      rintro v3 H8 ⟨l8, rfl⟩
      rw [hn]
      simp only [List.cons_append, List.nil_append]
      refine ⟨fun h => (nomatch h), den_rq ⟨_, rfl, Nat.zero_lt_succ _⟩ (den_rq ⟨_, rfl, Nat.lt_succ_self _⟩ (den_rq ⟨words_size n, words_one n⟩ (den_prim ((ne_self (n := n) op_WideTexts_15_2 rfl rfl).rds _) rfl (den_rq rfl (den_rq ⟨_, rfl⟩ (den_rq ⟨_, rfl⟩ (den_rq ?_ ⟨⟨j + 1, ?_, by omega, l7.trans l8⟩, ?_⟩)))))))⟩
      · show Value.bool (e != e) = _
        rw [bne_self_eq_false]
      · simp only [rxs, iv, e5]
      · simp only [rxs, iv, e5]
        omega
    · refine ⟨⟨i + 1, ?_, by omega, l3.trans (l4.trans (l5.trans (l6.trans l7)))⟩, ?_⟩
      · simp only [rxs, iv, e1]
      · simp only [rxs, iv, e1]
        omega
  · exact den_ret rfl ⟨rfl, lall⟩
end Go.Proofs.Ytimnofpofbnjbaa

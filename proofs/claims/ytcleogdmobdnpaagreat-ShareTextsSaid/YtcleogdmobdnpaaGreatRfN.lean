/- The reference of chapter 01: texts. -/
import Derived.Test.YtcleogdmobdnpaaGreatRfG
import Derived.Test.YtcleogdmobdnpaaGreatRfI
import Derived.Test.YtcleogdmobdnpaaGreatBdA
import Derived.Test.YtcleogdmobdnpaaGreatRxV
import Derived.Test.YtcleogdmobdnpaaGreatRnT
namespace Go.WD
open Go.RX
/-- The digits of a number, none of 0. -/
def dz (n : Nat) : List UInt8 := if n = 0 then [] else dr n
theorem dz_step {n : Nat} (h : 0 < n) : dz n = dz (n / 10) ++ [UInt8.ofNat (48 + n % 10)] := by
  unfold dz; rw [if_neg (by omega)]
  by_cases h10 : n < 10
  · rw [if_pos (by omega), dr_small h10, Nat.mod_eq_of_lt h10]; rfl
  · rw [if_neg (by omega), dr_big h10]
theorem dz_nil {n : Nat} : dz n = [] ↔ n = 0 := by
  unfold dz
  constructor
  · intro h
    by_cases e : n = 0
    · exact e
    · rw [if_neg e] at h
      exact absurd h (dr_spec (n + 1) n (by omega)).2.2.1
  · intro h; rw [if_pos h]
def strL : Value → Nat | .string s => s.size | _ => 0
theorem strL_st (l : List UInt8) : strL (st l) = l.length := ba_size l
theorem valL_lt : ∀ (k : Nat) (l : List UInt8), l.length ≤ k → l.all digB = true → valL l < 10 ^ l.length := by
  intro k
  induction k with
  | zero =>
    intro l h _
    obtain rfl : l = [] := List.eq_nil_of_length_eq_zero (by omega)
    simp [valL]
  | succ k ih =>
    intro l h ha
    rcases List.eq_nil_or_concat l with e | ⟨l', c, e⟩
    · subst e; simp [valL]
    · rw [List.concat_eq_append] at e
      subst e
      rw [List.all_append, Bool.and_eq_true] at ha
      have hc : digB c = true := by simpa using ha.2
      have hv := digB_val hc
      have := ih l' (by simp at h; omega) ha.1
      rw [valL_snoc, List.length_append, List.length_singleton, Nat.pow_succ]
      omega
theorem ten_BP (k : Nat) : 10 ^ k ≤ BP k := by
  unfold BP
  rw [Nat.pow_mul]
  exact Nat.pow_le_pow_left (by decide) k
end Go.WD
namespace Go.Proofs.YtcleogdmobdnpaaGreat
open Go.RowKit Go.RX Go.WD

section
variable {G : Value → PH → Prop} {nx : List (List Value → PH → Prop)} {ρ : List Value} {H H0 : PH} {o o1 o2 : Oper} {x y x2 y2 : Operand} {id i id2 i2 : Nat} {args args2 : List SV} {t : Tree} {v : Value} {l : List UInt8}
/-- string([]byte{c}). -/
theorem den_bstr {c : UInt8} {pb : Bool} (ho1 : o1.op = .buildSlice 49 1 #[(0, x)]) (ho2 : o2.op = .convert 49 9 x2) (hx : argEv [x] [bv c] x = bv c) (hx2 : ∀ p, argEv [x2] [p] x2 = p) (ha : args.map (D Tryz.prog ρ) = [bv c]) (ha2 : ∀ p, args2.map (D Tryz.prog (ρ ++ [p])) = [p])
    (n : ∀ p H', PH.le H H' → den Tryz.prog G t nx (ρ ++ [p] ++ [st [c]]) H') : den Tryz.prog G (.eff pb id i o1 args (.prim id2 i2 o2 args2 t)) nx ρ H := by
  obtain ⟨ti, i1, i2, i3, i4⟩ := info_byte
  refine den_eff (vs := [bv c]) (sl_build (cells := #[bv c]) ho1 und_bytes i1 i2 (by rw [i3]; decide) (by rw [i3]; decide) (by rw [i3]; simp only [List.map_cons, List.map_nil, hx]; exact fillb _ c)) ha ?_
  rintro u H2 ⟨g, hg, rfl, rfl⟩
  have l2 := PH.le_put (H := H) hg (.cells #[bv c] 5 (0, 0))
  have hs : Sl (H.put g (.cells #[bv c] 5 (0, 0))) 1 (.slice (some ⟨g, 0, none⟩) 1 1) [c].length ([c].map bv) := ⟨rfl, _, 1, rfl, by simp, by simp [maxLen], .inr ⟨g, 0, _, _, _, rfl, PH.put_self _ _ _, rfl⟩⟩
  exact ⟨fun _ => l2, den_prim (st_of_bytes ho2 (hx2 _) und_bytes (by kernel_rfl) uStr hs) (ha2 _) (n _ _ l2)⟩
end
theorem tm_ten : Tm [10] := Tm.of (n := 0) rfl (by decide)
theorem dg_ten : Dg [10] := Dg.one (by omega)
theorem u8_dig {d : Nat} (h : d < 10) : Value.int .u8 (IntKind.u8.wrap (IntKind.i64.wrap (48 + ((d : Nat) : Int)))) = bv (UInt8.ofNat (48 + d)) := by
  unfold bv
  congr 1
  rw [UInt8.toNat_ofNat', IntKind.wrap_u8, IntKind.wrap_i64]
  omega
section
variable {H : PH} {x : Value} {z : Int}
set_option maxRecDepth 100000 in
set_option maxHeartbeats 1000000 in
theorem con_rDigits (hx : Lg H x z) (hz : Lm z) (hl : (dz z.natAbs).length ≤ 9000000000000000000) : Con Tryz.prog 60 [x] H fun u H' => PH.le H H' ∧ u = st (txt z) := by
  have hrq := hx.rq
  obtain ⟨w, rfl, hw⟩ := hx
  unfold Lm at hz
  obtain ⟨N, hN⟩ : ∃ N, N = z.natAbs := ⟨_, rfl⟩
  rw [← hN] at hz hw hl
  refine con_of_tree mixed tr_rDigits np_rDigits rfl (den_rq hrq (den_build1 (d := 10) op_rDigits_3_0 rfl (by omega) rfl fun ten H1 l1 h1 => ?_))
  simp only [List.cons_append, List.nil_append]
  refine ⟨fun vals H' => ∃ (o : List UInt8) (m : Nat) (d : Value), vals = [st o, d] ∧ PH.le H1 H' ∧ Nu H' d m ∧ m ≤ N ∧ dz m ++ o = dz N, fun vals _ => (dz N).length - strL (vals.getD 0 undef), ⟨[], N, w, rfl, PH.le.refl _, hw.mono l1, Nat.le_refl _, by simp⟩, ?_⟩
  rintro vals H' - ⟨o, m, d, rfl, l2, hd, hm, ho⟩
  have hol : o.length ≤ (dz N).length := by rw [← ho, List.length_append]; omega
  simp only [List.cons_append, List.nil_append]
  obtain ⟨l, dl, tl, vl'⟩ := id hd
  have hpos := tl.pos
  rw [vl'] at hpos
  refine den_len op_rDigits_4_1 rfl dl rfl (den_rq ⟨_, rfl⟩ (den_br (b := decide ((l.length : Int) > 0)) rfl (fun h => ?_) (fun h => ?_)))
  · have h := of_decide_eq_true h
    have hm0 : 0 < m := hpos.1 (by omega)
    refine den_call (con_rparts dl (h1.ds.mono l2) tl tm_ten (by simp [vl]) (tl 10000 (by rw [vl']; omega)) (by simp)) rfl ?_
    rintro u H2 ⟨l3, q, r, rfl, hq, hr⟩
    have e10 : vl [10] = 10 := rfl
    rw [vl', e10] at hq hr
    have hd10 : m % 10 < 10 := Nat.mod_lt _ (by omega)
    refine ⟨fun h => (nomatch h), den_rq ⟨_, rfl, Nat.zero_lt_succ _⟩ (den_rq ⟨_, rfl, Nat.lt_succ_self _⟩ ?_)⟩
    simp only [List.cons_append, List.nil_append]
    obtain ⟨lr, dlr, tlr, vlr⟩ := id hr
    have hlr1 : lr.length ≤ 1 := tlr 1 (by rw [vlr, show (1 : Nat) = 0 + 1 from rfl, BP_succ, BP_zero]; omega)
    refine den_len op_rDigits_7_1 rfl dlr rfl (den_rq ⟨_, rfl⟩ ⟨fun vals H' => vals = [bv (UInt8.ofNat (48 + m % 10))] ∧ H' = H2, den_br (b := decide ((lr.length : Int) > 0)) rfl (fun h => ?_) (fun h => ?_), ?_⟩)
    · have h := of_decide_eq_true h
      obtain ⟨c, rfl⟩ : ∃ c, lr = [c] := by
        match lr, hlr1, h with
        | [c], _, _ => exact ⟨c, rfl⟩
      have hc : c = m % 10 := by rw [← vlr, vl_one]
      subst hc
      refine den_at (k := .i64) (j := 0) op_rDigits_8_1 op_rDigits_8_2 rfl rfl (fun _ => rfl) dlr (by simp) rfl (fun _ => rfl) fun p => den_rq ⟨_, rfl⟩ ⟨?_, rfl⟩
      exact congrArg (fun z => [z]) (u8_dig hd10)
    · have h := of_decide_eq_false h
      obtain rfl : lr = [] := List.eq_nil_of_length_eq_zero (by omega)
      have hc : m % 10 = 0 := by rw [← vlr]; rfl
      exact ⟨by rw [hc]; rfl, rfl⟩
    rintro vals H3 - ⟨rfl, rfl⟩
    simp only [List.cons_append, List.nil_append]
    refine den_bstr op_rDigits_9_1 op_rDigits_9_2 rfl (fun _ => rfl) rfl (fun _ => rfl) fun p H4 l4 => ?_
    simp only [List.cons_append, List.nil_append]
    refine den_prim ((st_add (l := [UInt8.ofNat (48 + m % 10)]) (m := o) (vs := [st [UInt8.ofNat (48 + m % 10)], st o]) op_rDigits_9_4 rfl rfl (by simp only [List.length_singleton]; omega)).rds _) rfl ⟨⟨_, m / 10, q, rfl, l2.trans (l3.trans l4), hq.mono l4, by omega, ?_⟩, ?_⟩
    · rw [← List.append_assoc, ← dz_step hm0]; exact ho
    · show (dz N).length - strL (st _) < (dz N).length - strL (st o)
      rw [strL_st, strL_st]
      have : o.length < (dz N).length := by
        rw [← ho, List.length_append]
        have := List.length_pos_iff.2 (fun e => absurd (dz_nil.1 e) (show ¬ m = 0 by omega))
        omega
      simp only [List.length_append, List.length_singleton]
      omega
  · have h := of_decide_eq_false h
    have hm0 : m = 0 := by omega
    rw [hm0, show dz 0 = [] from rfl, List.nil_append] at ho
    refine den_prim ((st_eq (l := o) (m := []) (vs := [st o, st []]) op_rDigits_11_1 rfl rfl uStr gStr).rds _) rfl (den_rq ⟨_, rfl⟩ (den_br rfl (fun h => ?_) (fun h => ?_)))
    · have ho0 : o = [] := by simpa using h
      rw [ho0] at ho
      have hN0 : N = 0 := dz_nil.1 ho.symm
      refine den_ret rfl ⟨l1.trans l2, ?_⟩
      obtain rfl : z = 0 := by omega
      have e : txt 0 = [48] := by rw [txt_dr, if_neg (by omega), Int.natAbs_zero, dr_small (by omega)]; rfl
      rw [e]; rfl
    · have ho0 : ¬ o = [] := by simpa using h
      have hN0 : N ≠ 0 := fun e => ho0 (by rw [ho]; exact dz_nil.2 e)
      have hdr : o = dr N := by rw [ho]; unfold dz; rw [if_neg hN0]
      refine den_rq ⟨_, rfl⟩ (den_br (b := decide (z < 0)) rfl (fun h => ?_) (fun h => ?_))
      · have h := of_decide_eq_true h
        refine den_prim ((st_add (l := [45]) (m := o) (vs := [st [45], st o]) op_rDigits_14_1 rfl rfl (by simp only [List.length_singleton]; omega)).rds _) rfl (den_ret rfl ⟨l1.trans l2, ?_⟩)
        rw [txt_dr, if_pos h, ← hN, ← hdr]; rfl
      · have h := of_decide_eq_false h
        refine den_ret rfl ⟨l1.trans l2, ?_⟩
        rw [txt_dr, if_neg h, ← hN, ← hdr]; rfl
theorem dz_len (n k : Nat) (h : n < 10 ^ (k + 1)) : (dz n).length ≤ k + 1 := by
  unfold dz
  split
  · simp
  · unfold dr; rw [List.length_reverse]; exact dl_len k n h
end
/-! ### Right, Value, Parse -/
def frm (l : List UInt8) : Nat := if ng l then 1 else 0
theorem frm_le (l : List UInt8) : frm l ≤ l.length := by
  unfold frm; split
  · rename_i h
    cases l with
    | nil => cases h
    | cons _ _ => simp
  · omega
theorem dg_drop (l : List UInt8) : dg l = l.drop (frm l) := by
  unfold dg frm; split <;> rfl
theorem at_drop (l : List UInt8) (i j : Nat) : (l.drop i).getD j 0 = l.getD (i + j) 0 := by
  rw [List.getD_eq_getElem?_getD, List.getD_eq_getElem?_getD, List.getElem?_drop]
theorem bad_eq (l : List UInt8) : badB l = (decide (l.length = frm l) || ((l.getD (frm l) 0 == 48) && decide (1 < l.length))) := by
  have h1 := frm_le l
  unfold badB
  rw [dg_drop, at_drop, Nat.add_zero]
  congr 1
  rw [Bool.eq_iff_iff, beq_iff_eq, decide_eq_true_iff, List.drop_eq_nil_iff]
  omega
theorem all_of {l : List UInt8} {f : Nat} (h : ∀ k, f ≤ k → k < l.length → digB (l.getD k 0) = true) : (l.drop f).all digB = true := by
  rw [List.all_eq_true]
  intro c hc
  obtain ⟨k, hk, rfl⟩ := List.getElem_of_mem hc
  have := h (f + k) (by omega) (by simp at hk; omega)
  rw [List.getElem_drop]
  rw [List.getD_eq_getElem?_getD, List.getElem?_eq_getElem (by simp at hk; omega)] at this
  exact this
theorem all_not {l : List UInt8} {f k : Nat} (hf : f ≤ k) (hk : k < l.length) (h : digB (l.getD k 0) = false) : (l.drop f).all digB = false := by
  rw [List.all_eq_false]
  refine ⟨l.getD k 0, ?_, by rw [h]; simp⟩
  rw [List.getD_eq_getElem?_getD, List.getElem?_eq_getElem hk]
  rw [List.mem_iff_getElem]
  refine ⟨k - f, by simp; omega, ?_⟩
  simp only [List.getElem_drop, Option.getD_some]
  congr 1
  omega
theorem dig_lo (c : UInt8) (h : (c.toNat : Int) < 48) : (!digB c) = true := by unfold digB; simp; omega
theorem dig_hi (c : UInt8) (h : ¬ (c.toNat : Int) < 48) : Value.bool (decide ((c.toNat : Int) > 57)) = .bool (!digB c) := by
  congr 1
  unfold digB
  rw [Bool.eq_iff_iff]
  simp
  omega
set_option maxRecDepth 100000 in
theorem det_rRight (l : List UInt8) (hl : l.length < 9223372036854775807) : Det Tryz.prog 65 [st l] (.bool (rightB l)) := by
  have hfl := frm_le l
  refine det_of_tree mixed tr_rRight np_rRight rfl ⟨fun vals => vals = [.bool (ng l)], pd_prim (st_len (l := l) (vs := [st l]) op_rRight_2_1 rfl uStr) rfl (pd_rq ⟨_, rfl⟩ (pd_br (b := decide ((l.length : Int) > 0)) rfl (fun h => ?_) (fun h => ?_))), ?_⟩
  · have h := of_decide_eq_true h
    refine pd_prim (st_index (l := l) (k := .i64) (i := 0) (vs := [st l, .int .i64 0]) op_rRight_2_5 rfl rfl uStr (by omega)) rfl (pd_rq ⟨_, rfl⟩ ?_)
    show [Value.bool (((l.getD 0 0).toNat : Int) == 45)] = [.bool (ng l)]
    congr 2
    unfold ng
    rw [u8_eq, Bool.eq_iff_iff]
    have h45 : (45 : UInt8).toNat = 45 := rfl
    simp only [beq_iff_eq, decide_eq_true_eq, h45]
    omega
  · have h := of_decide_eq_false h
    obtain rfl : l = [] := List.eq_nil_of_length_eq_zero (by omega)
    rfl
  rintro vals - rfl
  simp only [List.cons_append, List.nil_append]
  refine ⟨fun vals => vals = [.int .i64 (frm l : Nat)], pd_rq ⟨_, rfl⟩ (pd_br rfl (fun h => ?_) (fun h => ?_)), ?_⟩
  · show [Value.int .i64 1] = _
    unfold frm; rw [h]; rfl
  · show [Value.int .i64 0] = _
    unfold frm; rw [h]; rfl
  rintro vals - rfl
  simp only [List.cons_append, List.nil_append]
  refine ⟨fun vals => vals = [.bool (badB l)], pd_prim (st_len (l := l) (vs := [st l]) op_rRight_4_1 rfl uStr) rfl (pd_rq ⟨_, rfl⟩ (pd_rq ⟨_, rfl⟩ (pd_br (b := ((l.length : Int) == (frm l : Nat))) rfl (fun h => ?_) (fun h => ?_)))), ?_⟩
  · have h : l.length = frm l := by have := beq_iff_eq.1 h; omega
    show [Value.bool true] = _
    rw [bad_eq, decide_eq_true h]; rfl
  · have h : ¬ l.length = frm l := by have := beq_eq_false_iff_ne.1 h; omega
    refine pd_prim (st_index (l := l) (k := .i64) (i := frm l) (vs := [st l, .int .i64 (frm l : Nat)]) op_rRight_4_7 rfl rfl uStr (by omega)) rfl (pd_rq ⟨_, rfl⟩ (pd_br (b := (((l.getD (frm l) 0).toNat : Int) == 48)) rfl (fun h2 => ?_) (fun h2 => ?_)))
    · refine pd_prim (st_len (l := l) (vs := [st l]) op_rRight_4_11 rfl uStr) rfl (pd_rq ⟨_, rfl⟩ ?_)
      show [Value.bool (decide ((l.length : Int) > 1))] = _
      have h3 : (l.getD (frm l) 0 == 48) = true := by
        rw [u8_eq, decide_eq_true_iff]
        have := beq_iff_eq.1 h2
        have h48 : (48 : UInt8).toNat = 48 := rfl
        omega
      rw [bad_eq, decide_eq_false h, h3, Bool.false_or, Bool.true_and]
      congr 2
      rw [decide_eq_decide]; omega
    · show [Value.bool false] = _
      have h3 : (l.getD (frm l) 0 == 48) = false := by
        rw [u8_eq, decide_eq_false_iff_not]
        have := beq_eq_false_iff_ne.1 h2
        have h48 : (48 : UInt8).toNat = 48 := rfl
        omega
      rw [bad_eq, decide_eq_false h, h3, Bool.false_or, Bool.false_and]
  rintro vals - rfl
  simp only [List.cons_append, List.nil_append]
  refine pd_rq ⟨_, rfl⟩ (pd_br rfl (fun h => pd_ret rfl ?_) (fun h => ?_))
  · show Value.bool false = _
    unfold rightB; rw [h]; rfl
  refine ⟨fun vals => ∃ i : Nat, vals = [.bool false, .int .i64 (i : Nat)] ∧ frm l ≤ i ∧ i ≤ l.length ∧ ∀ k, frm l ≤ k → k < i → digB (l.getD k 0) = true, fun vals => (l.length - intOf (vals.getD 1 undef)).toNat, ⟨frm l, rfl, Nat.le_refl _, hfl, fun k h1 h2 => by omega⟩, ?_⟩
  rintro vals - ⟨i, rfl, hi0, hi1, hall⟩
  simp only [List.cons_append, List.nil_append]
  refine pd_prim (st_len (l := l) (vs := [st l]) op_rRight_7_2 rfl uStr) rfl (pd_rq ⟨_, rfl⟩ (pd_rq ⟨_, rfl⟩ (pd_br (b := decide ((i : Int) < l.length)) rfl (fun hi => ?_) (fun hi => ?_))))
  · have hi : i < l.length := by have := of_decide_eq_true hi; omega
    simp only [List.cons_append, List.nil_append]
    refine ⟨fun vals => vals = [.bool (!digB (l.getD i 0))], pd_prim (st_index (l := l) (k := .i64) (i := i) (vs := [st l, .int .i64 (i : Nat)]) op_rRight_9_2 rfl rfl uStr hi) rfl (pd_rq ⟨_, rfl⟩ (pd_br (b := decide (((l.getD i 0).toNat : Int) < 48)) rfl (fun h2 => ?_) (fun h2 => ?_))), ?_⟩
    · have h2 := of_decide_eq_true h2
      show [Value.bool true] = _
      rw [dig_lo _ h2]
    · have h2 := of_decide_eq_false h2
      refine pd_prim (st_index (l := l) (k := .i64) (i := i) (vs := [st l, .int .i64 (i : Nat)]) op_rRight_9_7 rfl rfl uStr hi) rfl (pd_rq ⟨_, rfl⟩ ?_)
      exact congrArg (fun z => [z]) (dig_hi _ h2)
    rintro vals - rfl
    simp only [List.cons_append, List.nil_append]
    refine pd_rq ⟨_, rfl⟩ (pd_br rfl (fun h2 => pd_ret rfl ?_) (fun h2 => ?_))
    · show Value.bool false = _
      have h2 : digB (l.getD i 0) = false := by simpa using h2
      unfold rightB
      rw [h, dg_drop, all_not hi0 hi h2]; rfl
    · have h2 : digB (l.getD i 0) = true := by simpa using h2
      have e1 : IntKind.i64.wrap ((i : Int) + 1) = ((i + 1 : Nat) : Int) := wadd1 (by omega)
      refine ⟨⟨i + 1, ?_, by omega, by omega, fun k h3 h4 => ?_⟩, ?_⟩
      · simp only [rxs, e1]
      · rcases Nat.lt_or_ge k i with h5 | h5
        · exact hall k h3 h5
        · rw [show k = i from by omega]; exact h2
      · simp only [rxs, e1]
        omega
  · have hi : i = l.length := by have := of_decide_eq_false hi; omega
    subst hi
    refine pd_ret rfl ?_
    show Value.bool true = _
    unfold rightB
    rw [h, dg_drop, all_of hall]; rfl
theorem take_next (l : List UInt8) {f i : Nat} (hf : f ≤ i) (hi : i < l.length) : (l.drop f).take (i + 1 - f) = (l.drop f).take (i - f) ++ [l.getD i 0] := by
  rw [show i + 1 - f = (i - f) + 1 from by omega, take_snoc (by simp; omega), at_drop, show f + (i - f) = i from by omega]
theorem lm_ten {n k : Nat} (h : n < 10 ^ k) (hk : k ≤ 10000) : Lm (n : Int) := by
  unfold Lm
  rw [Int.natAbs_natCast]
  have := ten_BP k
  have := BP_le hk
  omega
theorem z_lg (H : PH) : Lg H (Value.agg ((zeroV Tryz.prog 4).cells ++ (zeroV Tryz.prog 83).cells)) 0 := by
  have h1 : (zeroV Tryz.prog 4) = .bool false := by kernel_rfl
  have h2 : (zeroV Tryz.prog 83) = .slice none 0 0 := by kernel_rfl
  rw [h1, h2]
  exact ⟨_, rfl, Nu.zero H⟩
section
variable {H : PH}
set_option maxRecDepth 100000 in
theorem con_rValue (l : List UInt8) (hr : rightB l = true) (hl : l.length ≤ 9000) : Con Tryz.prog 128 [st l] H fun u H' => PH.le H H' ∧ Lg H' u (numL l) := by
  have hfl := frm_le l
  have hr2 := hr
  unfold rightB at hr2
  rw [Bool.and_eq_true] at hr2
  obtain ⟨hb, ha⟩ := hr2
  rw [dg_drop] at ha
  have hdig : ∀ k, frm l ≤ k → k < l.length → digB (l.getD k 0) = true := fun k h1 h2 => by
    cases e : digB (l.getD k 0) with
    | true => rfl
    | false => rw [all_not h1 h2 e] at ha; cases ha
  have hlen : 0 < l.length := by
    rcases Nat.eq_zero_or_pos l.length with e | e
    · obtain rfl : l = [] := List.eq_nil_of_length_eq_zero e
      cases hr
    · exact e
  obtain ⟨K, hK⟩ : ∃ K, K = 9000 := ⟨_, rfl⟩
  refine con_of_tree mixed tr_rValue np_rValue rfl ⟨fun vals H' => ∃ (i : Nat) (v : Value), vals = [.int .i64 (i : Nat), v] ∧ i ≤ l.length ∧ PH.le H H' ∧ Lg H' v (valL ((l.drop (frm l)).take (i - frm l)) : Nat), fun vals _ => (l.length - intOf (vals.getD 0 undef)).toNat, ⟨0, _, rfl, by omega, PH.le.refl _, ?_⟩, ?_⟩
  · rw [Nat.zero_sub, List.take_zero]
    exact z_lg H
  rintro vals H1 - ⟨i, v, rfl, hi, l1, hv⟩
  have hvr := hv.rq
  simp only [List.cons_append, List.nil_append]
  refine den_prim ((st_len (l := l) (vs := [st l]) op_rValue_3_2 rfl uStr).rds _) rfl (den_rq ⟨_, rfl⟩ (den_rq ⟨_, rfl⟩ (den_br (b := decide ((i : Int) < l.length)) rfl (fun h => ?_) (fun h => ?_))))
  · have h : i < l.length := by have := of_decide_eq_true h; omega
    have e1 : IntKind.i64.wrap ((i : Int) + 1) = ((i + 1 : Nat) : Int) := wadd1 (by omega)
    simp only [List.cons_append, List.nil_append]
    refine den_prim ((st_index (l := l) (k := .i64) (i := i) (vs := [st l, .int .i64 (i : Nat)]) op_rValue_5_2 rfl rfl uStr h).rds _) rfl (den_rq ⟨_, rfl⟩ (den_br (b := (((l.getD i 0).toNat : Int) != 45)) rfl (fun h2 => ?_) (fun h2 => ?_)))
    · have h2 : (l.getD i 0).toNat ≠ 45 := by
        have := bne_iff_ne.1 h2; omega
      have hfi : frm l ≤ i := by
        rcases Nat.eq_zero_or_pos i with e | e
        · subst e
          unfold frm
          split
          · rename_i hn
            unfold ng at hn
            rw [u8_eq, decide_eq_true_iff] at hn
            have h45 : (45 : UInt8).toNat = 45 := rfl
            omega
          · exact Nat.le_refl _
        · unfold frm; split <;> omega
      have hd := digB_val (hdig i hfi h)
      obtain ⟨n, hn⟩ : ∃ n, n = valL ((l.drop (frm l)).take (i - frm l)) := ⟨_, rfl⟩
      have hn10 : n < 10 ^ K := by
        have h3 : ((l.drop (frm l)).take (i - frm l)).all digB = true := by
          rw [List.all_eq_true] at ha ⊢
          exact fun c hc => ha c (List.mem_of_mem_take hc)
        have h4 := valL_lt _ _ (Nat.le_refl _) h3
        have h5 : ((l.drop (frm l)).take (i - frm l)).length ≤ K := by simp; omega
        rw [hn]
        exact Nat.lt_of_lt_of_le h4 (Nat.pow_le_pow_right (by omega) h5)
      rw [← hn] at hv
      have e2 : IntKind.i64.wrap (IntKind.u8.wrap (((l.getD i 0).toNat : Int) - 48)) = (((l.getD i 0).toNat - 48 : Nat) : Int) := by
        rw [IntKind.wrap_u8, IntKind.wrap_i64]; omega
      have hm10 : Lm ((n : Int) * 10) := by
        rw [show (n : Int) * 10 = ((n * 10 : Nat) : Int) from by omega]
        exact lm_ten (k := K + 1) (by rw [Nat.pow_succ]; omega) (by omega)
      refine den_prim ((st_index (l := l) (k := .i64) (i := i) (vs := [st l, .int .i64 (i : Nat)]) op_rValue_6_5 rfl rfl uStr h).rds _) rfl (den_rq ⟨_, rfl⟩ (den_call (con_rLong1 10 (by omega) (by omega)) rfl ?_))
      rintro u2 H2 ⟨l2, hu2⟩
      simp only [List.cons_append, List.nil_append]
      refine ⟨fun _ => l2, den_call (con_rTimes (hv.mono l2) hu2 (lm_ten hn10 (by omega)) (lm_ten (n := 10) (k := 2) (by omega) (by omega))) ?_ ?_⟩
      · obtain ⟨w, rfl, _⟩ := hv; rfl
      rintro u3 H3 ⟨l3, hu3⟩
      simp only [List.cons_append, List.nil_append]
      refine ⟨fun _ => l3, den_call (con_rLong1 (((l.getD i 0).toNat - 48 : Nat) : Int) (by omega) (by omega)) ?_ ?_⟩
      · simp only [rxs, e2]
      rintro u4 H4 ⟨l4, hu4⟩
      simp only [List.cons_append, List.nil_append]
      refine ⟨fun _ => l4, den_call (con_rPlus (hu3.mono l4) hu4 hm10 (lm_ten (k := 2) (by omega) (by omega))) rfl ?_⟩
      rintro u5 H5 ⟨l5, hu5⟩
      simp only [List.cons_append, List.nil_append]
      refine ⟨fun _ => l5, den_rq hu5.rq ⟨⟨i + 1, u5, ?_, by omega, l1.trans (l2.trans (l3.trans (l4.trans l5))), ?_⟩, ?_⟩⟩
      · simp only [rxs, e1]
      · rw [take_next l hfi h, valL_snoc, ← hn]
        rw [show (((10 * n + ((l.getD i 0).toNat - 48) : Nat)) : Int) = (n : Int) * 10 + (((l.getD i 0).toNat - 48 : Nat) : Int) from by omega]
        exact hu5
      · simp only [rxs, e1]
        omega
    · have h2 : (l.getD i 0).toNat = 45 := by
        have := bne_eq_false_iff_eq.1 h2; omega
      have hi0 : i < frm l := by
        rcases Nat.lt_or_ge i (frm l) with e | e
        · exact e
        · have := digB_val (hdig i e h); omega
      refine ⟨⟨i + 1, v, ?_, by omega, l1, ?_⟩, ?_⟩
      · simp only [rxs, e1]
      · rw [show i + 1 - frm l = i - frm l from by omega]
        exact hv
      · simp only [rxs, e1]
        omega
  · have h : i = l.length := by have := of_decide_eq_false h; omega
    subst h
    rw [List.take_of_length_le (by simp), ← dg_drop] at hv
    obtain ⟨w, rfl, lw, dw, tw, vw⟩ := hv
    rw [Int.natAbs_natCast] at vw
    simp only [List.cons_append, List.nil_append]
    refine den_prim ((st_index (l := l) (k := .i64) (i := 0) (vs := [st l, .int .i64 0]) op_rValue_7_1 rfl rfl uStr hlen).rds _) rfl (den_rq ⟨_, rfl⟩ (den_call (con_rmade (ng l) dw) ?_ ?_))
    · show [Value.bool (((l.getD 0 0).toNat : Int) == 45), w] = [.bool (ng l), w]
      congr 2
      unfold ng
      rw [u8_eq, Bool.eq_iff_iff]
      have h45 : (45 : UInt8).toNat = 45 := rfl
      simp only [beq_iff_eq, decide_eq_true_eq, h45]
      omega
    rintro u2 H2 ⟨rfl, hu2⟩
    refine ⟨fun _ => PH.le.refl _, den_rq hu2.rq (den_ret rfl ⟨l1, ?_⟩)⟩
    rw [vw] at hu2
    have e : sn (ng l) (valL (dg l)) = numL l := rfl
    rw [e] at hu2
    obtain ⟨w2, rfl, hw2⟩ := hu2
    exact ⟨w2, rfl, hw2⟩
theorem long_big {l : List UInt8} (hr : rightB l = true) (hl : 200 < l.length) : ¬ (-(HM : Int) ≤ numL l ∧ numL l < HM) := fun h => by
  have := txt_len (z := numL l) h
  rw [right_txt l hr] at this
  omega
theorem con_rParse (l : List UInt8) (hl : l.length < 9223372036854775807) : Con Tryz.prog 66 [st l] H fun u H' => PH.le H H' ∧ u = parseV l := by
  refine con_of_tree mixed tr_rParse np_rParse rfl (den_det (det_rRight l hl) rfl (den_rq ⟨_, rfl⟩ (den_br (b := !rightB l) rfl (fun h => ?_) (fun h => ?_))))
  · have h : rightB l = false := by simpa using h
    refine den_ret ?_ ⟨PH.le.refl _, rfl⟩
    unfold parseV
    rw [h]
    simp only [rxs, retV, z_wide]
    rfl
  · have h : rightB l = true := by simpa using h
    refine den_prim ((st_len (l := l) (vs := [st l]) op_rParse_3_1 rfl uStr).rds _) rfl (den_rq ⟨_, rfl⟩ (den_br (b := decide ((l.length : Int) > 200)) rfl (fun h2 => ?_) (fun h2 => ?_)))
    · have h2 := of_decide_eq_true h2
      refine den_ret ?_ ⟨PH.le.refl _, rfl⟩
      unfold parseV
      rw [if_pos h, told_big (long_big h (by omega))]
      simp only [rxs, retV, z_wide]
    · have h2 := of_decide_eq_false h2
      refine den_call (con_rValue l h (by omega)) rfl ?_
      rintro u H1 ⟨l1, hu⟩
      refine ⟨fun h => (nomatch h), den_call (con_rOut hu) rfl ?_⟩
      rintro u2 H2 ⟨l2, rfl⟩
      obtain ⟨n, e, ht⟩ := told_form (numL l)
      rw [ht]
      refine ⟨fun h => (nomatch h), den_rq ⟨_, rfl, Nat.zero_lt_succ _⟩ (den_rq ⟨_, rfl, Nat.lt_succ_self _⟩ (den_rq ⟨words_size n, words_one n⟩ (den_ret rfl ⟨l1.trans l2, ?_⟩)))⟩
      unfold parseV
      rw [if_pos h, ht]
      rfl
end
end Go.Proofs.YtcleogdmobdnpaaGreat

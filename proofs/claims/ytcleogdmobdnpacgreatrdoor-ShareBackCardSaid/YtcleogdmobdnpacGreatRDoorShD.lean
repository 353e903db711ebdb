/- Package share: texts. -/
import Derived.Test.YtcleogdmobdnpacGreatRDoorShC
import Derived.Test.YtcleogdmobdnpacGreatRDoorBdA
import Derived.Test.YtcleogdmobdnpacGreatRDoorRxV
import Derived.Lib.Bytealg
namespace Go.WD
open Go.RX
/-- The text of a fraction. -/
def txtR (r : Rat) : List UInt8 := if r.den = 1 then txt r.num else txt r.num ++ 47 :: txt (r.den : Int)
/-- Digits with zeros in front, at least m. -/
def pad (m : Nat) (l : List UInt8) : List UInt8 := List.replicate (m - l.length) 48 ++ l
theorem pad_len (m : Nat) (l : List UInt8) : (pad m l).length = max m l.length := by unfold pad; rw [List.length_append, List.length_replicate]; omega
theorem pad_snoc (m : Nat) (l : List UInt8) (c : UInt8) : pad m (l ++ [c]) = pad (m - 1) l ++ [c] := by
  unfold pad; rw [List.length_append, List.length_singleton, List.append_assoc, show m - (l.length + 1) = m - 1 - l.length from by omega]
theorem pad_nil {m : Nat} (h : 0 < m) : pad m [] = pad (m - 1) [] ++ [48] := by
  unfold pad
  obtain ⟨k, rfl⟩ : ∃ k, m = k + 1 := ⟨m - 1, by omega⟩
  simp only [List.length_nil, Nat.sub_zero, Nat.add_sub_cancel, List.append_nil]
  exact List.replicate_succ' ..
/-- The digits of a number, none of 0. -/
def dzn (n : Nat) : List UInt8 := if n = 0 then [] else dr n
theorem dzn_step {n : Nat} (h : 0 < n) : dzn n = dzn (n / 10) ++ [UInt8.ofNat (48 + n % 10)] := by
  unfold dzn; rw [if_neg (by omega)]
  by_cases h10 : n < 10
  · rw [if_pos (by omega), dr_small h10, Nat.mod_eq_of_lt h10]; rfl
  · rw [if_neg (by omega), dr_big h10]
theorem pad_step {n m : Nat} (h : 0 < n ∨ 0 < m) : pad m (dzn n) = pad (m - 1) (dzn (n / 10)) ++ [UInt8.ofNat (48 + n % 10)] := by
  rcases Nat.eq_zero_or_pos n with e | e
  · subst e
    rw [show dzn 0 = [] from rfl, pad_nil (by omega)]; rfl
  · rw [dzn_step e, pad_snoc]
theorem dzn_len (n k : Nat) (h : n < 10 ^ (k + 1)) : (dzn n).length ≤ k + 1 := by
  unfold dzn
  split
  · simp
  · unfold dr; rw [List.length_reverse]; exact dl_len k n h
/-- The decimal text of z over 10^p. -/
def decL (z : Int) (p : Nat) : List UInt8 :=
  (if z < 0 then [45] else []) ++ (if p = 0 then pad 1 (dzn z.natAbs) else (pad (p + 1) (dzn z.natAbs)).take ((pad (p + 1) (dzn z.natAbs)).length - p) ++ 46 :: (pad (p + 1) (dzn z.natAbs)).drop ((pad (p + 1) (dzn z.natAbs)).length - p))
/-- The parts of a text around the first slash. -/
def cutA (l : List UInt8) : List UInt8 := if Go.Lib.indexByte l 47 < 0 then l else l.take (Go.Lib.indexByte l 47).toNat
def cutU (l : List UInt8) : List UInt8 := if Go.Lib.indexByte l 47 < 0 then [] else l.drop ((Go.Lib.indexByte l 47).toNat + 1)
def cutB (l : List UInt8) : Bool := decide (0 ≤ Go.Lib.indexByte l 47)
end Go.WD
namespace Go.Proofs.YtcleogdmobdnpacGreatRDoor
open Go.RowKit Go.RX Go.WD

section
variable {H : PH}
/-- What Text hands back. -/
def textV (n d : Nat) : Value := if okB n d then .tuple #[st (txtR (ratOf n d)), .int .i64 0] else .tuple #[st [], .int .i64 20]
theorem den_one {n d : Nat} (h : okB n d = true) : (decide (d % M = rs 1 % M)) = decide ((ratOf n d).den = 1) := by
  have h2 := (ok_rat h).2
  have h3 : rs 1 = 1 := by
    have := HM_pos
    have := M_HM
    rw [rs_pos (by omega) (by omega)]; rfl
  rw [decide_eq_decide, h3]
  have h4 := rs_toI d
  have hd : 0 < toI d := by
    unfold okB at h
    rw [Bool.and_eq_true, decide_eq_true_iff] at h
    exact h.1
  have h5 := toI_fits d
  have hM := M_HM
  have h6 := HM_pos
  unfold Fits at h5
  rw [rs_pos (by omega) (by omega)] at h4
  rw [← h4]
  have : (1 : Nat) % M = 1 := Nat.mod_eq_of_lt (by omega)
  rw [this]
  omega
set_option maxRecDepth 100000 in
theorem con_sText (n d : Nat) : Con Tryz.prog 8 [shv n d] H fun u H' => PH.le H H' ∧ u = textV n d := by
  refine con_of_tree mixed tr_sText np_sText rfl (den_rq (shv_one n d) (den_shbuild (vs := [shv n d]) [(n, d)] op_sText_1_1 (by simp) (by simp) rfl rfl fun v1 H1 l1 hv1 => ?_))
  simp only [List.cons_append, List.nil_append]
  refine den_call (con_svalid hv1) rfl ?_
  rintro u2 H2 ⟨l2, rfl⟩
  rw [all1]
  unfold textV
  simp only [List.cons_append, List.nil_append]
  refine ⟨fun h => (nomatch h), den_rq ⟨_, rfl⟩ (den_br (b := !okB n d) rfl (fun h => ?_) (fun h => ?_))⟩
  · rw [not_t h, if_neg (by simp)]
    exact den_ret rfl ⟨l1.trans l2, rfl⟩
  · have h := not_f h
    rw [h, if_pos rfl]
    obtain ⟨e1, e2⟩ := ok_rat h
    have t1 := txt_len (toI_fits n)
    have t2 := txt_len (toI_fits d)
    refine den_det (det_Of 1 (by omega) (by omega)) rfl (den_prim ((eq_wide (a := d) (b := rs 1) op_sText_3_3 rfl rfl rfl rfl).rds _) ?_ (den_rq ⟨_, rfl⟩ (den_br (b := decide ((ratOf n d).den = 1)) ?_ (fun h1 => ?_) (fun h1 => ?_))))
    · show [Value.agg ((words n ++ words d).extract 8 16), iw 1] = [wd d, iw 1]
      rw [sh_d]
    · show Value.bool (decide (d % M = rs 1 % M)) = _
      rw [den_one h]
    · have h1 := of_decide_eq_true h1
      refine den_call (con_wText n) (congrArg (fun z => [z]) (sh_n n d)) ?_
      rintro u5 H5 ⟨l5, rfl⟩
      refine ⟨fun h => (nomatch h), den_ret rfl ⟨l1.trans (l2.trans l5), ?_⟩⟩
      unfold txtR
      rw [if_pos h1, e1]; rfl
    · have h1 := of_decide_eq_false h1
      refine den_call (con_wText n) (congrArg (fun z => [z]) (sh_n n d)) ?_
      rintro u5 H5 ⟨l5, rfl⟩
      simp only [List.cons_append, List.nil_append]
      refine ⟨fun _ => l5, den_prim ((st_add (l := txt (toI n)) (m := [47]) (vs := [st (txt (toI n)), st [47]]) op_sText_5_3 rfl rfl (by simp; omega)).rds _) rfl (den_call (con_wText d) (congrArg (fun z => [z]) (sh_d n d)) ?_)⟩
      rintro u6 H6 ⟨l6, rfl⟩
      simp only [List.cons_append, List.nil_append]
      refine ⟨fun _ => l6, den_prim ((st_add (l := txt (toI n) ++ [47]) (m := txt (toI d)) (vs := [st (txt (toI n) ++ [47]), st (txt (toI d))]) op_sText_5_7 rfl rfl (by simp; omega)).rds _) rfl (den_ret rfl ⟨l1.trans (l2.trans (l5.trans l6)), ?_⟩)⟩
      unfold txtR
      rw [if_neg h1, e1, e2, show txt (toI n) ++ 47 :: txt (toI d) = txt (toI n) ++ [47] ++ txt (toI d) from by rw [List.append_assoc]; rfl]
      rfl
end
/-! ### strings.Cut at a slash -/
theorem ix_ge (l : List UInt8) (c : UInt8) : -1 ≤ Go.Lib.indexByte l c := Go.Lib.indexByte_ge l c
theorem ix_lt : ∀ (l : List UInt8) (c : UInt8), Go.Lib.indexByte l c < l.length
  | [], c => by show (-1 : Int) < 0; omega
  | b :: l, c => by
    have ih := ix_lt l c
    unfold Go.Lib.indexByte
    simp only [List.length_cons]
    split
    · omega
    · split <;> omega
theorem own_ixb (l : List UInt8) (c : UInt8) : Own Tryz.prog 162 [st l, bv c] (.int .i64 (Go.Lib.indexByte l c)) := fun w => by
  show (callFunc _ #[_, _]).run _ w = _
  rw [run_callFunc_extern Tryz.func162 (by kernel_rfl) (by kernel_rfl) (by kernel_rfl) (e := Extern.BytealgIndexByte.indexByte) (by kernel_rfl)]
  show (Result.andThen ((Extern.BytealgIndexByte.indexByte #[.string (ba l), .int .u8 (c.toNat : Nat)]).run _ w) _) = _
  rw [Go.Lib.run_indexByteString]
  simp only [Result.andThen, Int.toNat_natCast]
  have e : (c.toNat).toUInt8 = c := UInt8.ofNat_toNat
  rw [e]
  rfl
theorem det_ixB (l : List UInt8) (c : UInt8) : Det Tryz.prog 150 [st l, bv c] (.int .i64 (Go.Lib.indexByte l c)) :=
  det_of_tree mixed tr_sIndexB np_sIndexB rfl (pd_ext (own_ixb l c) rfl (pd_ret rfl rfl))
theorem det_ix (l : List UInt8) : Det Tryz.prog 125 [st l, st [47]] (.int .i64 (Go.Lib.indexByte l 47)) := by
  refine det_of_tree mixed tr_sIndex np_sIndex rfl (pd_prim (st_len (l := [47]) (vs := [st [47]]) op_sIndex_1_1 rfl uStr) rfl ⟨fun vals => vals = [.bool ([47] == l)], pd_rq ⟨_, rfl⟩ (pd_rq rfl (pd_prim (st_eq (l := [47]) (m := l) (vs := [st [47], st l]) op_sIndex_2_5 rfl rfl uStr gStr) rfl rfl)), ?_⟩)
  rintro vals - rfl
  simp only [List.cons_append, List.nil_append]
  refine pd_rq ⟨_, rfl⟩ (pd_br rfl (fun h => ?_) (fun h => ?_))
  · obtain rfl : [47] = l := by simpa using h
    exact pd_ret rfl rfl
  · exact pd_rq ⟨_, rfl⟩ (pd_rq rfl (pd_prim (st_index (l := [47]) (k := .i64) (i := 0) (vs := [st [47], .int .i64 0]) op_sIndex_5_2 rfl rfl uStr (by simp)) rfl (pd_call (det_ixB l 47) rfl (pd_ret rfl rfl))))
theorem det_cut (l : List UInt8) (hl : l.length < 9223372036854775807) : Det Tryz.prog 39 [st l, st [47]] (.tuple #[st (cutA l), st (cutU l), .bool (cutB l)]) := by
  have h1 := ix_ge l 47
  have h2 := ix_lt l 47
  have hi : Det Tryz.prog 95 [st l, st [47]] (.tuple #[st (cutA l), st (cutU l), .bool (cutB l)]) := by
    refine det_of_tree mixed tr_sCuti np_sCuti rfl (pd_call (det_ix l) rfl (pd_rq ⟨_, rfl⟩ (pd_br (b := decide (Go.Lib.indexByte l 47 ≥ 0)) rfl (fun h => ?_) (fun h => ?_))))
    · have h := of_decide_eq_true h
      unfold cutA cutU cutB
      rw [if_neg (by omega), if_neg (by omega), decide_eq_true h]
      generalize Go.Lib.indexByte l 47 = z at h h1 h2
      obtain ⟨k, rfl⟩ : ∃ k : Nat, z = (k : Int) := ⟨z.toNat, by omega⟩
      have e1 : IntKind.i64.wrap ((k : Int) + 1) = ((k + 1 : Nat) : Int) := wadd1 (by omega)
      simp only [List.cons_append, List.nil_append]
      refine pd_prim (st_take (l := l) (k := .i64) (i := k) (vs := [st l, .int .i64 (k : Nat)]) op_sCuti_3_2 rfl rfl uStr (by omega)) rfl (pd_prim (st_len (l := [47]) (vs := [st [47]]) op_sCuti_3_6 rfl uStr) rfl (pd_rq ⟨_, rfl⟩ (pd_prim (st_drop (l := l) (k := .i64) (i := k + 1) (vs := [st l, .int .i64 ((k + 1 : Nat) : Int)]) op_sCuti_3_8 rfl rfl uStr (by omega)) ?_ (pd_ret rfl rfl))))
      simp only [List.cons_append, List.nil_append, rxs, List.length_singleton, Int.natCast_one, e1]
    · have h := of_decide_eq_false h
      unfold cutA cutU cutB
      rw [if_pos (by omega), if_pos (by omega), decide_eq_false h]
      exact pd_ret rfl rfl
  exact det_of_tree mixed tr_sCut np_sCut rfl (pd_call hi rfl (pd_rq ⟨_, rfl, by simp⟩ (pd_rq ⟨_, rfl, by simp⟩ (pd_rq ⟨_, rfl, by simp⟩ (pd_ret rfl rfl)))))
end Go.Proofs.YtcleogdmobdnpacGreatRDoor
namespace Go.WD
open Go.RX
theorem cut_eq : ∀ (l : List UInt8), 0 ≤ Go.Lib.indexByte l 47 → l = l.take (Go.Lib.indexByte l 47).toNat ++ 47 :: l.drop ((Go.Lib.indexByte l 47).toNat + 1)
  | [], h => by cases (show ¬ (0 : Int) ≤ -1 by omega) h
  | b :: l, h => by
    unfold Go.Lib.indexByte at h ⊢
    by_cases e : (b == 47) = true
    · rw [if_pos e]
      have : b = 47 := by simpa using e
      rw [this]; rfl
    · rw [if_neg e] at h ⊢
      by_cases e2 : (Go.Lib.indexByte l 47 == -1) = true
      · rw [if_pos e2] at h; omega
      · rw [if_neg e2] at h ⊢
        have hn : Go.Lib.indexByte l 47 ≠ -1 := by simpa using e2
        have hge := Go.Lib.indexByte_ge l 47
        have ih := cut_eq l (by omega)
        generalize Go.Lib.indexByte l 47 = z at hn hge ih
        obtain ⟨k, rfl⟩ : ∃ k : Nat, z = (k : Int) := ⟨z.toNat, by omega⟩
        rw [show ((k : Int) + 1).toNat = k + 1 from by omega, List.take_succ_cons, List.drop_succ_cons, List.cons_append]
        rw [Int.toNat_natCast] at ih
        rw [← ih]
theorem cut_yes {l : List UInt8} (h : cutB l = true) : l = cutA l ++ 47 :: cutU l := by
  have h := of_decide_eq_true h
  unfold cutA cutU
  rw [if_neg (by omega), if_neg (by omega)]
  exact cut_eq l h
theorem cut_no {l : List UInt8} (h : cutB l = false) : l = cutA l := by
  have h := of_decide_eq_false h
  unfold cutA
  rw [if_pos (by omega)]
/-- What stands under. -/
def undr (l : List UInt8) : List UInt8 := if cutB l then cutU l else [49]
theorem txt_one : txt 1 = [49] := by rw [txt_dr, if_neg (by omega)]; exact dr_small (show 1 < 10 by omega)
theorem one_iff {u : List UInt8} (h : rightB u = true) : numL u = 1 ↔ u = [49] := by
  constructor
  · intro e
    have := right_txt u h
    rw [e, txt_one] at this
    exact this.symm
  · intro e; rw [e]; rfl
theorem cutA_len (l : List UInt8) : (cutA l).length ≤ l.length := by unfold cutA; split <;> simp; omega
theorem undr_len (l : List UInt8) : (undr l).length ≤ l.length + 1 := by
  unfold undr cutU
  split
  · split
    · simp
    · simp; omega
  · simp
end Go.WD
namespace Go.Proofs.YtcleogdmobdnpacGreatRDoor
open Go.RowKit Go.RX Go.WD

/-- What Parse hands back. -/
def parS (l : List UInt8) : Value :=
  if rightB (cutA l) && rightB (undr l) && !(ng (undr l) || undr l == [48]) then
    (if (-(HM : Int) ≤ numL (cutA l) ∧ numL (cutA l) < HM) ∧ (-(HM : Int) ≤ numL (undr l) ∧ numL (undr l) < HM) then
      (if okB (rs (numL (cutA l))) (rs (numL (undr l))) && !(cutB l && undr l == [49]) then .tuple #[shv (rs (numL (cutA l))) (rs (numL (undr l))), .int .i64 0] else .tuple #[shv 0 0, .int .i64 5])
    else .tuple #[shv 0 0, .int .i64 6])
  else .tuple #[shv 0 0, .int .i64 5]
theorem parse_text {l : List UInt8} (ha : rightB (cutA l) = true) (hu : rightB (undr l) = true) (fa : Fits (numL (cutA l))) (fu : Fits (numL (undr l))) (hok : okB (rs (numL (cutA l))) (rs (numL (undr l))) = true) :
    (txtR (ratOf (rs (numL (cutA l))) (rs (numL (undr l)))) == l) = !(cutB l && undr l == [49]) := by
  obtain ⟨e1, e2⟩ := ok_rat hok
  rw [toI_rs fa] at e1
  rw [toI_rs fu] at e2
  have ta := right_txt _ ha
  have tu := right_txt _ hu
  unfold txtR
  rw [e1, e2, ta, tu]
  have hone := one_iff hu
  cases hc : cutB l with
  | false =>
    have h49 : undr l = [49] := by unfold undr; rw [hc]; rfl
    rw [if_pos (by have := hone.2 h49; omega)]
    rw [Bool.false_and, Bool.not_false, beq_iff_eq]
    exact (cut_no hc).symm
  | true =>
    have hcu : undr l = cutU l := by unfold undr; rw [hc]; rfl
    have hl := cut_yes hc
    rw [Bool.true_and]
    by_cases h49 : undr l = [49]
    · rw [if_pos (by have := hone.2 h49; omega), h49]
      show (cutA l == l) = false
      rw [beq_eq_false_iff_ne]
      intro e
      have := congrArg List.length hl
      rw [List.length_append, List.length_cons, e] at this
      omega
    · have hn1 : ¬ numL (undr l) = 1 := fun e => h49 (hone.1 e)
      rw [if_neg (by omega), hcu]
      rw [hcu] at h49
      have : (cutU l == [49]) = false := by rw [beq_eq_false_iff_ne]; exact h49
      rw [this, Bool.not_false, beq_iff_eq]
      exact hl.symm
theorem z_str2 : zeroV Tryz.prog 72 = .agg #[st [], st []] := by kernel_rfl
theorem z_wide2 : zeroV Tryz.prog 71 = .agg (words 0 ++ words 0) := by
  have : zeroV Tryz.prog 71 = .agg #[.int .u64 0, .int .u64 0, .int .u64 0, .int .u64 0, .int .u64 0, .int .u64 0, .int .u64 0, .int .u64 0, .int .u64 0, .int .u64 0, .int .u64 0, .int .u64 0, .int .u64 0, .int .u64 0, .int .u64 0, .int .u64 0] := by kernel_rfl
  rw [this]; simp [words, wf, dig_zero]
theorem str2 (a b : List UInt8) {j : Nat} (h : j < 2) : (spl (spl (zeroV Tryz.prog 72).cells (0 + 0 * ixOf undef) [st a]) (1 + 0 * ixOf undef) [st b]).getD (0 + 1 * ixOf (iv j)) undef = st (if j = 0 then a else b) := by
  rw [z_str2]
  have : j = 0 ∨ j = 1 := by omega
  rcases this with rfl | rfl <;> rfl
theorem put_w0 (p q x : Nat) : spl (words p ++ words q) 0 (words x).toList = words x ++ words q := by simp [words, wf, spl]
theorem put_w8 (p q x : Nat) : spl (words p ++ words q) 8 (words x).toList = words p ++ words x := by simp [words, wf, spl]
/-- A part that has been read, or 0. -/
def got (l : List UInt8) : Nat := if -(HM : Int) ≤ numL l ∧ numL l < HM then rs (numL l) else 0
def tooB (l : List UInt8) : Bool := !decide (-(HM : Int) ≤ numL l ∧ numL l < HM)
section
variable {H : PH}
set_option maxRecDepth 100000 in
set_option maxHeartbeats 1000000 in
theorem con_sParse (l : List UInt8) (hl : l.length < 9000000000000000000) : Con Tryz.prog 9 [st l] H fun u H' => PH.le H H' ∧ u = parS l := by
  have lA := cutA_len l
  have lU := undr_len l
  refine con_of_tree mixed tr_sParse np_sParse rfl (den_det (det_cut l (by omega)) rfl (den_rq ⟨_, rfl, by simp⟩ (den_rq ⟨_, rfl, by simp⟩ (den_rq ⟨_, rfl, by simp⟩ (den_rq ⟨_, rfl⟩ ⟨fun vals H' => vals = [st (undr l)] ∧ H' = H, den_br (b := !cutB l) rfl (fun h => ?_) (fun h => ?_), ?_⟩)))))
  · have h := not_t h
    exact ⟨by unfold undr; rw [h]; rfl, rfl⟩
  · have h := not_f h
    exact ⟨by unfold undr; rw [h]; rfl, rfl⟩
  rintro vals H0 - ⟨rfl, rfl⟩
  simp only [List.cons_append, List.nil_append]
  generalize hA : cutA l = a at lA
  generalize hU : undr l = u at lU
  refine den_rq ⟨rfl, st_one _⟩ (den_rq ⟨rfl, st_one _⟩ ⟨fun vals H' => H' = H0 ∧ ∃ i : Nat, vals = [.bool ((decide (1 ≤ i) && tooB a) || (decide (2 ≤ i) && tooB u)), .int .i64 0, iv i, .agg (words (if 1 ≤ i then got a else 0) ++ words (if 2 ≤ i then got u else 0))] ∧ i ≤ 2 ∧ (1 ≤ i → rightB a = true) ∧ (2 ≤ i → rightB u = true), fun vals _ => (2 - intOf (vals.getD 2 undef)).toNat, ⟨rfl, 0, ?_, by omega, by omega, by omega⟩, ?_⟩)
  · show [Value.bool false, Value.int .i64 0, Value.int .i64 0, zeroV Tryz.prog 71] = _
    rw [z_wide2]; rfl
  rintro vals H1 - ⟨rfl, i, rfl, hi, h1, h2⟩
  simp only [List.cons_append, List.nil_append]
  refine den_rq ⟨_, rfl⟩ (den_br (b := decide ((i : Int) < 2)) rfl (fun hb => ?_) (fun hb => ?_))
  · have hb : i < 2 := by have := of_decide_eq_true hb; omega
    have e1 : IntKind.i64.wrap ((i : Int) + 1) = ((i + 1 : Nat) : Int) := wadd1 (by omega)
    obtain ⟨x, hx⟩ : ∃ x, x = if i = 0 then a else u := ⟨_, rfl⟩
    have hxl : x.length < 9223372036854775807 := by rw [hx]; split <;> omega
    have argx : [(spl (spl (zeroV Tryz.prog 72).cells (0 + 0 * ixOf undef) [st a]) (1 + 0 * ixOf undef) [st u]).getD (0 + 1 * ixOf (iv i)) undef] = [st x] := by rw [str2 _ _ hb, ← hx]
    have d1 := det_Parse x (by omega)
    refine den_rq ⟨_, _, rfl⟩ (den_rq ?_ ?_)
    · show (0 : Int) ≤ (i : Int) ∧ (i : Int) < 2
      omega
    unfold parseV at d1
    by_cases hr : rightB x = true
    · rw [if_pos hr] at d1
      have hnext1 : (1 ≤ i + 1 → rightB a = true) := fun _ => by
        rcases Nat.eq_zero_or_pos i with e | e
        · rw [hx, if_pos e] at hr; exact hr
        · exact h1 e
      have hnext2 : (2 ≤ i + 1 → rightB u = true) := fun h3 => by
        rw [hx, if_neg (by omega)] at hr; exact hr
      by_cases hf : -(HM : Int) ≤ numL x ∧ numL x < HM
      · rw [told_fits hf] at d1
        refine den_det d1 argx (den_rq ⟨_, rfl, Nat.zero_lt_succ _⟩ (den_rq ⟨_, rfl, Nat.lt_succ_self _⟩ (den_rq ⟨words_size _, words_one _⟩ (den_rq ⟨_, rfl⟩ (den_false rfl (den_true rfl ⟨⟨rfl, i + 1, ?_, by omega, hnext1, hnext2⟩, ?_⟩))))))
        · have hcase : i = 0 ∨ i = 1 := by omega
          have hg : got x = rs (numL x) := by unfold got; rw [if_pos hf]
          have ht : tooB x = false := by unfold tooB; rw [decide_eq_true hf]; rfl
          rcases hcase with rfl | rfl
          · rw [if_pos rfl] at hx
            subst hx
            show [Value.bool _, Value.int .i64 0, Value.int .i64 (IntKind.i64.wrap (((0 : Nat) : Int) + 1)), Value.agg (spl (words 0 ++ words 0) 0 (words (rs (numL x))).toList)] = _
            rw [put_w0, e1, ht]
            show _ = [_, _, _, Value.agg (words (got x) ++ words 0)]
            rw [hg]; rfl
          · rw [if_neg (by omega)] at hx
            subst hx
            show [Value.bool ((true && tooB a) || (false && tooB x)), Value.int .i64 0, Value.int .i64 (IntKind.i64.wrap (((1 : Nat) : Int) + 1)), Value.agg (spl (words (got a) ++ words 0) 8 (words (rs (numL x))).toList)] = _
            rw [put_w8, e1]
            show _ = [Value.bool ((true && tooB a) || (true && tooB x)), _, _, Value.agg (words (got a) ++ words (got x))]
            rw [hg, ht]; rfl
        · show (2 - IntKind.i64.wrap ((i : Int) + 1)).toNat < (2 - (i : Int)).toNat
          rw [e1]; omega
      · rw [told_big hf] at d1
        refine den_det d1 argx (den_rq ⟨_, rfl, Nat.zero_lt_succ _⟩ (den_rq ⟨_, rfl, Nat.lt_succ_self _⟩ (den_rq ⟨words_size _, words_one _⟩ (den_rq ⟨_, rfl⟩ (den_true rfl ⟨⟨rfl, i + 1, ?_, by omega, hnext1, hnext2⟩, ?_⟩)))))
        · have hcase : i = 0 ∨ i = 1 := by omega
          have hg : got x = 0 := by unfold got; rw [if_neg hf]
          have ht : tooB x = true := by unfold tooB; rw [decide_eq_false hf]; rfl
          rcases hcase with rfl | rfl
          · rw [if_pos rfl] at hx
            subst hx
            show [Value.bool true, Value.int .i64 0, Value.int .i64 (IntKind.i64.wrap (((0 : Nat) : Int) + 1)), Value.agg (words 0 ++ words 0)] = _
            rw [e1]
            show _ = [Value.bool ((true && tooB x) || (false && tooB u)), _, _, Value.agg (words (got x) ++ words 0)]
            rw [hg, ht]; rfl
          · rw [if_neg (by omega)] at hx
            subst hx
            show [Value.bool true, Value.int .i64 0, Value.int .i64 (IntKind.i64.wrap (((1 : Nat) : Int) + 1)), Value.agg (words (got a) ++ words 0)] = _
            rw [e1]
            show _ = [Value.bool ((true && tooB a) || (true && tooB x)), _, _, Value.agg (words (got a) ++ words (got x))]
            rw [hg, ht, Bool.true_and, Bool.and_self, Bool.or_true]; rfl
        · show (2 - IntKind.i64.wrap ((i : Int) + 1)).toNat < (2 - (i : Int)).toNat
          rw [e1]; omega
    · rw [if_neg hr] at d1
      refine den_det d1 argx (den_rq ⟨_, rfl, Nat.zero_lt_succ _⟩ (den_rq ⟨_, rfl, Nat.lt_succ_self _⟩ (den_rq ⟨words_size _, words_one _⟩ (den_rq ⟨_, rfl⟩ (den_false rfl (den_false rfl (den_ret (congrArg (fun z => Value.tuple #[z, .int .i64 5]) z_share) ⟨PH.le.refl _, ?_⟩)))))))
      unfold parS
      rw [hA, hU]
      have hbad : (rightB a && rightB u) = false := by
        rcases Nat.eq_zero_or_pos i with e | e
        · rw [hx, if_pos e] at hr
          rw [Bool.not_eq_true] at hr
          rw [hr]; rfl
        · rw [hx, if_neg (by omega)] at hr
          rw [Bool.not_eq_true] at hr
          rw [hr, Bool.and_false]
      rw [hbad, Bool.false_and, if_neg (by simp)]
  · have hb : i = 2 := by have := of_decide_eq_false hb; omega
    subst hb
    have ra := h1 (by omega)
    have ru := h2 (by omega)
    have hune : 0 < u.length := by
      rcases Nat.eq_zero_or_pos u.length with e | e
      · obtain rfl : u = [] := List.eq_nil_of_length_eq_zero e
        cases ru
      · exact e
    show den _ _ _ _ [st l, _, st u, Value.bool ((true && tooB a) || (true && tooB u)), _, _, Value.agg (words (got a) ++ words (got u))] _
    rw [Bool.true_and, Bool.true_and]
    refine ⟨fun vals H' => vals = [.bool (ng u || u == [48])] ∧ H' = H1, den_prim ((st_index (l := u) (k := .i64) (i := 0) (vs := [st u, .int .i64 0]) op_sParse_17_1 rfl rfl uStr hune).rds _) rfl (den_rq ⟨_, rfl⟩ (den_br (b := (((u.getD 0 0).toNat : Int) == 45)) rfl (fun h => ?_) (fun h => ?_))), ?_⟩
    · have h : ng u = true := by
        have := beq_iff_eq.1 h
        unfold ng
        rw [u8_eq, decide_eq_true_iff]
        have h45 : (45 : UInt8).toNat = 45 := rfl
        omega
      exact ⟨by rw [h]; rfl, rfl⟩
    · have h : ng u = false := by
        have := beq_eq_false_iff_ne.1 h
        unfold ng
        rw [u8_eq, decide_eq_false_iff_not]
        have h45 : (45 : UInt8).toNat = 45 := rfl
        omega
      exact den_prim ((st_eq (l := u) (m := [48]) (vs := [st u, st [48]]) op_sParse_17_5 rfl rfl uStr gStr).rds _) rfl ⟨by rw [h]; rfl, rfl⟩
    rintro vals H2 - ⟨rfl, rfl⟩
    simp only [List.cons_append, List.nil_append]
    unfold parS
    rw [hA, hU, ra, ru, Bool.true_and, Bool.true_and]
    refine den_rq ⟨_, rfl⟩ (den_br rfl (fun h => ?_) (fun h => ?_))
    · rw [h, Bool.not_true, if_neg (by simp)]
      exact den_ret (congrArg (fun z => Value.tuple #[z, .int .i64 5]) z_share) ⟨PH.le.refl _, rfl⟩
    · rw [h, Bool.not_false, if_pos rfl]
      refine den_rq ⟨_, rfl⟩ (den_br rfl (fun h3 => ?_) (fun h3 => ?_))
      · rw [if_neg (fun hh => by
          unfold tooB at h3
          rw [decide_eq_true hh.1, decide_eq_true hh.2] at h3
          cases h3)]
        exact den_ret (congrArg (fun z => Value.tuple #[z, .int .i64 6]) z_share) ⟨PH.le.refl _, rfl⟩
      · rw [Bool.or_eq_false_iff] at h3
        have fa := of_decide_eq_true (not_f h3.1)
        have fu := of_decide_eq_true (not_f h3.2)
        rw [if_pos ⟨fa, fu⟩]
        have ga : got a = rs (numL a) := by unfold got; rw [if_pos fa]
        have gu : got u = rs (numL u) := by unfold got; rw [if_pos fu]
        rw [ga, gu]
        have harg : Value.agg ((words (rs (numL a)) ++ words (rs (numL u))).extract 0 8 ++ (words (rs (numL a)) ++ words (rs (numL u))).extract 8 16) = shv (rs (numL a)) (rs (numL u)) := by rw [sh_ext0, sh_ext8]; rfl
        refine den_call (con_sText (rs (numL a)) (rs (numL u))) (congrArg (fun z => [z]) harg) ?_
        rintro u5 H5 ⟨l5, rfl⟩
        have hpt := fun hok => parse_text (l := l) (by rw [hA]; exact ra) (by rw [hU]; exact ru) (by rw [hA]; exact fa) (by rw [hU]; exact fu) hok
        rw [hA, hU] at hpt
        unfold textV
        cases hok : okB (rs (numL a)) (rs (numL u)) with
        | false =>
          simp only [Bool.false_and, Bool.false_eq_true, if_false]
          simp only [List.cons_append, List.nil_append]
          refine ⟨fun h => (nomatch h), den_rq ⟨_, rfl, Nat.zero_lt_succ _⟩ (den_rq ⟨_, rfl, Nat.lt_succ_self _⟩ ⟨fun vals H' => vals = [.bool true] ∧ H' = H5, den_rq ⟨_, rfl⟩ (den_true rfl ⟨rfl, rfl⟩), ?_⟩)⟩
          rintro vals H6 - ⟨rfl, rfl⟩
          exact den_rq ⟨_, rfl⟩ (den_true rfl (den_ret (congrArg (fun z => Value.tuple #[z, .int .i64 5]) z_share) ⟨l5, rfl⟩))
        | true =>
          have hpt := hpt hok
          rw [if_pos rfl, Bool.true_and]
          simp only [List.cons_append, List.nil_append]
          generalize txtR (ratOf (rs (numL a)) (rs (numL u))) = t at hpt
          refine ⟨fun h => (nomatch h), den_rq ⟨_, rfl, Nat.zero_lt_succ _⟩ (den_rq ⟨_, rfl, Nat.lt_succ_self _⟩ ⟨fun vals H' => vals = [.bool (cutB l && u == [49])] ∧ H' = H5, den_rq ⟨_, rfl⟩ (den_false rfl (den_prim ((st_neq (l := t) (m := l) (vs := [st t, st l]) op_sParse_23_5 rfl rfl).rds _) rfl ⟨?_, rfl⟩)), ?_⟩)⟩
          · show [Value.bool (!(t == l))] = _
            rw [hpt, Bool.not_not]
          rintro vals H6 - ⟨rfl, rfl⟩
          refine den_rq ⟨_, rfl⟩ (den_br rfl (fun h4 => ?_) (fun h4 => ?_))
          · rw [h4, Bool.not_true, if_neg (by simp)]
            exact den_ret (congrArg (fun z => Value.tuple #[z, .int .i64 5]) z_share) ⟨l5, rfl⟩
          · rw [h4, Bool.not_false, if_pos rfl]
            exact den_ret (congrArg (fun z => Value.tuple #[z, .int .i64 0]) harg) ⟨l5, rfl⟩
end
end Go.Proofs.YtcleogdmobdnpacGreatRDoor
namespace Go.WD
open Go.RX
def slL : Value → Nat | .string s => s.size | _ => 0
theorem slL_st (l : List UInt8) : slL (st l) = l.length := ba_size l
theorem txt_dig {n : Nat} (h : n < 10) : txt (n : Int) = [UInt8.ofNat (48 + n)] := by
  rw [txt_dr, if_neg (by omega), Int.natAbs_natCast, dr_small h]
theorem ten20 {p : Nat} (h : p ≤ 20) : 10 ^ p < 2 ^ 70 := Nat.lt_of_le_of_lt (Nat.pow_le_pow_right (by omega) h) (by decide)
theorem rb_ten {p : Nat} (h : p ≤ 20) : Rb 70 (((10 : Int) ^ p : Int) : Rat) := by
  have h1 := ten20 h
  refine ⟨?_, ?_⟩
  · rw [Rat.num_intCast, show ((10 : Int) ^ p).natAbs = 10 ^ p from by rw [Int.natAbs_pow]; rfl]; exact h1
  · rw [Rat.den_intCast]; decide
theorem rb_half2 : Rb 2 ((1 / 2 : Rat)) := by
  have h2 : (1 / 2 : Rat) = Rat.divInt 1 2 := by rw [Rat.divInt_eq_div]; rfl
  rw [h2]; exact low_bound (by omega) (by omega) (by omega)
theorem floor_abs {r : Rat} {k : Nat} (h : Rb k r) : r.floor.natAbs < 2 ^ k := by
  rw [Rat.floor_def]
  exact Nat.lt_of_le_of_lt (Int.natAbs_ediv_le_natAbs _ _) h.1
end Go.WD
namespace Go.Proofs.YtcleogdmobdnpacGreatRDoor
open Go.RowKit Go.RX Go.WD

/-- The number that Decimal writes. -/
def decZ (n d p : Nat) : Int := (ratOf n d * (((10 : Int) ^ p : Int) : Rat) + 1 / 2).floor
def decV (n d : Nat) (p : Int) : Value := if okB n d then (if p < 0 ∨ p > 20 then .tuple #[st [], .int .i64 2] else .tuple #[st (decL (decZ n d p.toNat) p.toNat), .int .i64 0]) else .tuple #[st [], .int .i64 20]
theorem decZ_abs {n d p K : Nat} (h : okB n d = true) (hp : p ≤ 20) (hK : K = 512) : (decZ n d p).natAbs < 2 ^ (K + 73) := by
  have h1 := (ok_rb h hK).mul (rb_ten hp) (Nat.le_refl _)
  exact floor_abs (h1.add rb_half2 (show K + 70 + 2 + 1 ≤ K + 73 by omega))
section
variable {H : PH}
set_option maxRecDepth 100000 in
set_option maxHeartbeats 1000000 in
theorem con_sDecimal (n d : Nat) (p : Int) : Con Tryz.prog 10 [shv n d, .int .i64 p] H fun u H' => PH.le H H' ∧ u = decV n d p := by
  obtain ⟨K, hK⟩ : ∃ K, K = 512 := ⟨_, rfl⟩
  refine con_of_tree mixed tr_sDecimal np_sDecimal rfl (den_rq (shv_one n d) (den_shbuild (vs := [shv n d]) [(n, d)] op_sDecimal_1_1 (by simp) (by simp) rfl rfl fun v1 H1 l1 hv1 => ?_))
  simp only [List.cons_append, List.nil_append]
  refine den_call (con_svalid hv1) rfl ?_
  rintro u2 H2 ⟨l2, rfl⟩
  rw [all1]
  unfold decV
  simp only [List.cons_append, List.nil_append]
  refine ⟨fun h => (nomatch h), den_rq ⟨_, rfl⟩ (den_br (b := !okB n d) rfl (fun h => ?_) (fun h => ?_))⟩
  · rw [not_t h, if_neg (by simp)]
    exact den_ret rfl ⟨l1.trans l2, rfl⟩
  have hok := not_f h
  rw [hok, if_pos rfl]
  refine ⟨fun vals H' => vals = [.bool (decide (p < 0 ∨ p > 20))] ∧ H' = H2, den_rq ⟨_, rfl⟩ (den_br (b := decide (p < 0)) rfl (fun h => ?_) (fun h => ?_)), ?_⟩
  · have h := of_decide_eq_true h
    exact ⟨by rw [decide_eq_true (show p < 0 ∨ p > 20 from .inl h)]; rfl, rfl⟩
  · have h := of_decide_eq_false h
    refine ⟨?_, rfl⟩
    show [Value.bool (decide (p > 20))] = _
    congr 2
    rw [decide_eq_decide]; omega
  rintro vals H3 - ⟨rfl, rfl⟩
  simp only [List.cons_append, List.nil_append]
  refine den_rq ⟨_, rfl⟩ (den_br rfl (fun h => ?_) (fun h => ?_))
  · rw [if_pos (of_decide_eq_true h)]
    exact den_ret rfl ⟨l1.trans l2, rfl⟩
  have h := of_decide_eq_false h
  rw [if_neg h]
  obtain ⟨P, rfl⟩ : ∃ P : Nat, p = (P : Int) := ⟨p.toNat, by omega⟩
  have hP : P ≤ 20 := by omega
  rw [Int.toNat_natCast]
  have hz := decZ_abs hok hP hK
  have hr := ok_rb hok hK
  have hpow : ∀ k, k ≤ P → Lm ((10 : Int) ^ k) := fun k hk => Lm.two (k := 70) (by rw [Int.natAbs_pow]; exact ten20 (by omega)) (by omega)
  refine den_call (con_sRead n d) rfl ?_
  rintro u3 H4 ⟨l4, hu3⟩
  have hx := hu3.rp (ok_rat hok).1 (ok_rat hok).2
  simp only [List.cons_append, List.nil_append]
  refine ⟨fun h => (nomatch h), den_call (con_gFrom 10 (by omega) (by omega)) rfl ?_⟩
  rintro u4 H5 ⟨l5, hu4⟩
  simp only [List.cons_append, List.nil_append]
  refine ⟨fun h => (nomatch h), den_call (con_gRaised P (by omega) hu4 hpow (Lm.two (k := 70) (by decide) (by omega))) rfl ?_⟩
  rintro u5 H6 ⟨l6, hu5⟩
  simp only [List.cons_append, List.nil_append]
  refine ⟨fun h => (nomatch h), den_call (con_sWhole hu5) rfl ?_⟩
  rintro u6 H7 ⟨l7, hu6⟩
  simp only [List.cons_append, List.nil_append]
  refine ⟨fun h => (nomatch h), den_call (con_sRTimes (hx.mono (l5.trans (l6.trans l7))) hu6 hr (rb_ten hP) (by omega)) rfl ?_⟩
  rintro u7 H8 ⟨l8, hu7⟩
  simp only [List.cons_append, List.nil_append]
  refine ⟨fun h => (nomatch h), den_call (con_sRNearest hu7 (hr.mul (rb_ten hP) (Nat.le_refl _)) (by omega)) rfl ?_⟩
  rintro u8 H9 ⟨l9, hu8⟩
  have hu8 : Lw H9 u8 (decZ n d P) := hu8
  generalize decZ n d P = z at hz hu8
  have r8 := hu8.rq
  have hu8' := hu8
  obtain ⟨w8, rfl, n8⟩ := hu8
  have hlm : Lm z := Lm.two hz (by omega)
  simp only [List.cons_append, List.nil_append]
  refine ⟨fun h => (nomatch h), den_rq r8 (den_call (con_gSide hu8') rfl ?_)⟩
  rintro u9 H10 ⟨rfl, rfl⟩
  have lall := l1.trans (l2.trans (l4.trans (l5.trans (l6.trans (l7.trans (l8.trans l9))))))
  obtain ⟨sg, hsg⟩ : ∃ sg : List UInt8, sg = if z < 0 then [45] else [] := ⟨_, rfl⟩
  have hsgl : sg.length ≤ 1 := by rw [hsg]; split <;> simp
  simp only [List.cons_append, List.nil_append]
  refine ⟨fun h => (nomatch h), den_rq ⟨_, rfl⟩ ⟨fun vals H' => H' = H10 ∧ ∃ v, vals = [st sg, v] ∧ Lw H10 v (z.natAbs : Int), den_br (b := decide (sgI z 0 < 0)) rfl (fun h => ?_) (fun h => ?_), ?_⟩⟩
  · have h := of_decide_eq_true h
    have hz0 : z < 0 := by
      unfold sgI at h
      split at h
      · assumption
      · split at h <;> omega
    refine den_call (con_gTurned hu8') rfl ?_
    rintro u10 H11 ⟨rfl, hu10⟩
    have r10 := hu10.rq
    refine ⟨fun h => (nomatch h), den_rq r10 ⟨rfl, u10, ?_, ?_⟩⟩
    · rw [hsg, if_pos hz0]; rfl
    · rw [show ((z.natAbs : Nat) : Int) = -z from by omega]; exact hu10
  · have h := of_decide_eq_false h
    have hz0 : ¬ z < 0 := fun e => h (by unfold sgI; rw [if_pos e]; omega)
    refine ⟨rfl, Value.agg #[.bool (decide (z < 0)), w8], ?_, ?_⟩
    · rw [hsg, if_neg hz0]; rfl
    · rw [show ((z.natAbs : Nat) : Int) = z from by omega]; exact hu8'
  rintro vals H11 - ⟨rfl, v, rfl, hv⟩
  simp only [List.cons_append, List.nil_append]
  generalize hN : z.natAbs = N at hv hz
  obtain ⟨T, hT⟩ : ∃ T, T = pad (P + 1) (dzn N) := ⟨_, rfl⟩
  have hTl : T.length ≤ 1000 := by
    rw [hT, pad_len]
    have := dzn_len N (K + 72) (Nat.lt_of_lt_of_le hz (Nat.pow_le_pow_left (by omega) _))
    omega
  have hTp : P < T.length := by rw [hT, pad_len]; omega
  refine ⟨fun vals H' => ∃ (o : List UInt8) (m : Nat) (v : Value), vals = [st o, v] ∧ PH.le H11 H' ∧ Lw H' v (m : Int) ∧ m ≤ N ∧ pad (P + 1 - o.length) (dzn m) ++ o = T, fun vals _ => T.length - slL (vals.getD 0 undef), ⟨[], N, v, rfl, PH.le.refl _, hv, Nat.le_refl _, by rw [hT, List.append_nil]; rfl⟩, ?_⟩
  rintro vals H12 - ⟨o, m, v2, rfl, l12, hv2, hm, ho⟩
  have hol := congrArg List.length ho
  rw [List.length_append, pad_len] at hol
  have rv2 := hv2.rq
  have hv2' := hv2
  obtain ⟨w2, rfl, _⟩ := hv2
  simp only [List.cons_append, List.nil_append]
  refine ⟨fun vals H' => vals = [.bool (decide (0 < m ∨ o.length ≤ P))] ∧ H' = H12, den_call (con_gSide hv2') rfl ?_, ?_⟩
  · rintro u13 H13 ⟨rfl, rfl⟩
    refine ⟨fun h => (nomatch h), den_rq ⟨_, rfl⟩ (den_br (b := decide (sgI (m : Int) 0 > 0)) rfl (fun h => ?_) (fun h => ?_))⟩
    · have h := of_decide_eq_true h
      have hm0 : 0 < m := by
        unfold sgI at h
        rw [if_neg (by omega)] at h
        split at h <;> omega
      exact ⟨by rw [decide_eq_true (show 0 < m ∨ o.length ≤ P from .inl hm0)]; rfl, rfl⟩
    · have h := of_decide_eq_false h
      have hm0 : m = 0 := by
        unfold sgI at h
        rw [if_neg (by omega)] at h
        split at h <;> omega
      refine den_prim ((st_len (l := o) (vs := [st o]) op_sDecimal_9_5 rfl uStr).rds _) rfl (den_rq ⟨_, rfl⟩ (den_rq ⟨_, rfl⟩ ⟨?_, rfl⟩))
      show [Value.bool (decide ((o.length : Int) ≤ (P : Int)))] = _
      congr 2
      rw [decide_eq_decide]; omega
  rintro vals H13 - ⟨rfl, rfl⟩
  simp only [List.cons_append, List.nil_append]
  refine den_rq ⟨_, rfl⟩ (den_br rfl (fun h => ?_) (fun h => ?_))
  · have h := of_decide_eq_true h
    have hd10 : m % 10 < 10 := Nat.mod_lt _ (by omega)
    refine den_call (con_gFrom 10 (by omega) (by omega)) rfl ?_
    rintro u14 H14 ⟨l14, hu14⟩
    simp only [List.cons_append, List.nil_append]
    have hlmm : Lm (m : Int) := Lm.two (k := K + 73) (by rw [Int.natAbs_natCast]; omega) (by omega)
    refine ⟨fun _ => l14, den_call (con_gParts (hv2'.mono l14) hu14 hlmm (Lm.two (k := 70) (by decide) (by omega)) (by omega)) rfl ?_⟩
    rintro u15 H15 ⟨l15, a, b, rfl, ha, hb⟩
    rw [show (m : Int) / 10 = ((m / 10 : Nat) : Int) from by omega] at ha
    rw [show (m : Int) % 10 = ((m % 10 : Nat) : Int) from by omega] at hb
    have ra := ha.rq
    have rb := hb.rq
    have ha' := ha
    have hb' := hb
    obtain ⟨wa, rfl, _⟩ := ha
    obtain ⟨wb, rfl, _⟩ := hb
    simp only [List.cons_append, List.nil_append]
    refine ⟨fun _ => l15, den_rq ⟨_, rfl, Nat.zero_lt_succ _⟩ (den_rq ⟨_, rfl, Nat.lt_succ_self _⟩ (den_rq ra (den_rq rb (den_call (con_gTold hb') rfl ?_))))⟩
    rintro u16 H16 ⟨l16, rfl⟩
    have hf : Fits ((m % 10 : Nat) : Int) := fits_small (by omega) (by omega)
    rw [told_fits hf]
    simp only [List.cons_append, List.nil_append]
    refine ⟨fun h => (nomatch h), den_rq ⟨_, rfl, Nat.zero_lt_succ _⟩ (den_rq ⟨_, rfl, Nat.lt_succ_self _⟩ (den_rq ⟨words_size _, words_one _⟩ (den_call (con_wText (rs ((m % 10 : Nat) : Int))) rfl ?_)))⟩
    rintro u17 H17 ⟨l17, rfl⟩
    rw [toI_rs hf, txt_dig hd10]
    simp only [List.cons_append, List.nil_append]
    refine ⟨fun h => (nomatch h), den_prim ((st_add (l := [UInt8.ofNat (48 + m % 10)]) (m := o) (vs := [st [UInt8.ofNat (48 + m % 10)], st o]) op_sDecimal_12_3 rfl rfl (by simp only [List.length_singleton]; omega)).rds _) rfl ⟨⟨_, m / 10, _, rfl, l12.trans (l14.trans (l15.trans (l16.trans l17))), ha'.mono (l16.trans l17), by omega, ?_⟩, ?_⟩⟩
    · rw [← ho, pad_step (m := P + 1 - o.length) (by omega), List.append_assoc]
      simp only [List.length_append, List.length_singleton]
      rw [show P + 1 - (1 + o.length) = P + 1 - o.length - 1 from by omega]
    · show T.length - slL (st _) < T.length - slL (st o)
      rw [slL_st, slL_st, List.length_append, List.length_singleton]
      have : 0 < max (P + 1 - o.length) (dzn m).length := by
        rcases h with h | h
        · have : (dzn m).length ≠ 0 := by
            rw [dzn_step h]; simp
          omega
        · omega
      omega
  · have h := of_decide_eq_false h
    have hm0 : m = 0 := by omega
    have hoT : o = T := by
      rw [hm0, show P + 1 - o.length = 0 from by omega] at ho
      exact ho
    subst hoT
    have hle := lall.trans l12
    have hdec : decL z P = sg ++ (if P = 0 then o else o.take (o.length - P) ++ 46 :: o.drop (o.length - P)) := by
      unfold decL
      rw [hN, ← hsg]
      by_cases hP0 : P = 0
      · subst hP0
        rw [if_pos rfl, if_pos rfl, hT]
      · rw [if_neg hP0, if_neg hP0, ← hT]
    rw [hdec]
    refine den_rq ⟨_, rfl⟩ (den_br (b := ((P : Int) == 0)) rfl (fun h0 => ?_) (fun h0 => ?_))
    · have h0 : P = 0 := by have := beq_iff_eq.1 h0; omega
      rw [if_pos h0]
      exact den_prim ((st_add (l := sg) (m := o) (vs := [st sg, st o]) op_sDecimal_15_2 rfl rfl (by omega)).rds _) rfl (den_ret rfl ⟨hle, rfl⟩)
    · have h0 : ¬ P = 0 := by have := beq_eq_false_iff_ne.1 h0; omega
      rw [if_neg h0]
      have e1 : IntKind.i64.wrap ((o.length : Int) - (P : Int)) = ((o.length - P : Nat) : Int) := wsub (by omega) (by omega)
      refine den_prim ((st_len (l := o) (vs := [st o]) op_sDecimal_16_1 rfl uStr).rds _) rfl (den_rq ⟨_, rfl⟩ (den_prim ((st_take (l := o) (k := .i64) (i := o.length - P) (vs := [st o, .int .i64 ((o.length - P : Nat) : Int)]) op_sDecimal_17_3 rfl rfl uStr (by omega)).rds _) (by simp only [List.cons_append, List.nil_append, rxs, e1]) ?_))
      simp only [List.cons_append, List.nil_append]
      refine den_prim ((st_add (l := sg) (m := o.take (o.length - P)) (vs := [st sg, st (o.take (o.length - P))]) op_sDecimal_17_4 rfl rfl (by simp; omega)).rds _) rfl (den_prim ((st_add (l := sg ++ o.take (o.length - P)) (m := [46]) (vs := [st (sg ++ o.take (o.length - P)), st [46]]) op_sDecimal_17_5 rfl rfl (by simp; omega)).rds _) rfl ?_)
      simp only [List.cons_append, List.nil_append]
      refine den_prim ((st_drop (l := o) (k := .i64) (i := o.length - P) (vs := [st o, .int .i64 ((o.length - P : Nat) : Int)]) op_sDecimal_17_8 rfl rfl uStr (by omega)).rds _) (by simp only [rxs, e1]) (den_prim ((st_add (l := sg ++ o.take (o.length - P) ++ [46]) (m := o.drop (o.length - P)) (vs := [st (sg ++ o.take (o.length - P) ++ [46]), st (o.drop (o.length - P))]) op_sDecimal_17_9 rfl rfl (by simp; omega)).rds _) rfl (den_ret rfl ⟨hle, ?_⟩))
      rw [show sg ++ (o.take (o.length - P) ++ 46 :: o.drop (o.length - P)) = sg ++ o.take (o.length - P) ++ [46] ++ o.drop (o.length - P) from by simp]
      rfl
end
end Go.Proofs.YtcleogdmobdnpacGreatRDoor

/- The law ShareRounds; its tree is printed by rxgen.py. -/
import Derived.Test.YtcleogdmobdnpabGreatWdT
import Derived.Test.YtcleogdmobdnpabGreatSrD
import Derived.Test.YtcleogdmobdnpabGreatSpA
import Derived.Test.YtcleogdmobdnpabGreatWdM
namespace Go.WD
/-! ### Integers around a fraction -/
theorem frac_bounds (r : Rat) : 0 ≤ r - (r.floor : Rat) ∧ r - (r.floor : Rat) < 1 := by
  have h1 := Rat.floor_le r
  have h2 := Rat.lt_floor_add_one r
  rw [Rat.intCast_add] at h2
  have h3 : ((1 : Int) : Rat) = 1 := rfl
  rw [h3] at h2
  grind
theorem near_bounds (r : Rat) : -(1/2) ≤ r - ((r + 1/2).floor : Rat) ∧ r - ((r + 1/2).floor : Rat) < 1/2 := by
  have := frac_bounds (r + 1/2)
  grind
theorem ceil_gap (r : Rat) : -(-r).floor - r.floor = if r.den = 1 then 0 else 1 := by
  have h1 := frac_bounds r
  have h2 := frac_bounds (-r)
  split
  · rename_i h
    have hr : r = ((r.num : Int) : Rat) := by
      apply Rat.ext
      · rw [Rat.num_intCast]
      · rw [Rat.den_intCast]; exact h
    rw [hr]
    rw [← Rat.intCast_neg, Rat.floor_intCast, Rat.floor_intCast]; omega
  · rename_i h
    have hne : r ≠ (r.floor : Rat) := fun e => h (by rw [e, Rat.den_intCast])
    have hne2 : -r ≠ ((-r).floor : Rat) := fun e => h (by have := congrArg Rat.den e; rw [Rat.den_intCast, Rat.neg_den] at this; exact this)
    have h3 : (0 : Rat) < ((-(-r).floor - r.floor : Int) : Rat) := by
      rw [Rat.intCast_sub, Rat.intCast_neg]; grind
    have h4 : ((-(-r).floor - r.floor : Int) : Rat) < ((2 : Int) : Rat) := by
      rw [Rat.intCast_sub, Rat.intCast_neg]
      have : ((2 : Int) : Rat) = 2 := rfl
      rw [this]; grind
    have h5 := Rat.intCast_lt_intCast.1 h4
    have h6 := Rat.intCast_lt_intCast.1 (show ((0 : Int) : Rat) < _ from h3)
    omega
theorem floor_near {r : Rat} {k : Nat} (h : r.floor.natAbs < 2 ^ k) : (r + 1 / 2).floor.natAbs < 2 ^ (k + 1) := by
  have h1 : r.floor ≤ (r + 1 / 2).floor := Rat.floor_monotone (by grind)
  have h2 : (r + 1 / 2).floor ≤ (r + 1).floor := Rat.floor_monotone (by grind)
  rw [Rat.floor_add_one] at h2
  rw [Nat.pow_succ]
  have := Nat.pow_pos (n := k) (show 0 < 2 by omega)
  omega
end Go.WD
namespace Go.Proofs.YtcleogdmobdnpabGreat
open Go.RowKit Go.RX Go.WD
theorem tr_ShareRounds : tree Tryz.prog [] [(31, false), (81, false), (85, false), (89, false), (93, false), (97, false), (101, false), (104, false), (140, false), (146, false), (150, false), (154, false), (158, false), (162, false), (166, false), (170, false), (174, false), (177, false)] [⟨2, 108, [19], []⟩, ⟨0, 4, [], []⟩] [⟨3, [0, 1, 0, 7, 15, 0], [5, 2, 5, 2, 0, 0], [0, 0, 0, 0, 0, 0], [0, 2, 5, 1, 3, 4], []⟩, ⟨9, [0, 0, 3, 7, 15, 15, 0, 95, 255], [5, 2, 2, 0, 0, 0, 3, 4, 0], [2, 0, 0, 0, 0, 0, 0, 0, 0], [0, 1, 2, 3, 4, 5, 6], [7, 8]⟩, ⟨11, [0, 0, 3, 7, 15, 15, 0, 95, 255], [5, 2, 2, 0, 0, 0, 3, 4, 0], [4, 0, 0, 0, 0, 0, 0, 0, 0], [0, 1, 2, 3, 4, 5, 6], [7, 8]⟩, ⟨16, [0, 1, 0, 7], [1, 1, 2, 1], [0, 0, 0, 0], [0, 1, 2, 3], []⟩, ⟨19, [0, 0, 3, 7, 15, 15, 31, 127], [5, 2, 2, 0, 0, 0, 0, 0], [6, 0, 0, 0, 0, 0, 0, 0], [0, 1, 2, 3, 4, 5, 6, 7], []⟩, ⟨21, [0, 0, 3, 7, 15, 15, 31, 127], [5, 2, 2, 0, 0, 0, 0, 0], [8, 0, 0, 0, 0, 0, 0, 0], [0, 1, 2, 3, 4, 5, 6, 7], []⟩, ⟨22, [0, 0, 3, 7, 15, 15, 31, 127], [5, 2, 2, 0, 0, 0, 0, 0], [8, 0, 0, 0, 0, 0, 0, 0], [0, 1, 2, 3, 4, 5, 6, 7], []⟩, ⟨23, [0, 1, 3, 7, 7, 23, 63, 127, 255, 511, 1023, 2047, 4095, 8191, 16383, 32767, 65535, 131071, 262143, 524287, 1048575, 2097151, 4194303, 8388607, 16777215, 33554431, 67108863, 134217727, 268435455, 536870911, 1073741823, 2147483647, 4294967295, 8589934591, 17179869183, 34359738367, 68719476735, 137438953471, 274877906943, 549755813887], [0, 0, 0, 5, 0, 2, 1, 0, 0, 0, 0, 0, 0, 0, 0, 0, 0, 0, 0, 0, 0, 0, 0, 0, 0, 0, 0, 0, 0, 0, 0, 0, 0, 0, 0, 0, 0, 0, 0, 0], [0, 0, 0, 9, 0, 0, 0, 0, 0, 0, 0, 0, 0, 0, 0, 0, 0, 0, 0, 0, 0, 0, 0, 0, 0, 0, 0, 0, 0, 0, 0, 0, 0, 0, 0, 0, 0, 0, 0, 0], [0, 1, 2, 3, 4, 5, 6, 7, 8, 9, 10, 11, 12, 13, 14, 15, 16, 17, 18, 19, 20, 21, 22, 23, 24, 25, 26, 27, 28, 29, 30, 31, 32, 33, 34, 35, 36, 37, 38, 39], []⟩] 4 = some (.rq (.cells 6 (.v 0))
(.call false 7 []
(.rq (.bool (.v 1))
(.rq (.isb false (.nt (.v 1)))
(.call true 25 [(.ag (.v 0))]
(.call true 26 [(.ag (.v 0))]
(.rq (.cells 16 (.v 2))
(.rq (.cells 16 (.v 3))
(.loop [(.k (.bool false)), (.k (.int .i64 (0)))]
 (.rq (.int .i64 (.v 5))
 (.br (.op2 .lss .i64 (.v 5) (.k (.int .i64 (2))))
  (.rq (.num (.v 5))
  (.rq (.lt 2 (.v 5))
  (.rq (.cells 16 (.sub (.put (.put (.z 38) 0 16 (.v 2) 0 noI) 16 16 (.v 3) 0 noI) 0 16 16 (.v 5)))
  (.call false 27 [(.sub (.put (.put (.z 38) 0 16 (.v 2) 0 noI) 16 16 (.v 3) 0 noI) 0 16 16 (.v 5))]
  (.rq (.tup 0 (.v 6))
  (.rq (.tup 1 (.v 6))
  (.rq (.cells 8 (.proj (.v 6) 0))
  (.call false 28 [(.sub (.put (.put (.z 38) 0 16 (.v 2) 0 noI) 16 16 (.v 3) 0 noI) 0 16 16 (.v 5))]
  (.rq (.tup 0 (.v 7))
  (.rq (.tup 1 (.v 7))
  (.rq (.cells 8 (.proj (.v 7) 0))
  (.call false 29 [(.sub (.put (.put (.z 38) 0 16 (.v 2) 0 noI) 16 16 (.v 3) 0 noI) 0 16 16 (.v 5))]
  (.rq (.tup 0 (.v 8))
  (.rq (.tup 1 (.v 8))
  (.rq (.cells 8 (.proj (.v 8) 0))
  (.call true 31 [(.k (.int .i64 (1)))]
  (.call true 30 [(.ag (.proj (.v 6) 0)), (.v 9)]
  (.rq (.tup 0 (.v 10))
  (.rq (.tup 1 (.v 10))
  (.rq (.cells 16 (.proj (.v 10) 0))
  (.call false 14 [(.sub (.put (.put (.z 38) 0 16 (.v 2) 0 noI) 16 16 (.v 3) 0 noI) 0 16 16 (.v 5)), (.ag (.proj (.v 10) 0))]
  (.rq (.tup 0 (.v 11))
  (.rq (.tup 1 (.v 11))
  (.rq (.cells 16 (.proj (.v 11) 0))
  (.call true 31 [(.k (.int .i64 (1)))]
  (.call true 30 [(.ag (.proj (.v 8) 0)), (.v 12)]
  (.rq (.tup 0 (.v 13))
  (.rq (.tup 1 (.v 13))
  (.rq (.cells 16 (.proj (.v 13) 0))
  (.call false 14 [(.sub (.put (.put (.z 38) 0 16 (.v 2) 0 noI) 16 16 (.v 3) 0 noI) 0 16 16 (.v 5)), (.ag (.proj (.v 13) 0))]
  (.rq (.tup 0 (.v 14))
  (.rq (.tup 1 (.v 14))
  (.rq (.cells 16 (.proj (.v 14) 0))
  (.rq (.int .i64 (.proj (.v 6) 1))
  (.rq (.isb false (.op2 .neq .i64 (.proj (.v 6) 1) (.k (.int .i64 (0)))))
  (.rq (.int .i64 (.proj (.v 7) 1))
  (.rq (.isb false (.op2 .neq .i64 (.proj (.v 7) 1) (.k (.int .i64 (0)))))
  (.rq (.int .i64 (.proj (.v 8) 1))
  (.rq (.isb false (.op2 .neq .i64 (.proj (.v 8) 1) (.k (.int .i64 (0)))))
  (.rq (.int .i64 (.proj (.v 10) 1))
  (.rq (.isb false (.op2 .neq .i64 (.proj (.v 10) 1) (.k (.int .i64 (0)))))
  (.rq (.int .i64 (.proj (.v 11) 1))
  (.rq (.isb false (.op2 .neq .i64 (.proj (.v 11) 1) (.k (.int .i64 (0)))))
  (.rq (.int .i64 (.proj (.v 13) 1))
  (.rq (.isb false (.op2 .neq .i64 (.proj (.v 13) 1) (.k (.int .i64 (0)))))
  (.rq (.int .i64 (.proj (.v 14) 1))
  (.rq (.isb false (.op2 .neq .i64 (.proj (.v 14) 1) (.k (.int .i64 (0)))))
  (.call true 31 [(.k (.int .i64 (1)))]
  (.prim 16 3 (opr Tryz.f4 16 3) [(.sub (.sub (.put (.put (.z 38) 0 16 (.v 2) 0 noI) 16 16 (.v 3) 0 noI) 0 16 16 (.v 5)) 8 8 0 noI), (.v 15)]
  (.join 1
   (.rq (.bool (.v 16))
   (.br (.v 16)
    (.next 1 [(.k (.int .i64 (1)))])
    (.next 1 [(.k (.int .i64 (0)))])))
   (.call false 32 [(.ag (.proj (.v 7) 0)), (.ag (.proj (.v 6) 0))]
   (.rq (.tup 0 (.v 18))
   (.rq (.tup 1 (.v 18))
   (.rq (.cells 8 (.proj (.v 18) 0))
   (.call true 34 [(.k (.int .i64 (1))), (.k (.int .i64 (1)))]
   (.call true 33 [(.ag (.proj (.v 11) 0)), (.v 19)]
   (.rq (.tup 0 (.v 20))
   (.rq (.tup 1 (.v 20))
   (.call false 35 [(.ag (.proj (.v 11) 0))]
   (.rq (.tup 0 (.v 21))
   (.rq (.tup 1 (.v 21))
   (.call true 34 [(.k (.int .i64 (1))), (.k (.int .i64 (2)))]
   (.call true 33 [(.ag (.proj (.v 14) 0)), (.v 22)]
   (.rq (.tup 0 (.v 23))
   (.rq (.tup 1 (.v 23))
   (.call true 34 [(.k (.int .i64 (-1))), (.k (.int .i64 (2)))]
   (.call true 33 [(.ag (.proj (.v 14) 0)), (.v 24)]
   (.rq (.tup 0 (.v 25))
   (.rq (.tup 1 (.v 25))
   (.rq (.int .i64 (.proj (.v 18) 1))
   (.rq (.isb false (.op2 .neq .i64 (.proj (.v 18) 1) (.k (.int .i64 (0)))))
   (.call true 31 [(.v 17)]
   (.prim 23 6 (opr Tryz.f4 23 6) [(.ag (.proj (.v 18) 0)), (.v 26)]
   (.rq (.isb false (.v 27))
   (.rq (.int .i64 (.proj (.v 20) 1))
   (.rq (.isb false (.op2 .neq .i64 (.proj (.v 20) 1) (.k (.int .i64 (0)))))
   (.rq (.int .i64 (.proj (.v 20) 0))
   (.rq (.isb false (.op2 .geq .i64 (.proj (.v 20) 0) (.k (.int .i64 (0)))))
   (.rq (.int .i64 (.proj (.v 21) 1))
   (.rq (.isb false (.op2 .neq .i64 (.proj (.v 21) 1) (.k (.int .i64 (0)))))
   (.rq (.int .i64 (.proj (.v 21) 0))
   (.rq (.isb false (.op2 .lss .i64 (.proj (.v 21) 0) (.k (.int .i64 (0)))))
   (.rq (.int .i64 (.proj (.v 23) 1))
   (.rq (.isb false (.op2 .neq .i64 (.proj (.v 23) 1) (.k (.int .i64 (0)))))
   (.rq (.int .i64 (.proj (.v 23) 0))
   (.rq (.isb false (.op2 .geq .i64 (.proj (.v 23) 0) (.k (.int .i64 (0)))))
   (.rq (.int .i64 (.proj (.v 25) 1))
   (.rq (.isb false (.op2 .neq .i64 (.proj (.v 25) 1) (.k (.int .i64 (0)))))
   (.rq (.int .i64 (.proj (.v 25) 0))
   (.rq (.isb false (.op2 .lss .i64 (.proj (.v 25) 0) (.k (.int .i64 (0)))))
   (.next 0 [(.v 4), (.op2 .add .i64 (.v 5) (.k (.int .i64 (1))))])))))))))))))))))))))))))))))))))))))))))))))))))))))))))))))))))))))))))))))))))))))))))))
  (.ret [(.k (.bool true))])))))))))))) := by kernel_rfl
theorem np_ShareRounds : (Tryz.prog.funcs[4]?).map (fun fn => fn.params.size + fn.nfree) = some 1 := by kernel_rfl
theorem op_ShareRounds_16_3 : (opr Tryz.f4 16 3).op = .binOp .neq 24 (.tmp 106) (.tmp 107) 24 := by kernel_rfl
theorem op_ShareRounds_23_6 : (opr Tryz.f4 23 6).op = .binOp .neq 24 (.tmp 141) (.tmp 143) 24 := by kernel_rfl
theorem sgR_lt {r s : Rat} (h : r < s) : sgR r s = -1 := by unfold sgR; rw [if_pos h]
theorem sgR_ge {r s : Rat} (h : s ≤ r) : 0 ≤ sgR r s := by
  unfold sgR; rw [if_neg (Rat.not_lt.2 h)]; split <;> omega
theorem sgI_ge {r : Rat} (h : 0 ≤ r) : 0 ≤ sgI r.num 0 := by
  have := Rat.num_nonneg.2 h
  unfold sgI; rw [if_neg (by omega)]; split <;> omega
set_option maxRecDepth 100000 in
set_option maxHeartbeats 4000000 in
theorem con_shareRounds {H : PH} {v : Value} (h : Dr2 H v) : Con Tryz.prog 4 [v] H fun u H' => u = .bool true ∧ PH.le H H' := by
  have hrq := h.rq
  have h' := h
  obtain ⟨a0, a1, a2, b0, b1, b2, rfl, -, -⟩ := h
  have f1 : Fits 1 := fits_small (by omega) (by omega)
  refine con_of_tree mixed tr_ShareRounds np_ShareRounds rfl (den_rq hrq (den_call (con_hworks H) rfl ?_))
  rintro _ H1 ⟨rfl, l1⟩
  simp only [List.cons_append, List.nil_append]
  refine ⟨fun h => (nomatch h), den_rq ⟨_, rfl⟩ (den_rq rfl (den_call (con_qShare (h'.mono l1)) rfl ?_))⟩
  rintro _ H2 ⟨l2, x, rfl, hx⟩
  simp only [List.cons_append, List.nil_append]
  refine ⟨fun _ => l2, den_call (con_qShort (h'.mono (l1.trans l2))) rfl ?_⟩
  rintro _ H3 ⟨l3, y, rfl, hy⟩
  simp only [List.cons_append, List.nil_append]
  have l13 := l1.trans (l2.trans l3)
  refine ⟨fun _ => l3, den_rq (shv_one _ _) (den_rq (shv_one _ _) ⟨fun vals H' => ∃ i : Nat, vals = [.bool false, iv i] ∧ i ≤ 2 ∧ PH.le H H', fun vals _ => (2 - intOf (vals.getD 1 undef)).toNat, ⟨0, rfl, by omega, l13⟩, ?_⟩)⟩
  rintro vals H4 - ⟨i, rfl, hi, l4⟩
  simp only [List.cons_append, List.nil_append]
  refine den_rq ⟨_, rfl⟩ (den_br (b := decide ((i : Int) < 2)) rfl (fun hb => ?_) (fun hb => ?_))
  · have hb : i < 2 := by have := of_decide_eq_true hb; omega
    have e1 : IntKind.i64.wrap ((i : Int) + 1) = ((i + 1 : Nat) : Int) := wadd1 (by omega)
    obtain ⟨r, hr⟩ : ∃ r, r = if i = 0 then x else y := ⟨_, rfl⟩
    have rb : Rb 201 r := by
      rw [hr]; split
      · exact hx
      · exact hy.le (by omega)
    have gr : Rg r := rg_of rb (by omega)
    have hsub : ∀ ρ : List Value, ρ.getD 2 undef = shR x → ρ.getD 3 undef = shR y → ρ.getD 5 undef = iv i → D Tryz.prog ρ (.sub (.put (.put (.z 38) 0 16 (.v 2) 0 noI) 16 16 (.v 3) 0 noI) 0 16 16 (.v 5)) = shR r := fun ρ h2 h3 h5 => by
      show Value.agg ((D Tryz.prog ρ (.put (.put (.z 38) 0 16 (.v 2) 0 noI) 16 16 (.v 3) 0 noI)).cells.extract (0 + 16 * ixOf (ρ.getD 5 undef)) (0 + 16 * ixOf (ρ.getD 5 undef) + 16)) = _
      rw [put_sp (a := rs x.num) (b := rs (x.den : Int)) (c := rs y.num) (d := rs (y.den : Int)) (by show (ρ.getD 2 undef).cells = _; rw [h2]; rfl) (by show (ρ.getD 3 undef).cells = _; rw [h3]; rfl), h5]
      obtain ⟨x0, x16, _⟩ := q4_ext (words_size (rs x.num)) (words_size (rs (x.den : Int))) (words_size (rs y.num)) (words_size (rs (y.den : Int)))
      rw [hr]
      rcases (show i = 0 ∨ i = 1 from by omega) with rfl | rfl
      · exact congrArg Value.agg x0
      · exact congrArg Value.agg x16
    obtain ⟨ff, hff⟩ : ∃ f, f = r.floor := ⟨_, rfl⟩
    obtain ⟨cc, hcc⟩ : ∃ c, c = -(-r).floor := ⟨_, rfl⟩
    obtain ⟨nn, hnn⟩ : ∃ n, n = (r + 1 / 2).floor := ⟨_, rfl⟩
    have af : ff.natAbs < 2 ^ 201 := by rw [hff]; exact floor_abs rb
    have ac : cc.natAbs < 2 ^ 201 := by rw [hcc, Int.natAbs_neg]; exact floor_abs rb.neg
    have an : nn.natAbs < 2 ^ 202 := by rw [hnn]; exact floor_near (by rw [← hff]; exact af)
    have Ff : Fits ff := fits_abs af (by omega)
    have Fc : Fits cc := fits_abs ac (by omega)
    have Fn : Fits nn := fits_abs an (by omega)
    have gf : Rg (ff : Rat) := rg_int af (by omega) (by omega)
    have gn : Rg (nn : Rat) := rg_int an (by omega) (by omega)
    have gp : Rg (r - (ff : Rat)) := by
      rw [Rat.sub_eq_add_neg]
      exact rg_of (rb.add (Rb.neg (k := 201) ⟨by rw [Rat.num_intCast]; exact af, by rw [Rat.den_intCast]; exact Nat.lt_of_lt_of_le (show 1 < 2 ^ 1 by omega) (Nat.pow_le_pow_right (by omega) (by omega))⟩) (m := 403) (by omega)) (by omega)
    have gq : Rg (r - (nn : Rat)) := by
      rw [Rat.sub_eq_add_neg]
      exact rg_of (rb.add (Rb.neg (k := 202) ⟨by rw [Rat.num_intCast]; exact an, by rw [Rat.den_intCast]; exact Nat.lt_of_lt_of_le (show 1 < 2 ^ 1 by omega) (Nat.pow_le_pow_right (by omega) (by omega))⟩) (m := 404) (by omega)) (by omega)
    have b1 := frac_bounds r
    have b2 := near_bounds r
    rw [← hff] at b1
    rw [← hnn] at b2
    have gap := ceil_gap r
    rw [← hff, ← hcc] at gap
    have k1 := go_floor (H := H4) gr
    rw [← hff] at k1
    refine den_rq ⟨_, _, rfl⟩ (den_rq ⟨by show (0 : Int) ≤ (i : Int); omega, by show (i : Int) < 2; omega⟩ (den_rq (r := .cells 16 _) (by simp only [Rq.holds]; rw [hsub _ rfl rfl rfl]; exact shv_one _ _) (den_call k1 (by rw [List.map_cons, List.map_nil, hsub _ rfl rfl rfl]) ?_)))
    rintro _ H5 ⟨l5, rfl⟩
    simp only [List.cons_append, List.nil_append]
    have k2 := go_ceil (H := H5) gr
    rw [← hcc] at k2
    refine ⟨fun h => (nomatch h), den_t2w rfl (den_call k2 (by rw [List.map_cons, List.map_nil, hsub _ rfl rfl rfl]) ?_)⟩
    rintro _ H6 ⟨l6, rfl⟩
    simp only [List.cons_append, List.nil_append]
    have k3 := go_near (H := H6) gr (by rw [← hnn]; exact Fn)
    rw [← hnn] at k3
    refine ⟨fun h => (nomatch h), den_t2w rfl (den_call k3 (by rw [List.map_cons, List.map_nil, hsub _ rfl rfl rfl]) ?_)⟩
    rintro _ H7 ⟨l7, rfl⟩
    simp only [List.cons_append, List.nil_append]
    refine ⟨fun h => (nomatch h), den_t2w rfl (den_det (det_Of 1 (by omega) (by omega)) rfl (den_call (go_make Ff f1 (by omega) (divInt_one ff) gf) rfl ?_))⟩
    rintro _ H8 ⟨l8, rfl⟩
    simp only [List.cons_append, List.nil_append]
    refine ⟨fun _ => l8, den_t2s rfl (den_call (go_sub gr gf rfl gp) (by rw [List.map_cons, List.map_cons, List.map_nil, hsub _ rfl rfl rfl]; rfl) ?_)⟩
    rintro _ H9 ⟨l9, rfl⟩
    simp only [List.cons_append, List.nil_append]
    refine ⟨fun h => (nomatch h), den_t2s rfl (den_det (det_Of 1 (by omega) (by omega)) rfl (den_call (go_make Fn f1 (by omega) (divInt_one nn) gn) rfl ?_))⟩
    rintro _ H10 ⟨l10, rfl⟩
    simp only [List.cons_append, List.nil_append]
    refine ⟨fun _ => l10, den_t2s rfl (den_call (go_sub gr gn rfl gq) (by rw [List.map_cons, List.map_cons, List.map_nil, hsub _ rfl rfl rfl]; rfl) ?_)⟩
    rintro _ H11 ⟨l11, rfl⟩
    simp only [List.cons_append, List.nil_append]
    have l11' := l4.trans (l5.trans (l6.trans (l7.trans (l8.trans (l9.trans (l10.trans l11))))))
    obtain ⟨up, hup⟩ : ∃ up : Int, up = if r.den = 1 then 0 else 1 := ⟨_, rfl⟩
    have hup2 : 0 ≤ up ∧ up ≤ 1 := by rw [hup]; split <;> omega
    refine ⟨fun h => (nomatch h), den_t2s rfl (den_e0 rfl (den_e0 rfl (den_e0 rfl (den_e0 rfl (den_e0 rfl (den_e0 rfl (den_e0 rfl (den_det (det_Of 1 (by omega) (by omega)) rfl ?_))))))))⟩
    simp only [List.cons_append, List.nil_append]
    refine den_prim ((ne_wide (a := rs (r.den : Int)) (b := rs 1) op_ShareRounds_16_3 rfl rfl rfl rfl).rds _) ?_ ?_
    · rw [List.map_cons, List.map_cons, List.map_nil]
      show [Value.agg ((D Tryz.prog _ (.sub (.put (.put (.z 38) 0 16 (.v 2) 0 noI) 16 16 (.v 3) 0 noI) 0 16 16 (.v 5))).cells.extract 8 16), _] = _
      rw [hsub _ rfl rfl rfl]
      exact congrArg (fun z => [z, iw 1]) (sh_d (rs r.num) (rs (r.den : Int)))
    simp only [List.cons_append, List.nil_append]
    have hden : (!decide (rs (r.den : Int) % M = rs 1 % M)) = !decide (r.den = 1) := by
      congr 1
      rw [decide_eq_decide]
      constructor
      · intro e
        have := rs_inj (rg_fits gr).2 f1 e
        omega
      · intro e; rw [e]; rfl
    rw [hden]
    refine ⟨fun vals H' => vals = [.int .i64 up] ∧ H' = H11, den_rq ⟨_, rfl⟩ (den_br rfl (fun hd => ?_) (fun hd => ?_)), ?_⟩
    · have hd := of_decide_eq_false (not_t hd)
      rw [if_neg hd] at hup
      exact ⟨by rw [hup]; rfl, rfl⟩
    · have hd := of_decide_eq_true (not_f hd)
      rw [if_pos hd] at hup
      exact ⟨by rw [hup]; rfl, rfl⟩
    rintro vals _ - ⟨rfl, rfl⟩
    simp only [List.cons_append, List.nil_append]
    have ksub := det_Sub (rs cc) (rs ff)
    rw [toI_rs Fc, toI_rs Ff, gap, ← hup, told_fits (fits_small (by omega) (by omega))] at ksub
    refine den_det ksub rfl (den_t2w rfl (den_call (con_hq 1 (by omega) (by omega) (by omega) (by omega) (by omega) (by decide +kernel) (by unfold Sm; decide +kernel)) rfl ?_))
    rintro _ H12 ⟨l12, rfl⟩
    simp only [List.cons_append, List.nil_append]
    refine ⟨fun _ => l12, den_call (go_cmp gp rg_one) rfl ?_⟩
    rintro _ H13 ⟨l13, rfl⟩
    simp only [List.cons_append, List.nil_append]
    refine ⟨fun _ => l13, den_t2 rfl (den_call (go_sign gp) rfl ?_)⟩
    rintro _ H14 ⟨l14, rfl⟩
    simp only [List.cons_append, List.nil_append]
    refine ⟨fun h => (nomatch h), den_t2 rfl (den_call (con_hq (1 / 2) (by omega) (by omega) (by omega) (by omega) (by omega) (by decide +kernel) (by unfold Sm; decide +kernel)) rfl ?_)⟩
    rintro _ H15 ⟨l15, rfl⟩
    simp only [List.cons_append, List.nil_append]
    have ghalf : Rg (1 / 2) := ⟨2, by omega, by decide +kernel, by decide +kernel⟩
    have gmhalf : Rg (-(1 / 2)) := rg_neg ghalf
    refine ⟨fun _ => l15, den_call (go_cmp gq ghalf) rfl ?_⟩
    rintro _ H16 ⟨l16, rfl⟩
    simp only [List.cons_append, List.nil_append]
    refine ⟨fun _ => l16, den_t2 rfl (den_call (con_hq (-(1 / 2)) (by omega) (by omega) (by omega) (by omega) (by omega) (by decide +kernel) (by unfold Sm; decide +kernel)) rfl ?_)⟩
    rintro _ H17 ⟨l17, rfl⟩
    simp only [List.cons_append, List.nil_append]
    refine ⟨fun _ => l17, den_call (go_cmp gq gmhalf) rfl ?_⟩
    rintro _ H18 ⟨l18, rfl⟩
    simp only [List.cons_append, List.nil_append]
    have c1 := sgR_lt b1.2
    have c2 := sgI_ge b1.1
    have c3 := sgR_lt b2.2
    have c4 := sgR_ge b2.1
    refine ⟨fun _ => l18, den_t2 rfl (den_e0 rfl (den_det (det_Of up (by omega) (by omega)) rfl ?_))⟩
    simp only [List.cons_append, List.nil_append]
    refine den_prim ((ne_wself (n := rs up) op_ShareRounds_23_6 rfl rfl).rds _) rfl (den_rq rfl (den_e0 rfl (den_cmp rfl (by rw [c1]; rfl) (den_e0 rfl (den_cmp rfl ?_ (den_e0 rfl (den_cmp rfl (by rw [c3]; rfl) (den_e0 rfl (den_cmp rfl ?_ ⟨⟨i + 1, ?_, by omega, l11'.trans (l12.trans (l13.trans (l14.trans (l15.trans (l16.trans (l17.trans l18))))))⟩, ?_⟩)))))))))
    · show Value.bool (decide (sgI (r - (ff : Rat)).num 0 < 0)) = _
      rw [decide_eq_false (by omega)]
    · show Value.bool (decide (sgR (r - (nn : Rat)) (-(1 / 2)) < 0)) = _
      rw [decide_eq_false (by omega)]
    · simp only [rxs, iv, e1]
    · simp only [rxs, iv, e1]
      omega
  · exact den_ret rfl ⟨rfl, l4⟩
end Go.Proofs.YtcleogdmobdnpabGreat

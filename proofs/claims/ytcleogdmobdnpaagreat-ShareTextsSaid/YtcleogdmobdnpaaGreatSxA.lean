/- The law ShareTexts; its tree is printed by rxgen.py. -/
import Derived.Test.YtcleogdmobdnpaaGreatWdT
import Derived.Test.YtcleogdmobdnpaaGreatSdA
import Derived.Test.YtcleogdmobdnpaaGreatSrC
namespace Go.Proofs.YtcleogdmobdnpaaGreat
open Go.RowKit Go.RX Go.WD
theorem tr_ShareTexts : tree Tryz.prog [] [(31, false), (54, false), (58, false), (102, false), (106, false), (134, false), (138, false)] [⟨0, 4, [], [0]⟩, ⟨0, 12, [], []⟩, ⟨0, 20, [], []⟩] [⟨11, [0, 0, 0, 6, 0, 16, 48, 126, 0, 0, 768, 2046, 0, 0, 12288, 0, 0, 65536, 196608, 491520, 1048575, 0], [0, 0, 0, 1, 0, 2, 1, 1, 0, 0, 1, 1, 0, 0, 1, 0, 0, 1, 1, 1, 0, 0], [0, 0, 0, 0, 0, 0, 0, 0, 0, 0, 0, 0, 0, 0, 0, 0, 0, 0, 0, 0, 0, 0], [0, 1, 2, 3, 4, 8, 9, 10, 12, 13, 14, 15, 16, 17, 18, 19, 21, 5, 6, 7, 11, 20], []⟩] 4 = some (.rq (.cells 44 (.v 0))
(.call false 7 []
(.rq (.bool (.v 5))
(.rq (.isb false (.nt (.v 5)))
(.call false 8 [(.ag (.v 0))]
(.prim 3 2 (opr Tryz.f4 3 2) [(.v 6)]
(.loop [(.k (.bool false)), (.k (.int .i64 (0))), (.v 0)]
 (.rq (.int .i64 (.v 9))
 (.rq (.int .i64 (.v 7))
 (.br (.op2 .lss .i64 (.v 9) (.v 7))
  (.prim 5 0 (opr Tryz.f4 5 0) [(.v 6), (.v 9)]
  (.prim 5 1 (opr Tryz.f4 5 1) [(.v 11)]
  (.rq (.cells 32 (.v 12))
  (.call false 15 [(.sub (.v 12) 0 16 0 noI)]
  (.rq (.tup 0 (.v 13))
  (.rq (.tup 1 (.v 13))
  (.call false 16 [(.sub (.v 12) 0 16 0 noI)]
  (.rq (.tup 0 (.v 14))
  (.rq (.tup 1 (.v 14))
  (.prim 8 2 (opr Tryz.f4 8 2) [(.proj (.v 14) 0), (.proj (.v 13) 0)]
  (.rq (.isb false (.v 15))
  (.rq (.int .i64 (.proj (.v 13) 1))
  (.rq (.int .i64 (.proj (.v 14) 1))
  (.rq (.isb false (.op2 .neq .i64 (.proj (.v 13) 1) (.proj (.v 14) 1)))
  (.rq (.int .u16 (.v 2))
  (.prim 10 3 (opr Tryz.f4 10 3) [(.proj (.v 13) 0)]
  (.rq (.int .i64 (.v 16))
  (.rq (.nz (.op2 .add .i64 (.v 16) (.k (.int .i64 (1)))))
  (.prim 11 3 (opr Tryz.f4 11 3) [(.proj (.v 13) 0), (.op2 .rem .i64 (.cv .i64 (.v 2)) (.op2 .add .i64 (.v 16) (.k (.int .i64 (1)))))]
  (.prim 11 10 (opr Tryz.f4 11 10) [(.proj (.v 13) 0), (.op2 .rem .i64 (.cv .i64 (.v 2)) (.op2 .add .i64 (.v 16) (.k (.int .i64 (1)))))]
  (.prim 11 14 (opr Tryz.f4 11 14) [(.proj (.v 13) 0), (.op2 .rem .i64 (.cv .i64 (.v 2)) (.op2 .add .i64 (.v 16) (.k (.int .i64 (1)))))]
  (.prim 11 17 (opr Tryz.f4 11 17) [(.v 1)]
  (.prim 11 18 (opr Tryz.f4 11 18) [(.v 20), (.k (.int .i64 (330)))]
  (.prim 11 19 (opr Tryz.f4 11 19) [(.v 1), (.v 21)]
  (.eff true 11 5 (opr Tryz.f4 11 5) [(.v 3)]
  (.prim 11 6 (opr Tryz.f4 11 6) [(.v 23)]
  (.prim 11 7 (opr Tryz.f4 11 7) [(.v 17), (.v 24)]
  (.prim 11 11 (opr Tryz.f4 11 11) [(.v 25), (.v 18)]
  (.rq (.cells 1 (.proj (.v 13) 0))
  (.rq (.cells 1 (.v 26))
  (.rq (.cells 1 (.v 19))
  (.rq (.cells 1 (.v 22))
  (.loop [(.v 8), (.k (.int .i64 (0)))]
   (.rq (.int .i64 (.v 28))
   (.br (.op2 .lss .i64 (.v 28) (.k (.int .i64 (4))))
    (.rq (.num (.v 28))
    (.rq (.lt 4 (.v 28))
    (.call false 17 [(.cell (.put (.put (.put (.put (.z 50) 0 1 (.proj (.v 13) 0) 0 noI) 1 1 (.v 26) 0 noI) 2 1 (.v 19) 0 noI) 3 1 (.v 22) 0 noI) 0 1 (.v 28))]
    (.rq (.tup 0 (.v 29))
    (.rq (.tup 1 (.v 29))
    (.rq (.cells 16 (.proj (.v 29) 0))
    (.call false 18 [(.cell (.put (.put (.put (.put (.z 50) 0 1 (.proj (.v 13) 0) 0 noI) 1 1 (.v 26) 0 noI) 2 1 (.v 19) 0 noI) 3 1 (.v 22) 0 noI) 0 1 (.v 28))]
    (.rq (.tup 0 (.v 30))
    (.rq (.tup 1 (.v 30))
    (.rq (.cells 16 (.proj (.v 30) 0))
    (.prim 16 2 (opr Tryz.f4 16 2) [(.ag (.proj (.v 29) 0)), (.ag (.proj (.v 30) 0))]
    (.rq (.isb false (.v 31))
    (.rq (.int .i64 (.proj (.v 29) 1))
    (.rq (.int .i64 (.proj (.v 30) 1))
    (.rq (.isb false (.op2 .neq .i64 (.proj (.v 29) 1) (.proj (.v 30) 1)))
    (.next 1 [(.v 27), (.op2 .add .i64 (.v 28) (.k (.int .i64 (1))))]))))))))))))))))
    (.rq (.int .i64 (.v 4))
    (.rq (.cells 1 (.v 4))
    (.loop [(.v 27), (.k (.int .i64 (0)))]
     (.rq (.int .i64 (.v 30))
     (.br (.op2 .lss .i64 (.v 30) (.k (.int .i64 (2))))
      (.rq (.num (.v 30))
      (.rq (.lt 2 (.v 30))
      (.call false 19 [(.sub (.v 12) 0 16 0 noI), (.cell (.put (.put (.z 43) 0 1 (.v 4) 0 noI) 1 1 (.cv .i64 (.op2 .rem .u64 (.cv .u64 (.v 4)) (.k (.int .u64 (21))))) 0 noI) 0 1 (.v 30))]
      (.rq (.tup 0 (.v 31))
      (.rq (.tup 1 (.v 31))
      (.call false 20 [(.sub (.v 12) 0 16 0 noI), (.cell (.put (.put (.z 43) 0 1 (.v 4) 0 noI) 1 1 (.cv .i64 (.op2 .rem .u64 (.cv .u64 (.v 4)) (.k (.int .u64 (21))))) 0 noI) 0 1 (.v 30))]
      (.rq (.tup 0 (.v 32))
      (.rq (.tup 1 (.v 32))
      (.prim 24 2 (opr Tryz.f4 24 2) [(.proj (.v 31) 0), (.proj (.v 32) 0)]
      (.rq (.isb false (.v 33))
      (.rq (.int .i64 (.proj (.v 31) 1))
      (.rq (.int .i64 (.proj (.v 32) 1))
      (.rq (.isb false (.op2 .neq .i64 (.proj (.v 31) 1) (.proj (.v 32) 1)))
      (.next 2 [(.v 29), (.op2 .add .i64 (.v 30) (.k (.int .i64 (1))))]))))))))))))))
      (.next 0 [(.v 29), (.op2 .add .i64 (.v 9) (.k (.int .i64 (1)))), (.v 10)])))))))))))))))))))))))))))))))))))))))))
  (.ret [(.k (.bool true))]))))))))))) := by kernel_rfl
theorem np_ShareTexts : (Tryz.prog.funcs[4]?).map (fun fn => fn.params.size + fn.nfree) = some 5 := by kernel_rfl
theorem op_ShareTexts_3_2 : (opr Tryz.f4 3 2).op = .call ⟨.builtin .len, #[(.tmp 33)], #[36]⟩ := by kernel_rfl
theorem op_ShareTexts_5_0 : (opr Tryz.f4 5 0).op = .indexAddr 36 (.tmp 33) (.tmp 35) := by kernel_rfl
theorem op_ShareTexts_5_1 : (opr Tryz.f4 5 1).op = .load 38 (.tmp 37) := by kernel_rfl
theorem op_ShareTexts_8_2 : (opr Tryz.f4 8 2).op = .binOp .neq 9 (.tmp 51) (.tmp 52) 9 := by kernel_rfl
theorem op_ShareTexts_10_3 : (opr Tryz.f4 10 3).op = .call ⟨.builtin .len, #[(.tmp 61)], #[9]⟩ := by kernel_rfl
theorem op_ShareTexts_11_3 : (opr Tryz.f4 11 3).op = .slice 9 (.tmp 66) none (some (.tmp 67)) none := by kernel_rfl
theorem op_ShareTexts_11_10 : (opr Tryz.f4 11 10).op = .slice 9 (.tmp 73) (some (.tmp 74)) none none := by kernel_rfl
theorem op_ShareTexts_11_14 : (opr Tryz.f4 11 14).op = .slice 9 (.tmp 77) (some (.tmp 78)) none none := by kernel_rfl
theorem op_ShareTexts_11_17 : (opr Tryz.f4 11 17).op = .call ⟨.builtin .len, #[(.tmp 81)], #[9]⟩ := by kernel_rfl
theorem op_ShareTexts_11_18 : (opr Tryz.f4 11 18).op = .call ⟨.builtin .min, #[(.tmp 82), (.const (.int .i64 (330)))], #[3, 3]⟩ := by kernel_rfl
theorem op_ShareTexts_11_19 : (opr Tryz.f4 11 19).op = .slice 9 (.tmp 80) none (some (.tmp 83)) none := by kernel_rfl
theorem op_ShareTexts_11_5 : (opr Tryz.f4 11 5).op = .buildSlice 49 1 #[(0, (.tmp 69))] := by kernel_rfl
theorem op_ShareTexts_11_6 : (opr Tryz.f4 11 6).op = .convert 49 9 (.tmp 70) := by kernel_rfl
theorem op_ShareTexts_11_7 : (opr Tryz.f4 11 7).op = .binOp .add 9 (.tmp 68) (.tmp 71) 9 := by kernel_rfl
theorem op_ShareTexts_11_11 : (opr Tryz.f4 11 11).op = .binOp .add 9 (.tmp 72) (.tmp 75) 9 := by kernel_rfl
theorem op_ShareTexts_16_2 : (opr Tryz.f4 16 2).op = .binOp .neq 26 (.tmp 99) (.tmp 100) 26 := by kernel_rfl
theorem op_ShareTexts_24_2 : (opr Tryz.f4 24 2).op = .binOp .neq 9 (.tmp 131) (.tmp 132) 9 := by kernel_rfl
theorem z_str4 : zeroV Tryz.prog 50 = .agg #[st [], st [], st [], st []] := by kernel_rfl
def tx4 (a b c d : List UInt8) (j : Nat) : List UInt8 := if j = 0 then a else if j = 1 then b else if j = 2 then c else d
theorem pick4 {P : Program} {ρ : List Value} {z x1 x2 x3 x4 : SV} {i j : Nat} {a b c d : List UInt8} (hz : D P ρ z = .agg #[st [], st [], st [], st []]) (h1 : D P ρ x1 = st a) (h2 : D P ρ x2 = st b) (h3 : D P ρ x3 = st c) (h4 : D P ρ x4 = st d) (hi : ρ.getD i undef = iv j) (hj : j < 4) :
    D P ρ (.cell (.put (.put (.put (.put z 0 1 x1 0 noI) 1 1 x2 0 noI) 2 1 x3 0 noI) 3 1 x4 0 noI) 0 1 (.v i)) = st (tx4 a b c d j) := by
  have k1 := D_put1 (o := 0) hz (y := x1) (by rw [h1]; rfl)
  have k2 := D_put1 (o := 1) k1 (y := x2) (by rw [h2]; rfl)
  have k3 := D_put1 (o := 2) k2 (y := x3) (by rw [h3]; rfl)
  have k4 := D_put1 (o := 3) k3 (y := x4) (by rw [h4]; rfl)
  rw [h1, h2, h3, h4] at k4
  refine (D_cell1 k4 hi).trans ?_
  rcases (show j = 0 ∨ j = 1 ∨ j = 2 ∨ j = 3 from by omega) with rfl | rfl | rfl | rfl <;> rfl
theorem textV_two (a b : Nat) : ∃ (l : List UInt8) (e : Int), textV a b = .tuple #[st l, .int .i64 e] ∧ l.length ≤ 311 := by
  unfold textV
  split
  · rename_i h
    obtain ⟨e1, e2⟩ := ok_rat h
    have t1 := txt_len (toI_fits a)
    have t2 := txt_len (toI_fits b)
    refine ⟨_, _, rfl, ?_⟩
    unfold txtR
    rw [e1, e2]
    split
    · omega
    · simp; omega
  · exact ⟨[], 20, rfl, by simp⟩
theorem parS_form (l : List UInt8) : ∃ (n d : Nat) (e : Int), parS l = .tuple #[shv n d, .int .i64 e] := by
  unfold parS
  split
  · split
    · split
      · exact ⟨_, _, _, rfl⟩
      · exact ⟨_, _, _, rfl⟩
    · exact ⟨_, _, _, rfl⟩
  · exact ⟨_, _, _, rfl⟩
theorem decV_form (n d : Nat) (p : Int) : ∃ (l : List UInt8) (e : Int), decV n d p = .tuple #[st l, .int .i64 e] := by
  unfold decV
  split
  · split
    · exact ⟨_, _, rfl⟩
    · exact ⟨_, _, rfl⟩
  · exact ⟨_, _, rfl⟩
section
variable {H : PH} {l : List UInt8} {a b : Nat} {n d : Nat} {p e : Int}
theorem con_sTextF (h : textV a b = .tuple #[st l, .int .i64 e]) : Con Tryz.prog 16 [shv a b] H fun u H' => PH.le H H' ∧ u = .tuple #[st l, .int .i64 e] := (con_sText a b).mono fun _ _ ⟨l, hu⟩ => ⟨l, hu.trans h⟩
theorem con_qTextF (h : textV a b = .tuple #[st l, .int .i64 e]) : Con Tryz.prog 15 [shv a b] H fun u H' => PH.le H H' ∧ u = .tuple #[st l, .int .i64 e] := (con_qText a b).mono fun _ _ ⟨l, hu⟩ => ⟨l, hu.trans h⟩
theorem con_sParseF (hl : l.length < 9000000000000000000) (h : parS l = .tuple #[shv n d, .int .i64 e]) : Con Tryz.prog 17 [st l] H fun u H' => PH.le H H' ∧ u = .tuple #[shv n d, .int .i64 e] := (con_sParse l hl).mono fun _ _ ⟨l, hu⟩ => ⟨l, hu.trans h⟩
theorem con_qParseF (hl : l.length < 9000000000000000000) (h : parS l = .tuple #[shv n d, .int .i64 e]) : Con Tryz.prog 18 [st l] H fun u H' => PH.le H H' ∧ u = .tuple #[shv n d, .int .i64 e] := (con_qParse l hl).mono fun _ _ ⟨l, hu⟩ => ⟨l, hu.trans h⟩
theorem con_sDecF (h : decV a b p = .tuple #[st l, .int .i64 e]) : Con Tryz.prog 19 [shv a b, .int .i64 p] H fun u H' => PH.le H H' ∧ u = .tuple #[st l, .int .i64 e] := (con_sDecimal a b p).mono fun _ _ ⟨l, hu⟩ => ⟨l, hu.trans h⟩
theorem con_qDecF (h : decV a b p = .tuple #[st l, .int .i64 e]) : Con Tryz.prog 20 [shv a b, .int .i64 p] H fun u H' => PH.le H H' ∧ u = .tuple #[st l, .int .i64 e] := (con_qDecimal a b p).mono fun _ _ ⟨l, hu⟩ => ⟨l, hu.trans h⟩
end
set_option maxRecDepth 100000 in
set_option maxHeartbeats 4000000 in
theorem con_shareTexts {H : PH} {v : Value} (h : Tw2 H v) (s : List UInt8) (hs : s.length ≤ maxLen) (at' : Nat) (hat : at' < 65536) (c : Nat) (hc : c < 256) (p : Int) (_ : -9223372036854775808 ≤ p) (_ : p < 9223372036854775808) : Con Tryz.prog 4 [v, st s, .int .u16 (at' : Nat), .int .u8 (c : Nat), .int .i64 p] H fun u H' => u = .bool true ∧ PH.le H H' := by
  have hrq := h.rq
  have h' := h
  obtain ⟨_, _, _, _, _, _, hv, _, _⟩ := h
  obtain ⟨cs, rfl⟩ : ∃ cs, v = .agg cs := ⟨_, hv⟩
  simp only [maxLen] at hs
  have hcb : Value.int .u8 (c : Nat) = bv (UInt8.ofNat c) := by
    unfold bv; congr 1; rw [UInt8.toNat_ofNat']; omega
  refine con_of_tree mixed tr_ShareTexts np_ShareTexts rfl (den_rq hrq (den_call (con_hworks H) rfl ?_))
  rintro _ H1 ⟨rfl, l1⟩
  simp only [List.cons_append, List.nil_append]
  refine ⟨fun h => (nomatch h), den_rq ⟨_, rfl⟩ (den_rq rfl (den_call (con_hpairs (h'.mono l1)) rfl ?_))⟩
  rintro u2 H2 ⟨l2, ps, hn, hp⟩
  refine ⟨fun h => (nomatch h), den_splen op_ShareTexts_3_2 rfl hp rfl ⟨fun vals H' => ∃ i : Nat, vals = [.bool false, iv i, .agg cs] ∧ i ≤ 4 ∧ PH.le H2 H', fun vals _ => (4 - intOf (vals.getD 1 undef)).toNat, ⟨0, rfl, by omega, PH.le.refl _⟩, ?_⟩⟩
  rintro vals H3 - ⟨i, rfl, hi, l3⟩
  simp only [List.cons_append, List.nil_append]
  rw [hn]
  have lall := l1.trans (l2.trans l3)
  refine den_rq ⟨_, rfl⟩ (den_rq ⟨_, rfl⟩ (den_br (b := decide ((i : Int) < 4)) rfl (fun hb => ?_) (fun hb => ?_)))
  · have hb : i < 4 := by have := of_decide_eq_true hb; omega
    have e1 : IntKind.i64.wrap ((i : Int) + 1) = ((i + 1 : Nat) : Int) := wadd1 (by omega)
    refine den_spat (k := .i64) (j := i) op_ShareTexts_5_0 op_ShareTexts_5_1 rfl rfl (fun _ => rfl) (hp.mono l3) (by omega) rfl (fun _ => rfl) fun pp => ?_
    obtain ⟨⟨⟨a, b⟩, ⟨x3, x4⟩⟩, hq4⟩ : ∃ x : Q4, x = ps.getD i ((0, 0), (0, 0)) := ⟨_, rfl⟩
    rw [← hq4]
    simp only [List.cons_append, List.nil_append]
    obtain ⟨y0, _, _, _⟩ := q4_ext (words_size a) (words_size b) (words_size x3) (words_size x4)
    have s0 : ∀ ρ : List Value, ρ.getD 12 undef = q4v ((a, b), (x3, x4)) → D Tryz.prog ρ (.sub (.v 12) 0 16 0 noI) = shv a b := fun ρ h => by
      show Value.agg ((ρ.getD 12 undef).cells.extract 0 16) = _
      rw [h]
      exact congrArg Value.agg y0
    obtain ⟨t, te, ht, htl⟩ := textV_two a b
    refine den_rq (q4_rq ((a, b), (x3, x4))) (den_call (con_qTextF ht) (by rw [List.map_cons, List.map_nil, s0 _ rfl]) ?_)
    rintro _ H4 ⟨l4, rfl⟩
    simp only [List.cons_append, List.nil_append]
    refine ⟨fun h => (nomatch h), den_t2 rfl (den_call (con_sTextF ht) (by rw [List.map_cons, List.map_nil, s0 _ rfl]) ?_)⟩
    rintro _ H5 ⟨l5, rfl⟩
    simp only [List.cons_append, List.nil_append]
    obtain ⟨k, hk⟩ : ∃ k, k = at' % (t.length + 1) := ⟨_, rfl⟩
    have hkl : k ≤ t.length := by have := Nat.mod_lt at' (show 0 < t.length + 1 by omega); omega
    have e2 : IntKind.i64.wrap ((t.length : Int) + 1) = ((t.length + 1 : Nat) : Int) := wadd1 (by omega)
    have e3 : IntKind.i64.wrap ((at' : Nat) : Int) = (at' : Int) := wfit (by omega) (by omega)
    have e4 : ((at' : Nat) : Int).tmod ((t.length + 1 : Nat) : Int) = (k : Int) := by rw [hk]; exact tmodn at' (t.length + 1)
    obtain ⟨m, hm⟩ : ∃ m, m = min s.length 330 := ⟨_, rfl⟩
    have em : (if (330 : Int) < (s.length : Int) then (330 : Int) else (s.length : Int)) = (m : Int) := by split <;> omega
    refine ⟨fun h => (nomatch h), den_t2 rfl (den_prim ((st_neq (l := t) (m := t) (vs := [st t, st t]) op_ShareTexts_8_2 rfl rfl).rds _) rfl (den_rq (by show Value.bool (!(t == t)) = _; rw [beq_self_eq_true]; rfl) (den_ee rfl rfl (den_rq ⟨_, rfl⟩ (den_prim ((st_len (l := t) (vs := [st t]) op_ShareTexts_10_3 rfl uStr).rds _) rfl (den_rq ⟨_, rfl⟩ (den_rq ?_ ?_)))))))⟩
    · show IntKind.i64.wrap ((t.length : Int) + 1) ≠ 0
      rw [e2]; omega
    simp only [List.cons_append, List.nil_append]
    refine den_prim ((st_take (l := t) (k := .i64) (i := k) (vs := [st t, .int .i64 (k : Nat)]) op_ShareTexts_11_3 rfl rfl uStr hkl).rds _) (by simp only [rxs, iv, e2, e3, e4]) (den_prim ((st_drop (l := t) (k := .i64) (i := k) (vs := [st t, .int .i64 (k : Nat)]) op_ShareTexts_11_10 rfl rfl uStr hkl).rds _) (by simp only [List.cons_append, List.nil_append, rxs, iv, e2, e3, e4]) (den_prim ((st_drop (l := t) (k := .i64) (i := k) (vs := [st t, .int .i64 (k : Nat)]) op_ShareTexts_11_14 rfl rfl uStr hkl).rds _) (by simp only [List.cons_append, List.nil_append, rxs, iv, e2, e3, e4]) ?_))
    simp only [List.cons_append, List.nil_append]
    refine den_prim ((st_len (l := s) (vs := [st s]) op_ShareTexts_11_17 rfl uStr).rds _) rfl (den_prim ((yld_imin (a := (s.length : Nat)) (b := 330) (vs := [.int .i64 (s.length : Nat), .int .i64 330]) op_ShareTexts_11_18 rfl rfl).rds _) rfl (den_prim ((st_take (l := s) (k := .i64) (i := m) (vs := [st s, .int .i64 (m : Nat)]) op_ShareTexts_11_19 rfl rfl uStr (by omega)).rds _) (by simp only [List.cons_append, List.nil_append, rxs, em]) ?_))
    simp only [List.cons_append, List.nil_append]
    refine den_bstr (c := UInt8.ofNat c) op_ShareTexts_11_5 op_ShareTexts_11_6 rfl (fun _ => rfl) (by simp only [rxs, hcb]) (fun _ => rfl) fun p2 H6 l6 => ?_
    simp only [List.cons_append, List.nil_append]
    refine den_prim ((st_add (l := t.take k) (m := [UInt8.ofNat c]) (vs := [st (t.take k), st [UInt8.ofNat c]]) op_ShareTexts_11_7 rfl rfl (by simp; omega)).rds _) rfl (den_prim ((st_add (l := t.take k ++ [UInt8.ofNat c]) (m := t.drop k) (vs := [st (t.take k ++ [UInt8.ofNat c]), st (t.drop k)]) op_ShareTexts_11_11 rfl rfl (by simp; omega)).rds _) rfl ?_)
    simp only [List.cons_append, List.nil_append]
    obtain ⟨t1, ht1⟩ : ∃ t1, t1 = t.take k ++ [UInt8.ofNat c] ++ t.drop k := ⟨_, rfl⟩
    have hl1 : t1.length ≤ 1000 := by rw [ht1]; simp; omega
    rw [← ht1]
    have l36 := l3.trans (l4.trans (l5.trans l6))
    refine den_rq ⟨rfl, st_one _⟩ (den_rq ⟨rfl, st_one _⟩ (den_rq ⟨rfl, st_one _⟩ (den_rq ⟨rfl, st_one _⟩ ?_)))
    refine ⟨fun vals H' => ∃ j : Nat, vals = [.bool false, iv j] ∧ j ≤ 4 ∧ PH.le H2 H', fun vals _ => (4 - intOf (vals.getD 1 undef)).toNat, ⟨0, rfl, by omega, l36⟩, ?_⟩
    rintro vals H7 - ⟨j, rfl, hj, l7⟩
    simp only [List.cons_append, List.nil_append]
    refine den_rq ⟨_, rfl⟩ (den_br (b := decide ((j : Int) < 4)) rfl (fun hj2 => ?_) (fun hj2 => ?_))
    · have hj2 : j < 4 := by have := of_decide_eq_true hj2; omega
      have e5 : IntKind.i64.wrap ((j : Int) + 1) = ((j + 1 : Nat) : Int) := wadd1 (by omega)
      obtain ⟨y, hy⟩ : ∃ y, y = tx4 t t1 (t.drop k) (s.take m) j := ⟨_, rfl⟩
      have hyl : y.length ≤ 1000 := by
        rw [hy]; unfold tx4
        repeat' split
        all_goals first | omega | (simp; omega)
      obtain ⟨n1, d1, k1, hpar⟩ := parS_form y
      refine den_rq ⟨_, _, rfl⟩ (den_rq ⟨by show (0 : Int) ≤ (j : Int); omega, by show (j : Int) < 4; omega⟩ (den_call (con_sParseF (l := y) (by omega) hpar) (by rw [List.map_cons, List.map_nil, pick4 (a := t) (b := t1) (c := t.drop k) (d := s.take m) (j := j) (hj := hj2), hy] <;> first | rfl | exact z_str4) ?_))
      rintro _ H8 ⟨l8, rfl⟩
      simp only [List.cons_append, List.nil_append]
      refine ⟨fun h => (nomatch h), den_t2s rfl (den_call (con_qParseF (l := y) (by omega) hpar) (by rw [List.map_cons, List.map_nil, pick4 (a := t) (b := t1) (c := t.drop k) (d := s.take m) (j := j) (hj := hj2), hy] <;> first | rfl | exact z_str4) ?_)⟩
      rintro _ H9 ⟨l9, rfl⟩
      simp only [List.cons_append, List.nil_append]
      refine ⟨fun h => (nomatch h), den_t2s rfl (den_prim ((ne_share_self (a := n1) (b := d1) op_ShareTexts_16_2 (fun _ _ => rfl) (fun _ _ => rfl)).rds _) rfl (den_rq rfl (den_ee rfl rfl ⟨⟨j + 1, ?_, by omega, l7.trans (l8.trans l9)⟩, ?_⟩)))⟩
      · simp only [rxs, iv, e5]
      · simp only [rxs, iv, e5]
        omega
    have hz2 : zeroV Tryz.prog 43 = .agg #[.int .i64 0, .int .i64 0] := by kernel_rfl
    obtain ⟨k2, hk2⟩ : ∃ k2 : Int, ∀ ρ : List Value, ρ.getD 4 undef = .int .i64 p → D Tryz.prog ρ (.cv .i64 (.op2 .rem .u64 (.cv .u64 (.v 4)) (.k (.int .u64 (21))))) = .int .i64 k2 := ⟨_, fun ρ h => by
      show Value.int .i64 (IntKind.i64.wrap (intOf (binV .rem .u64 (intOf (Value.int .u64 (IntKind.u64.wrap (intOf (ρ.getD 4 undef))))) 21))) = _
      rw [h]⟩
    have pickI : ∀ ρ : List Value, ρ.getD 4 undef = .int .i64 p → ∀ j, ρ.getD 30 undef = iv j → D Tryz.prog ρ (.cell (.put (.put (.z 43) 0 1 (.v 4) 0 noI) 1 1 (.cv .i64 (.op2 .rem .u64 (.cv .u64 (.v 4)) (.k (.int .u64 (21))))) 0 noI) 0 1 (.v 30)) = (#[.int .i64 p, .int .i64 k2] : Array Value).getD j undef := fun ρ e2 j ej => by
      have k0 : D Tryz.prog ρ (.z 43) = .agg #[.int .i64 0, .int .i64 0] := hz2
      have w2 : D Tryz.prog ρ (.v 4) = .int .i64 p := e2
      have w3 := hk2 ρ e2
      have k1 := D_put1 (o := 0) k0 (y := .v 4) (by rw [w2]; rfl)
      have k3 := D_put1 (o := 1) k1 (y := .cv .i64 (.op2 .rem .u64 (.cv .u64 (.v 4)) (.k (.int .u64 (21))))) (by rw [w3]; rfl)
      rw [w2, w3] at k3
      exact (D_cell1 k3 ej).trans rfl
    have eachI : ∀ j, j < 2 → ∃ k3 : Int, (#[.int .i64 p, .int .i64 k2] : Array Value).getD j undef = .int .i64 k3 := fun j hj => by
      rcases (show j = 0 ∨ j = 1 from by omega) with rfl | rfl
      · exact ⟨p, rfl⟩
      · exact ⟨k2, rfl⟩
    refine den_rq ⟨_, rfl⟩ (den_rq ⟨rfl, one_int _ _⟩ ⟨fun vals H' => ∃ j : Nat, vals = [.bool false, iv j] ∧ j ≤ 2 ∧ PH.le H2 H', fun vals _ => (2 - intOf (vals.getD 1 undef)).toNat, ⟨0, rfl, by omega, l7⟩, ?_⟩)
    rintro vals H8 - ⟨q, rfl, hq, l8⟩
    simp only [List.cons_append, List.nil_append]
    refine den_rq ⟨_, rfl⟩ (den_br (b := decide ((q : Int) < 2)) rfl (fun hc2 => ?_) (fun hc2 => ?_))
    · have hc2 : q < 2 := by have := of_decide_eq_true hc2; omega
      have e5 : IntKind.i64.wrap ((q : Int) + 1) = ((q + 1 : Nat) : Int) := wadd1 (by omega)
      obtain ⟨k3, hk3⟩ := eachI q hc2
      obtain ⟨dl, de, hdec⟩ := decV_form a b k3
      refine den_rq ⟨_, _, rfl⟩ (den_rq ⟨by show (0 : Int) ≤ (q : Int); omega, by show (q : Int) < 2; omega⟩ (den_call (con_sDecF hdec) (by rw [List.map_cons, List.map_cons, List.map_nil, s0 _ rfl, pickI _ rfl q rfl, hk3]) ?_))
      rintro _ H9 ⟨l9, rfl⟩
      simp only [List.cons_append, List.nil_append]
      refine ⟨fun h => (nomatch h), den_t2 rfl (den_call (con_qDecF hdec) (by rw [List.map_cons, List.map_cons, List.map_nil, s0 _ rfl, pickI _ rfl q rfl, hk3]) ?_)⟩
      rintro _ H10 ⟨l10, rfl⟩
      simp only [List.cons_append, List.nil_append]
      refine ⟨fun h => (nomatch h), den_t2 rfl (den_prim ((st_neq (l := dl) (m := dl) (vs := [st dl, st dl]) op_ShareTexts_24_2 rfl rfl).rds _) rfl (den_rq (by show Value.bool (!(dl == dl)) = _; rw [beq_self_eq_true]; rfl) (den_ee rfl rfl ⟨⟨q + 1, ?_, by omega, l8.trans (l9.trans l10)⟩, ?_⟩)))⟩
      · simp only [rxs, iv, e5]
      · simp only [rxs, iv, e5]
        omega
    refine ⟨⟨i + 1, ?_, by omega, l8⟩, ?_⟩
    · simp only [rxs, iv, e1]
    · simp only [rxs, iv, e1]
      omega
  · exact den_ret rfl ⟨rfl, lall⟩
end Go.Proofs.YtcleogdmobdnpaaGreat

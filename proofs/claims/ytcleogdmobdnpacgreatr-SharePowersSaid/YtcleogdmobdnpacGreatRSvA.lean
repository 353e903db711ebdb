/- The law SharePowers; its tree is printed by rxgen.py. -/
import Derived.Test.YtcleogdmobdnpacGreatRWdT
import Derived.Test.YtcleogdmobdnpacGreatRSsA
namespace Go.WD
theorem pow_add' (r : Rat) (i k : Nat) : r ^ i * r ^ k = r ^ (i + k) := by
  induction k with
  | zero => rw [Rat.pow_zero, Rat.mul_one]; rfl
  | succ k ih => rw [Rat.pow_succ, ← Rat.mul_assoc, ih, ← Rat.pow_succ]; rfl
theorem foldl_add (l : List Rat) (a : Rat) : l.foldl (· + ·) a = a + l.foldl (· + ·) 0 := by
  induction l generalizing a with
  | nil => rw [List.foldl_nil, List.foldl_nil, Rat.add_zero]
  | cons x l ih => rw [List.foldl_cons, List.foldl_cons, ih, ih (0 + x)]; grind
theorem foldl_rev (l : List Rat) : l.reverse.foldl (· + ·) 0 = l.foldl (· + ·) 0 := by
  induction l with
  | nil => rfl
  | cons x l ih => rw [List.reverse_cons, List.foldl_append, ih, List.foldl_cons, List.foldl_cons, List.foldl_nil, foldl_add l (0 + x)]; grind
theorem foldl_same (r : Rat) (n : Nat) : (List.replicate n r).foldl (· + ·) 0 = r * (n : Rat) := by
  induction n with
  | zero => simp
  | succ n ih => rw [List.replicate_succ, List.foldl_cons, foldl_add, ih, Rat.natCast_add]; grind
end Go.WD
namespace Go.Proofs.YtcleogdmobdnpacGreatR
open Go.RowKit Go.RX Go.WD
theorem tr_SharePowers : tree Tryz.prog [] [(30, false), (67, false), (71, false), (75, false), (79, false), (83, false), (137, true), (141, true), (145, true), (149, true), (154, true)] [⟨0, 13, [], []⟩, ⟨0, 22, [], []⟩] [⟨26, [0, 0, 2, 7, 15, 31, 31, 0, 191, 511], [5, 0, 2, 2, 0, 0, 0, 3, 4, 0], [1, 0, 0, 0, 0, 0, 0, 0, 0, 0], [0, 1, 2, 3, 4, 5, 6, 7], [8, 9]⟩] 3 = some (.rq (.cells 6 (.v 0))
(.call false 4 []
(.rq (.bool (.v 4))
(.rq (.isb false (.nt (.v 4)))
(.call false 5 [(.ag (.v 0))]
(.rq (.cells 16 (.v 5))
(.rq (.int .u8 (.v 2))
(.rq (.int .u8 (.v 3))
(.call false 6 [(.ag (.v 5)), (.cv .i64 (.op2 .rem .u8 (.v 2) (.k (.int .u8 (9)))))]
(.rq (.tup 0 (.v 6))
(.rq (.tup 1 (.v 6))
(.rq (.cells 16 (.proj (.v 6) 0))
(.call false 6 [(.ag (.v 5)), (.cv .i64 (.op2 .rem .u8 (.v 3) (.k (.int .u8 (9)))))]
(.rq (.tup 0 (.v 7))
(.rq (.tup 1 (.v 7))
(.rq (.cells 16 (.proj (.v 7) 0))
(.call false 6 [(.ag (.v 5)), (.op2 .add .i64 (.cv .i64 (.op2 .rem .u8 (.v 2) (.k (.int .u8 (9))))) (.cv .i64 (.op2 .rem .u8 (.v 3) (.k (.int .u8 (9))))))]
(.rq (.tup 0 (.v 8))
(.rq (.tup 1 (.v 8))
(.rq (.cells 16 (.proj (.v 8) 0))
(.call false 7 [(.ag (.proj (.v 6) 0)), (.ag (.proj (.v 7) 0))]
(.rq (.tup 0 (.v 9))
(.rq (.tup 1 (.v 9))
(.rq (.cells 16 (.proj (.v 9) 0))
(.rq (.int .i64 (.proj (.v 6) 1))
(.rq (.isb false (.op2 .neq .i64 (.proj (.v 6) 1) (.k (.int .i64 (0)))))
(.rq (.int .i64 (.proj (.v 7) 1))
(.rq (.isb false (.op2 .neq .i64 (.proj (.v 7) 1) (.k (.int .i64 (0)))))
(.rq (.int .i64 (.proj (.v 8) 1))
(.rq (.isb false (.op2 .neq .i64 (.proj (.v 8) 1) (.k (.int .i64 (0)))))
(.rq (.int .i64 (.proj (.v 9) 1))
(.rq (.isb false (.op2 .neq .i64 (.proj (.v 9) 1) (.k (.int .i64 (0)))))
(.prim 9 17 (opr Tryz.f3 9 17) [(.ag (.proj (.v 9) 0)), (.ag (.proj (.v 8) 0))]
(.rq (.isb false (.v 10))
(.prim 12 2 (opr Tryz.f3 12 2) [(.v 1)]
(.prim 12 3 (opr Tryz.f3 12 3) [(.v 11), (.k (.int .i64 (8)))]
(.prim 12 4 (opr Tryz.f3 12 4) [(.v 1), (.v 12)]
(.prim 12 5 (opr Tryz.f3 12 5) [(.v 13)]
(.loop [(.k (.slice none 0 0)), (.k (.slice none 0 0)), (.k (.int .i64 (0)))]
 (.rq (.int .i64 (.v 17))
 (.rq (.int .i64 (.v 14))
 (.br (.op2 .lss .i64 (.v 17) (.v 14))
  (.prim 14 0 (opr Tryz.f3 14 0) [(.v 13), (.v 17)]
  (.prim 14 1 (opr Tryz.f3 14 1) [(.v 18)]
  (.rq (.cells 6 (.v 19))
  (.call false 5 [(.ag (.v 19))]
  (.eff false 15 3 (opr Tryz.f3 15 3) [(.v 20)]
  (.eff false 15 4 (opr Tryz.f3 15 4) [(.v 15), (.v 21)]
  (.call false 5 [(.ag (.v 19))]
  (.eff false 16 2 (opr Tryz.f3 16 2) [(.v 23)]
  (.eff false 16 4 (opr Tryz.f3 16 4) [(.v 24), (.v 16)]
  (.next 0 [(.v 22), (.v 25), (.op2 .add .i64 (.v 17) (.k (.int .i64 (1))))]))))))))))
  (.call false 8 [(.v 15)]
  (.rq (.tup 0 (.v 18))
  (.rq (.tup 1 (.v 18))
  (.rq (.cells 16 (.proj (.v 18) 0))
  (.call false 8 [(.v 16)]
  (.rq (.tup 0 (.v 19))
  (.rq (.tup 1 (.v 19))
  (.rq (.cells 16 (.proj (.v 19) 0))
  (.loop [(.k (.slice none 0 0)), (.k (.int .i64 (0)))]
   (.rq (.int .i64 (.v 21))
   (.br (.op2 .lss .i64 (.v 21) (.cv .i64 (.op2 .rem .u8 (.v 2) (.k (.int .u8 (9))))))
    (.eff false 23 2 (opr Tryz.f3 23 2) [(.ag (.v 5))]
    (.eff false 23 3 (opr Tryz.f3 23 3) [(.v 20), (.v 22)]
    (.next 1 [(.v 23), (.op2 .add .i64 (.v 21) (.k (.int .i64 (1))))])))
    (.call false 8 [(.v 20)]
    (.rq (.tup 0 (.v 22))
    (.rq (.tup 1 (.v 22))
    (.rq (.cells 16 (.proj (.v 22) 0))
    (.call true 9 [(.cv .i64 (.op2 .rem .u8 (.v 2) (.k (.int .u8 (9))))), (.k (.int .i64 (1)))]
    (.call true 7 [(.ag (.v 5)), (.v 23)]
    (.rq (.tup 0 (.v 24))
    (.rq (.tup 1 (.v 24))
    (.rq (.cells 16 (.proj (.v 24) 0))
    (.rq (.int .i64 (.proj (.v 18) 1))
    (.rq (.isb true (.op2 .eql .i64 (.proj (.v 18) 1) (.k (.int .i64 (0)))))
    (.rq (.int .i64 (.proj (.v 19) 1))
    (.rq (.isb true (.op2 .eql .i64 (.proj (.v 19) 1) (.k (.int .i64 (0)))))
    (.rq (.int .i64 (.proj (.v 22) 1))
    (.rq (.isb true (.op2 .eql .i64 (.proj (.v 22) 1) (.k (.int .i64 (0)))))
    (.rq (.int .i64 (.proj (.v 24) 1))
    (.rq (.isb true (.op2 .eql .i64 (.proj (.v 24) 1) (.k (.int .i64 (0)))))
    (.prim 27 17 (opr Tryz.f3 27 17) [(.ag (.proj (.v 18) 0)), (.ag (.proj (.v 19) 0))]
    (.rq (.isb true (.v 25))
    (.prim 27 22 (opr Tryz.f3 27 22) [(.ag (.proj (.v 22) 0)), (.ag (.proj (.v 24) 0))]
    (.ret [(.v 26)])))))))))))))))))))))))))))))))))))))))))))))))))))))))))))))))))))))))))) := by kernel_rfl
theorem np_SharePowers : (Tryz.prog.funcs[3]?).map (fun fn => fn.params.size + fn.nfree) = some 4 := by kernel_rfl
theorem op_SharePowers_9_17 : (opr Tryz.f3 9 17).op = .binOp .neq 34 (.tmp 80) (.tmp 81) 34 := by kernel_rfl
theorem op_SharePowers_12_2 : (opr Tryz.f3 12 2).op = .call ⟨.builtin .len, #[(.tmp 85)], #[28]⟩ := by kernel_rfl
theorem op_SharePowers_12_3 : (opr Tryz.f3 12 3).op = .call ⟨.builtin .min, #[(.tmp 86), (.const (.int .i64 (8)))], #[3, 3]⟩ := by kernel_rfl
theorem op_SharePowers_12_4 : (opr Tryz.f3 12 4).op = .slice 28 (.tmp 84) none (some (.tmp 87)) none := by kernel_rfl
theorem op_SharePowers_12_5 : (opr Tryz.f3 12 5).op = .call ⟨.builtin .len, #[(.tmp 88)], #[28]⟩ := by kernel_rfl
theorem op_SharePowers_14_0 : (opr Tryz.f3 14 0).op = .indexAddr 28 (.tmp 88) (.tmp 90) := by kernel_rfl
theorem op_SharePowers_14_1 : (opr Tryz.f3 14 1).op = .load 27 (.tmp 92) := by kernel_rfl
theorem op_SharePowers_15_3 : (opr Tryz.f3 15 3).op = .buildSlice 40 1 #[(0, (.tmp 96))] := by kernel_rfl
theorem op_SharePowers_15_4 : (opr Tryz.f3 15 4).op = .call ⟨.builtin .append, #[(.tmp 94), (.tmp 97)], #[40, 40]⟩ := by kernel_rfl
theorem op_SharePowers_16_2 : (opr Tryz.f3 16 2).op = .buildSlice 40 1 #[(0, (.tmp 100))] := by kernel_rfl
theorem op_SharePowers_16_4 : (opr Tryz.f3 16 4).op = .call ⟨.builtin .append, #[(.tmp 101), (.tmp 102)], #[40, 40]⟩ := by kernel_rfl
theorem op_SharePowers_23_2 : (opr Tryz.f3 23 2).op = .buildSlice 40 1 #[(0, (.tmp 119))] := by kernel_rfl
theorem op_SharePowers_23_3 : (opr Tryz.f3 23 3).op = .call ⟨.builtin .append, #[(.tmp 118), (.tmp 120)], #[40, 40]⟩ := by kernel_rfl
theorem op_SharePowers_27_17 : (opr Tryz.f3 27 17).op = .binOp .eql 34 (.tmp 150) (.tmp 151) 34 := by kernel_rfl
theorem op_SharePowers_27_22 : (opr Tryz.f3 27 22).op = .binOp .eql 34 (.tmp 155) (.tmp 156) 34 := by kernel_rfl
theorem rb_pow {r : Rat} {k : Nat} (h : Rb k r) (i : Nat) : Rb (k * i + 1) (r ^ i) := by
  have key : ∀ a : Nat, a < 2 ^ k → a ^ i < 2 ^ (k * i + 1) := fun a ha => by
    have h1 := Nat.pow_le_pow_left (Nat.le_of_lt ha) i
    rw [← Nat.pow_mul] at h1
    rw [Nat.pow_succ]
    have := Nat.pow_pos (n := k * i) (show 0 < 2 by omega)
    omega
  constructor
  · rw [Rat.num_pow, Int.natAbs_pow]; exact key _ h.1
  · rw [Rat.den_pow]; exact key _ h.2
theorem rb_sum : ∀ (ps : List (Nat × Nat)), (∀ p ∈ ps, Rb 10 (ratP p)) → Rb (11 * ps.length + 1) (sumR ps) := by
  intro ps
  obtain ⟨n, hn⟩ : ∃ n, n = ps.length := ⟨_, rfl⟩
  induction n generalizing ps with
  | zero =>
    intro _
    obtain rfl : ps = [] := List.eq_nil_of_length_eq_zero hn.symm
    exact rb_zero
  | succ n ih =>
    intro h
    have hne : ps ≠ [] := fun e => by rw [e] at hn; simp at hn
    have e := List.dropLast_concat_getLast hne
    rw [← e, sumR_snoc, List.length_append, List.length_singleton]
    exact (ih ps.dropLast (by rw [List.length_dropLast]; omega) fun q hq => h q (List.dropLast_subset ps hq)).add (h _ (List.getLast_mem hne)) (by omega)
theorem sumR_rev (ps : List (Nat × Nat)) : sumR ps.reverse = sumR ps := by
  unfold sumR; rw [List.map_reverse, foldl_rev]
theorem sumR_same (p : Nat × Nat) (n : Nat) : sumR (List.replicate n p) = ratP p * (n : Rat) := by
  unfold sumR; rw [List.map_replicate, foldl_same]
theorem sumV_ok {ps : List (Nat × Nat)} {r : Rat} (hl : ps.length ≤ 400) (ho : ps.all okP = true) (hr : sumR ps = r) (hT : Rg r) : sumV ps = .tuple #[shR r, .int .i64 0] := by
  unfold sumV
  rw [if_neg (by omega), if_pos ho, hr]
  exact rg_told hT
/-- All but the block of a slice. -/
def cutH (H : PH) : Value → PH
  | .slice (some a) _ _ => fun k => if k = a.block then none else H k
  | _ => H
theorem cutH_le (H : PH) (v : Value) : PH.le (cutH H v) H := fun k ob hk => by
  unfold cutH at hk
  split at hk
  · split at hk
    · cases hk
    · exact hk
  · exact hk
section
variable {H H0 H1 H2 : PH} {s t : Value} {ps qs : List (Nat × Nat)} {r : Rat}
theorem Sho.cut (h : Sho H0 H s ps) (hle : PH.le H0 H) : PH.le H0 (cutH H s) ∧ Sho (cutH H s) H s ps := by
  obtain ⟨h1, ⟨rfl, h2⟩ | ⟨g, cap, cur, rfl, h3, h4, h5⟩⟩ := h
  · exact ⟨hle, h1, .inl ⟨rfl, h2⟩⟩
  · refine ⟨fun k ob hk => ?_, h1, .inr ⟨g, cap, cur, rfl, ?_, h4, h5⟩⟩
    · show (if k = g then none else H k) = some ob
      rw [if_neg (fun e => by rw [e, h3] at hk; cases hk)]
      exact hle k ob hk
    · show (if g = g then none else H g) = none
      rw [if_pos rfl]
theorem Sho.down (h : Sho H1 H s ps) (hle : PH.le H0 H1) : Sho H0 H s ps := by
  obtain ⟨h1, ⟨h2, h3⟩ | ⟨g, cap, cur, h2, h3, h4, h5⟩⟩ := h
  · exact ⟨h1, .inl ⟨h2, h3⟩⟩
  · exact ⟨h1, .inr ⟨g, cap, cur, h2, none_of_le hle h3, h4, h5⟩⟩
/-- Two slices of the call's own, the later one in newer memory: they do not meet. -/
theorem Sho.apart (hs : Sho H0 H1 s ps) (ht : Sho H1 H2 t qs) : Shs (cutH H2 s) t qs := by
  obtain ⟨h1, ⟨rfl, h2⟩ | ⟨g, cap, cur, rfl, h3, h4, h5⟩⟩ := hs
  · exact ht.sl
  · obtain ⟨k1, ⟨rfl, k2⟩ | ⟨g', cap', cur', rfl, k3, k4, k5, k6, k7, k8⟩⟩ := ht
    · have hq : qs = [] := List.eq_nil_of_length_eq_zero k2
      subst hq
      exact (Sho.nil H2 _).sl
    · have hne : g' ≠ g := fun e => by rw [e, h4] at k3; cases k3
      refine ⟨k1, _, cap', rfl, k5, k6, .inr ⟨g', 0, cur', 34, (0, 0), rfl, ?_, by rw [List.drop_zero]; exact k8⟩⟩
      show (if g' = g then none else H2 g') = _
      rw [if_neg hne]
      exact k4
theorem go_pow {n : Nat} (hr : Rg r) (hn : n ≤ 600) (hT : Rg (r ^ n)) : Con Tryz.prog 6 [shR r, .int .i64 (n : Nat)] H fun u H' => PH.le H H' ∧ u = .tuple #[shR (r ^ n), .int .i64 0] :=
  (con_sPow _ _ _).mono fun u H' ⟨l, h⟩ => ⟨l, by
    rw [h, rg_ok hr, rg_rat hr]
    unfold powR
    rw [if_pos rfl, if_neg (by omega), Int.toNat_natCast]
    exact rg_told hT⟩
theorem go_sum (h : Shs H s ps) (hl : ps.length ≤ 400) (ho : ps.all okP = true) (hr : sumR ps = r) (hT : Rg r) : Con Tryz.prog 8 [s] H fun u H' => PH.le H H' ∧ u = .tuple #[shR r, .int .i64 0] :=
  (con_sSum h).mono fun u H' ⟨l, hu⟩ => ⟨l, hu.trans (sumV_ok hl ho hr hT)⟩
end
set_option maxRecDepth 100000 in
set_option maxHeartbeats 4000000 in
theorem con_sharePowers {H : PH} {v0 l : Value} {n : Nat} (h : Dr2 H v0) (hl : Drs H l n) (i : Nat) (hi : i < 256) (k : Nat) (hk : k < 256) : Con Tryz.prog 3 [v0, l, .int .u8 (i : Nat), .int .u8 (k : Nat)] H fun u H' => u = .bool true ∧ PH.le H H' := by
  have hrq := h.rq
  have h' := h
  obtain ⟨a0, a1, a2, b0, b1, b2, rfl, -, -⟩ := h
  have hnl : n ≤ 9223372036854775807 := by
    obtain ⟨xs, hs, _⟩ := hl
    have := hs.len_le
    simp only [maxLen] at this
    omega
  obtain ⟨m, hm⟩ : ∃ m : Nat, m = if 8 < n then 8 else n := ⟨_, rfl⟩
  have hmn : m ≤ n := by rw [hm]; split <;> omega
  have hm8 : m ≤ 8 := by rw [hm]; split <;> omega
  have em : (if (8 : Int) < (n : Int) then (8 : Int) else (n : Int)) = (m : Int) := by
    rw [hm]; split <;> split <;> omega
  obtain ⟨I, hI⟩ : ∃ I : Nat, I = i % 9 := ⟨_, rfl⟩
  obtain ⟨K, hK⟩ : ∃ K : Nat, K = k % 9 := ⟨_, rfl⟩
  have eI : IntKind.i64.wrap ((i : Int).tmod 9) = (I : Int) := by rw [show (i : Int).tmod 9 = ((i % 9 : Nat) : Int) from tmodn i 9, ← hI]; exact wfit (by omega) (by omega)
  have eK : IntKind.i64.wrap ((k : Int).tmod 9) = (K : Int) := by rw [show (k : Int).tmod 9 = ((k % 9 : Nat) : Int) from tmodn k 9, ← hK]; exact wfit (by omega) (by omega)
  have eIK : IntKind.i64.wrap ((I : Int) + (K : Int)) = ((I + K : Nat) : Int) := by rw [wfit (by omega) (by omega)]; omega
  refine con_of_tree mixed tr_SharePowers np_SharePowers rfl (den_rq hrq (den_call (con_hworks H) rfl ?_))
  rintro _ H1 ⟨rfl, l1⟩
  simp only [List.cons_append, List.nil_append]
  refine ⟨fun h => (nomatch h), den_rq ⟨_, rfl⟩ (den_rq rfl (den_call (con_qShort (h'.mono l1)) rfl ?_))⟩
  rintro _ H2 ⟨l2, a, rfl, ha⟩
  simp only [List.cons_append, List.nil_append]
  have ga : Rg a := rg_of ha (by omega)
  have gI : Rg (a ^ I) := rg_of (rb_pow ha I) (by omega)
  have gK : Rg (a ^ K) := rg_of (rb_pow ha K) (by omega)
  have gIK : Rg (a ^ (I + K)) := rg_of (rb_pow ha (I + K)) (by omega)
  have argI : ∀ x : Value, [x, Value.int .i64 (IntKind.i64.wrap ((i : Int).tmod 9))] = [x, .int .i64 (I : Nat)] := fun x => by rw [eI]
  have argK : ∀ x : Value, [x, Value.int .i64 (IntKind.i64.wrap ((k : Int).tmod 9))] = [x, .int .i64 (K : Nat)] := fun x => by rw [eK]
  have argIK : ∀ x : Value, [x, Value.int .i64 (IntKind.i64.wrap (IntKind.i64.wrap ((i : Int).tmod 9) + IntKind.i64.wrap ((k : Int).tmod 9)))] = [x, .int .i64 ((I + K : Nat) : Int)] := fun x => by rw [eI, eK, eIK]
  refine ⟨fun h => (nomatch h), den_rq (shv_one _ _) (den_rq ⟨_, rfl⟩ (den_rq ⟨_, rfl⟩ (den_call (go_pow ga (by omega) gI) (argI _) ?_)))⟩
  rintro _ H3 ⟨l3, rfl⟩
  simp only [List.cons_append, List.nil_append]
  refine ⟨fun h => (nomatch h), den_t2s rfl (den_call (go_pow ga (by omega) gK) (argK _) ?_)⟩
  rintro _ H4 ⟨l4, rfl⟩
  simp only [List.cons_append, List.nil_append]
  refine ⟨fun h => (nomatch h), den_t2s rfl (den_call (go_pow ga (by omega) gIK) (argIK _) ?_)⟩
  rintro _ H5 ⟨l5, rfl⟩
  simp only [List.cons_append, List.nil_append]
  refine ⟨fun h => (nomatch h), den_t2s rfl (den_call (go_mul gI gK (pow_add' a I K) gIK) rfl ?_)⟩
  rintro _ H6 ⟨l6, rfl⟩
  simp only [List.cons_append, List.nil_append]
  have l16 := l1.trans (l2.trans (l3.trans (l4.trans (l5.trans l6))))
  refine ⟨fun h => (nomatch h), den_t2s rfl (den_e0 rfl (den_e0 rfl (den_e0 rfl (den_e0 rfl (den_prim ((ne_share_self op_SharePowers_9_17 (fun _ _ => rfl) (fun _ _ => rfl)).rds _) rfl (den_rq rfl (den_drlen op_SharePowers_12_2 rfl (hl.mono l16) rfl (den_prim ((yld_imin (a := (n : Int)) (b := 8) (vs := [iv n, .int .i64 8]) op_SharePowers_12_3 rfl rfl).rds _) rfl ?_))))))))⟩
  rw [em]
  simp only [List.cons_append, List.nil_append]
  refine den_drtake (k := .i64) (j := m) op_SharePowers_12_4 rfl rfl (hl.mono l16) hmn rfl fun l2 hl2 => ?_
  simp only [List.cons_append, List.nil_append]
  refine den_drlen op_SharePowers_12_5 rfl hl2 rfl ⟨fun vals H' => ∃ (j : Nat) (s t : Value) (ps : List (Nat × Nat)), vals = [s, t, iv j] ∧ j ≤ m ∧ PH.le H6 H' ∧ Sho H6 H' s ps ∧ Shs (cutH H' s) t ps.reverse ∧ ps.length = j ∧ ps.all okP = true ∧ ∀ p ∈ ps, Rb 10 (ratP p), fun vals _ => (m - intOf (vals.getD 2 undef)).toNat, ⟨0, _, _, [], rfl, by omega, PH.le.refl _, Sho.nil _ _, (Sho.nil H6 H6).sl, rfl, rfl, by simp⟩, ?_⟩
  rintro vals H7 - ⟨j, s, t, ps, rfl, hj, g7, hs, ht, hlen, hok, hrb⟩
  simp only [List.cons_append, List.nil_append]
  refine den_rq ⟨_, rfl⟩ (den_rq ⟨_, rfl⟩ (den_br (b := decide ((j : Int) < m)) rfl (fun hb => ?_) (fun hb => ?_)))
  · have hb : j < m := by have := of_decide_eq_true hb; omega
    have e1 : IntKind.i64.wrap ((j : Int) + 1) = ((j + 1 : Nat) : Int) := wadd1 (by omega)
    obtain ⟨c1, c2⟩ := hs.cut g7
    refine den_drat0 (k := .i64) (j := j) op_SharePowers_14_0 op_SharePowers_14_1 rfl rfl (fun _ => rfl) hl2 g7 hb rfl (fun _ => rfl) fun pp dr hdr6 => ?_
    have hdr := hdr6.mono g7
    have rdr := hdr.rq
    have hag : Value.agg dr.cells = dr := by obtain ⟨a0, a1, a2, b0, b1, b2, rfl, -, -⟩ := id hdr; rfl
    simp only [List.cons_append, List.nil_append]
    refine den_rq rdr (den_call (con_qShortF hdr) (by show [Value.agg dr.cells] = _; rw [hag]) ?_)
    rintro _ H8 ⟨g8, rfl, hr⟩
    obtain ⟨r, hr'⟩ : ∃ r, r = shortF dr := ⟨_, rfl⟩
    rw [← hr'] at hr ⊢
    have gr : Rg r := rg_of hr (by omega)
    obtain ⟨p, hp⟩ : ∃ p : Nat × Nat, p = (rs r.num, rs (r.den : Int)) := ⟨_, rfl⟩
    have hpo : okP p = true := by rw [hp]; exact rg_ok gr
    have hpr : ratP p = r := by rw [hp]; exact rg_rat gr
    have hpv : shp p = shR r := by rw [hp]; rfl
    simp only [List.cons_append, List.nil_append]
    refine ⟨fun h => (nomatch h), den_shbuild (vs := [shR r]) [p] op_SharePowers_15_3 (by simp) (by simp) (by rw [← hpv]; rfl) rfl fun w1 H9 g9 hw1 => ?_⟩
    simp only [List.cons_append, List.nil_append]
    refine den_shappend (H0 := cutH H7 s) op_SharePowers_15_4 rfl rfl ((cutH_le H7 s).trans (g8.trans g9)) (c2.mono (g8.trans g9)) hw1 (by simp; omega) rfl fun s' H10 g10 hs' => ?_
    simp only [List.cons_append, List.nil_append]
    have g610 := c1.trans g10
    refine den_call (con_qShortF (hdr6.mono g610)) (by show [Value.agg dr.cells] = _; rw [hag]) ?_
    rintro _ H11 ⟨g11, rfl, -⟩
    rw [← hr']
    simp only [List.cons_append, List.nil_append]
    refine ⟨fun h => (nomatch h), den_shbuildO (H0 := H11) (PH.le.refl _) (vs := [shR r]) [p] op_SharePowers_16_2 (by simp) (by simp) (by rw [← hpv]; rfl) rfl fun w2 H12 g12 g12' hw2 => ?_⟩
    simp only [List.cons_append, List.nil_append]
    refine den_shappend (H0 := H11) op_SharePowers_16_4 rfl rfl g12' hw2 ((ht.mono (g10.trans g11)).mono g12) (by simp; omega) rfl fun t' H13 g13 ht' => ?_
    have hs'' := hs'.mono (g11)
    refine ⟨⟨j + 1, s', t', ps ++ [p], ?_, by omega, g610.trans (g11.trans g13), (hs''.mono g13).down c1, ?_, by simp; omega, ?_, ?_⟩, ?_⟩
    · simp only [rxs, iv, e1]
    · rw [List.reverse_append]
      exact hs''.apart ht'
    · rw [List.all_append, hok]
      show (true && (okP p && true)) = true
      rw [hpo]; rfl
    · intro q hq
      rw [List.mem_append, List.mem_singleton] at hq
      rcases hq with hq | rfl
      · exact hrb q hq
      · rw [hpr]; exact hr
    · simp only [rxs, iv, e1]
      omega
  have hb : j = m := by have := of_decide_eq_false hb; omega
  have hsb := rb_sum ps hrb
  have gsum : Rg (sumR ps) := rg_of hsb (by omega)
  refine den_call (go_sum hs.sl (by omega) hok rfl gsum) rfl ?_
  rintro _ H8 ⟨g8, rfl⟩
  simp only [List.cons_append, List.nil_append]
  refine ⟨fun h => (nomatch h), den_t2s rfl (den_call (go_sum ((ht.mono (cutH_le H7 s)).mono g8) (by rw [List.length_reverse]; omega) (by rw [List.all_reverse]; exact hok) (sumR_rev ps) gsum) rfl ?_)⟩
  rintro _ H9 ⟨g9, rfl⟩
  simp only [List.cons_append, List.nil_append]
  obtain ⟨p, hp⟩ : ∃ p : Nat × Nat, p = (rs a.num, rs (a.den : Int)) := ⟨_, rfl⟩
  have hpo : okP p = true := by rw [hp]; exact rg_ok ga
  have hpr : ratP p = a := by rw [hp]; exact rg_rat ga
  have hpv : shp p = shR a := by rw [hp]; rfl
  refine ⟨fun h => (nomatch h), den_t2s rfl ⟨fun vals H' => ∃ (q : Nat) (s : Value), vals = [s, iv q] ∧ q ≤ I ∧ PH.le H9 H' ∧ Sho H9 H' s (List.replicate q p), fun vals _ => (I - intOf (vals.getD 1 undef)).toNat, ⟨0, _, rfl, by omega, PH.le.refl _, Sho.nil _ _⟩, ?_⟩⟩
  rintro vals H10 - ⟨q, s2, rfl, hq, g10, hs2⟩
  simp only [List.cons_append, List.nil_append]
  refine den_rq ⟨_, rfl⟩ (den_br (b := decide ((q : Int) < I)) (by
    show Value.bool (decide ((q : Int) < IntKind.i64.wrap ((i : Int).tmod 9))) = _
    rw [eI]) (fun hb => ?_) (fun hb => ?_))
  · have hb : q < I := by have := of_decide_eq_true hb; omega
    have e1 : IntKind.i64.wrap ((q : Int) + 1) = ((q + 1 : Nat) : Int) := wadd1 (by omega)
    refine den_shbuild (vs := [shR a]) [p] op_SharePowers_23_2 (by simp) (by simp) (by rw [← hpv]; rfl) rfl fun w1 H11 g11 hw1 => ?_
    simp only [List.cons_append, List.nil_append]
    refine den_shappend op_SharePowers_23_3 rfl rfl (g10.trans g11) (hs2.mono g11) hw1 (by simp; omega) rfl fun s3 H12 g12 hs3 => ?_
    refine ⟨⟨q + 1, s3, ?_, by omega, g12, ?_⟩, ?_⟩
    · simp only [rxs, iv, e1]
    · rw [List.replicate_succ']; exact hs3
    · simp only [rxs, iv, e1]
      omega
  have hb : q = I := by have := of_decide_eq_false hb; omega
  subst hb
  have gI1 : Rb (11 * q + 1) (a * ((q : Int) : Rat)) := by
    have := rb_sum (List.replicate q p) (fun x hx => by rw [(List.mem_replicate.1 hx).2, hpr]; exact ha)
    rw [sumR_same, hpr, List.length_replicate] at this
    exact this
  have gm : Rg (a * ((q : Int) : Rat)) := rg_of gI1 (by omega)
  have gq : Rg ((q : Int) : Rat) := rg_int (k := 4) (by omega) (by omega) (by omega)
  refine den_call (go_sum (r := a * ((q : Int) : Rat)) hs2.sl (by rw [List.length_replicate]; omega) (by rw [List.all_replicate, hpo]; simp) (by rw [sumR_same, hpr]; rfl) gm) rfl ?_
  rintro _ H11 ⟨g11, rfl⟩
  simp only [List.cons_append, List.nil_append]
  refine ⟨fun h => (nomatch h), den_t2s rfl (den_call (con_hq (p := (q : Int)) (q := 1) ((q : Int) : Rat) (by omega) (by omega) (by omega) (by omega) (by omega) (divInt_one _) ⟨by rw [Rat.num_intCast]; omega, by rw [Rat.num_intCast]; omega, by rw [Rat.den_intCast]; omega⟩) ?_ ?_)⟩
  · show [Value.int .i64 (IntKind.i64.wrap ((i : Int).tmod 9)), Value.int .i64 1] = _
    rw [eI]
  rintro _ H12 ⟨g12, rfl⟩
  simp only [List.cons_append, List.nil_append]
  refine ⟨fun _ => g12, den_call (go_mul ga gq rfl gm) rfl ?_⟩
  rintro _ H13 ⟨g13, rfl⟩
  simp only [List.cons_append, List.nil_append]
  have gall := l16.trans (g7.trans (g8.trans (g9.trans (g10.trans (g11.trans (g12.trans g13))))))
  exact ⟨fun _ => g13, den_t2s rfl (den_e1 rfl (den_e1 rfl (den_e1 rfl (den_e1 rfl (den_prim ((eq_share_self op_SharePowers_27_17 (fun _ _ => rfl) (fun _ _ => rfl)).rds _) rfl (den_rq rfl (den_prim ((eq_share_self op_SharePowers_27_22 (fun _ _ => rfl) (fun _ _ => rfl)).rds _) rfl (den_ret rfl ⟨rfl, gall⟩))))))))⟩
end Go.Proofs.YtcleogdmobdnpacGreatR

/- The reference of chapter 01: parts (quotient and remainder). -/
import Derived.Test.YtcleogdmobdnpacGreatRDoorRfC
namespace Go.RX
open Go.RowKit
/-- s[k:]. -/
theorem sl_drop {P : Program} {H : PH} {o : Oper} {x lo : Operand} {vs : List Value} {T e : TypeId} {sz n i : Nat} {k : IntKind} {v : Value} {xs : List Value} (ho : o.op = .slice T x (some lo) none none) (hx : argEv [x, lo] vs x = v) (hl : argEv [x, lo] vs lo = .int k (i : Nat)) (hu : P.underlying T = some (.slice e)) (he : hasT P e = true) (hsz : P.cellsOf e = sz) (h : Sl H sz v n xs) (h1 : i ≤ n) :
    ∃ u, Yld P o vs u ∧ Sl H sz u (n - i) (xs.drop (i * sz)) := by
  obtain ⟨hlen, a, c, h2, h3, h4, h5⟩ := h
  obtain ⟨⟨ie, hie⟩, _⟩ := hasT_spec he
  have hos : o.op.operands.toList = [x, lo] := by simp [ho, Op.operands]
  refine ⟨.slice (if c = i then a else a.map (·.add (i * sz))) (n - i) (c - i), fun w => ?_, by rw [List.length_drop, hlen, Nat.sub_mul], _, _, rfl, by omega, by omega, ?_⟩
  · rw [hos]
    simp only [execOp, ho, hx, h2, Option.map_some, Option.map_none, hl, Instr.sliceAt, Instr.slice, Sem.run_bind, run_underlying hu, Result.andThen_ok, Sem.run_pure, Instr.sliceBounds]
    rw [run_sliceBound w k (i : Int) n _ (by omega) (by omega)]
    simp only [Result.andThen_ok, run_sizeT hie, Int.toNat_natCast, hsz]
  · rcases h5 with h5 | ⟨b, q, cs, T', fz, h5, h6, h7⟩
    · left; omega
    · by_cases hni : n - i = 0
      · exact .inl hni
      · right
        subst h5
        refine ⟨b, q + i * sz, cs, T', fz, ?_, h6, ?_⟩
        · rw [if_neg (by omega), Option.map_some, add_blk]
        · rw [← h7, List.drop_take, List.drop_drop, Nat.sub_mul]
end Go.RX
namespace Go.Proofs.YtcleogdmobdnpacGreatRDoor
open Go.RowKit Go.RX Go.WD

theorem Ds.drop {H : PH} {v : Value} {l : List Nat} {o : Oper} {x lo : Operand} {i : Nat} {k : IntKind} {vs : List Value} (h : Ds H v l) (ho : o.op = .slice 111 x (some lo) none none) (hx : argEv [x, lo] vs x = v) (hl : argEv [x, lo] vs lo = .int k (i : Nat)) (h1 : i ≤ l.length) : ∃ u, Yld Tryz.prog o vs u ∧ Ds H u (l.drop i) := by
  obtain ⟨u, h2, h3⟩ := sl_drop (P := Tryz.prog) ho hx hl und_ints hasT_int cells_int' h.1 h1
  refine ⟨u, h2, ?_, h.2.drop i⟩
  rw [List.length_drop, List.map_drop]
  rwa [Nat.mul_one] at h3
theorem Od.frame {Hr H Hr' H' : PH} {v : Value} {l : List Nat} (h : Od Hr H v l) (hk : ∀ k ob, H k = some ob → Hr k = none → Hr' k = none ∧ H' k = some ob) : Od Hr' H' v l := ⟨h.1.frame hk, h.2⟩
theorem _root_.Go.WD.Tm.top {l : List Nat} (h : Tm l) (hD : Dg l) {n : Nat} (hn : l.length = n + 1) : l.getD n 0 ≠ 0 := fun h0 => by
  have h1 := vl_take_succ (l := l) (k := n) (by omega)
  rw [List.take_of_length_le (by omega), h0, Nat.mul_zero, Nat.add_zero] at h1
  have h4 := vl_lt (hD.take n)
  rw [List.length_take, Nat.min_eq_left (by omega)] at h4
  have h3 : l.length ≤ n := h n (by omega)
  omega
theorem _root_.Go.WD.Tm.drop {l : List Nat} (h : Tm l) (hD : Dg l) (k : Nat) : Tm (l.drop k) := by
  rcases Nat.lt_or_ge k l.length with hk | hk
  · obtain ⟨n, hn⟩ : ∃ n, l.length = n + 1 := ⟨l.length - 1, by omega⟩
    refine Tm.of (n := n - k) (by rw [List.length_drop]; omega) ?_
    rw [List.getD_eq_getElem?_getD, List.getElem?_drop, ← List.getD_eq_getElem?_getD, show k + (n - k) = n from by omega]
    exact h.top hD hn
  · rw [List.drop_of_length_le hk]; exact Tm.nil
/-- One bit of a quotient. -/
theorem bit_step {X ai Q qi r B k : Nat} (hk : k < 32) (hq : qi % 2 ^ (k + 1) = 0) (h : X * 2 ^ (32 - (k + 1)) + ai / 2 ^ (k + 1) = (Q * 2 ^ (32 - (k + 1)) + qi / 2 ^ (k + 1)) * B + r) :
    X * 2 ^ (32 - k) + ai / 2 ^ k = (Q * 2 ^ (32 - k) + qi / 2 ^ k) * B + (2 * r + ai / 2 ^ k % 2) ∧ qi % 2 ^ k = 0 := by
  have e : 32 - k = (32 - (k + 1)) + 1 := by omega
  have hp : 0 < 2 ^ k := Nat.pow_pos (by omega)
  rw [Nat.pow_succ 2 k] at hq h
  obtain ⟨t, rfl⟩ := Nat.dvd_of_mod_eq_zero hq
  rw [Nat.mul_div_cancel_left t (by omega), ← Nat.div_div_eq_div_mul] at h
  rw [e, Nat.pow_succ 2 (32 - (k + 1)), Nat.mul_assoc, Nat.mul_div_cancel_left _ hp]
  refine ⟨?_, Nat.mul_mod_right _ _⟩
  generalize 2 ^ (32 - (k + 1)) = p at h
  generalize ai / 2 ^ k = A at h
  have e1 : X * (p * 2) = 2 * (X * p) := by rw [← Nat.mul_assoc, Nat.mul_comm]
  have e2 : (Q * (p * 2) + 2 * t) * B = 2 * ((Q * p + t) * B) := by rw [← Nat.mul_assoc, Nat.mul_comm (Q * p), ← Nat.mul_add, Nat.mul_assoc]
  rw [e1, e2]
  omega
/-- An own slice, and another that came later. -/
theorem split_own {H0 H1 H : PH} {vq vr : Value} {lq lr : List Nat} (hq : Od H0 H1 vq lq) (hle : PH.le H0 H1) (hl : PH.le H1 H) (hr : Od H1 H vr lr) : ∃ Hr, PH.le H0 Hr ∧ PH.le Hr H ∧ Od Hr H vq lq ∧ Ds Hr vr lr := by
  obtain ⟨⟨q1, q2⟩, q3⟩ := hq
  rcases q2 with ⟨rfl, q2⟩ | ⟨g, cap, cur, rfl, hg0, hg, q4⟩
  · exact ⟨H, hle.trans hl, PH.le.refl H, ⟨⟨q1, .inl ⟨rfl, q2⟩⟩, q3⟩, hr.ds⟩
  · refine ⟨fun k => if k = g then none else H k, fun k ob hk => ?_, fun k ob hk => ?_, ⟨⟨q1, .inr ⟨g, cap, cur, rfl, if_pos rfl, hl _ _ hg, q4⟩⟩, q3⟩, ?_⟩
    · show (if k = g then none else H k) = some ob
      rw [if_neg (fun e => by rw [e, hg0] at hk; cases hk)]
      exact hl _ _ (hle _ _ hk)
    · replace hk : (if k = g then none else H k) = some ob := hk
      split at hk
      · cases hk
      · exact hk
    · obtain ⟨⟨r1, r2⟩, r3⟩ := hr
      rcases r2 with ⟨rfl, r2⟩ | ⟨g', cap', cur', rfl, hg0', hg', r4, r5, r6, r7⟩
      · have : lr = [] := List.eq_nil_of_length_eq_zero r2
        subst this
        exact Ds.nil _
      · refine ⟨⟨r1, _, cap', rfl, r4, r5, .inr ⟨g', 0, cur', 3, (0, 0), rfl, ?_, by rw [List.drop_zero]; exact r7⟩⟩, r3⟩
        show (if g' = g then none else H g') = some _
        rw [if_neg (fun e => by rw [e, hg] at hg0'; cases hg0')]
        exact hg'
theorem shr64 (a k : Nat) (hk : k ≤ 64) : (a : Int).fdiv (2 ^ min k (IntKind.bits .i64)) = ((a / 2 ^ k : Nat) : Int) := by
  rw [show min k (IntKind.bits .i64) = k from Nat.min_eq_left hk, show (2 : Int) ^ k = ((2 ^ k : Nat) : Int) from by simp, Int.fdiv_eq_ediv_of_nonneg _ (Int.natCast_nonneg _)]
  exact (Int.natCast_ediv a (2 ^ k)).symm
theorem one_shl {k : Nat} (hk : k < 32) : IntKind.i64.wrap (1 * 2 ^ min k (IntKind.bits .i64)) = ((2 ^ k : Nat) : Int) := by
  have h : 2 ^ k < 2 ^ 32 := Nat.pow_lt_pow_right (by omega) hk
  rw [show min k (IntKind.bits .i64) = k from Nat.min_eq_left (by show k ≤ 64; omega), show (2 : Int) ^ k = ((2 ^ k : Nat) : Int) from by simp, Int.one_mul]
  exact wn (by omega)
theorem tmod2 (a : Nat) : (a : Int).tmod 2 = ((a % 2 : Nat) : Int) := tmodn a 2
section
variable {H : PH} {a b : List Nat} {va vb : Value}
set_option maxRecDepth 100000 in
theorem con_rparts (ha : Ds H va a) (hb : Ds H vb b) (ta : Tm a) (tb : Tm b) (hb0 : 0 < vl b) (hA : a.length ≤ 10000) (hB : b.length ≤ 10000) :
    Con Tryz.prog 160 [va, vb] H fun u H' => PH.le H H' ∧ ∃ q r, u = .tuple #[q, r] ∧ Nu H' q (vl a / vl b) ∧ Nu H' r (vl a % vl b) := by
  obtain ⟨n, hn⟩ : ∃ n, b.length = n + 1 := ⟨b.length - 1, by have := tb.pos.2 hb0; omega⟩
  have hbn := tb.ge hn
  have e1 : IntKind.i64.wrap (((n + 1 : Nat) : Int) - 1) = (n : Int) := by rw [wfit (by omega) (by omega)]; omega
  refine con_of_tree mixed tr_rparts np_rparts rfl (den_len op_rparts_1_1 rfl hb rfl (den_rq ⟨_, rfl⟩ (den_len op_rparts_2_1 rfl ha rfl (den_rq ⟨_, rfl⟩ (den_br (b := decide (a.length ≤ n)) ?_ (fun h => ?_) (fun h => ?_))))))
  · simp only [rxs, iv, hn, e1]
    congr 1
    rw [decide_eq_decide]; omega
  · have h := of_decide_eq_true h
    have hlt : vl a < vl b := Tm.lt_of_len ha.2 tb (by omega)
    refine den_build0 op_rparts_3_0 rfl fun e H1 hl1 h1 => den_append op_rparts_3_2 rfl rfl hl1 h1 (ha.mono hl1) (by simp; omega) rfl rfl fun v' H2 hl2 h2 _ => den_ret rfl ⟨hl2, _, v', rfl, ?_, a, ?_, ta, ?_⟩
    · rw [Nat.div_eq_of_lt hlt]; exact Nu.zero _
    · exact h2.ds
    · rw [Nat.mod_eq_of_lt hlt]
  have h : n < a.length := by have := of_decide_eq_false h; omega
  obtain ⟨m, hm⟩ : ∃ m, a.length = m + n := ⟨a.length - n, by omega⟩
  have e2 : IntKind.i64.wrap (((m + n : Nat) : Int) - (n : Int)) = (m : Int) := by rw [wfit (by omega) (by omega)]; omega
  refine den_len op_rparts_4_1 rfl ha rfl (den_rq ⟨_, rfl⟩ (den_make (kl := .i64) (kc := .i64) (m := m) op_rparts_4_4 rfl rfl (by omega) (by simp only [rxs, iv, hn, hm, e1, e2]) fun vq H1 hl1 h1 => ?_))
  simp only [List.cons_append, List.nil_append]
  refine den_build0 op_rparts_5_0 rfl fun e H2 hl2 h2 => den_len op_rparts_5_3 rfl ((ha.mono hl1).mono hl2) rfl (den_rq ⟨_, rfl⟩ ?_)
  simp only [List.cons_append, List.nil_append]
  obtain ⟨w8, hw8, hd8⟩ := Ds.drop (i := m) (k := .i64) (vs := [va, .int .i64 (m : Nat)]) ((ha.mono hl1).mono hl2) op_rparts_5_6 rfl rfl (by omega)
  refine den_prim (hw8.rds _) (by simp only [rxs, iv, hn, hm, e1, e2]) ?_
  simp only [List.cons_append, List.nil_append]
  refine den_append op_rparts_5_7 rfl rfl hl2 h2 hd8 (by rw [List.length_drop]; simp; omega) rfl rfl fun rest H3 hl3 h3 hput => ?_
  rw [List.nil_append] at h3
  simp only [List.cons_append, List.nil_append]
  obtain ⟨Hr0, r1, r2, r3, r4⟩ := split_own h1 hl1 hl3 h3
  have e3 : IntKind.i64.wrap ((m : Int) - 1) = (m : Int) - 1 := wfit (by omega) (by omega)
  refine den_len op_rparts_6_1 rfl r3.ds rfl (den_rq ⟨_, rfl⟩ ⟨fun vals H' => ∃ (i r : Nat) (rest : Value) (Hr : PH) (lq : List Nat), vals = [rest, .int .i64 ((i : Int) - 1)] ∧ i ≤ m ∧ PH.le H Hr ∧ PH.le Hr H' ∧ Od Hr H' vq lq ∧ lq.length = m ∧ Nu Hr rest r ∧ r < vl b ∧ (∀ k, k < i → lq.getD k 0 = 0) ∧ vl (a.drop i) = vl (lq.drop i) * vl b + r, fun vals _ => (intOf (vals.getD 1 undef) + 1).toNat, ⟨m, vl (a.drop m), rest, Hr0, _, ?_, Nat.le_refl _, r1, r2, r3, by simp, ⟨_, r4, ta.drop ha.2 m, rfl⟩, ?_, fun k _ => at_zeros _ k, ?_⟩, ?_⟩)
  · simp only [rxs, iv, List.length_replicate, e3]
  · have := vl_lt (ha.2.drop m)
    rw [List.length_drop, hm, Nat.add_sub_cancel_left] at this
    omega
  · rw [List.drop_of_length_le (l := List.replicate m 0) (by simp)]; simp [vl]
  rintro vals H' - ⟨i, r, rest2, Hr, lq, rfl, hi, hle, hler, hq, hlq, hrest, hr, hz, hv⟩
  simp only [List.cons_append, List.nil_append]
  refine den_rq ⟨_, rfl⟩ (den_br (b := decide ((i : Int) - 1 ≥ 0)) rfl (fun hi2 => ?_) (fun hi2 => ?_))
  · have hi2 := of_decide_eq_true hi2
    obtain ⟨j, rfl⟩ : ∃ j, i = j + 1 := ⟨i - 1, by omega⟩
    have ej : ((j + 1 : Nat) : Int) - 1 = (j : Int) := by omega
    rw [ej]
    have dai := ha.2.at j
    have e4 : IntKind.i64.wrap ((j : Int) - 1) = (j : Int) - 1 := wfit (by omega) (by omega)
    refine ⟨fun vals H' => ∃ (k r : Nat) (rest : Value) (Hr : PH) (lq : List Nat), vals = [rest, .int .i64 ((k : Int) - 1)] ∧ k ≤ 32 ∧ PH.le H Hr ∧ PH.le Hr H' ∧ Od Hr H' vq lq ∧ lq.length = m ∧ Nu Hr rest r ∧ r < vl b ∧ (∀ k, k < j → lq.getD k 0 = 0) ∧ lq.getD j 0 % 2 ^ k = 0 ∧ vl (a.drop (j + 1)) * 2 ^ (32 - k) + a.getD j 0 / 2 ^ k = (vl (lq.drop (j + 1)) * 2 ^ (32 - k) + lq.getD j 0 / 2 ^ k) * vl b + r, fun vals _ => (intOf (vals.getD 1 undef) + 1).toNat, ⟨32, r, rest2, Hr, lq, rfl, by omega, hle, hler, hq, hlq, hrest, hr, fun k hk => hz k (by omega), ?_, ?_⟩, ?_⟩
    · rw [hz j (by omega)]
    · rw [hz j (by omega), Nat.div_eq_of_lt (show a.getD j 0 < 2 ^ 32 from dai), Nat.zero_div, Nat.sub_self, Nat.pow_zero, Nat.mul_one, Nat.mul_one, Nat.add_zero, Nat.add_zero]
      exact hv
    clear hz hv hr hrest hq hler hle hlq
    rintro vals H2 - ⟨k, r, rest3, Hr, lq, rfl, hk, hle, hler, hq, hlq, hrest, hr, hz, hmod, hv⟩
    simp only [List.cons_append, List.nil_append]
    refine den_rq ⟨_, rfl⟩ (den_br (b := decide ((k : Int) - 1 ≥ 0)) rfl (fun hk2 => ?_) (fun hk2 => ?_))
    · have hk2 := of_decide_eq_true hk2
      obtain ⟨k, rfl⟩ : ∃ j, k = j + 1 := ⟨k - 1, by omega⟩
      have ek : ((k + 1 : Nat) : Int) - 1 = (k : Int) := by omega
      rw [ek]
      have e5 : IntKind.i64.wrap ((k : Int) - 1) = (k : Int) - 1 := wfit (by omega) (by omega)
      refine den_at (k := .i64) (j := j) op_rparts_12_3 op_rparts_12_4 rfl rfl (fun _ => rfl) (ha.mono (hle.trans hler)) (by omega) rfl (fun _ => rfl) fun p => den_rq ⟨_, rfl⟩ (den_rq ⟨_, _, rfl⟩ (den_rq ?_ ?_))
      · show (0 : Int) ≤ (k : Int); omega
      simp only [List.cons_append, List.nil_append]
      obtain ⟨hs, hm0⟩ := bit_step (k := k) (by omega) hmod hv
      generalize hbit : a.getD j 0 / 2 ^ k % 2 = bit at hs
      have hbit1 : bit ≤ 1 := by omega
      obtain ⟨lr, hlr, htr, rfl⟩ := hrest
      have hlrl : lr.length ≤ b.length := Tm.len_le htr hb.2 (by omega)
      refine den_call ((con_rtwice hlr (by omega) hbit1).frame hler) ?_ ?_
      · simp only [rxs, iv, shr64 _ k (by omega), tmod2, hbit]
      rintro u H3 ⟨Hr', ⟨s1, s2⟩, s3, s4⟩
      have hq' := hq.frame s4
      refine ⟨fun h => (nomatch h), ?_⟩
      simp only [List.cons_append, List.nil_append]
      obtain ⟨l2, hl2, ht2, hv2⟩ := id s2
      have hb3 : Ds Hr' vb b := hb.mono (hle.trans s1)
      refine den_call (con_rorder (hl2.mono s3) (hb3.mono s3) ht2 tb) rfl ?_
      rintro c H4 ⟨rfl, c, rfl, hc1, hc2⟩
      refine ⟨fun h => (nomatch h), den_rq ⟨_, rfl⟩ (den_br (b := decide (c ≥ 0)) rfl (fun hc => ?_) (fun hc => ?_))⟩
      · have hc := of_decide_eq_true hc
        have hge : vl b ≤ vl l2 := by omega
        have hl2l : l2.length ≤ b.length + 1 := ht2 _ (by
          have := vl_lt hb.2
          rw [BP_succ]; omega)
        refine den_call ((con_rless hl2 hb3 hge (Tm.len_le tb hl2.2 hge) (by omega)).frame s3) rfl ?_
        rintro u2 H5 ⟨Hr2, ⟨t1, t2⟩, t3, t4⟩
        have hq2 := hq'.frame t4
        refine ⟨fun h => (nomatch h), ?_⟩
        simp only [List.cons_append, List.nil_append]
        refine den_at (k := .i64) (j := j) op_rparts_15_4 op_rparts_15_5 rfl rfl (fun _ => rfl) hq2.ds (by omega) rfl (fun _ => rfl) fun p2 => den_rq ⟨_, rfl⟩ ?_
        simp only [List.cons_append, List.nil_append]
        have dq := hq2.2.at j
        have hpk : 0 < 2 ^ k := Nat.pow_pos (by omega)
        have hfit : lq.getD j 0 + 2 ^ k < 4294967296 := by
          have h32 : (2 : Nat) ^ (k + 1) ∣ 4294967296 := by
            rw [show (4294967296 : Nat) = 2 ^ 32 from rfl]; exact Nat.pow_dvd_pow 2 (by omega)
          obtain ⟨z1, hz1⟩ := h32
          obtain ⟨z2, hz2⟩ := Nat.dvd_of_mod_eq_zero hmod
          rw [hz2, hz1] at dq
          have hlt := Nat.lt_of_mul_lt_mul_left dq
          have := Nat.mul_le_mul_left (2 ^ (k + 1)) (show z2 + 1 ≤ z1 from hlt)
          rw [Nat.mul_add, Nat.mul_one, ← hz1, ← hz2, Nat.pow_succ] at this
          omega
        have e6 : IntKind.i64.wrap (((lq.getD j 0 : Nat) : Int) + ((2 ^ k : Nat) : Int)) = ((lq.getD j 0 + 2 ^ k : Nat) : Int) := wadd (by omega)
        refine den_set (k := .i64) (j := j) (d := lq.getD j 0 + 2 ^ k) op_rparts_15_9 op_rparts_15_10 rfl rfl (fun _ => rfl) (fun _ => rfl) t3 hq2 (by omega) hfit rfl (fun p => by simp only [rxs, iv, one_shl (show k < 32 by omega), e6]) rfl fun p u3 H6 hl6 h6 _ => ⟨⟨k, vl l2 - vl b, u2, Hr2, _, ?_, by omega, hle.trans (s1.trans t1), hl6, h6, by rw [List.length_set]; exact hlq, t2, ?_, ?_, ?_, ?_⟩, ?_⟩
        · simp only [rxs, iv, e5]
        · omega
        · intro k' hk'
          rw [at_set_ne (by omega)]; exact hz k' hk'
        · rw [at_set_self (by omega), Nat.add_mod_right]; exact hm0
        · rw [at_set_self (by omega), drop_set (by omega), hs, Nat.add_div_right _ hpk]
          have ex : ∀ A q B : Nat, (A + (q + 1)) * B = (A + q) * B + B := fun A q B => by rw [← Nat.add_assoc, Nat.succ_mul]
          rw [ex]
          omega
        · simp only [rxs, iv, e5]
          omega
      · have hc := of_decide_eq_false hc
        refine ⟨⟨k, vl l2, u, Hr', lq, ?_, by omega, hle.trans s1, s3, hq', hlq, hv2 ▸ s2, by omega, hz, hm0, ?_⟩, ?_⟩
        · simp only [rxs, iv, e5]
        · rw [hs, hv2]
        · simp only [rxs, iv, e5]
          omega
    · have hk2 := of_decide_eq_false hk2
      have hk0 : k = 0 := by omega
      subst hk0
      refine ⟨⟨j, r, rest3, Hr, lq, ?_, by omega, hle, hler, hq, hlq, hrest, hr, hz, ?_⟩, ?_⟩
      · simp only [rxs, iv, e4]
      · rw [vl_drop_at (by omega), vl_drop_at (l := lq) (by omega)]
        rw [Nat.pow_zero, Nat.div_one, Nat.div_one, Nat.sub_zero] at hv
        rw [Nat.mul_comm 4294967296, Nat.mul_comm 4294967296, Nat.add_comm, Nat.add_comm (lq.getD j 0)]
        exact hv
      · simp only [rxs, iv, e4]
        omega
  · have hi2 := of_decide_eq_false hi2
    have hi0 : i = 0 := by omega
    subst hi0
    rw [List.drop_zero, List.drop_zero] at hv
    refine den_call (con_rcut hq.ds) rfl ?_
    rintro u H5 ⟨rfl, hu⟩
    refine ⟨fun h => (nomatch h), den_ret rfl ⟨hle.trans hler, u, rest2, rfl, ?_, ?_⟩⟩
    · rw [hv, Nat.add_comm, Nat.add_mul_div_right _ _ hb0, Nat.div_eq_of_lt hr, Nat.zero_add]
      exact hu
    · rw [hv, Nat.add_comm, Nat.add_mul_mod_self_right, Nat.mod_eq_of_lt hr]
      exact hrest.mono hler
end
end Go.Proofs.YtcleogdmobdnpacGreatRDoor

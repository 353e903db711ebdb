/- The reference of chapter 01: powers, drafts. -/
import Derived.Test.YtcleogdmobdnpacGreatRDoorRfI
import Derived.Test.YtcleogdmobdnpacGreatRDoorLwA
namespace Go.RX
theorem frame_le {Hr H Hr' H' : PH} (_hle : PH.le Hr H) (h1 : PH.le Hr Hr') (h2 : PH.le Hr' H') (h3 : ∀ k ob, H k = some ob → Hr k = none → Hr' k = none ∧ H' k = some ob) : PH.le H H' := fun k ob hk => by
  cases e : Hr k with
  | none => exact (h3 k ob hk e).2
  | some o2 =>
    have := _hle _ _ e
    rw [hk] at this
    cases this
    exact h2 _ _ (h1 _ _ e)
end Go.RX
namespace Go.Proofs.YtcleogdmobdnpacGreatRDoor
open Go.RowKit Go.RX Go.WD

/-- A sum of powers of 2. -/
def sm : List Nat → Nat
  | [] => 0
  | k :: s => 2 ^ k + sm s
theorem sm_snoc (s : List Nat) (k : Nat) : sm (s ++ [k]) = sm s + 2 ^ k := by
  induction s with
  | nil => simp [sm]
  | cons a s ih => simp only [List.cons_append, sm, ih]; omega
theorem sm_erase {k : Nat} : ∀ {s : List Nat}, k ∈ s → sm s = 2 ^ k + sm (s.erase k)
  | [], h => by cases h
  | a :: s, h => by
    by_cases e : a = k
    · subst e; rw [List.erase_cons_head]; rfl
    · rw [List.erase_cons_tail (by simpa using e)]
      have hk : k ∈ s := by
        rcases List.mem_cons.1 h with h1 | h1
        · exact absurd h1.symm e
        · exact h1
      simp only [sm]
      rw [sm_erase hk]; omega
/-- Each exponent once. -/
theorem sm_lt : ∀ (L : Nat) {s : List Nat}, s.Nodup → (∀ k ∈ s, k < L) → sm s < 2 ^ L
  | 0, s, _, h => by
    cases s with
    | nil => simp [sm]
    | cons a s => have := h a (by simp); omega
  | L + 1, s, hn, h => by
    rw [Nat.pow_succ]
    by_cases hm : L ∈ s
    · have h1 := sm_lt L (hn.erase L) fun k hk => by
        have := h k (List.mem_of_mem_erase hk)
        have hne : k ≠ L := fun e => by subst e; exact (hn.not_mem_erase) hk
        omega
      rw [sm_erase hm]; omega
    · have h1 := sm_lt L hn fun k hk => by
        have := h k hk
        have hne : k ≠ L := fun e => by subst e; exact hm hk
        omega
      have : 0 < 2 ^ L := Nat.pow_pos (by omega)
      omega
theorem BP_pow (k : Nat) : BP k = 2 ^ (32 * k) := by unfold BP; rfl
theorem pow_lm {k : Nat} (h : k ≤ 600) : Lm ((2 : Int) ^ k) := by
  unfold Lm
  rw [Int.natAbs_pow]
  show 2 ^ k < BP 10000
  obtain ⟨m, hm⟩ : ∃ m, m = 20 := ⟨20, rfl⟩
  have h1 : 2 ^ k ≤ BP m := by rw [BP_pow]; exact Nat.pow_le_pow_right (by omega) (by omega)
  have := BP_lt_iff.2 (show m < 10000 by omega)
  omega
section
variable {H : PH} {v x y : Value} {z p q : Int}
theorem con_rRaised (n : Nat) (hn : n ≤ 600) (hx : Lg H x 2) : Con Tryz.prog 83 [x, .int .i64 (n : Nat)] H fun u H' => PH.le H H' ∧ Lg H' u ((2 : Int) ^ n) := by
  have r1 := hx.rq
  have hx' := hx
  obtain ⟨wx, rfl, nx⟩ := hx
  refine con_of_tree mixed tr_rRaised np_rRaised rfl (den_rq r1 (den_call (con_rLong1 1 (by omega) (by omega)) rfl ?_))
  rintro u H1 ⟨hl1, hu⟩
  refine ⟨fun h => (nomatch h), den_rq hu.rq ⟨fun vals H' => ∃ (i : Nat) (o : Value), vals = [iv i, o] ∧ i ≤ n ∧ PH.le H H' ∧ Lg H' o ((2 : Int) ^ i), fun vals _ => (n - intOf (vals.getD 0 undef)).toNat, ⟨0, u, rfl, by omega, hl1, by rw [Int.pow_zero]; exact hu⟩, ?_⟩⟩
  rintro vals H' - ⟨i, o, rfl, hi, hle, ho⟩
  simp only [List.cons_append, List.nil_append]
  have ho' := ho
  obtain ⟨wo, rfl, no⟩ := ho
  refine den_rq ⟨_, rfl⟩ (den_rq ⟨_, rfl⟩ (den_br (b := decide ((i : Int) < n)) rfl (fun h => ?_) (fun h => ?_)))
  · have h : i < n := by have := of_decide_eq_true h; omega
    have e1 : IntKind.i64.wrap ((i : Int) + 1) = ((i + 1 : Nat) : Int) := wadd1 (by omega)
    refine den_call (con_rTimes ho' (hx'.mono hle) (pow_lm (by omega)) (pow_lm (k := 1) (by omega))) rfl ?_
    rintro u2 H2 ⟨hl2, hu2⟩
    rw [← Int.pow_succ] at hu2
    refine ⟨fun h => (nomatch h), den_rq hu2.rq ⟨⟨i + 1, u2, ?_, by omega, hle.trans hl2, hu2⟩, ?_⟩⟩
    · simp only [rxs, iv, e1]
    · simp only [rxs, iv, e1]
      omega
  · have h : i = n := by have := of_decide_eq_false h; omega
    subst h
    exact den_ret rfl ⟨hle, wo, rfl, no⟩
end
end Go.Proofs.YtcleogdmobdnpacGreatRDoor
namespace Go.Proofs.YtcleogdmobdnpacGreatRDoor
open Go.RowKit Go.RX Go.WD

/-- A slice of short words. -/
def u16v (d : Nat) : Value := .int .u16 (d : Nat)
def Us (H : PH) (v : Value) (l : List Nat) : Prop := Sl H 1 v l.length (l.map u16v) ∧ ∀ d ∈ l, d < 65536
theorem Us.mono {H H' : PH} {v : Value} {l : List Nat} (h : Us H v l) (hl : PH.le H H') : Us H' v l := ⟨h.1.mono hl, h.2⟩
/-- A draft. -/
def Dr (H : PH) (v : Value) : Prop := ∃ (b : Bool) (w : Value) (l : List Nat) (n : Nat), v = .agg #[.bool b, w, .int .u32 (n : Nat)] ∧ Us H w l ∧ n < 4294967296
theorem Dr.mono {H H' : PH} {v : Value} (h : Dr H v) (hl : PH.le H H') : Dr H' v := by
  obtain ⟨b, w, l, n, h1, h2, h3⟩ := h; exact ⟨b, w, l, n, h1, h2.mono hl, h3⟩
theorem Dr.rq {H : PH} {v : Value} (h : Dr H v) : v.cells.size = 3 ∧ oneAll v.cells := by
  obtain ⟨b, w, l, n, rfl, ⟨⟨_, a, c, rfl, _⟩, _⟩, _⟩ := h
  refine ⟨rfl, fun c hc => ?_⟩
  rw [show (Value.agg #[.bool b, .slice a l.length _, .int .u32 (n : Nat)]).cells = #[.bool b, .slice a l.length _, .int .u32 (n : Nat)] from rfl] at hc
  simp only [List.mem_cons, List.not_mem_nil, or_false] at hc
  rcases hc with h | h | h <;> rw [h] <;> rfl
theorem map_u16v {l : List Nat} {i : Nat} (h : i < l.length) : ((l.map u16v).drop (i * 1)).take 1 = [u16v (l.getD i 0)] := by
  rw [Nat.mul_one, ← List.map_drop, drop_at h]; rfl
section
variable {G : Value → PH → Prop} {nx : List (List Value → PH → Prop)} {ρ : List Value} {H H0 : PH} {o o1 o2 : Oper} {x y x2 y2 : Operand} {id i id2 i2 : Nat} {args args2 : List SV} {t : Tree} {v : Value} {l : List Nat}
theorem den_u16len (ho : o.op = .call ⟨.builtin .len, #[x], #[22]⟩) (hx : argEv [x] [v] x = v) (h : Us H v l) (ha : args.map (D Tryz.prog ρ) = [v]) (n : den Tryz.prog G t nx (ρ ++ [iv l.length]) H) : den Tryz.prog G (.prim id i o args t) nx ρ H :=
  den_prim ((sl_len (e := 114) ho hx (by kernel_rfl) h.1).rds H) ha n
theorem den_u16at {k : IntKind} {j : Nat} (ho1 : o1.op = .indexAddr 22 x y) (ho2 : o2.op = .load 114 x2) (hx : argEv [x, y] [v, .int k (j : Nat)] x = v) (hy : argEv [x, y] [v, .int k (j : Nat)] y = .int k (j : Nat)) (hx2 : ∀ p, argEv [x2] [p] x2 = p) (h : Us H v l) (hj : j < l.length)
    (ha : args.map (D Tryz.prog ρ) = [v, .int k (j : Nat)]) (ha2 : ∀ p, args2.map (D Tryz.prog (ρ ++ [p])) = [p]) (n : ∀ p, den Tryz.prog G t nx (ρ ++ [p] ++ [u16v (l.getD j 0)]) H) : den Tryz.prog G (.prim id i o1 args (.prim id2 i2 o2 args2 t)) nx ρ H := by
  obtain ⟨b, q, cs, T', fz, h1, h2, h3, h4⟩ := sl_at (P := Tryz.prog) (e := 114) (sz := 1) ho1 hx hy (by kernel_rfl) (by kernel_rfl) (by kernel_rfl) Nat.zero_lt_one h.1 hj
  rw [map_u16v hj] at h4
  exact den_prim (h1.rds H) ha (den_prim (sl_load1 ho2 (hx2 _) h2 (by kernel_rfl) (by kernel_rfl) (by kernel_rfl) h3 h4) (ha2 _) (n _))
end
section
variable {H : PH} {v x y : Value} {z p q : Int}
/-- What a draft within a limit gives. -/
def Win (L : Nat) (z : Int) : Prop := (-3 ≤ z ∧ z < (2 ^ L : Nat)) ∨ (-((2 ^ L : Nat) : Int) < z ∧ z ≤ 3)
theorem Win.fits {L : Nat} {z : Int} (h : Win L z) (hL : L ≤ 511) : -(HM : Int) ≤ z ∧ z < HM := by
  have h1 := pow_le_HM hL
  have h2 : 3 < HM := by have := PW_pos 7; rw [HM_PW]; omega
  unfold Win at h
  omega
theorem lm_win {L : Nat} (hL : L ≤ 511) {z : Int} (h : z.natAbs ≤ 2 ^ L + 3) : Lm z := by
  have h1 := pow_le_HM hL
  have h2 := M_HM
  have h3 : 3 < HM := by have := PW_pos 7; rw [HM_PW]; omega
  have h4 := BP_lt_iff.2 (show 16 < 17 by omega)
  have h5 := BP_le (show 17 ≤ 10000 by omega)
  rw [BP_M] at h4
  have h6 := BP_succ 16
  rw [BP_M] at h6
  unfold Lm
  omega
set_option maxRecDepth 100000 in
theorem con_rWithin (L : Nat) (hL0 : 0 < L) (hL : L ≤ 511) (h : Dr H v) : Con Tryz.prog 34 [v, .int .i64 (L : Nat)] H fun u H' => PH.le H H' ∧ ∃ z, u = iw z ∧ Win L z := by
  have hrq := h.rq
  obtain ⟨b, w, bs, n, rfl, hb, hn⟩ := h
  refine con_of_tree mixed tr_rWithin np_rWithin rfl (den_rq hrq ⟨fun vals H' => ∃ (i : Nat) (s : List Nat) (vs vo : Value) (Hr : PH), vals = [vs, iv i, vo] ∧ i ≤ 6 ∧ PH.le H Hr ∧ PH.le Hr H' ∧ Od Hr H' vs s ∧ Lg Hr vo (sm s : Nat) ∧ s.Nodup ∧ (∀ k ∈ s, k < L) ∧ s.length ≤ i, fun vals _ => (6 - intOf (vals.getD 1 undef)).toNat, ⟨0, [], _, _, H, rfl, by omega, PH.le.refl H, PH.le.refl H, Od.nil H H, ?_, List.nodup_nil, (fun k hk => by cases hk), by simp⟩, ?_⟩)
  · show Lg H (Value.agg ((zeroV Tryz.prog 4).cells ++ (zeroV Tryz.prog 111).cells)) _
    rw [z_bool, z_ints]; exact lg_nat (Nu.zero H)
  rintro vals H' - ⟨i, s, vs, vo, Hr, rfl, hi, hle, hler, hs, ho, hnd, hlt, hsl⟩
  simp only [List.cons_append, List.nil_append]
  have hb' := hb.mono (hle.trans hler)
  have hsm : sm s < 2 ^ L := sm_lt L hnd hlt
  refine ⟨fun vals H1 => H1 = H' ∧ vals = [.bool (decide (i < bs.length ∧ i < 6))], den_u16len op_rWithin_4_3 rfl hb' rfl (den_rq ⟨_, rfl⟩ (den_rq ⟨_, rfl⟩ (den_br (b := decide ((i : Int) < bs.length)) rfl (fun h => ?_) (fun h => ?_)))), ?_⟩
  · have h := of_decide_eq_true h
    refine ⟨rfl, ?_⟩
    simp only [rxs, iv]
    congr 2
    rw [decide_eq_decide]; omega
  · have h := of_decide_eq_false h
    refine ⟨rfl, ?_⟩
    simp only [rxs]
    congr 2
    rw [eq_comm, decide_eq_false_iff_not]; omega
  rintro vals H1 - ⟨rfl, rfl⟩
  simp only [List.cons_append, List.nil_append]
  refine den_rq ⟨_, rfl⟩ (den_br rfl (fun h => ?_) (fun h => ?_))
  · have h := of_decide_eq_true h
    have hk16 : bs.getD i 0 < 65536 := hb.2 _ (List.mem_of_getElem? (at_some h.1))
    have e1 : (IntKind.i64.wrap ((bs.getD i 0 : Nat) : Int)).tmod (L : Int) = ((bs.getD i 0 % L : Nat) : Int) := by rw [wn (by omega), tmodn]
    have e2 : IntKind.i64.wrap ((i : Int) + 1) = ((i + 1 : Nat) : Int) := wadd1 (by omega)
    refine den_u16at (k := .i64) (j := i) op_rWithin_6_3 op_rWithin_6_4 rfl rfl (fun _ => rfl) hb' h.1 rfl (fun _ => rfl) fun p1 => den_rq ⟨_, rfl⟩ (den_rq ⟨_, rfl⟩ (den_rq ?_ ?_))
    · show (L : Int) ≠ 0; omega
    generalize hkd : bs.getD i 0 % L = k at e1
    have hkL : k < L := by rw [← hkd]; exact Nat.mod_lt _ hL0
    simp only [List.cons_append, List.nil_append]
    refine ⟨fun vals H2 => ∃ j : Nat, vals = [.bool (decide (k ∈ s.take j)), iv j] ∧ H2 = H1 ∧ j ≤ s.length, fun vals _ => (s.length - intOf (vals.getD 1 undef)).toNat, ⟨0, by simp only [rxs, List.take_zero]; rfl, rfl, by omega⟩, ?_⟩
    rintro vals H2 - ⟨j, rfl, rfl, hj⟩
    simp only [List.cons_append, List.nil_append]
    refine den_len op_rWithin_9_2 rfl hs.ds rfl (den_rq ⟨_, rfl⟩ (den_rq ⟨_, rfl⟩ (den_br (b := decide ((j : Int) < s.length)) rfl (fun h2 => ?_) (fun h2 => ?_))))
    · have h2 : j < s.length := by have := of_decide_eq_true h2; omega
      have e3 : IntKind.i64.wrap ((j : Int) + 1) = ((j + 1 : Nat) : Int) := wadd1 (by omega)
      have hmem : k ∈ s.take (j + 1) ↔ k ∈ s.take j ∨ s.getD j 0 = k := by
        rw [take_succ' h2, List.mem_append, List.mem_singleton]
        exact ⟨fun h => h.imp id Eq.symm, fun h => h.imp id Eq.symm⟩
      refine ⟨fun vals H3 => H3 = H2 ∧ vals = [.bool (decide (k ∈ s.take (j + 1)))], den_rq ⟨_, rfl⟩ (den_br rfl (fun h3 => ?_) (fun h3 => ?_)), ?_⟩
      · have h3 := of_decide_eq_true h3
        refine ⟨rfl, ?_⟩
        simp only [rxs]
        congr 2
        rw [eq_comm, decide_eq_true_iff, hmem]; exact .inl h3
      · have h3 := of_decide_eq_false h3
        refine den_at (k := .i64) (j := j) op_rWithin_11_4 op_rWithin_11_5 rfl rfl (fun _ => rfl) hs.ds h2 rfl (fun _ => rfl) fun p2 => den_rq ⟨_, rfl⟩ ⟨rfl, ?_⟩
        simp only [rxs, iv, u16v, e1]
        congr 2
        rw [Bool.eq_iff_iff, beq_iff_eq, decide_eq_true_iff, hmem]
        exact ⟨fun h => .inr (by omega), fun h => by rcases h with h | h; exact absurd h h3; omega⟩
      · rintro vals H3 - ⟨rfl, rfl⟩
        refine ⟨⟨j + 1, ?_, rfl, by omega⟩, ?_⟩
        · simp only [rxs, iv, e3]
        · simp only [rxs, iv, e3]
          omega
    · have h2 : j = s.length := by have := of_decide_eq_false h2; omega
      rw [h2, List.take_of_length_le (Nat.le_refl _)]
      refine den_rq ⟨_, rfl⟩ (den_br (b := !decide (k ∈ s)) rfl (fun h3 => ?_) (fun h3 => ?_))
      · have h3 : k ∉ s := by simpa using h3
        have hk2 : 2 ^ k ≤ 2 ^ L := Nat.pow_le_pow_right (by omega) (by omega)
        refine den_call ((con_rLong1 2 (by omega) (by omega)).frame hler) rfl ?_
        rintro u1 H3 ⟨Hr1, ⟨a1, a2⟩, a3, a4⟩
        refine ⟨fun _ => frame_le hler a1 a3 a4, ?_⟩
        simp only [List.cons_append, List.nil_append]
        refine den_call ((con_rRaised k (by omega) a2).frame a3) (by simp only [rxs, u16v, e1]) ?_
        rintro u2 H4 ⟨Hr2, ⟨b1, b2⟩, b3, b4⟩
        refine ⟨fun _ => frame_le a3 b1 b3 b4, ?_⟩
        simp only [List.cons_append, List.nil_append]
        have ho2 := ho.mono (a1.trans b1)
        have ho3 := ho2
        obtain ⟨wo, rfl, no⟩ := ho
        have hpk : ((2 : Int) ^ k) = ((2 ^ k : Nat) : Int) := by simp
        rw [hpk] at b2
        refine den_call ((con_rPlus ho2 b2 (lm_win hL (by rw [Int.natAbs_natCast]; omega)) (lm_win hL (by rw [Int.natAbs_natCast]; omega))).frame b3) rfl ?_
        rintro u3 H5 ⟨Hr3, ⟨c1, c2⟩, c3, c4⟩
        refine ⟨fun _ => frame_le b3 c1 c3 c4, den_rq c2.rq ?_⟩
        simp only [List.cons_append, List.nil_append]
        refine den_push (d := k) op_rWithin_14_2 op_rWithin_14_3 rfl (fun _ => rfl) (fun _ => rfl) c3 (((hs.frame a4).frame b4).frame c4) (by omega) (by omega) (by simp only [rxs, iv, u16v, e1]) (fun _ => rfl) rfl fun p3 v' H6 hl6 h6 => den_rq ⟨_, rfl⟩ ⟨⟨i + 1, s ++ [k], v', u3, Hr3, ?_, by omega, hle.trans (a1.trans (b1.trans c1)), hl6, h6, ?_, ?_, ?_, ?_⟩, ?_⟩
        · simp only [rxs, iv, e2]
        · rw [sm_snoc, Int.natCast_add]; exact c2
        · rw [List.nodup_append]
          exact ⟨hnd, by simp, by simp; intro a ha e; subst e; exact h3 ha⟩
        · intro k' hk'
          rcases List.mem_append.1 hk' with h7 | h7
          · exact hlt k' h7
          · rw [List.mem_singleton] at h7; omega
        · rw [List.length_append]; simp; omega
        · simp only [rxs, iv, e2]
          omega
      · refine den_rq ⟨_, rfl⟩ ⟨⟨i + 1, s, vs, vo, Hr, ?_, by omega, hle, hler, hs, ho, hnd, hlt, by omega⟩, ?_⟩
        · simp only [rxs, iv, e2]
        · simp only [rxs, iv, e2]
          omega
  · have e1 : IntKind.i64.wrap (((n : Nat) : Int).tmod 4) = ((n % 4 : Nat) : Int) := by rw [show ((n : Nat) : Int).tmod 4 = ((n % 4 : Nat) : Int) from tmodn n 4, wn (by omega)]
    have ho2 := ho
    obtain ⟨wo, rfl, no⟩ := ho
    refine den_rq ⟨(n : Nat), rfl⟩ (den_call (con_rLong1 ((n % 4 : Nat) : Int) (by omega) (by omega)) ?_ ?_)
    · show [Value.int .i64 (IntKind.i64.wrap (((n : Nat) : Int).tmod 4))] = _
      rw [e1]
    rintro u1 H3 ⟨a1, a2⟩
    refine ⟨fun _ => a1, ?_⟩
    simp only [List.cons_append, List.nil_append]
    have ho3 := (ho2.mono hler).mono a1
    refine den_call (con_rMinus ho3 a2 (lm_win hL (by rw [Int.natAbs_natCast]; omega)) (lm_win hL (by rw [Int.natAbs_natCast]; omega))) rfl ?_
    rintro u2 H4 ⟨b1, b2⟩
    have hr2 := b2.rq
    have b3 := b2
    obtain ⟨w2, rfl, n2⟩ := b2
    have hall := hle.trans (hler.trans (a1.trans b1))
    refine ⟨fun _ => b1, den_rq hr2 (den_rq ⟨_, rfl⟩ (den_br (b := b) rfl (fun h5 => ?_) (fun h5 => ?_)))⟩
    · refine den_call (con_rTurn b3) rfl ?_
      rintro u3 H5 ⟨rfl, c2⟩
      have hr3 := c2.rq
      have c3 := c2
      obtain ⟨w3, rfl, n3⟩ := c2
      have hw : Win L (-((sm s : Nat) - ((n % 4 : Nat) : Int))) := by unfold Win; omega
      refine ⟨fun h => (nomatch h), den_rq hr3 (den_call (con_rOut c3) rfl ?_)⟩
      rintro u4 H6 ⟨d1, rfl⟩
      rw [told_fits (hw.fits hL)]
      exact ⟨fun h => (nomatch h), den_rq ⟨_, rfl, Nat.zero_lt_succ _⟩ (den_rq ⟨_, rfl, Nat.lt_succ_self _⟩ (den_rq ⟨words_size _, words_one _⟩ (den_ret rfl ⟨hall.trans d1, _, rfl, hw⟩)))⟩
    · have hw : Win L ((sm s : Nat) - ((n % 4 : Nat) : Int)) := by unfold Win; omega
      refine den_call (con_rOut b3) rfl ?_
      rintro u4 H6 ⟨d1, rfl⟩
      rw [told_fits (hw.fits hL)]
      exact ⟨fun h => (nomatch h), den_rq ⟨_, rfl, Nat.zero_lt_succ _⟩ (den_rq ⟨_, rfl, Nat.lt_succ_self _⟩ (den_rq ⟨words_size _, words_one _⟩ (den_ret rfl ⟨hall.trans d1, _, rfl, hw⟩)))⟩
def smallF (v : Value) : Int := if boolOf (v.cells.getD 0 undef) then -(((intOf (v.cells.getD 2 undef)).toNat % 1000001 : Nat) : Int) else (((intOf (v.cells.getD 2 undef)).toNat % 1000001 : Nat) : Int)
theorem con_rSmallF (h : Dr H v) : Con Tryz.prog 35 [v] H fun u H' => H' = H ∧ u = .int .i64 (smallF v) ∧ -1000000 ≤ smallF v ∧ smallF v ≤ 1000000 := by
  have hrq := h.rq
  obtain ⟨b, w, bs, n, rfl, hb, hn⟩ := h
  have es : smallF (.agg #[.bool b, w, .int .u32 (n : Nat)]) = if b then -((n % 1000001 : Nat) : Int) else ((n % 1000001 : Nat) : Int) := rfl
  rw [es]
  have e1 : IntKind.i64.wrap (((n : Nat) : Int).tmod 1000001) = ((n % 1000001 : Nat) : Int) := by rw [show ((n : Nat) : Int).tmod 1000001 = ((n % 1000001 : Nat) : Int) from tmodn n 1000001, wn (by omega)]
  refine con_of_tree mixed tr_rSmall np_rSmall rfl (den_rq hrq (den_rq ⟨(n : Nat), rfl⟩ (den_rq ⟨_, rfl⟩ (den_br (b := b) rfl (fun h5 => ?_) (fun h5 => ?_)))))
  · rw [if_pos h5]
    refine den_ret rfl ⟨rfl, ?_, by omega, by omega⟩
    show Value.int .i64 (IntKind.i64.wrap (0 - IntKind.i64.wrap (((n : Nat) : Int).tmod 1000001))) = _
    rw [e1, wfit (by omega) (by omega)]
    congr 1
    omega
  · rw [if_neg (by rw [h5]; simp)]
    refine den_ret rfl ⟨rfl, ?_, by omega, by omega⟩
    show Value.int .i64 (IntKind.i64.wrap (((n : Nat) : Int).tmod 1000001)) = _
    rw [e1]
theorem con_rSmall (h : Dr H v) : Con Tryz.prog 35 [v] H fun u H' => H' = H ∧ ∃ z : Int, u = .int .i64 z ∧ -1000000 ≤ z ∧ z ≤ 1000000 :=
  (con_rSmallF h).mono fun _ _ ⟨h1, h2, h3⟩ => ⟨h1, _, h2, h3⟩
end
end Go.Proofs.YtcleogdmobdnpacGreatRDoor

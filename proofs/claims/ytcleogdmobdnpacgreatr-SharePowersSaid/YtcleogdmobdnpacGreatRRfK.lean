/- The reference of chapter 01: powers, drafts. -/
import Derived.Test.YtcleogdmobdnpacGreatRRfI
import Derived.Test.YtcleogdmobdnpacGreatRLwA
namespace Go.RX
theorem frame_le {Hr H Hr' H' : PH} (_hle : PH.le Hr H) (h1 : PH.le Hr Hr') (h2 : PH.le Hr' H') (h3 : ∀ k ob, H k = some ob → Hr k = none → Hr' k = none ∧ H' k = some ob) : PH.le H H' := fun k ob hk => by
  cases e : Hr k with
  | none => exact (h3 k ob hk e).2
  | some o2 =>
    have := _hle _ _ e
    rw [hk] at this
    cases this
    exact h2 _ _ (h1 _ _ e)
end Go.RX
namespace Go.Proofs.YtcleogdmobdnpacGreatR
open Go.RowKit Go.RX Go.WD

/-- A sum of powers of 2. -/
def sm : List Nat → Nat
  | [] => 0
  | k :: s => 2 ^ k + sm s
theorem sm_snoc (s : List Nat) (k : Nat) : sm (s ++ [k]) = sm s + 2 ^ k := by
  induction s with
  | nil => simp [sm]
  | cons a s ih => simp only [List.cons_append, sm, ih]; omega
theorem sm_erase {k : Nat} : ∀ {s : List Nat}, k ∈ s → sm s = 2 ^ k + sm (s.erase k)
  | [], h => by cases h
  | a :: s, h => by
    by_cases e : a = k
    · subst e; rw [List.erase_cons_head]; rfl
    · rw [List.erase_cons_tail (by simpa using e)]
      have hk : k ∈ s := by
        rcases List.mem_cons.1 h with h1 | h1
        · exact absurd h1.symm e
        · exact h1
      simp only [sm]
      rw [sm_erase hk]; omega
/-- Each exponent once. -/
theorem sm_lt : ∀ (L : Nat) {s : List Nat}, s.Nodup → (∀ k ∈ s, k < L) → sm s < 2 ^ L
  | 0, s, _, h => by
    cases s with
    | nil => simp [sm]
    | cons a s => have := h a (by simp); omega
  | L + 1, s, hn, h => by
    rw [Nat.pow_succ]
    by_cases hm : L ∈ s
    · have h1 := sm_lt L (hn.erase L) fun k hk => by
        have := h k (List.mem_of_mem_erase hk)
        have hne : k ≠ L := fun e => by subst e; exact (hn.not_mem_erase) hk
        omega
      rw [sm_erase hm]; omega
    · have h1 := sm_lt L hn fun k hk => by
        have := h k hk
        have hne : k ≠ L := fun e => by subst e; exact hm hk
        omega
      have : 0 < 2 ^ L := Nat.pow_pos (by omega)
      omega
theorem BP_pow (k : Nat) : BP k = 2 ^ (32 * k) := by unfold BP; rfl
theorem pow_lm {k : Nat} (h : k ≤ 600) : Lm ((2 : Int) ^ k) := by
  unfold Lm
  rw [Int.natAbs_pow]
  show 2 ^ k < BP 10000
  obtain ⟨m, hm⟩ : ∃ m, m = 20 := ⟨20, rfl⟩
  have h1 : 2 ^ k ≤ BP m := by rw [BP_pow]; exact Nat.pow_le_pow_right (by omega) (by omega)
  have := BP_lt_iff.2 (show m < 10000 by omega)
  omega
section
variable {H : PH} {v x y : Value} {z p q : Int}
end
end Go.Proofs.YtcleogdmobdnpacGreatR
namespace Go.Proofs.YtcleogdmobdnpacGreatR
open Go.RowKit Go.RX Go.WD

/-- A slice of short words. -/
def u16v (d : Nat) : Value := .int .u16 (d : Nat)
def Us (H : PH) (v : Value) (l : List Nat) : Prop := Sl H 1 v l.length (l.map u16v) ∧ ∀ d ∈ l, d < 65536
theorem Us.mono {H H' : PH} {v : Value} {l : List Nat} (h : Us H v l) (hl : PH.le H H') : Us H' v l := ⟨h.1.mono hl, h.2⟩
/-- A draft. -/
def Dr (H : PH) (v : Value) : Prop := ∃ (b : Bool) (w : Value) (l : List Nat) (n : Nat), v = .agg #[.bool b, w, .int .u32 (n : Nat)] ∧ Us H w l ∧ n < 4294967296
theorem Dr.mono {H H' : PH} {v : Value} (h : Dr H v) (hl : PH.le H H') : Dr H' v := by
  obtain ⟨b, w, l, n, h1, h2, h3⟩ := h; exact ⟨b, w, l, n, h1, h2.mono hl, h3⟩
theorem Dr.rq {H : PH} {v : Value} (h : Dr H v) : v.cells.size = 3 ∧ oneAll v.cells := by
  obtain ⟨b, w, l, n, rfl, ⟨⟨_, a, c, rfl, _⟩, _⟩, _⟩ := h
  refine ⟨rfl, fun c hc => ?_⟩
  rw [show (Value.agg #[.bool b, .slice a l.length _, .int .u32 (n : Nat)]).cells = #[.bool b, .slice a l.length _, .int .u32 (n : Nat)] from rfl] at hc
  simp only [List.mem_cons, List.not_mem_nil, or_false] at hc
  rcases hc with h | h | h <;> rw [h] <;> rfl
theorem map_u16v {l : List Nat} {i : Nat} (h : i < l.length) : ((l.map u16v).drop (i * 1)).take 1 = [u16v (l.getD i 0)] := by
  rw [Nat.mul_one, ← List.map_drop, drop_at h]; rfl
section
variable {G : Value → PH → Prop} {nx : List (List Value → PH → Prop)} {ρ : List Value} {H H0 : PH} {o o1 o2 : Oper} {x y x2 y2 : Operand} {id i id2 i2 : Nat} {args args2 : List SV} {t : Tree} {v : Value} {l : List Nat}
theorem den_u16len (ho : o.op = .call ⟨.builtin .len, #[x], #[22]⟩) (hx : argEv [x] [v] x = v) (h : Us H v l) (ha : args.map (D Tryz.prog ρ) = [v]) (n : den Tryz.prog G t nx (ρ ++ [iv l.length]) H) : den Tryz.prog G (.prim id i o args t) nx ρ H :=
  den_prim ((sl_len (e := 184) ho hx (by kernel_rfl) h.1).rds H) ha n
theorem den_u16at {k : IntKind} {j : Nat} (ho1 : o1.op = .indexAddr 22 x y) (ho2 : o2.op = .load 184 x2) (hx : argEv [x, y] [v, .int k (j : Nat)] x = v) (hy : argEv [x, y] [v, .int k (j : Nat)] y = .int k (j : Nat)) (hx2 : ∀ p, argEv [x2] [p] x2 = p) (h : Us H v l) (hj : j < l.length)
    (ha : args.map (D Tryz.prog ρ) = [v, .int k (j : Nat)]) (ha2 : ∀ p, args2.map (D Tryz.prog (ρ ++ [p])) = [p]) (n : ∀ p, den Tryz.prog G t nx (ρ ++ [p] ++ [u16v (l.getD j 0)]) H) : den Tryz.prog G (.prim id i o1 args (.prim id2 i2 o2 args2 t)) nx ρ H := by
  obtain ⟨b, q, cs, T', fz, h1, h2, h3, h4⟩ := sl_at (P := Tryz.prog) (e := 184) (sz := 1) ho1 hx hy (by kernel_rfl) (by kernel_rfl) (by kernel_rfl) Nat.zero_lt_one h.1 hj
  rw [map_u16v hj] at h4
  exact den_prim (h1.rds H) ha (den_prim (sl_load1 ho2 (hx2 _) h2 (by kernel_rfl) (by kernel_rfl) (by kernel_rfl) h3 h4) (ha2 _) (n _))
end
section
variable {H : PH} {v x y : Value} {z p q : Int}
/-- What a draft within a limit gives. -/
def Win (L : Nat) (z : Int) : Prop := (-3 ≤ z ∧ z < (2 ^ L : Nat)) ∨ (-((2 ^ L : Nat) : Int) < z ∧ z ≤ 3)
theorem Win.fits {L : Nat} {z : Int} (h : Win L z) (hL : L ≤ 511) : -(HM : Int) ≤ z ∧ z < HM := by
  have h1 := pow_le_HM hL
  have h2 : 3 < HM := by have := PW_pos 7; rw [HM_PW]; omega
  unfold Win at h
  omega
theorem lm_win {L : Nat} (hL : L ≤ 511) {z : Int} (h : z.natAbs ≤ 2 ^ L + 3) : Lm z := by
  have h1 := pow_le_HM hL
  have h2 := M_HM
  have h3 : 3 < HM := by have := PW_pos 7; rw [HM_PW]; omega
  have h4 := BP_lt_iff.2 (show 16 < 17 by omega)
  have h5 := BP_le (show 17 ≤ 10000 by omega)
  rw [BP_M] at h4
  have h6 := BP_succ 16
  rw [BP_M] at h6
  unfold Lm
  omega
def smallF (v : Value) : Int := if boolOf (v.cells.getD 0 undef) then -(((intOf (v.cells.getD 2 undef)).toNat % 1000001 : Nat) : Int) else (((intOf (v.cells.getD 2 undef)).toNat % 1000001 : Nat) : Int)
theorem con_rSmallF (h : Dr H v) : Con Tryz.prog 26 [v] H fun u H' => H' = H ∧ u = .int .i64 (smallF v) ∧ -1000000 ≤ smallF v ∧ smallF v ≤ 1000000 := by
  have hrq := h.rq
  obtain ⟨b, w, bs, n, rfl, hb, hn⟩ := h
  have es : smallF (.agg #[.bool b, w, .int .u32 (n : Nat)]) = if b then -((n % 1000001 : Nat) : Int) else ((n % 1000001 : Nat) : Int) := rfl
  rw [es]
  have e1 : IntKind.i64.wrap (((n : Nat) : Int).tmod 1000001) = ((n % 1000001 : Nat) : Int) := by rw [show ((n : Nat) : Int).tmod 1000001 = ((n % 1000001 : Nat) : Int) from tmodn n 1000001, wn (by omega)]
  refine con_of_tree mixed tr_rSmall np_rSmall rfl (den_rq hrq (den_rq ⟨(n : Nat), rfl⟩ (den_rq ⟨_, rfl⟩ (den_br (b := b) rfl (fun h5 => ?_) (fun h5 => ?_)))))
  · rw [if_pos h5]
    refine den_ret rfl ⟨rfl, ?_, by omega, by omega⟩
    show Value.int .i64 (IntKind.i64.wrap (0 - IntKind.i64.wrap (((n : Nat) : Int).tmod 1000001))) = _
    rw [e1, wfit (by omega) (by omega)]
    congr 1
    omega
  · rw [if_neg (by rw [h5]; simp)]
    refine den_ret rfl ⟨rfl, ?_, by omega, by omega⟩
    show Value.int .i64 (IntKind.i64.wrap (((n : Nat) : Int).tmod 1000001)) = _
    rw [e1]
theorem con_rSmall (h : Dr H v) : Con Tryz.prog 26 [v] H fun u H' => H' = H ∧ ∃ z : Int, u = .int .i64 z ∧ -1000000 ≤ z ∧ z ≤ 1000000 :=
  (con_rSmallF h).mono fun _ _ ⟨h1, h2, h3⟩ => ⟨h1, _, h2, h3⟩
end
end Go.Proofs.YtcleogdmobdnpacGreatR

/- strings.Builder: WriteByte, String. -/
import Derived.Test.YtcleogdmobdnpacGreatRDoorRxV
import Derived.Test.YtcleogdmobdnpacGreatRDoorBdT
import Derived.Test.YtcleogdmobdnpacGreatRDoorRfB
import Derived.Test.YtcleogdmobdnpacGreatRDoorWdR
import Derived.Test.YtcleogdmobdnpacGreatRDoorLwA
namespace Go.RX
open Go.RowKit
theorem OwS.mark {H0 H H' : PH} {b : Nat} {o1 o2 : Obj} {e : TypeId} {sz n : Nat} {v : Value} {xs : List Value} (h : OwS (H0.put b o1) H e sz v n xs) (hk : ∀ k, k ≠ b → H' k = H k) : OwS (H0.put b o2) H' e sz v n xs := by
  obtain ⟨h1, h2 | ⟨g, cap, cur, h2, h3, h4, h5⟩⟩ := h
  · exact ⟨h1, .inl h2⟩
  · have hne : g ≠ b := fun e => by rw [e, PH.put_self] at h3; cases h3
    refine ⟨h1, .inr ⟨g, cap, cur, h2, ?_, (hk g hne).trans h4, h5⟩⟩
    rw [PH.put_ne _ _ hne] at h3 ⊢; exact h3
theorem Sl.cells {H : PH} {sz n : Nat} {v : Value} {xs : List Value} (h : Sl H sz v n xs) : v.cells = #[v] := by
  obtain ⟨_, a, c, h2, _⟩ := h; rw [h2]; rfl
theorem Sl.one {H : PH} {sz n : Nat} {v : Value} {xs : List Value} (h : Sl H sz v n xs) : v.cells.size = 1 ∧ oneAll v.cells := by
  rw [h.cells]
  obtain ⟨_, a, c, h2, _⟩ := h
  refine ⟨rfl, fun c hc => ?_⟩
  simp at hc; rw [hc, h2]; rfl
end Go.RX
namespace Go.Proofs.YtcleogdmobdnpacGreatRDoor
open Go.RowKit Go.RX Go.WD

theorem und_bytes : Tryz.prog.underlying 124 = some (.slice 5) := by kernel_rfl
theorem bld_str : Tryz.prog.underlying 128 = some (.struct (fieldsOf Tryz.prog 128)) := by kernel_rfl
theorem und_pbld : Tryz.prog.underlying 126 = some (.pointer 128) := by kernel_rfl
theorem info_byte : ∃ i, Tryz.prog.info? 5 = some i ∧ i.zero = some (.int .u8 0) ∧ i.size = 1 ∧ i.bytes = 1 := by
  refine ⟨(Tryz.prog.info? 5).getD default, by kernel_rfl, by kernel_rfl, by kernel_rfl, by kernel_rfl⟩
theorem info_bld : ∃ j, Tryz.prog.info? 128 = some j ∧ j.size = 2 := by
  refine ⟨(Tryz.prog.info? 128).getD default, by kernel_rfl, by kernel_rfl⟩
theorem lies_bld : liesAt Tryz.prog Tryz.prog.depth 128 (2 / Tryz.prog.cellsOf 128) 0 128 1 = true := by kernel_rfl
theorem fillb (f : Nat → Value) (c : UInt8) : Instr.fill (fun j => some (j * 1, 1)) ((Array.range (1 * 1)).map f) [(0, bv c)] = some #[bv c] := by
  rw [range1]
  simp [Instr.fill, bv, cells_int]
section
variable {o : Oper} {x y : Operand} {vs : List Value} {b : Nat} {H H0 : PH} {p v : Value} {l : List UInt8}
theorem fa0 (ho : o.op = .fieldAddr 128 x 0) (hx : argEv [x] vs x = .pointer (some ⟨b, 0, none⟩)) : Yld Tryz.prog o vs (.pointer (some ⟨b, 0, none⟩)) := by
  have := yld_fieldAddr (P := Tryz.prog) (T := 126) (off := 0) ho hx bld_str (of_decide_eq_true (by kernel_rfl)) (by kernel_rfl) (by kernel_rfl) (by kernel_rfl) (by kernel_rfl)
  exact this
theorem fa1 (ho : o.op = .fieldAddr 128 x 1) (hx : argEv [x] vs x = .pointer (some ⟨b, 0, none⟩)) : Yld Tryz.prog o vs (.pointer (some ⟨b, 1, none⟩)) := by
  have := yld_fieldAddr (P := Tryz.prog) (T := 124) (off := 1) ho hx bld_str (of_decide_eq_true (by kernel_rfl)) (by kernel_rfl) (by kernel_rfl) (by kernel_rfl) (by kernel_rfl)
  exact this
theorem own_noEscape (v : Value) : Own Tryz.prog 149 [v] v := fun w => by
  show (callFunc _ #[_]).run _ w = _
  rw [run_callFunc_extern Tryz.func149 (by kernel_rfl) (by kernel_rfl) (by kernel_rfl) (e := Extern.AbiNoEscape.same) (by kernel_rfl), Go.Lib.run_noEscape]
  rfl
set_option maxRecDepth 100000 in
theorem con_bCheck (hH : H b = some (.cells #[p, v] 128 (0, 0))) (hp : p = .pointer none ∨ p = .pointer (some ⟨b, 0, none⟩)) :
    Con Tryz.prog 124 [.pointer (some ⟨b, 0, none⟩)] H fun u H' => u = .tuple #[] ∧ H' = H.put b (.cells #[.pointer (some ⟨b, 0, none⟩), v] 128 (0, 0)) := by
  obtain ⟨j, hj, hj2⟩ := info_bld
  obtain ⟨q, rfl, hq⟩ : ∃ q, p = .pointer q ∧ (q = none ∨ q = some ⟨b, 0, none⟩) := by
    rcases hp with h | h
    · exact ⟨none, h, .inl rfl⟩
    · exact ⟨_, h, .inr rfl⟩
  have h1 : Tryz.prog.cellsOf 126 = 1 := by kernel_rfl
  refine con_of_tree mixed tr_bCheck np_bCheck rfl (den_prim ((yld_nilCheck (vs := [.pointer (some ⟨b, 0, none⟩)]) op_bCheck_0_1 rfl).rds _) rfl (den_prim ((fa0 (vs := [.pointer (some ⟨b, 0, none⟩)]) op_bCheck_0_2 rfl).rds _) rfl (den_prim (sl_load1 (w := .pointer q) op_bCheck_0_3 rfl hH (by kernel_rfl) (by kernel_rfl) h1 (by simp) rfl) rfl (den_prim ((yld_eqNil (p := q) (vs := [.pointer q, .pointer none]) op_bCheck_0_4 rfl rfl und_pbld).rds _) rfl (den_rq ⟨_, rfl⟩ (den_br rfl (fun h => ?_) (fun h => ?_)))))))
  · obtain rfl : q = none := by simpa using h
    simp only [List.cons_append, List.nil_append]
    refine den_prim (rds_toUnsafe (vs := [.pointer (some ⟨b, 0, none⟩)]) op_bCheck_1_2 rfl und_pbld (by kernel_rfl) hj (by rw [hj2]; decide) hH (by simp)) rfl (den_own (own_noEscape (.pointer (some ⟨b, 0, none⟩))) rfl (den_prim (rds_fromUnsafe (vs := [.pointer (some ⟨b, 0, none⟩)]) op_bCheck_1_4 rfl (by kernel_rfl) und_pbld hj hH lies_bld) rfl ?_))
    simp only [List.cons_append, List.nil_append]
    refine den_prim ((yld_nilCheck (vs := [.pointer (some ⟨b, 0, none⟩)]) op_bCheck_1_5 rfl).rds _) rfl (den_prim ((fa0 (vs := [.pointer (some ⟨b, 0, none⟩)]) op_bCheck_1_6 rfl).rds _) rfl (den_eff (opn_store (b := b) (q := 0) (v := .pointer (some ⟨b, 0, none⟩)) op_bCheck_1_7 rfl rfl hH (by kernel_rfl) (by rw [h1]; simp) (by rw [h1]; rfl) (fun c hc => ?_)) rfl ?_))
    · simp [Value.cells] at hc; subst hc; rfl
    rintro u H1 ⟨rfl, rfl⟩
    refine ⟨fun h => (nomatch h), den_ret rfl ⟨rfl, ?_⟩⟩
    congr 2
  · obtain rfl : q = some ⟨b, 0, none⟩ := by
      rcases hq with rfl | rfl
      · cases h
      · rfl
    simp only [List.cons_append, List.nil_append]
    refine den_prim ((yld_nilCheck (vs := [.pointer (some ⟨b, 0, none⟩)]) op_bCheck_2_1 rfl).rds _) rfl (den_prim ((fa0 (vs := [.pointer (some ⟨b, 0, none⟩)]) op_bCheck_2_2 rfl).rds _) rfl (den_prim (sl_load1 (w := .pointer (some ⟨b, 0, none⟩)) op_bCheck_2_3 rfl hH (by kernel_rfl) (by kernel_rfl) h1 (by simp) rfl) rfl (den_prim ((yld_neSelf (vs := [.pointer (some ⟨b, 0, none⟩), .pointer (some ⟨b, 0, none⟩)]) op_bCheck_2_5 rfl rfl und_pbld hj).rds _) rfl (den_rq rfl (den_ret rfl ⟨rfl, (PH.put_same hH).symm⟩)))))
/-- A builder of the call's own, with its bytes. -/
def BlO (H0 H : PH) (b : Nat) (l : List UInt8) : Prop :=
  H0 b = none ∧ ∃ p v, H b = some (.cells #[p, v] 128 (0, 0)) ∧ (p = .pointer none ∨ p = .pointer (some ⟨b, 0, none⟩)) ∧ OwS (H0.put b (.cells #[] 0 (0, 0))) H 5 1 v l.length (l.map bv)
theorem BlO.new (hb : H b = none) : BlO H (H.put b (.cells #[.pointer none, .slice none 0 0] 128 (0, 0))) b [] :=
  ⟨hb, _, _, PH.put_self _ _ _, .inl rfl, OwS.nil _ _ _ 1⟩
set_option maxRecDepth 100000 in
theorem con_bWrite (hle : PH.le H0 H) (h : BlO H0 H b l) (c : UInt8) (hl : l.length ≤ 1000000) : Con Tryz.prog 93 [.pointer (some ⟨b, 0, none⟩), bv c] H fun u H' => u = .nilIface ∧ PH.le H0 H' ∧ BlO H0 H' b (l ++ [c]) := by
  obtain ⟨hb0, p, v, hH, hp, hv⟩ := h
  obtain ⟨ti, i1, i2, i3, i4⟩ := info_byte
  have h1 : Tryz.prog.cellsOf 124 = 1 := by kernel_rfl
  refine con_of_tree mixed tr_bWrite np_bWrite rfl (den_call (con_bCheck hH hp) rfl ?_)
  rintro _ H1 ⟨rfl, rfl⟩
  have hH1 := PH.put_self H b (.cells #[.pointer (some ⟨b, 0, none⟩), v] 128 (0, 0))
  have hle1 : PH.le (H0.put b (.cells #[.pointer (some ⟨b, 0, none⟩), v] 128 (0, 0))) (H.put b (.cells #[.pointer (some ⟨b, 0, none⟩), v] 128 (0, 0))) := fun k ob hk => by
    unfold PH.put at hk ⊢
    split at hk
    · rename_i e; rw [if_pos e]; exact hk
    · rename_i e; rw [if_neg e]; exact hle _ _ hk
  have hv1 : OwS (H0.put b (.cells #[.pointer (some ⟨b, 0, none⟩), v] 128 (0, 0))) (H.put b (.cells #[.pointer (some ⟨b, 0, none⟩), v] 128 (0, 0))) 5 1 v l.length (l.map bv) := hv.mark fun k hk => PH.put_ne _ _ hk
  generalize H.put b (.cells #[.pointer (some ⟨b, 0, none⟩), v] 128 (0, 0)) = H1 at hH1 hle1 hv1
  simp only [List.cons_append, List.nil_append]
  refine ⟨fun h => (nomatch h), den_prim ((yld_nilCheck (vs := [.pointer (some ⟨b, 0, none⟩)]) op_bWrite_2_2 rfl).rds _) rfl (den_prim ((fa1 (vs := [.pointer (some ⟨b, 0, none⟩)]) op_bWrite_2_3 rfl).rds _) rfl (den_prim (sl_load1 (w := v) op_bWrite_2_4 rfl hH1 (by kernel_rfl) (by kernel_rfl) h1 (by simp) rfl) rfl ?_))⟩
  simp only [List.cons_append, List.nil_append]
  refine den_eff (vs := [bv c]) (sl_build (cells := #[bv c]) op_bWrite_2_6 und_bytes i1 i2 (by rw [i3]; decide) (by rw [i3]; decide) (by rw [i3]; exact fillb _ c)) rfl ?_
  rintro u H2 ⟨g, hg, rfl, rfl⟩
  have l2 := PH.le_put (H := H1) hg (.cells #[bv c] 5 (0, 0))
  have hs : Sl (H1.put g (.cells #[bv c] 5 (0, 0))) 1 (.slice (some ⟨g, 0, none⟩) 1 1) 1 [bv c] := ⟨rfl, _, 1, rfl, by omega, by simp [maxLen], .inr ⟨g, 0, _, _, _, rfl, PH.put_self _ _ _, rfl⟩⟩
  refine ⟨fun _ => l2, den_eff (vs := [v, .slice (some ⟨g, 0, none⟩) 1 1]) (own_append op_bWrite_2_7 rfl rfl und_bytes i1 i2 i3 rfl (hle1.trans l2) (hv1.mono l2) hs (by omega) (fun c' hc => ?_) (by simp only [maxLen]; omega) (by rw [i4]; omega)) rfl ?_⟩
  · simp at hc; subst hc; rfl
  rintro v' H3 ⟨l3, hv3, _⟩
  have hH3 := l3 _ _ (PH.put_self H0 b (.cells #[.pointer (some ⟨b, 0, none⟩), v] 128 (0, 0)))
  have ho3 := hv3.sl.one
  simp only [List.cons_append, List.nil_append]
  refine ⟨fun h => (nomatch h), den_prim ((yld_nilCheck (vs := [.pointer (some ⟨b, 0, none⟩)]) op_bWrite_2_8 rfl).rds _) rfl (den_prim ((fa1 (vs := [.pointer (some ⟨b, 0, none⟩)]) op_bWrite_2_9 rfl).rds _) rfl (den_eff (opn_store (b := b) (q := 1) (v := v') op_bWrite_2_10 rfl rfl hH3 (by kernel_rfl) (by rw [h1]; simp) (by rw [h1]; exact ho3.1) ho3.2) rfl ?_))⟩
  rintro u4 H4 ⟨rfl, rfl⟩
  rw [hv3.sl.cells]
  refine ⟨fun h => (nomatch h), den_ret rfl ⟨rfl, fun k ob hk => ?_, hb0, .pointer (some ⟨b, 0, none⟩), v', PH.put_self _ _ _, .inr rfl, ?_⟩⟩
  · have hne : k ≠ b := fun e => by rw [e, hb0] at hk; cases hk
    rw [PH.put_ne _ _ hne]
    exact l3 _ _ (by rw [PH.put_ne _ _ hne]; exact hk)
  · have := hv3.mark (o2 := .cells #[] 0 (0, 0)) (H' := H3.put b (.cells #[.pointer (some ⟨b, 0, none⟩), v'] 128 (0, 0))) fun k hk => PH.put_ne _ _ hk
    rw [List.length_append, List.map_append]
    exact this
set_option maxRecDepth 100000 in
theorem con_bString (hle : PH.le H0 H) (h : BlO H0 H b l) (h0 : l ≠ []) (hl : l.length ≤ 1000000) : Con Tryz.prog 94 [.pointer (some ⟨b, 0, none⟩)] H fun u H' => u = st l ∧ PH.le H0 H' := by
  obtain ⟨hb0, p, v, hH, hp, hv⟩ := h
  have h1 : Tryz.prog.cellsOf 124 = 1 := by kernel_rfl
  have hlen : 0 < l.length := List.length_pos_iff.2 h0
  obtain ⟨_, ⟨_, hn⟩ | ⟨g, cap, cur, rfl, hg0, hg, hc1, hc2, hc3, hc4⟩⟩ := hv
  · omega
  rw [Nat.mul_one] at hc4
  have hgb : H0 g = none := by
    have hne : g ≠ b := fun e => by rw [e, PH.put_self] at hg0; cases hg0
    rwa [PH.put_ne _ _ hne] at hg0
  refine con_of_tree mixed tr_bString np_bString rfl (den_prim ((yld_nilCheck (vs := [.pointer (some ⟨b, 0, none⟩)]) op_bString_1_1 rfl).rds _) rfl (den_prim ((fa1 (vs := [.pointer (some ⟨b, 0, none⟩)]) op_bString_1_2 rfl).rds _) rfl (den_prim (sl_load1 (w := .slice (some ⟨g, 0, none⟩) l.length cap) op_bString_1_3 rfl hH (by kernel_rfl) (by kernel_rfl) h1 (by simp) rfl) rfl (den_prim ((yld_sliceData (vs := [.slice (some ⟨g, 0, none⟩) l.length cap]) op_bString_1_4 rfl (by omega)).rds _) rfl ?_))))
  simp only [List.cons_append, List.nil_append]
  refine den_prim ((yld_nilCheck (vs := [.pointer (some ⟨b, 0, none⟩)]) op_bString_1_6 rfl).rds _) rfl (den_prim ((fa1 (vs := [.pointer (some ⟨b, 0, none⟩)]) op_bString_1_7 rfl).rds _) rfl (den_prim (sl_load1 (w := .slice (some ⟨g, 0, none⟩) l.length cap) op_bString_1_8 rfl hH (by kernel_rfl) (by kernel_rfl) h1 (by simp) rfl) rfl (den_prim ((yld_len (vs := [.slice (some ⟨g, 0, none⟩) l.length cap]) op_bString_1_9 rfl und_bytes).rds _) rfl ?_)))
  simp only [List.cons_append, List.nil_append]
  refine den_eff (vs := [.pointer (some ⟨g, 0, none⟩), .int .i64 (l.length : Nat)]) (opn_unsafeString (l := l) op_bString_1_10 rfl rfl (by kernel_rfl) (by kernel_rfl) hg h0 (by omega) hc4) rfl ?_
  rintro u H1 ⟨rfl, ob, rfl⟩
  refine ⟨fun h => (nomatch h), den_ret rfl ⟨rfl, fun k ob' hk => ?_⟩⟩
  rw [PH.put_ne _ _ (fun e => by rw [e, hgb] at hk; cases hk)]
  exact hle _ _ hk
end
end Go.Proofs.YtcleogdmobdnpacGreatRDoor
namespace Go.WD
open Go.RX
/-- Decimal digits, the lowest first. -/
def dl (n : Nat) : List UInt8 := if h : n < 10 then [UInt8.ofNat (48 + n)] else UInt8.ofNat (48 + n % 10) :: dl (n / 10)
termination_by n
decreasing_by omega
def txt (z : Int) : List UInt8 := if z < 0 then 45 :: (dl z.natAbs).reverse else (dl z.natAbs).reverse
theorem dl_step (n : Nat) : dl n = UInt8.ofNat (48 + n % 10) :: (if n / 10 = 0 then [] else dl (n / 10)) := by
  rw [dl]; split
  · rename_i h; rw [Nat.mod_eq_of_lt h, if_pos (by omega)]
  · rename_i h; rw [if_neg (by omega)]
theorem dl_ne (n : Nat) : dl n ≠ [] := by rw [dl_step]; simp
theorem dl_len : ∀ (k n : Nat), n < 10 ^ (k + 1) → (dl n).length ≤ k + 1
  | 0, n, h => by
    rw [dl_step, if_pos (by omega)]; simp
  | k + 1, n, h => by
    rw [dl_step]
    split
    · simp
    · have := dl_len k (n / 10) (by rw [Nat.pow_succ] at h; omega)
      simp only [List.length_cons]; omega
theorem HM_ten : HM ≤ 10 ^ 154 := by
  obtain ⟨k, hk⟩ : ∃ k, k = 511 := ⟨511, rfl⟩
  rw [pow_HM hk]
  have e1 : ∀ b k i j : Nat, k = i * 5 + j → b ^ k = (b ^ i) ^ 5 * b ^ j := fun b k i j h => by rw [h, Nat.pow_add, Nat.pow_mul]
  rw [e1 2 k 93 46 (by omega), e1 10 154 28 14 rfl]
  exact Nat.mul_le_mul (Nat.pow_le_pow_left (by decide) 5) (by decide)
theorem HM_ten_lt : HM < 10 ^ 154 := by
  obtain ⟨k, hk⟩ : ∃ k, k = 511 := ⟨511, rfl⟩
  rw [pow_HM hk]
  have e1 : ∀ b k i j : Nat, k = i * 5 + j → b ^ k = (b ^ i) ^ 5 * b ^ j := fun b k i j h => by rw [h, Nat.pow_add, Nat.pow_mul]
  rw [e1 2 k 93 46 (by omega), e1 10 154 28 14 rfl]
  exact Nat.mul_lt_mul_of_le_of_lt (Nat.pow_le_pow_left (by decide) 5) (by decide) (Nat.pow_pos (by decide))
theorem M_ten : M ≤ 10 ^ 155 := by
  have h1 := HM_ten
  have h2 := M_HM
  have h3 : (10 : Nat) ^ 155 = 10 ^ 154 * 10 := by rw [show 155 = 154 + 1 from rfl, Nat.pow_succ]
  omega
def slN : Value → Nat | .slice _ n _ => n | _ => 0
end Go.WD
namespace Go.Proofs.YtcleogdmobdnpacGreatRDoor
open Go.RowKit Go.RX Go.WD

/-- A slice of bytes; one of the call's own. -/
def Bs (H : PH) (v : Value) (l : List UInt8) : Prop := Sl H 1 v l.length (l.map bv)
def Bo (H0 H : PH) (v : Value) (l : List UInt8) : Prop := OwS H0 H 5 1 v l.length (l.map bv)
theorem Bo.bs {H0 H : PH} {v : Value} {l : List UInt8} (h : Bo H0 H v l) : Bs H v l := h.sl
theorem Bs.mono {H H' : PH} {v : Value} {l : List UInt8} (h : Bs H v l) (hl : PH.le H H') : Bs H' v l := Sl.mono h hl
theorem Bs.len {H : PH} {v : Value} {l : List UInt8} (h : Bs H v l) : slN v = l.length := by
  obtain ⟨_, a, c, h2, _⟩ := h; rw [h2]; rfl
theorem map_bv {l : List UInt8} {i : Nat} (h : i < l.length) : ((l.map bv).drop (i * 1)).take 1 = [bv (l.getD i 0)] := by
  rw [Nat.mul_one, ← List.map_drop, List.drop_eq_getElem_cons h, List.getD_eq_getElem?_getD, List.getElem?_eq_getElem h]; rfl
section
variable {G : Value → PH → Prop} {nx : List (List Value → PH → Prop)} {ρ : List Value} {H H0 : PH} {o o1 o2 : Oper} {x y x2 y2 : Operand} {id i id2 i2 : Nat} {args args2 : List SV} {t : Tree} {v : Value} {l : List UInt8}
theorem den_blen (ho : o.op = .call ⟨.builtin .len, #[x], #[124]⟩) (hx : argEv [x] [v] x = v) (h : Bs H v l) (ha : args.map (D Tryz.prog ρ) = [v]) (n : den Tryz.prog G t nx (ρ ++ [iv l.length]) H) : den Tryz.prog G (.prim id i o args t) nx ρ H :=
  den_prim ((sl_len ho hx und_bytes h).rds H) ha n
theorem den_bat {k : IntKind} {j : Nat} (ho1 : o1.op = .indexAddr 124 x y) (ho2 : o2.op = .load 5 x2) (hx : argEv [x, y] [v, .int k (j : Nat)] x = v) (hy : argEv [x, y] [v, .int k (j : Nat)] y = .int k (j : Nat)) (hx2 : ∀ p, argEv [x2] [p] x2 = p) (h : Bs H v l) (hj : j < l.length)
    (ha : args.map (D Tryz.prog ρ) = [v, .int k (j : Nat)]) (ha2 : ∀ p, args2.map (D Tryz.prog (ρ ++ [p])) = [p]) (n : ∀ p, den Tryz.prog G t nx (ρ ++ [p] ++ [bv (l.getD j 0)]) H) : den Tryz.prog G (.prim id i o1 args (.prim id2 i2 o2 args2 t)) nx ρ H := by
  obtain ⟨b, q, cs, T', fz, h1, h2, h3, h4⟩ := sl_at (P := Tryz.prog) (e := 5) (sz := 1) ho1 hx hy und_bytes (by kernel_rfl) (by kernel_rfl) Nat.zero_lt_one h hj
  rw [map_bv hj] at h4
  exact den_prim (h1.rds H) ha (den_prim (sl_load1 ho2 (hx2 _) h2 (by kernel_rfl) (by kernel_rfl) (by kernel_rfl) h3 h4) (ha2 _) (n _))
theorem den_bpush {c : UInt8} {pb : Bool} (ho1 : o1.op = .buildSlice 124 1 #[(0, x)]) (ho2 : o2.op = .call ⟨.builtin .append, #[x2, y2], #[124, 124]⟩) (hx : argEv [x] [bv c] x = bv c) (hx2 : ∀ p, argEv [x2, y2] [v, p] x2 = v) (hy2 : ∀ p, argEv [x2, y2] [v, p] y2 = p) (hle : PH.le H0 H) (h : Bo H0 H v l) (hb : l.length ≤ 1000000)
    (ha : args.map (D Tryz.prog ρ) = [bv c]) (ha2 : ∀ p, args2.map (D Tryz.prog (ρ ++ [p])) = [v, p]) (n : ∀ p v' H', PH.le H0 H' → Bo H0 H' v' (l ++ [c]) → den Tryz.prog G t nx (ρ ++ [p] ++ [v']) H') : den Tryz.prog G (.eff pb id i o1 args (.eff false id2 i2 o2 args2 t)) nx ρ H := by
  obtain ⟨ti, i1, i2, i3, i4⟩ := info_byte
  refine den_eff (vs := [bv c]) (sl_build (cells := #[bv c]) ho1 und_bytes i1 i2 (by rw [i3]; decide) (by rw [i3]; decide) (by rw [i3]; simp only [List.map_cons, List.map_nil, hx]; exact fillb _ c)) ha ?_
  rintro u H2 ⟨g, hg, rfl, rfl⟩
  have l2 := PH.le_put (H := H) hg (.cells #[bv c] 5 (0, 0))
  have hs : Sl (H.put g (.cells #[bv c] 5 (0, 0))) 1 (.slice (some ⟨g, 0, none⟩) 1 1) 1 [bv c] := ⟨rfl, _, 1, rfl, by omega, by simp [maxLen], .inr ⟨g, 0, _, _, _, rfl, PH.put_self _ _ _, rfl⟩⟩
  refine ⟨fun _ => l2, den_eff (vs := [v, .slice (some ⟨g, 0, none⟩) 1 1]) (own_append ho2 (hx2 _) (hy2 _) und_bytes i1 i2 i3 rfl (hle.trans l2) (h.mono l2) hs (by omega) (fun c' hc => ?_) (by simp only [maxLen]; omega) (by rw [i4]; omega)) (ha2 _) ?_⟩
  · simp at hc; subst hc; rfl
  rintro v' H3 ⟨l3, hv3, _⟩
  refine ⟨fun h => (nomatch h), n _ _ _ l3 ?_⟩
  show OwS _ _ _ _ _ _ _
  rw [List.length_append, List.map_append]
  exact hv3
end
theorem z_bld : zeroV Tryz.prog 128 = .agg #[.pointer none, .slice none 0 0] := by kernel_rfl
theorem bv_dig (d : Nat) (h : d < 10) : Value.int .u8 (IntKind.u8.wrap (48 + IntKind.u8.wrap ((d : Nat) : Int))) = bv (UInt8.ofNat (48 + d)) := by
  unfold bv
  congr 1
  rw [UInt8.toNat_ofNat', IntKind.wrap_u8, IntKind.wrap_u8]
  omega
theorem nm_rq (z : Int) : (nm z).cells.size = 9 ∧ oneAll (nm z).cells := ⟨nb_size _ _, nb_one _ _⟩
theorem nm_sub (z : Int) : Value.agg ((nm z).cells.extract 1 9) = wd z.natAbs := nb_sub _ _
theorem nm_sign (z : Int) : (nm z).cells.getD 0 undef = .bool (decide (z < 0)) := rfl
section
variable {H : PH}
set_option maxRecDepth 100000 in
set_option maxHeartbeats 1000000 in
theorem con_wText (a : Nat) : Con Tryz.prog 38 [wd a] H fun u H' => PH.le H H' ∧ u = st (txt (toI a)) := by
  obtain ⟨N, hN⟩ : ∃ N, N = (toI a).natAbs := ⟨_, rfl⟩
  have hNM : N < M := by rw [hN]; exact toI_abs_lt a
  have hlen : (dl N).length ≤ 155 := dl_len 154 N (by have := M_ten; omega)
  refine con_of_tree mixed tr_wText np_wText rfl (den_rq ⟨words_size a, words_one a⟩ (den_det (det_read a) rfl (den_rq (nm_rq _) ?_)))
  refine ⟨fun vals H' => ∃ (ds : List UInt8) (m : Nat) (v : Value), vals = [v, wd m] ∧ m < M ∧ PH.le H H' ∧ Bo H H' v ds ∧ ((ds = [] ∧ m = N) ∨ (ds ≠ [] ∧ ds ++ (if m = 0 then [] else dl m) = dl N)), fun vals _ => 2 * numK (vals.getD 1 undef) 8 + (if slN (vals.getD 0 undef) = 0 then 1 else 0), ⟨[], N, .slice none 0 0, ?_, hNM, PH.le.refl _, OwS.nil _ _ _ 1, .inl ⟨rfl, rfl⟩⟩, ?_⟩
  · show [Value.slice none 0 0, Value.agg ((nm (toI a)).cells.extract 1 9)] = _
    rw [nm_sub, ← hN]
  rintro vals H' - ⟨ds, m, v, rfl, hm, hle, hv, hinv⟩
  have hmod : m % M = m := Nat.mod_eq_of_lt hm
  have hdl : ds.length ≤ 155 := by
    rcases hinv with ⟨h, _⟩ | ⟨_, h⟩
    · rw [h]; simp
    · rw [← h, List.length_append] at hlen; omega
  simp only [List.cons_append, List.nil_append]
  refine ⟨fun vals H'' => vals = [.bool (decide (m ≠ 0 ∨ ds = []))] ∧ H'' = H', ?_, ?_⟩
  · refine den_det (det_zero m) rfl (den_rq ⟨_, rfl⟩ (den_br (b := !decide (m % M = 0)) rfl (fun h => ?_) (fun h => ?_)))
    · have h : m ≠ 0 := by rw [hmod] at h; simpa using h
      exact ⟨by rw [decide_eq_true (show m ≠ 0 ∨ ds = [] from .inl h)]; rfl, rfl⟩
    · have h : m = 0 := by rw [hmod] at h; simpa using h
      refine den_blen op_wText_4_5 rfl hv.bs rfl (den_rq ⟨_, rfl⟩ ⟨?_, rfl⟩)
      show [Value.bool ((ds.length : Int) == 0)] = _
      congr 2
      rw [Bool.eq_iff_iff, beq_iff_eq, decide_eq_true_iff]
      rw [← List.length_eq_zero_iff]
      omega
  rintro vals H'' - ⟨rfl, rfl⟩
  simp only [List.cons_append, List.nil_append]
  refine den_rq ⟨_, rfl⟩ (den_br rfl (fun h => ?_) (fun h => ?_))
  · have h := of_decide_eq_true h
    have hd : m % 10 < 10 := Nat.mod_lt _ (by omega)
    refine den_det (det_short m 10 hm (by omega) (by omega)) rfl (den_rq ⟨_, rfl, Nat.zero_lt_succ _⟩ (den_rq ⟨_, rfl, Nat.lt_succ_self _⟩ (den_rq ⟨words_size _, words_one _⟩ (den_rq ⟨_, rfl⟩ ?_))))
    simp only [List.cons_append, List.nil_append]
    refine den_bpush (c := UInt8.ofNat (48 + m % 10)) op_wText_7_4 op_wText_7_5 rfl (fun _ => rfl) (fun _ => rfl) hle hv (by omega) ?_ (fun _ => rfl) fun p v' H2 l2 hv2 => ⟨⟨ds ++ [UInt8.ofNat (48 + m % 10)], m / 10, v', rfl, by omega, l2, hv2, .inr ⟨by simp, ?_⟩⟩, ?_⟩
    · exact congrArg (fun z => [z]) (bv_dig (m % 10) hd)
    · rw [List.append_assoc, List.cons_append, List.nil_append, ← dl_step]
      rcases hinv with ⟨h1, h2⟩ | ⟨h1, h2⟩
      · rw [h1, h2]; rfl
      · rw [if_neg (by rcases h with h | h
                       · exact h
                       · exact absurd h h1)] at h2
        exact h2
    · show 2 * numK (wd (m / 10)) 8 + (if slN v' = 0 then 1 else 0) < 2 * numK (wd m) 8 + (if slN v = 0 then 1 else 0)
      rw [numK_M (show m / 10 < M by omega), numK_M hm, hv2.bs.len, hv.bs.len]
      rw [if_neg (by simp)]
      rcases Nat.eq_zero_or_pos m with e | e
      · have : ds = [] := by
          rcases h with h | h
          · exact absurd e h
          · exact h
        rw [this, List.length_nil, if_pos rfl]; omega
      · have := Nat.div_lt_self e (show 1 < 10 by omega)
        omega
  · have h := of_decide_eq_false h
    have hm0 : m = 0 := by
      rcases Nat.eq_zero_or_pos m with e | e
      · exact e
      · exact absurd (.inl (by omega)) h
    have hds : ds ≠ [] := fun e => h (.inr e)
    have hdN : ds = dl N := by
      rcases hinv with ⟨h1, _⟩ | ⟨_, h2⟩
      · exact absurd h1 hds
      · rw [if_pos hm0, List.append_nil] at h2; exact h2
    clear hinv
    intro b hb
    show den _ _ _ _ _ (H''.put b (.cells (zeroV Tryz.prog 128).cells 128 (0, 0)))
    rw [z_bld]
    have hB := BlO.new hb
    have l2 : PH.le H'' (H''.put b (.cells #[.pointer none, .slice none 0 0] 128 (0, 0))) := PH.le_put hb _
    show den _ _ _ _ _ (H''.put b (.cells #[.pointer none, .slice none 0 0] 128 (0, 0)))
    generalize H''.put b (.cells #[.pointer none, .slice none 0 0] 128 (0, 0)) = H2 at hB l2
    simp only [List.cons_append, List.nil_append]
    obtain ⟨pre, hpre⟩ : ∃ pre : List UInt8, pre = if toI a < 0 then [45] else [] := ⟨_, rfl⟩
    have hpl : pre.length ≤ 1 := by rw [hpre]; split <;> simp
    have htx : txt (toI a) = pre ++ ds.reverse := by
      rw [hpre, hdN, hN]
      unfold txt
      split <;> rfl
    refine ⟨fun vals H3 => vals = [] ∧ PH.le H'' H3 ∧ BlO H'' H3 b pre, ?_, ?_⟩
    · refine den_rq ⟨_, nm_sign _⟩ (den_br (b := decide (toI a < 0)) (nm_sign _) (fun h => ?_) (fun h => ?_))
      · have h := of_decide_eq_true h
        refine den_call (con_bWrite l2 hB 45 (by simp)) rfl ?_
        rintro u H3 ⟨rfl, l3, hB3⟩
        refine ⟨fun h => (nomatch h), rfl, l3, ?_⟩
        rw [hpre, if_pos h]; exact hB3
      · have h := of_decide_eq_false h
        refine ⟨rfl, l2, ?_⟩
        rw [hpre, if_neg h]; exact hB
    rintro vals H3 - ⟨rfl, l3, hB3⟩
    simp only [List.append_nil]
    have e1 : IntKind.i64.wrap ((ds.length : Int) - 1) = (ds.length : Int) - 1 := by rw [IntKind.wrap_i64]; omega
    refine den_blen op_wText_11_1 rfl (hv.bs.mono l3) rfl (den_rq ⟨_, rfl⟩ ⟨fun vals H4 => ∃ i : Nat, vals = [.int .i64 ((i : Int) - 1)] ∧ i ≤ ds.length ∧ PH.le H'' H4 ∧ BlO H'' H4 b (pre ++ (ds.drop i).reverse), fun vals _ => (intOf (vals.getD 0 undef) + 1).toNat, ⟨ds.length, ?_, Nat.le_refl _, l3, ?_⟩, ?_⟩)
    · simp only [List.cons_append, List.nil_append, rxs, iv, e1]
    · rw [List.drop_of_length_le (Nat.le_refl _)]; simpa using hB3
    rintro vals H4 - ⟨i, rfl, hi, l4, hB4⟩
    simp only [List.cons_append, List.nil_append]
    refine den_rq ⟨_, rfl⟩ (den_br (b := decide ((i : Int) - 1 ≥ 0)) rfl (fun hi2 => ?_) (fun hi2 => ?_))
    · have hi2 := of_decide_eq_true hi2
      obtain ⟨j, rfl⟩ : ∃ j, i = j + 1 := ⟨i - 1, by omega⟩
      have ej : ((j + 1 : Nat) : Int) - 1 = (j : Int) := by omega
      rw [ej]
      have e2 : IntKind.i64.wrap ((j : Int) - 1) = (j : Int) - 1 := by rw [IntKind.wrap_i64]; omega
      refine den_bat (k := .i64) (j := j) op_wText_14_2 op_wText_14_3 rfl rfl (fun _ => rfl) (hv.bs.mono l4) (by omega) rfl (fun _ => rfl) fun p => ?_
      simp only [List.cons_append, List.nil_append]
      refine den_call (con_bWrite l4 hB4 (ds.getD j 0) (by simp; omega)) rfl ?_
      rintro u H5 ⟨rfl, l5, hB5⟩
      refine ⟨fun h => (nomatch h), ⟨j, ?_, by omega, l5, ?_⟩, ?_⟩
      · simp only [rxs, e2]
      · rw [List.append_assoc, ← List.reverse_cons] at hB5
        rw [List.drop_eq_getElem_cons (show j < ds.length by omega)]
        rw [List.getD_eq_getElem?_getD, List.getElem?_eq_getElem (show j < ds.length by omega)] at hB5
        exact hB5
      · simp only [rxs, e2]
        omega
    · have hi2 := of_decide_eq_false hi2
      have hi0 : i = 0 := by omega
      subst hi0
      rw [List.drop_zero] at hB4
      refine den_call (con_bString l4 hB4 (by simp [hds]) (by simp; omega)) rfl ?_
      rintro u H5 ⟨rfl, l5⟩
      exact ⟨fun h => (nomatch h), den_ret rfl ⟨hle.trans l5, by rw [htx]; rfl⟩⟩
end
end Go.Proofs.YtcleogdmobdnpacGreatRDoor
namespace Go.WD
open Go.RX
/-- Decimal digits, the highest first. -/
def dr (n : Nat) : List UInt8 := (dl n).reverse
theorem dr_small {n : Nat} (h : n < 10) : dr n = [UInt8.ofNat (48 + n)] := by
  unfold dr; rw [dl_step, if_pos (by omega), Nat.mod_eq_of_lt h]; rfl
theorem dr_big {n : Nat} (h : ¬ n < 10) : dr n = dr (n / 10) ++ [UInt8.ofNat (48 + n % 10)] := by
  unfold dr; rw [dl_step, if_neg (by omega), List.reverse_cons]
theorem dig_nat {d : Nat} (h : d < 10) : (UInt8.ofNat (48 + d)).toNat = 48 + d := by rw [UInt8.toNat_ofNat']; omega
theorem dig_ok {d : Nat} (h : d < 10) : digB (UInt8.ofNat (48 + d)) = true := by
  unfold digB; rw [dig_nat h]; simp; omega
theorem dig_back {c : UInt8} (h : digB c = true) : UInt8.ofNat (48 + (c.toNat - 48)) = c := by
  have := digB_val h
  rw [show 48 + (c.toNat - 48) = c.toNat from by omega]
  exact UInt8.ofNat_toNat
theorem getD_app {a : List UInt8} (h : a ≠ []) (b : List UInt8) : (a ++ b).getD 0 0 = a.getD 0 0 := by
  cases a with
  | nil => exact absurd rfl h
  | cons x a => rfl
theorem dr_spec : ∀ (k n : Nat), n < k → (dr n).all digB = true ∧ valL (dr n) = n ∧ dr n ≠ [] ∧ digB ((dr n).getD 0 0) = true ∧ ((dr n).getD 0 0 = 48 → n = 0) := by
  intro k
  induction k with
  | zero => intro n h; omega
  | succ k ih =>
    intro n h
    by_cases h10 : n < 10
    · rw [dr_small h10]
      have hd := dig_nat h10
      refine ⟨?_, ?_, by simp, dig_ok h10, fun e => ?_⟩
      · show (digB _ && true) = true
        rw [dig_ok h10]; rfl
      · show 10 * 0 + ((UInt8.ofNat (48 + n)).toNat - 48) = n
        rw [hd]; omega
      · have e : UInt8.ofNat (48 + n) = 48 := e
        have := congrArg UInt8.toNat e
        rw [hd] at this
        have h48 : (48 : UInt8).toNat = 48 := rfl
        omega
    · obtain ⟨i1, i2, i3, i4, i5⟩ := ih (n / 10) (by omega)
      have hd : n % 10 < 10 := Nat.mod_lt _ (by omega)
      rw [dr_big h10]
      refine ⟨?_, ?_, by simp, ?_, fun e => ?_⟩
      · rw [List.all_append, i1]
        show (true && (digB _ && true)) = true
        rw [dig_ok hd]; rfl
      · rw [valL_snoc, i2, dig_nat hd]; omega
      · rw [getD_app i3]; exact i4
      · rw [getD_app i3] at e
        have := i5 e
        omega
theorem val_pos : ∀ (k : Nat) (l : List UInt8), l.length ≤ k → l.all digB = true → l ≠ [] → l.getD 0 0 ≠ 48 → 0 < valL l := by
  intro k
  induction k with
  | zero => intro l h _ h0; exact absurd (List.eq_nil_of_length_eq_zero (by omega)) h0
  | succ k ih =>
    intro l h ha h0 h48
    rcases List.eq_nil_or_concat l with e | ⟨l', c, e⟩
    · exact absurd e h0
    · rw [List.concat_eq_append] at e
      subst e
      rw [valL_snoc]
      rw [List.all_append, Bool.and_eq_true] at ha
      by_cases e : l' = []
      · subst e
        have hc : digB c = true := by simpa using ha.2
        have hv := digB_val hc
        have : c.toNat ≠ 48 := fun e => h48 (by
          show c = 48
          exact UInt8.toNat_inj.1 e)
        omega
      · have := ih l' (by simp at h; omega) ha.1 e (by rw [getD_app e] at h48; exact h48)
        omega
theorem dr_val : ∀ (k : Nat) (l : List UInt8), l.length ≤ k → l.all digB = true → l ≠ [] → (l.getD 0 0 = 48 → l.length = 1) → dr (valL l) = l := by
  intro k
  induction k with
  | zero => intro l h _ h0; exact absurd (List.eq_nil_of_length_eq_zero (by omega)) h0
  | succ k ih =>
    intro l h ha h0 h48
    rcases List.eq_nil_or_concat l with e | ⟨l', c, e⟩
    · exact absurd e h0
    · rw [List.concat_eq_append] at e
      subst e
      rw [valL_snoc]
      rw [List.all_append, Bool.and_eq_true] at ha
      have hc : digB c = true := by simpa using ha.2
      have hv := digB_val hc
      by_cases e : l' = []
      · subst e
        show dr (10 * 0 + (c.toNat - 48)) = [c]
        rw [Nat.mul_zero, Nat.zero_add, dr_small (by omega), dig_back hc]
      · have hf : l'.getD 0 0 ≠ 48 := fun e1 => by
          have := h48 (by rw [getD_app e]; exact e1)
          have hl : 0 < l'.length := List.length_pos_iff.2 e
          simp at this
          exact e this
        have hp := val_pos k l' (by simp at h; omega) ha.1 e hf
        rw [dr_big (by omega), show (10 * valL l' + (c.toNat - 48)) / 10 = valL l' from by omega, show (10 * valL l' + (c.toNat - 48)) % 10 = c.toNat - 48 from by omega, dig_back hc, ih l' (by simp at h; omega) ha.1 e (fun e1 => absurd e1 hf)]
theorem txt_dr (z : Int) : txt z = if z < 0 then 45 :: dr z.natAbs else dr z.natAbs := rfl
/-- A number's text is right, and says it. -/
theorem txt_right (z : Int) : rightB (txt z) = true ∧ numL (txt z) = z := by
  obtain ⟨h1, h2, h3, h4, h5⟩ := dr_spec (z.natAbs + 1) z.natAbs (by omega)
  rw [txt_dr]
  by_cases hz : z < 0
  · rw [if_pos hz]
    have hn : ng (45 :: dr z.natAbs) = true := rfl
    have hd : dg (45 :: dr z.natAbs) = dr z.natAbs := rfl
    have h48 : ¬ (dr z.natAbs).getD 0 0 = 48 := fun e => by have := h5 e; omega
    unfold rightB badB numL
    rw [hn, hd, h1, h2]
    refine ⟨?_, by simp; omega⟩
    simp only [List.length_cons, Bool.and_true, Bool.not_eq_true', Bool.or_eq_false_iff, Bool.and_eq_false_iff, beq_eq_false_iff_ne]
    exact ⟨h3, .inl h48⟩
  · rw [if_neg hz]
    have hn : ng (dr z.natAbs) = false := by
      unfold ng
      rw [beq_eq_false_iff_ne]
      intro e
      rw [e] at h4
      cases h4
    have hd : dg (dr z.natAbs) = dr z.natAbs := by unfold dg; rw [hn]; rfl
    unfold rightB badB numL
    rw [hn, hd, h1, h2]
    refine ⟨?_, by simp; omega⟩
    simp only [Bool.and_true, Bool.not_eq_true', Bool.or_eq_false_iff, Bool.and_eq_false_iff, beq_eq_false_iff_ne]
    refine ⟨h3, ?_⟩
    by_cases e : (dr z.natAbs).getD 0 0 = 48
    · right
      rw [h5 e, dr_small (by omega)]
      rfl
    · exact .inl e
/-- What is right is the text of its number. -/
theorem right_txt (l : List UInt8) (h : rightB l = true) : txt (numL l) = l := by
  unfold rightB at h
  rw [Bool.and_eq_true] at h
  obtain ⟨hb, ha⟩ := h
  unfold badB at hb
  simp only [Bool.not_eq_true', Bool.or_eq_false_iff, Bool.and_eq_false_iff, beq_eq_false_iff_ne] at hb
  obtain ⟨h0, h48⟩ := hb
  cases hn : ng l with
  | true =>
    obtain ⟨t, rfl⟩ : ∃ t, l = 45 :: t := by
      cases l with
      | nil => cases hn
      | cons x t =>
        have : x = 45 := by simpa [ng] using hn
        exact ⟨t, by rw [this]⟩
    have hd : dg (45 :: t) = t := rfl
    rw [hd] at h0 ha h48
    have hf : t.getD 0 0 ≠ 48 := by
      rcases h48 with h | h
      · exact h
      · have : 0 < t.length := List.length_pos_iff.2 h0
        simp at h; exact absurd h h0
    have hp := val_pos t.length t (Nat.le_refl _) ha h0 hf
    unfold numL
    rw [hn, hd, if_pos rfl, txt_dr, if_pos (by omega)]
    rw [show (-(valL t : Int)).natAbs = valL t from by omega, dr_val t.length t (Nat.le_refl _) ha h0 (fun e => absurd e hf)]
  | false =>
    have hd : dg l = l := by unfold dg; rw [hn]; rfl
    rw [hd] at h0 ha h48
    unfold numL
    rw [hn, hd, txt_dr]
    have e : (if false = true then -(valL l : Int) else (valL l : Int)) = (valL l : Int) := rfl
    rw [e, if_neg (by omega), Int.natAbs_natCast]
    refine dr_val l.length l (Nat.le_refl _) ha h0 fun e1 => ?_
    rcases h48 with h | h
    · exact absurd e1 h
    · have : 0 < l.length := List.length_pos_iff.2 h0
      have h : ¬ 1 < l.length := by simpa using h
      omega
theorem txt_len {z : Int} (h : Fits z) : (txt z).length ≤ 155 := by
  have h1 := HM_ten_lt
  unfold Fits at h
  rw [txt_dr]
  have h2 : (dr z.natAbs).length = (dl z.natAbs).length := by unfold dr; rw [List.length_reverse]
  split
  · rename_i hz
    rw [List.length_cons, h2]
    have := dl_len 153 z.natAbs (by omega)
    omega
  · rw [h2]
    have := dl_len 153 z.natAbs (by omega)
    omega
end Go.WD

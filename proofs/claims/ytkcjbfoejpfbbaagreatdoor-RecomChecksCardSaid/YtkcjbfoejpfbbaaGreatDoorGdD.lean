/- Chapter 32: all spanning trees. -/
import Derived.Test.YtkcjbfoejpfbbaaGreatDoorGcC
import Derived.Test.YtkcjbfoejpfbbaaGreatDoorGsO
import Derived.Test.YtkcjbfoejpfbbaaGreatDoorRxY
namespace Go.Proofs.YtkcjbfoejpfbbaaGreatDoor
open Go.RowKit Go.RX Go.GS
abbrev Slc := Option Addr × Nat × Nat
def vs (s : Slc) : Value := .slice s.1 s.2.1 s.2.2
theorem el_sli : El Tryz.prog 101 32 1 false (fun s : Slc => [vs s]) vs where
 und := by kernel_rfl
 has := by kernel_rfl
 cel := by kernel_rfl
 agg := by kernel_rfl
 pos := by decide
 one1 := fun _ => rfl
 small := by decide
 inf := ⟨(Tryz.prog.info? 32).getD default,vs (none,0,0),by kernel_rfl,by kernel_rfl,by kernel_rfl,rfl,of_decide_eq_true (by kernel_rfl)⟩
 len := fun _ => rfl
 val := fun _ => rfl
 cells := fun _ => rfl
 one := fun x c hc => by simp at hc; subst hc; rfl
theorem so_slc {H : PH} {sz : Nat} {α : Type} {ce : α -> List Value} {v : Value} {l : List α} (h : SE H sz ce v l) : ∃ s,v = vs s := by
 obtain ⟨_,a,c,h2,_⟩ := h; exact ⟨(a,l.length,c),h2⟩
theorem so_put {H0 H H' : PH} {α : Type} {ce : α -> List Value} {v : Value} {l : List α} (h : SO H0 H 3 1 ce v l) (hp : H' = H \/ ∃ g ob,H0 g = none /\ H' = H.put g ob /\ (H g = none \/ ∃ cs,H g = some (.cells cs 32 (0,0)))) : SO H0 H' 3 1 ce v l := by
 rcases hp with rfl | ⟨g,ob,_,rfl,hg⟩
 ·exact h
 ·obtain ⟨h1,h2 | ⟨g',cap,cur,h2,h3,h4,h5⟩⟩ := h
  ·exact ⟨h1,.inl h2⟩
  ·refine ⟨h1,.inr ⟨g',cap,cur,h2,h3,?_,h5⟩⟩
   rw [PH.put_ne _ _ (fun e => ?_)]
   ·exact h4
   ·subst e
    rcases hg with hg | ⟨cs,hg⟩
    ·rw [hg] at h4; cases h4
    ·rw [hg] at h4
     injection h4 with h4
     injection h4 with _ h4 _
     exact absurd h4 (by decide)
def fromOf (b : List Int) : Nat := match b.getLast? with | none => 0 | some x => x.toNat + 1
theorem fromOf_snoc (b : List Int) (j : Nat) : fromOf (b ++ [(j : Int)]) = j + 1 := by
 unfold fromOf; rw [List.getLast?_append]; rfl
set_option maxHeartbeats 1000000 in
theorem con_r30gro {n : Nat} {es : List (Nat × Nat)} {set : Nat} (hg : GV n es) (hs : set < 2 ^ n) (h0 : set ≠ 0) (h36 : icnt es set 0 <= 36) : ∀ (k : Nat) (b : List Int) (u : Value) (H : PH) {w : Value},es.length - fromOf b <= k -> SG H w es -> SI H u b -> Beg es set b ->
  Con Tryz.prog 107 [gv n w,uv set,u] H fun r H' => PH.le H H' /\ ∃ l,SO H H' 32 1 (fun s : Slc => [vs s]) r l /\ (∀ s ∈ l,∃ t,SO H H' 3 1 (fun z : Int => [ii z]) (vs s) t /\ TreeOk es set t) /\ l.length <= 2 ^ icnt es set (fromOf b) /\ (Spn es set b (fromOf b) -> l ≠ []) := by
 have hs' := M64_pow hg.n64 hs
 have hes := hg.len
 have h64 := hg.n64
 intro k
 induction k using Nat.strongRecOn with
 | _ k ih0 =>
 intro b u H w hk hw hu hB
 have hval : ∀ i ∈ b,0 <= i /\ i.toNat < es.length := fun i hi => ⟨(hB.ok i hi).1,(hB.ok i hi).2.1⟩
 have hbl := hB.len hs' h0
 have hc64 := card_le64 set
 have ih : ∀ m,m < es.length - fromOf b -> ∀ (b : List Int) (u : Value) (H : PH) {w : Value},es.length - fromOf b <= m -> SG H w es -> SI H u b -> Beg es set b -> Con Tryz.prog 107 [gv n w,uv set,u] H fun r H' => PH.le H H' /\ ∃ l,SO H H' 32 1 (fun s : Slc => [vs s]) r l /\ (∀ s ∈ l,∃ t,SO H H' 3 1 (fun z : Int => [ii z]) (vs s) t /\ TreeOk es set t) /\ l.length <= 2 ^ icnt es set (fromOf b) /\ (Spn es set b (fromOf b) -> l ≠ []) := fun m hm => ih0 m (by omega)
 refine con_of_tree mixed tr_r30gro np_r30gro rfl ?_
 refine den_rq (gv_one hw) ?_
 refine den_lenE el_int op_r30gro_1_1 rfl hu rfl ?_
 refine den_ask (ask_r18siz hs') rfl ?_
 simp only [cA,nA]
 refine den_rq ⟨_,rfl⟩ ?_
 refine den_rq ⟨_,rfl⟩ ?_
 refine den_br (b := decide (b.length + 1 = card set)) (by show Value.bool (((b.length : Nat) : Int) == intOf (D Tryz.prog _ (.op2 .sub .i64 (.v 4) (.k (.int .i64 1))))) = _; rw [D_subi (x := (card set : Nat)) (y := 1) rfl rfl (by omega) (by omega)]; show Value.bool (((b.length : Nat) : Int) == ((card set : Nat) : Int) - 1) = _; rw [bE]; congr 1; apply decide_eq_decide.2; omega) (fun hne => ?_) (fun hne => ?_)
 ·replace hne := of_decide_eq_true hne
  refine den_build0E el_int op_r30gro_2_0 rfl fun v1 H1 l1 o1 _ => ?_
  simp only [cA,nA]
  refine den_appendE el_int op_r30gro_2_2 rfl rfl l1 o1 (hu.mono l1) (by simp; omega) rfl rfl fun v2 H2 l2 o2 _ => ?_
  simp only [cA,nA]
  obtain ⟨s,rfl⟩ := so_slc o2.se
  refine den_build1E el_sli (a := s) op_r30gro_2_3 rfl rfl fun v3 H3 l3 o3 _ => ?_
  simp only [cA,nA]
  exact den_ret rfl ⟨l2.trans l3,[s],o3.less l2,fun s' hs' => by rw [List.mem_singleton] at hs'; subst hs'; exact ⟨b,o2.mono l3,hB.tree hne⟩,Nat.one_le_two_pow,fun _ h => by cases h⟩
 ·replace hne := of_decide_eq_false hne
  refine den_lenE el_int op_r30gro_4_1 rfl hu rfl ?_
  refine den_rq ⟨_,rfl⟩ ?_
  refine den_br (b := decide (((b.length : Nat) : Int) > 0)) rfl (fun h1 => ?_) (fun h1 => ?_)
  ·replace h1 := of_decide_eq_true h1
   obtain ⟨m,hm⟩ : ∃ m,b.length = m + 1 := ⟨b.length - 1,by omega⟩
   have hbm : b[m]? = some b[m] := List.getElem?_eq_getElem (by omega)
   have hgl : b.getLast? = some b[m] := by rw [List.getLast?_eq_getElem?,show b.length - 1 = m by omega]; exact hbm
   have hvm := hval b[m] (List.getElem_mem _)
   have hfo0 : fromOf b = b[m].toNat + 1 := by unfold fromOf; rw [hgl]
   have hlt : ∀ i ∈ b,i < (fromOf b : Nat) := by
    intro i hi
    obtain ⟨q,hq,rfl⟩ := List.mem_iff_getElem.1 hi
    have : b[q] <= b[m] := by
     by_cases e : q = m
     ·subst e; exact Int.le_refl _
     ·exact Int.le_of_lt (List.pairwise_iff_getElem.1 hB.asc q m hq (by omega) (by omega))
    omega
   have hfl : fromOf b <= es.length := by omega
   refine den_lenE el_int op_r30gro_5_2 rfl hu rfl ?_
   refine den_rq ⟨_,rfl⟩ ?_
   refine den_atE el_int op_r30gro_5_4 op_r30gro_5_5 rfl rfl (fun _ => rfl) hu hbm (map2 rfl (by rw [D_subi (x := (b.length : Nat)) (y := 1) rfl rfl (by omega) (by omega)]; show ii _ = ii _; congr 1; omega)) (fun _ => rfl) fun _ => ?_
   simp only [cA,nA]
   refine den_rq ⟨_,rfl⟩ ?_
   refine den_loopV (α := Value × List Slc × Nat) (fun ⟨v,l,j⟩ => [v,ii (j : Nat)]) (fun ⟨v,l,j⟩ => fun H' => j <= es.length /\ fromOf b <= j /\ PH.le H H' /\ SO H H' 32 1 (fun s : Slc => [vs s]) v l /\ (∀ s ∈ l,∃ t,SO H H' 3 1 (fun z : Int => [ii z]) (vs s) t /\ TreeOk es set t) /\ l.length + 2 ^ icnt es set j <= 2 ^ icnt es set (fromOf b) /\ (Spn es set b (fromOf b) -> l ≠ [] \/ Spn es set b j)) (fun ⟨v,l,j⟩ => es.length - j) ((.slice none 0 0,[],fromOf b)) (map2 rfl (by rw [D_addi (x := b[m]) (y := 1) rfl rfl (by omega) (by omega)]; show ii _ = ii _; congr 1; omega)) (⟨hfl,Nat.le_refl _,PH.le.refl _,SO.nil _ _ _ _ _,(fun s hs => by cases hs),by simp,(fun h => .inr h)⟩) fun ⟨v,l,j⟩ H' hQ => ?_
   simp only [cA,nA]
   obtain ⟨hj,hfj,l1,o1,htr,hcn,hsp⟩ := hQ
   refine den_lenE el_edge op_r30gro_8_3 rfl (hw.mono l1) rfl ?_
   refine den_rq ⟨_,rfl⟩ ?_
   refine den_rq ⟨_,rfl⟩ ?_
   refine den_br (b := decide (((j : Nat) : Int) < (es.length : Nat))) rfl (fun h9 => ?_) (fun h9 => ?_)
   ·replace h9 := of_decide_eq_true h9
    have hj' : j < es.length := by omega
    have hem := Ed_at hj'
    have hed := hg.mem hem
    have hpw : 2 ^ icnt es set (j + 1) <= 2 ^ icnt es set j := Nat.pow_le_pow_right (by decide) (icnt_le es set j)
    refine den_ask (ask_r30inn (hw.mono l1) hg hs' (j : Nat)) rfl ?_
    simp only [cA,nA]
    refine den_rq ⟨_,rfl⟩ ?_
    refine den_br (b := !decide (OkI es set (j : Nat))) rfl (fun h2 => ?_) (fun h2 => ?_)
    ·skip
     exact ⟨(v,l,j + 1),by show es.length - (j + 1) < es.length - j; omega,(map2 rfl (D_inc rfl (by omega))),⟨hj',by show fromOf b <= j + 1; omega,l1,o1,htr,Nat.le_trans (Nat.add_le_add_left hpw _) hcn,fun hS => (hsp hS).imp (fun h => h) fun h => h.skip hem (Bool.eq_false_iff.2 fun hb => by unfold inB at hb; rw [Bool.and_eq_true] at hb; rw [decide_eq_true (show OkI es set (j : Nat) from ⟨by omega,by rw [Int.toNat_natCast]; exact hj',hb.1,hb.2⟩)] at h2; cases h2)⟩⟩
    ·skip
     have hok : OkI es set (j : Nat) := by simpa using h2
     have hin : inB set (Ed es (j : Nat)) = true := by unfold inB; rw [hok.2.2.1,hok.2.2.2]; rfl
     refine den_ed0 op_r30gro_10_11 op_r30gro_10_12 op_r30gro_10_13 rfl rfl (fun _ => rfl) (fun _ => rfl) (fun _ => rfl) (hw.mono l1) hem rfl (fun _ => rfl) (fun _ _ => rfl) fun _ _ => ?_
     simp only [cA,nA]
     refine den_ed1 op_r30gro_10_18 op_r30gro_10_19 op_r30gro_10_20 rfl rfl (fun _ => rfl) (fun _ => rfl) (fun _ => rfl) (hw.mono l1) hem rfl (fun _ => rfl) (fun _ _ => rfl) fun _ _ => ?_
     simp only [cA,nA]
     refine den_ask (ask_r30rea (hw.mono l1) hg (hu.mono l1) hval (x := (Ed es (j : Nat)).1) (by omega)) rfl ?_
     simp only [cA,nA]
     have hR := (reach_CL (L := etl es b) (etl_64 hg hval) (x := (Ed es (j : Nat)).1) (by omega)).1
     refine den_det (det_r18has hR (by omega)) rfl ?_
     simp only [cA,nA]
     refine den_rq ⟨_,rfl⟩ ?_
     refine den_br (b := bit (reach (etl es b) (Ed es (j : Nat)).1) (Ed es (j : Nat)).2) rfl (fun h3 => ?_) (fun h3 => ?_)
     ·skip
      exact ⟨(v,l,j + 1),by show es.length - (j + 1) < es.length - j; omega,(map2 rfl (D_inc rfl (by omega))),⟨hj',by show fromOf b <= j + 1; omega,l1,o1,htr,Nat.le_trans (Nat.add_le_add_left hpw _) hcn,fun hS => (hsp hS).imp (fun h => h) fun h => h.cyc hem (hB.cyc hs' hok h3)⟩⟩
     ·skip
      have hB' := hB.snoc hs' (fun i hi => by have := hlt i hi; omega) hok h3
      have hfo : fromOf (b ++ [(j : Int)]) = j + 1 := fromOf_snoc b j
      refine den_mk0E el_int op_r30gro_11_3 rfl fun b1 hb1 => ?_
      simp only [cA,nA]
      refine den_copyE el_int op_r30gro_11_5 rfl rfl (PH.put_self _ _ _) (hu.mono (l1.trans (PH.le_put hb1 _))) (by omega) rfl fun v2 H2 l2 _ o2 => ?_
      simp only [cA,nA]
      have o2 := o2 H' (PH.le_put hb1 _) hb1
      refine den_mk1E el_int (a := (j : Int)) op_r30gro_11_7 rfl rfl fun b3 hb3 => ?_
      simp only [cA,nA]
      refine den_appendE el_int op_r30gro_11_8 rfl rfl (((PH.le_put hb1 _).trans l2).trans (PH.le_put hb3 _)) (o2.mono (PH.le_put hb3 _)) (se_box (l := [(j : Int)]) (PH.put_self _ _ _) rfl rfl (show 1 <= maxLen by decide)) (by show b.length + 1 <= _; omega) rfl rfl fun v4 H4 l4 o4 _ => ?_
      simp only [cA,nA]
      have lc4 : PH.le H H4 := l1.trans l4
      refine den_call (ih (es.length - (j + 1)) (by omega) (b ++ [(j : Int)]) v4 H4 (by rw [hfo]; exact Nat.le_refl _) (hw.mono lc4) o4.se hB') rfl ?_
      rintro r2 H5 ⟨l5,t2,o5,htr5,hlen5,hsp5⟩
      refine ⟨fun h => (nomatch h),?_⟩
      simp only [cA,nA]
      rw [hfo] at hlen5 hsp5
      have hic := icnt_yes hem hin
      have hpw2 : 2 ^ icnt es set j = 2 * 2 ^ icnt es set (j + 1) := by rw [hic,Nat.pow_succ,Nat.mul_comm]
      have h36' : 2 ^ icnt es set (fromOf b) <= 2 ^ 36 := Nat.pow_le_pow_right (by decide) (Nat.le_trans (icnt_mono es set (Nat.zero_le _)) h36)
      refine den_appendE2 el_sli op_r30gro_11_10 rfl rfl (lc4.trans l5) (o1.mono (l4.trans l5)) o5.se (by omega) rfl rfl fun v6 H6 l6 o6 hput => ?_
      simp only [cA,nA]
      exact ⟨(v6,l ++ t2,j + 1),by show es.length - (j + 1) < es.length - j; omega,(map2 rfl (D_inc rfl (by omega))),⟨hj',by show fromOf b <= j + 1; omega,l6,o6,(fun s hs => by rw [List.mem_append] at hs; rcases hs with hs|hs; (obtain ⟨t,ho,ht⟩ := htr s hs; exact ⟨t,so_put (ho.mono (l4.trans l5)) hput,ht⟩); (obtain ⟨t,ho,ht⟩ := htr5 s hs; exact ⟨t,so_put (ho.less lc4) hput,ht⟩)),by rw [List.length_append]; show _ + 2 ^ icnt es set (j + 1) <= _; omega,fun hS => .inl (by rcases hsp hS with h|h; (exact fun e => h (List.append_eq_nil_iff.1 e).1); (exact fun e => hsp5 (h.take hj') (List.append_eq_nil_iff.1 e).2))⟩⟩
   ·replace h9 := of_decide_eq_false h9
    exact den_ret rfl ⟨l1,l,o1,htr,Nat.le_trans (Nat.le_add_right _ _) hcn,fun hS => (hsp hS).elim (fun h => h) fun h => absurd (by have := h.end hs' h0 (by omega) hB.inn hB.acy; rw [show (etl es b).length = b.length from List.length_map _] at this; exact this) hne⟩
  ·replace h1 := of_decide_eq_false h1
   have hb0 : b = [] := List.eq_nil_of_length_eq_zero (by omega)
   have hfo0 : fromOf b = 0 := by rw [hb0]; rfl
   have hlt : ∀ i ∈ b,i < (fromOf b : Nat) := fun i hi => by rw [hb0] at hi; cases hi
   have hfl : fromOf b <= es.length := by omega
   refine den_loopV (α := Value × List Slc × Nat) (fun ⟨v,l,j⟩ => [v,ii (j : Nat)]) (fun ⟨v,l,j⟩ => fun H' => j <= es.length /\ fromOf b <= j /\ PH.le H H' /\ SO H H' 32 1 (fun s : Slc => [vs s]) v l /\ (∀ s ∈ l,∃ t,SO H H' 3 1 (fun z : Int => [ii z]) (vs s) t /\ TreeOk es set t) /\ l.length + 2 ^ icnt es set j <= 2 ^ icnt es set (fromOf b) /\ (Spn es set b (fromOf b) -> l ≠ [] \/ Spn es set b j)) (fun ⟨v,l,j⟩ => es.length - j) ((.slice none 0 0,[],fromOf b)) (map2 rfl (by rw [hfo0]; rfl)) (⟨hfl,Nat.le_refl _,PH.le.refl _,SO.nil _ _ _ _ _,(fun s hs => by cases hs),by simp,(fun h => .inr h)⟩) fun ⟨v,l,j⟩ H' hQ => ?_
   simp only [cA,nA]
   obtain ⟨hj,hfj,l1,o1,htr,hcn,hsp⟩ := hQ
   refine den_lenE el_edge op_r30gro_8_3 rfl (hw.mono l1) rfl ?_
   refine den_rq ⟨_,rfl⟩ ?_
   refine den_rq ⟨_,rfl⟩ ?_
   refine den_br (b := decide (((j : Nat) : Int) < (es.length : Nat))) rfl (fun h9 => ?_) (fun h9 => ?_)
   ·replace h9 := of_decide_eq_true h9
    have hj' : j < es.length := by omega
    have hem := Ed_at hj'
    have hed := hg.mem hem
    have hpw : 2 ^ icnt es set (j + 1) <= 2 ^ icnt es set j := Nat.pow_le_pow_right (by decide) (icnt_le es set j)
    refine den_ask (ask_r30inn (hw.mono l1) hg hs' (j : Nat)) rfl ?_
    simp only [cA,nA]
    refine den_rq ⟨_,rfl⟩ ?_
    refine den_br (b := !decide (OkI es set (j : Nat))) rfl (fun h2 => ?_) (fun h2 => ?_)
    ·skip
     exact ⟨(v,l,j + 1),by show es.length - (j + 1) < es.length - j; omega,(map2 rfl (D_inc rfl (by omega))),⟨hj',by show fromOf b <= j + 1; omega,l1,o1,htr,Nat.le_trans (Nat.add_le_add_left hpw _) hcn,fun hS => (hsp hS).imp (fun h => h) fun h => h.skip hem (Bool.eq_false_iff.2 fun hb => by unfold inB at hb; rw [Bool.and_eq_true] at hb; rw [decide_eq_true (show OkI es set (j : Nat) from ⟨by omega,by rw [Int.toNat_natCast]; exact hj',hb.1,hb.2⟩)] at h2; cases h2)⟩⟩
    ·skip
     have hok : OkI es set (j : Nat) := by simpa using h2
     have hin : inB set (Ed es (j : Nat)) = true := by unfold inB; rw [hok.2.2.1,hok.2.2.2]; rfl
     refine den_ed0 op_r30gro_10_11 op_r30gro_10_12 op_r30gro_10_13 rfl rfl (fun _ => rfl) (fun _ => rfl) (fun _ => rfl) (hw.mono l1) hem rfl (fun _ => rfl) (fun _ _ => rfl) fun _ _ => ?_
     simp only [cA,nA]
     refine den_ed1 op_r30gro_10_18 op_r30gro_10_19 op_r30gro_10_20 rfl rfl (fun _ => rfl) (fun _ => rfl) (fun _ => rfl) (hw.mono l1) hem rfl (fun _ => rfl) (fun _ _ => rfl) fun _ _ => ?_
     simp only [cA,nA]
     refine den_ask (ask_r30rea (hw.mono l1) hg (hu.mono l1) hval (x := (Ed es (j : Nat)).1) (by omega)) rfl ?_
     simp only [cA,nA]
     have hR := (reach_CL (L := etl es b) (etl_64 hg hval) (x := (Ed es (j : Nat)).1) (by omega)).1
     refine den_det (det_r18has hR (by omega)) rfl ?_
     simp only [cA,nA]
     refine den_rq ⟨_,rfl⟩ ?_
     refine den_br (b := bit (reach (etl es b) (Ed es (j : Nat)).1) (Ed es (j : Nat)).2) rfl (fun h3 => ?_) (fun h3 => ?_)
     ·skip
      exact ⟨(v,l,j + 1),by show es.length - (j + 1) < es.length - j; omega,(map2 rfl (D_inc rfl (by omega))),⟨hj',by show fromOf b <= j + 1; omega,l1,o1,htr,Nat.le_trans (Nat.add_le_add_left hpw _) hcn,fun hS => (hsp hS).imp (fun h => h) fun h => h.cyc hem (hB.cyc hs' hok h3)⟩⟩
     ·skip
      have hB' := hB.snoc hs' (fun i hi => by have := hlt i hi; omega) hok h3
      have hfo : fromOf (b ++ [(j : Int)]) = j + 1 := fromOf_snoc b j
      refine den_mk0E el_int op_r30gro_11_3 rfl fun b1 hb1 => ?_
      simp only [cA,nA]
      refine den_copyE el_int op_r30gro_11_5 rfl rfl (PH.put_self _ _ _) (hu.mono (l1.trans (PH.le_put hb1 _))) (by omega) rfl fun v2 H2 l2 _ o2 => ?_
      simp only [cA,nA]
      have o2 := o2 H' (PH.le_put hb1 _) hb1
      refine den_mk1E el_int (a := (j : Int)) op_r30gro_11_7 rfl rfl fun b3 hb3 => ?_
      simp only [cA,nA]
      refine den_appendE el_int op_r30gro_11_8 rfl rfl (((PH.le_put hb1 _).trans l2).trans (PH.le_put hb3 _)) (o2.mono (PH.le_put hb3 _)) (se_box (l := [(j : Int)]) (PH.put_self _ _ _) rfl rfl (show 1 <= maxLen by decide)) (by show b.length + 1 <= _; omega) rfl rfl fun v4 H4 l4 o4 _ => ?_
      simp only [cA,nA]
      have lc4 : PH.le H H4 := l1.trans l4
      refine den_call (ih (es.length - (j + 1)) (by omega) (b ++ [(j : Int)]) v4 H4 (by rw [hfo]; exact Nat.le_refl _) (hw.mono lc4) o4.se hB') rfl ?_
      rintro r2 H5 ⟨l5,t2,o5,htr5,hlen5,hsp5⟩
      refine ⟨fun h => (nomatch h),?_⟩
      simp only [cA,nA]
      rw [hfo] at hlen5 hsp5
      have hic := icnt_yes hem hin
      have hpw2 : 2 ^ icnt es set j = 2 * 2 ^ icnt es set (j + 1) := by rw [hic,Nat.pow_succ,Nat.mul_comm]
      have h36' : 2 ^ icnt es set (fromOf b) <= 2 ^ 36 := Nat.pow_le_pow_right (by decide) (Nat.le_trans (icnt_mono es set (Nat.zero_le _)) h36)
      refine den_appendE2 el_sli op_r30gro_11_10 rfl rfl (lc4.trans l5) (o1.mono (l4.trans l5)) o5.se (by omega) rfl rfl fun v6 H6 l6 o6 hput => ?_
      simp only [cA,nA]
      exact ⟨(v6,l ++ t2,j + 1),by show es.length - (j + 1) < es.length - j; omega,(map2 rfl (D_inc rfl (by omega))),⟨hj',by show fromOf b <= j + 1; omega,l6,o6,(fun s hs => by rw [List.mem_append] at hs; rcases hs with hs|hs; (obtain ⟨t,ho,ht⟩ := htr s hs; exact ⟨t,so_put (ho.mono (l4.trans l5)) hput,ht⟩); (obtain ⟨t,ho,ht⟩ := htr5 s hs; exact ⟨t,so_put (ho.less lc4) hput,ht⟩)),by rw [List.length_append]; show _ + 2 ^ icnt es set (j + 1) <= _; omega,fun hS => .inl (by rcases hsp hS with h|h; (exact fun e => h (List.append_eq_nil_iff.1 e).1); (exact fun e => hsp5 (h.take hj') (List.append_eq_nil_iff.1 e).2))⟩⟩
   ·replace h9 := of_decide_eq_false h9
    exact den_ret rfl ⟨l1,l,o1,htr,Nat.le_trans (Nat.le_add_right _ _) hcn,fun hS => (hsp hS).elim (fun h => h) fun h => absurd (by have := h.end hs' h0 (by omega) hB.inn hB.acy; rw [show (etl es b).length = b.length from List.length_map _] at this; exact this) hne⟩
end Go.Proofs.YtkcjbfoejpfbbaaGreatDoor

/- Chapter 32: all spanning trees, part 2. -/
namespace Go.Proofs.YtkcjbfoejpfbbaaGreatDoor
open Go.RowKit Go.RX Go.GS
section
variable {H : PH} {n : Nat} {w : Value} {es : List (Nat × Nat)} {set : Nat}
def Trs (H0 H : PH) (es : List (Nat × Nat)) (set : Nat) (r : Value) (l : List Slc) : Prop :=
 SO H0 H 32 1 (fun s : Slc => [vs s]) r l /\ (∀ s ∈ l,∃ t,SO H0 H 3 1 (fun z : Int => [ii z]) (vs s) t /\ TreeOk es set t) /\ l.length <= 68719476736
theorem con_r30all (hw : SG H w es) (hg : GV n es) (hs : set < 2 ^ n) (h0 : set ≠ 0) (h9 : card set <= 9) : Con Tryz.prog 47 [gv n w,uv set] H fun r H' => PH.le H H' /\ ∃ l,Trs H H' es set r l /\ (Cn es set -> l ≠ []) := by
 refine con_of_tree mixed tr_r30all np_r30all rfl ?_
 have h36 := icnt_36 hg (M64_pow hg.n64 hs) h9
 refine den_rq (gv_one hw) ?_
 refine den_call (con_r30gro hg hs h0 h36 _ [] (.slice none 0 0) H (Nat.le_refl _) hw (SE.nil _ _ _) (Beg.nil _ _)) rfl ?_
 rintro r H1 ⟨l1,l,h1,h2,h3,h4⟩
 refine ⟨fun h => (nomatch h),?_⟩
 simp only [cA,nA]
 exact den_ret rfl ⟨l1,l,⟨h1,h2,Nat.le_trans h3 (Nat.le_trans (Nat.pow_le_pow_right (by decide) h36) (by decide))⟩,fun hc => h4 (Spn.start hc)⟩
theorem ask_r30few (hw : SG H w es) (hn : n <= 64) (hs : set < M64) : Asks Tryz.prog 15 [gv n w,uv set] H (uv (fewN set n)) := by
 refine con_of_tree mixed tr_r30few np_r30few rfl ?_
 refine den_rq (gv_one hw) ?_
 refine den_loopR (α := Nat) (fun i => [uv (fewN set i),ii (i : Nat)]) (fun i => i <= n) (fun i => n - i) (0) rfl (Nat.zero_le _) fun i hQ => ?_
 simp only [cA,nA]
 have hf : fewN set i < M64 := M64_pow (by omega) (fewN_lt set i)
 refine den_rq ⟨_,rfl⟩ ?_
 refine den_rq ⟨_,rfl⟩ ?_
 refine den_br (b := decide (((i : Nat) : Int) < (n : Nat))) rfl (fun h => ?_) (fun h => ?_)
 ·replace h := of_decide_eq_true h
  refine den_ask (ask_r18siz hf) rfl ?_
  simp only [cA,nA]
  refine den_rq ⟨_,rfl⟩ ?_
  refine den_br (b := decide (card (fewN set i) < 9)) (by show Value.bool (decide (((card (fewN set i) : Nat) : Int) < 9)) = _; exact congrArg Value.bool (decide_eq_decide.2 (by omega))) (fun h2 => ?_) (fun h2 => ?_)
  ·replace h2 := of_decide_eq_true h2
   refine den_det (det_r18has hs (by omega)) rfl ?_
   simp only [cA,nA]
   refine den_rq ⟨_,rfl⟩ ?_
   refine den_br (b := bit set i) rfl (fun h3 => ?_) (fun h3 => ?_)
   ·skip
    refine den_det (det_r18one (n := i) (by omega)) rfl ?_
    simp only [cA,nA]
    refine den_rq ⟨_,rfl⟩ ?_
    refine den_rq ⟨_,rfl⟩ ?_
    exact ⟨i + 1,by omega,(map2 (by rw [show fewN set (i + 1) = fewN set i ||| 2 ^ i from if_pos ⟨h2,h3⟩]; exact D_or rfl rfl hf (pow_lt (by omega))) (D_inc rfl (by omega))),⟨by omega,rfl⟩⟩
   ·skip
    exact ⟨i + 1,by omega,(map2 (by rw [show fewN set (i + 1) = fewN set i from if_neg (fun e => by rw [e.2] at h3; cases h3)]; rfl) (D_inc rfl (by omega))),⟨by omega,rfl⟩⟩
  ·replace h2 := of_decide_eq_false h2
   have hst : ∀ k,card (fewN set (i + k)) ≥ 9 /\ fewN set (i + k) = fewN set i := by
    intro k
    induction k with
    | zero => exact ⟨by rw [Nat.add_zero]; omega,rfl⟩
    | succ k ih =>
     have e : fewN set (i + k + 1) = fewN set (i + k) := if_neg (fun e => by have := e.1; omega)
     exact ⟨by show card (fewN set (i + k + 1)) ≥ 9; rw [e]; exact ih.1,by show fewN set (i + k + 1) = _; rw [e]; exact ih.2⟩
   exact den_ret rfl ⟨rfl,by have := (hst (n - i)).2; rw [show i + (n - i) = n by omega] at this; rw [this]; rfl⟩
 ·replace h := of_decide_eq_false h
  have he : i = n := by omega
  exact den_ret rfl ⟨rfl,by rw [he]; rfl⟩
end
end Go.Proofs.YtkcjbfoejpfbbaaGreatDoor

/- Chapter 32: drafts: labels of a forest. -/
namespace Go.Proofs.YtkcjbfoejpfbbaaGreatDoor
open Go.RowKit Go.RX Go.GS
structure LbI (n : Nat) (e : Nat × Nat) (x next : Nat) (p : List Int) : Prop where
 len : p.length = n
 lo : ∀ (y : Nat) (z : Int),p[y]? = some z -> -1 <= z /\ z < (next : Int)
 done : ∀ (y : Nat) (z : Int),y < x -> p[y]? = some z -> 0 <= z
 nx : next <= x
 ka : e.1 < x -> next < x \/ ∃ z,p[e.2]? = some z /\ 0 <= z
 kb : e.2 < x -> next < x
structure LbJ (n : Nat) (e : Nat × Nat) (x next i : Nat) (p : List Int) : Prop where
 len : p.length = n
 lo : ∀ (y : Nat) (z : Int),p[y]? = some z -> -1 <= z /\ z < (next : Int) + 1
 done : ∀ (y : Nat) (z : Int),y < x + 1 -> p[y]? = some z -> 0 <= z
 nx : next <= x
 at_ : p[x]? = some (next : Int)
 ka : e.1 < x -> next < x \/ ∃ z,p[e.2]? = some z /\ 0 <= z
 kb : e.2 < x -> next < x
 kc : e.1 = x -> 0 < i -> ∃ z,p[e.2]? = some z /\ 0 <= z
 kd : e.2 = x -> next < x
theorem LbI.skip {n : Nat} {e : Nat × Nat} {x next : Nat} {p : List Int} {z : Int} (h : LbI n e x next p) (hz : p[x]? = some z) (h0 : 0 <= z) : LbI n e (x + 1) next p where
 len := h.len
 lo := h.lo
 done := fun y z' hy hz' => by
  rcases Nat.lt_succ_iff_lt_or_eq.1 hy with hy | rfl
  ·exact h.done y z' hy hz'
  ·rw [hz] at hz'; cases hz'; exact h0
 nx := Nat.le_succ_of_le h.nx
 ka := fun _ => .inl (by have := h.nx; omega)
 kb := fun _ => by have := h.nx; omega
theorem LbI.begin {n : Nat} {e : Nat × Nat} {x next : Nat} {p : List Int} {z : Int} (h : LbI n e x next p) (he : e.1 < e.2) (hz : p[x]? = some z) (h0 : z < 0) : LbJ n e x next 0 (p.set x (next : Int)) where
 len := by rw [List.length_set]; exact h.len
 lo := fun y z' hz' => by
  rw [List.getElem?_set] at hz'
  split at hz'
  ·split at hz'
   ·cases hz'; omega
   ·cases hz'
  ·have := h.lo y z' hz'; omega
 done := fun y z' hy hz' => by
  rw [List.getElem?_set] at hz'
  split at hz'
  ·split at hz'
   ·cases hz'; omega
   ·cases hz'
  ·exact h.done y z' (by omega) hz'
 nx := h.nx
 at_ := List.getElem?_set_self (List.getElem?_eq_some_iff.1 hz).1
 ka := fun hx => by
  rcases h.ka hx with h1 | ⟨z',h1,h2⟩
  ·exact .inl h1
  ·right
   by_cases hx2 : x = e.2
   ·subst hx2; rw [hz] at h1; cases h1; omega
   ·exact ⟨z',by rw [List.getElem?_set_ne hx2]; exact h1,h2⟩
 kb := h.kb
 kc := fun _ h => by omega
 kd := fun hx => by
  rcases h.ka (by omega) with h1 | ⟨z',h1,h2⟩
  ·exact h1
  ·rw [hx,hz] at h1; cases h1; omega
theorem LbJ.end {n : Nat} {e : Nat × Nat} {x next i : Nat} {p : List Int} (h : LbJ n e x next i p) (hi : e.1 = x -> 0 < i) : LbI n e (x + 1) (next + 1) p where
 len := h.len
 lo := fun y z hz => by have := h.lo y z hz; omega
 done := h.done
 nx := Nat.succ_le_succ h.nx
 ka := fun hx => by
  rcases Nat.lt_succ_iff_lt_or_eq.1 hx with hx | hx
  ·rcases h.ka hx with h1 | h1
   ·left; omega
   ·exact .inr h1
  ·exact .inr (h.kc hx (hi hx))
 kb := fun hx => by
  rcases Nat.lt_succ_iff_lt_or_eq.1 hx with hx | hx
  ·have := h.kb hx; omega
  ·have := h.kd hx; omega
theorem LbJ.put {n : Nat} {e : Nat × Nat} {x next i y : Nat} {p : List Int} (h : LbJ n e x next i p) (hy : y < n) : LbJ n e x next i (p.set y (next : Int)) where
 len := by rw [List.length_set]; exact h.len
 lo := fun y' z' hz' => by
  rw [List.getElem?_set] at hz'
  split at hz'
  ·split at hz'
   ·cases hz'; omega
   ·cases hz'
  ·exact h.lo y' z' hz'
 done := fun y' z' hy' hz' => by
  rw [List.getElem?_set] at hz'
  split at hz'
  ·split at hz'
   ·cases hz'; omega
   ·cases hz'
  ·exact h.done y' z' hy' hz'
 nx := h.nx
 at_ := by
  by_cases e1 : y = x
  ·subst e1; exact List.getElem?_set_self (by rw [h.len]; exact hy)
  ·rw [List.getElem?_set_ne e1]; exact h.at_
 ka := fun hx => (h.ka hx).imp (fun h => h) fun ⟨z,h1,h2⟩ => by
  by_cases e1 : y = e.2
  ·subst e1; exact ⟨next,List.getElem?_set_self (List.getElem?_eq_some_iff.1 h1).1,by omega⟩
  ·exact ⟨z,by rw [List.getElem?_set_ne e1]; exact h1,h2⟩
 kb := h.kb
 kc := fun hx hi => by
  obtain ⟨z,h1,h2⟩ := h.kc hx hi
  by_cases e1 : y = e.2
  ·subst e1; exact ⟨next,List.getElem?_set_self (List.getElem?_eq_some_iff.1 h1).1,by omega⟩
  ·exact ⟨z,by rw [List.getElem?_set_ne e1]; exact h1,h2⟩
 kd := h.kd
theorem LbJ.inc {n : Nat} {e : Nat × Nat} {x next i : Nat} {p : List Int} (h : LbJ n e x next i p) (hk : e.1 = x -> i = 0 -> ∃ z,p[e.2]? = some z /\ 0 <= z) : LbJ n e x next (i + 1) p where
 len := h.len
 lo := h.lo
 done := h.done
 nx := h.nx
 at_ := h.at_
 ka := h.ka
 kb := h.kb
 kc := fun hx _ => by
  cases i with
  | zero => exact hk hx rfl
  | succ i => exact h.kc hx (Nat.succ_pos _)
 kd := h.kd
theorem lbI_start (n : Nat) (e : Nat × Nat) : LbI n e 0 0 (List.replicate n (-1)) where
 len := by simp
 lo := fun y z hz => by
  rw [List.getElem?_replicate] at hz
  split at hz
  ·cases hz; omega
  ·cases hz
 done := fun y z hy => by omega
 nx := Nat.le_refl _
 ka := fun h => by omega
 kb := fun h => by omega
theorem rep_set {n i : Nat} (h : i < n) : (List.replicate i (-1 : Int) ++ List.replicate (n - i) 0).set i (-1) = List.replicate (i + 1) (-1) ++ List.replicate (n - (i + 1)) 0 := by
 obtain ⟨k,hk⟩ : ∃ k,n - i = k + 1 := ⟨n - i - 1,by omega⟩
 rw [hk,show n - (i + 1) = k by omega,List.replicate_succ,List.replicate_succ',List.append_assoc]
 simp [List.set_append]
section
variable {H : PH} {u w : Value} {t : List Int} {n : Nat} {es : List (Nat × Nat)} {e : Nat × Nat}
theorem con_r32lab (hw : SG H w es) (hg : GV n es) (hu : SI H u t) (ht : ∀ i ∈ t,0 <= i /\ i.toNat < es.length) (hl : t.length <= 64) (he : e.1 < e.2) (hf : ∀ y,t[0]? = some y -> Ed es y = e) (h0 : t = [] -> n <= e.1) : Con Tryz.prog 48 [gv n w,u] H fun r H' => PH.le H H' /\ ∃ p next,SI H' r p /\ LbI n e n next p := by
 refine con_of_tree mixed tr_r32lab np_r32lab rfl ?_
 have h64 := hg.n64
 refine den_rq (gv_one hw) ?_
 refine den_makeE el_plan (z := (0 : Int)) z_int op_r32lab_1_2 rfl rfl (by omega) rfl fun v H1 l1 o1 _ => ?_
 simp only [cA,nA]
 refine den_loopV (α := Nat) (fun i => [ii (i : Nat)]) (fun i => fun H' => i <= n /\ PH.le H H' /\ SO H H' 3 1 (fun z : Int => [ii z]) v (List.replicate i (-1) ++ List.replicate (n - i) 0)) (fun i => n - i) (0) rfl (⟨Nat.zero_le _,l1,o1⟩) fun i H' hQ => ?_
 simp only [cA,nA]
 obtain ⟨hi,l2,o2⟩ := hQ
 refine den_rq ⟨_,rfl⟩ ?_
 refine den_rq ⟨_,rfl⟩ ?_
 refine den_br (b := decide (((i : Nat) : Int) < (n : Nat))) rfl (fun h => ?_) (fun h => ?_)
 ·replace h := of_decide_eq_true h
  refine den_setE el_plan (a := (-1 : Int)) op_r32lab_5_2 op_r32lab_5_3 rfl rfl (fun _ => rfl) (fun _ => rfl) l2 o2 (by simp; omega) rfl (fun _ => rfl) rfl fun q u' H3 l3 o3 _ => ?_
  simp only [cA,nA]
  exact ⟨i + 1,by omega,(map1 (D_inc rfl (by omega))),⟨by omega,l3,by rw [rep_set (by omega)] at o3; exact o3⟩⟩
 ·replace h := of_decide_eq_false h
  have hie : i = n := by omega
  subst hie
  rw [Nat.sub_self,List.replicate_zero,List.append_nil] at o2
  refine den_loopV (α := Nat × Nat × List Int) (fun ⟨next,x,p⟩ => [ii (next : Nat),ii (x : Nat),gv i w]) (fun ⟨next,x,p⟩ => fun H2 => x <= i /\ PH.le H H2 /\ SO H H2 3 1 (fun z : Int => [ii z]) v p /\ LbI i e x next p) (fun ⟨next,x,p⟩ => i - x) ((0,0,List.replicate i (-1))) rfl (⟨Nat.zero_le _,l2,o2,lbI_start i e⟩) fun ⟨next,x,p⟩ H2 hQ2 => ?_
  simp only [cA,nA]
  obtain ⟨hx,l3,o3,hI⟩ := hQ2
  refine den_rq ⟨_,rfl⟩ ?_
  refine den_rq ⟨_,rfl⟩ ?_
  refine den_br (b := decide (((x : Nat) : Int) < (i : Nat))) rfl (fun h => ?_) (fun h => ?_)
  ·replace h := of_decide_eq_true h
   have hx' : x < i := by omega
   obtain ⟨z,hz⟩ : ∃ z,p[x]? = some z := ⟨_,List.getElem?_eq_getElem (by rw [hI.len]; exact hx')⟩
   refine den_atE el_plan op_r32lab_10_2 op_r32lab_10_3 rfl rfl (fun _ => rfl) o3.se hz rfl (fun _ => rfl) fun _ => ?_
   simp only [cA,nA]
   refine den_rq ⟨_,rfl⟩ ?_
   refine den_br (b := decide (z ≥ 0)) rfl (fun h2 => ?_) (fun h2 => ?_)
   ·replace h2 := of_decide_eq_true h2
    exact ⟨(next,x + 1,p),by show i - (x + 1) < i - x; omega,(map3 rfl (D_inc rfl (by omega)) rfl),⟨hx',l3,o3,hI.skip hz h2⟩⟩
   ·replace h2 := of_decide_eq_false h2
    refine den_setE el_plan (a := (next : Int)) op_r32lab_11_3 op_r32lab_11_4 rfl rfl (fun _ => rfl) (fun _ => rfl) l3 o3 (by rw [hI.len]; exact hx') rfl (fun _ => rfl) rfl fun q u' H3 l4 o4 _ => ?_
    simp only [cA,nA]
    have hnx := hI.nx
    have hJ0 := hI.begin he hz (by omega)
    have hll : t.length * t.length <= 64 * 64 := Nat.mul_le_mul hl hl
    have hDl : ∀ ρ : List Value,D Tryz.prog ρ (.v 12) = ii (t.length : Nat) -> D Tryz.prog ρ (.v 13) = ii (t.length : Nat) -> D Tryz.prog ρ (.op2 .mul .i64 (.v 12) (.v 13)) = ii ((t.length * t.length : Nat) : Int) := fun ρ a b => by
     show binV .mul .i64 (intOf (D Tryz.prog ρ (.v 12))) (intOf (D Tryz.prog ρ (.v 13))) = _
     rw [a,b]
     show Value.int .i64 (IntKind.i64.wrap (((t.length : Nat) : Int) * ((t.length : Nat) : Int))) = Value.int .i64 _
     congr 1
     rw [<- Int.natCast_mul,wrap_n (by omega)]
    refine den_loopV (α := Nat × List Int) (fun ⟨j,p'⟩ => [ii (j : Nat)]) (fun ⟨j,p'⟩ => fun H4 => j <= t.length * t.length /\ PH.le H H4 /\ SO H H4 3 1 (fun z : Int => [ii z]) v p' /\ LbJ i e x next j p') (fun ⟨j,p'⟩ => t.length * t.length - j) ((0,p.set x (next : Int))) rfl (⟨Nat.zero_le _,l4,o4,hJ0⟩) fun ⟨j,p'⟩ H4 hQ4 => ?_
    simp only [cA,nA]
    obtain ⟨hj,l5,o5,hJ⟩ := hQ4
    refine den_lenE el_int op_r32lab_13_2 rfl (hu.mono l5) rfl ?_
    refine den_lenE el_int op_r32lab_13_4 rfl (hu.mono l5) rfl ?_
    refine den_rq ⟨_,rfl⟩ ?_
    refine den_rq ⟨_,rfl⟩ ?_
    refine den_rq ⟨_,rfl⟩ ?_
    refine den_br (b := decide (((j : Nat) : Int) < (t.length * t.length : Nat))) (by show Value.bool (decide (((j : Nat) : Int) < intOf (D Tryz.prog _ (.op2 .mul .i64 (.v 12) (.v 13))))) = _; rw [hDl _ rfl rfl]; rfl) (fun h3 => ?_) (fun h3 => ?_)
    ·replace h3 := of_decide_eq_true h3
     have htl : 0 < t.length := Nat.pos_of_ne_zero fun e => by rw [e] at h3; simp at h3; omega
     refine den_lenE el_int op_r32lab_15_5 rfl (hu.mono l5) rfl ?_
     refine den_rq ⟨_,rfl⟩ ?_
     refine den_rq (by show ((t.length : Nat) : Int) ≠ 0; omega) ?_
     have hmod : j % t.length < t.length := Nat.mod_lt _ htl
     obtain ⟨y,hy,_⟩ := at_drop hmod
     refine den_atE el_int op_r32lab_15_7 op_r32lab_15_8 rfl rfl (fun _ => rfl) (hu.mono l5) hy (map2 rfl (by show Value.int .i64 (Int.tmod ((j : Nat) : Int) ((t.length : Nat) : Int)) = Value.int .i64 _; congr 1)) (fun _ => rfl) fun _ => ?_
     simp only [cA,nA]
     obtain ⟨hy1,hy2⟩ := ht y (List.mem_of_getElem? hy)
     obtain ⟨m,rfl⟩ : ∃ m : Nat,y = (m : Int) := ⟨y.toNat,by omega⟩
     rw [Int.toNat_natCast] at hy2
     have hem := Ed_at (es := es) hy2
     have hed := hg.mem hem
     refine den_atE el_edge op_r32lab_15_9 op_r32lab_15_10 rfl rfl (fun _ => rfl) (hw.mono l5) hem rfl (fun _ => rfl) fun _ => ?_
     simp only [cA,nA]
     refine den_rq (el_edge.vcells (Ed es (m : Nat))) ?_
     have hlen := hJ.len
     obtain ⟨za,hza⟩ : ∃ z,p'[(Ed es (m : Nat)).1]? = some z := ⟨_,List.getElem?_eq_getElem (by omega)⟩
     obtain ⟨zb,hzb⟩ : ∃ z,p'[(Ed es (m : Nat)).2]? = some z := ⟨_,List.getElem?_eq_getElem (by omega)⟩
     have hfirst : j = 0 -> Ed es (m : Nat) = e := fun hj0 => hf _ (by rw [<- hy,hj0,Nat.zero_mod])
     have hboth : LbJ i e x next (j + 1) ((p'.set (Ed es (m : Nat)).1 (next : Int)).set (Ed es (m : Nat)).2 (next : Int)) := ((hJ.put (y := (Ed es (m : Nat)).1) (by omega)).put (y := (Ed es (m : Nat)).2) (by omega)).inc fun _ hj0 => ⟨next,by rw [hfirst hj0] at hed ⊢; exact List.getElem?_set_self (by rw [List.length_set]; omega),by omega⟩
     refine den_atE el_plan op_r32lab_16_3 op_r32lab_16_4 rfl rfl (fun _ => rfl) o5.se hza rfl (fun _ => rfl) fun _ => ?_
     simp only [cA,nA]
     refine den_rq ⟨_,rfl⟩ ?_
     refine den_rq ⟨_,rfl⟩ ?_
     refine den_br (b := decide (za = (next : Int))) (bE _ _) (fun h4 => ?_) (fun h4 => ?_)
     ·replace h4 := of_decide_eq_true h4
      refine den_setE el_plan (a := (next : Int)) op_r32lab_17_8 op_r32lab_17_9 rfl rfl (fun _ => rfl) (fun _ => rfl) l5 o5 (by omega) rfl (fun _ => rfl) rfl fun q5 u5 H5 l6 o6 _ => ?_
      simp only [cA,nA]
      refine den_setE el_plan (a := (next : Int)) op_r32lab_17_10 op_r32lab_17_11 rfl rfl (fun _ => rfl) (fun _ => rfl) l6 o6 (by rw [List.length_set]; omega) rfl (fun _ => rfl) rfl fun q6 u6 H6 l7 o7 _ => ?_
      simp only [cA,nA]
      exact ⟨(j + 1,(p'.set (Ed es (m : Nat)).1 (next : Int)).set (Ed es (m : Nat)).2 (next : Int)),by show t.length * t.length - (j + 1) < t.length * t.length - j; omega,(map1 (D_inc rfl (by omega))),⟨by show j + 1 <= _; omega,l7,o7,hboth⟩⟩
     ·replace h4 := of_decide_eq_false h4
      refine den_atE el_plan op_r32lab_16_11 op_r32lab_16_12 rfl rfl (fun _ => rfl) o5.se hzb rfl (fun _ => rfl) fun _ => ?_
      simp only [cA,nA]
      refine den_rq ⟨_,rfl⟩ ?_
      refine den_br (b := decide (zb = (next : Int))) (bE _ _) (fun h5 => ?_) (fun h5 => ?_)
      ·replace h5 := of_decide_eq_true h5
       refine den_setE el_plan (a := (next : Int)) op_r32lab_17_8 op_r32lab_17_9 rfl rfl (fun _ => rfl) (fun _ => rfl) l5 o5 (by omega) rfl (fun _ => rfl) rfl fun q5 u5 H5 l6 o6 _ => ?_
       simp only [cA,nA]
       refine den_setE el_plan (a := (next : Int)) op_r32lab_17_10 op_r32lab_17_11 rfl rfl (fun _ => rfl) (fun _ => rfl) l6 o6 (by rw [List.length_set]; omega) rfl (fun _ => rfl) rfl fun q6 u6 H6 l7 o7 _ => ?_
       simp only [cA,nA]
       exact ⟨(j + 1,(p'.set (Ed es (m : Nat)).1 (next : Int)).set (Ed es (m : Nat)).2 (next : Int)),by show t.length * t.length - (j + 1) < t.length * t.length - j; omega,(map1 (D_inc rfl (by omega))),⟨by show j + 1 <= _; omega,l7,o7,hboth⟩⟩
      ·replace h5 := of_decide_eq_false h5
       exact ⟨(j + 1,p'),by show t.length * t.length - (j + 1) < t.length * t.length - j; omega,(map1 (D_inc rfl (by omega))),⟨by show j + 1 <= _; omega,l5,o5,hJ.inc fun hx2 hj0 => absurd (by have := hJ.at_; rw [<- hx2,<- hfirst hj0,hza] at this; exact Option.some.inj this) h4⟩⟩
    ·replace h3 := of_decide_eq_false h3
     have hend := hJ.end (fun hx2 => Nat.pos_of_ne_zero fun hj0 => by have : t = [] := List.eq_nil_of_length_eq_zero (by subst hj0; have : t.length * t.length = 0 := (by omega); rcases Nat.mul_eq_zero.1 this with h|h <;> exact h); have := h0 this; omega)
     refine den_rq ⟨_,rfl⟩ ?_
     exact ⟨(next + 1,x + 1,p'),by show i - (x + 1) < i - x; omega,(map3 (D_inc rfl (by omega)) (D_inc rfl (by omega)) rfl),⟨hx',l5,o5,hend⟩⟩
  ·replace h := of_decide_eq_false h
   have hxe : x = i := by omega
   subst hxe
   exact den_ret rfl ⟨l3,p,next,o3.se,hI⟩
end
end Go.Proofs.YtkcjbfoejpfbbaaGreatDoor

/- Chapter 32: drafts: weights. -/
namespace Go.Proofs.YtkcjbfoejpfbbaaGreatDoor
open Go.RowKit Go.RX Go.GS
def arI (l : List Int) : Value := .agg (l.map ii).toArray
theorem arI_cells (l : List Int) : (arI l).cells = (l.map ii).toArray := rfl
theorem D_arI {ρ : List Value} {x i : SV} {l : List Int} {d : Nat} {y : Int} (hx : D Tryz.prog ρ x = arI l) (hi : D Tryz.prog ρ i = ii (d : Nat)) (hd : l[d]? = some y) : D Tryz.prog ρ (.cell x 0 1 i) = ii y := by
 show (D Tryz.prog ρ x).cells.getD (0 + 1 * ixOf (D Tryz.prog ρ i)) undef = _
 rw [hx,hi,arI_cells]
 show ((l.map ii).toArray).getD (0 + 1 * ((d : Nat) : Int).toNat) undef = _
 rw [Int.toNat_natCast,Nat.zero_add,Nat.one_mul,Array.getD_eq_getD_getElem?,List.getElem?_toArray,List.getElem?_map,hd]
 rfl
theorem D_arIput {ρ : List Value} {x y i : SV} {l : List Int} {d : Nat} {z : Int} (hx : D Tryz.prog ρ x = arI l) (hy : D Tryz.prog ρ y = ii z) (hi : D Tryz.prog ρ i = ii (d : Nat)) : D Tryz.prog ρ (.put x 0 1 y 1 i) = arI (l.set d z) := by
 show Value.agg (spl (D Tryz.prog ρ x).cells (0 + 1 * ixOf (D Tryz.prog ρ i)) (D Tryz.prog ρ y).cells.toList) = _
 rw [hx,hi,hy,arI_cells]
 show Value.agg (spl (l.map ii).toArray (0 + 1 * ((d : Nat) : Int).toNat) [ii z]) = _
 rw [Int.toNat_natCast,Nat.zero_add,Nat.one_mul]
 show Value.agg ((l.map ii).toArray.setIfInBounds d (ii z)) = Value.agg _
 congr 1
 rw [<- Array.toList_inj]
 simp [List.map_set]
theorem z_8 : zeroV Tryz.prog 179 = arI (List.replicate 8 0) := by kernel_rfl
theorem D_arI0 {ρ : List Value} {x : SV} {l : List Int} {y : Int} (hx : D Tryz.prog ρ x = arI l) (hd : l[0]? = some y) : D Tryz.prog ρ (.cell x 0 0 noI) = ii y := by
 show (D Tryz.prog ρ x).cells.getD (0 + 0 * ixOf (D Tryz.prog ρ noI)) undef = _
 rw [hx,arI_cells,Nat.zero_mul,Array.getD_eq_getD_getElem?,List.getElem?_toArray,List.getElem?_map,hd]
 rfl
theorem D_addw {ρ : List Value} {a b : SV} {x y : Int} (ha : D Tryz.prog ρ a = ii x) (hb : D Tryz.prog ρ b = ii y) : D Tryz.prog ρ (.op2 .add .i64 a b) = ii (IntKind.i64.wrap (x + y)) := by
 show binV .add .i64 (intOf (D Tryz.prog ρ a)) (intOf (D Tryz.prog ρ b)) = _
 rw [ha,hb]; rfl
section
variable {H : PH} {u wts : Value} {p wl : List Int} {lo hi : Int} {k : Nat}
theorem con_r32wei (hu : SI H u p) (hwt : SI H wts wl) (hlen : p.length <= wl.length) (hp : ∀ x ∈ p,0 <= x /\ x < 8) (hk : k <= 8) : Con Tryz.prog 49 [bv wts lo hi (k : Nat),u] H fun r H' => H' = H /\ ∃ a b,r = .tuple #[ii a,ii b] := by
 refine con_of_tree mixed tr_r32wei np_r32wei rfl ?_
 have hpl := hu.len
 refine den_rq (bv_one (sl_oneC hwt) _ _ _) ?_
 refine den_loopR (α := Nat × List Int) (fun ⟨i,l⟩ => [ii (i : Nat),arI l]) (fun ⟨i,l⟩ => i <= p.length /\ l.length = 8) (fun ⟨i,l⟩ => p.length - i) ((0,List.replicate 8 0)) (map2 rfl z_8) (⟨Nat.zero_le _,rfl⟩) fun ⟨i,l⟩ hQ => ?_
 simp only [cA,nA]
 obtain ⟨hi',hl⟩ := hQ
 refine den_lenE el_plan op_r32wei_3_2 rfl hu rfl ?_
 refine den_rq ⟨_,rfl⟩ ?_
 refine den_rq ⟨_,rfl⟩ ?_
 refine den_br (b := decide (((i : Nat) : Int) < (p.length : Nat))) rfl (fun h => ?_) (fun h => ?_)
 ·replace h := of_decide_eq_true h
  have hi2 : i < p.length := by omega
  obtain ⟨x,hx,_⟩ := at_drop hi2
  obtain ⟨hx0,hx8⟩ := hp x (List.mem_of_getElem? hx)
  obtain ⟨d,rfl⟩ : ∃ d : Nat,x = (d : Int) := ⟨x.toNat,by omega⟩
  have hd : l[d]? = some l[d] := List.getElem?_eq_getElem (by omega)
  refine den_atE el_plan op_r32wei_5_2 op_r32wei_5_3 rfl rfl (fun _ => rfl) hu hx rfl (fun _ => rfl) fun _ => ?_
  simp only [cA,nA]
  refine den_atE el_plan op_r32wei_5_6 op_r32wei_5_7 rfl rfl (fun _ => rfl) hu hx rfl (fun _ => rfl) fun _ => ?_
  simp only [cA,nA]
  refine den_rq ⟨_,_,rfl⟩ ?_
  refine den_rq ⟨hx0,hx8⟩ ?_
  refine den_atE el_int op_r32wei_5_13 op_r32wei_5_14 rfl rfl (fun _ => rfl) hwt (List.getElem?_eq_getElem (show i < wl.length by omega)) rfl (fun _ => rfl) fun _ => ?_
  simp only [cA,nA]
  refine den_rq ⟨_,D_arI rfl rfl hd⟩ ?_
  refine den_rq ⟨_,rfl⟩ ?_
  refine den_rq ⟨_,_,rfl⟩ ?_
  refine den_rq ⟨hx0,hx8⟩ ?_
  exact ⟨(i + 1,l.set d (IntKind.i64.wrap (l[d] + wl[i]))),by show p.length - (i + 1) < p.length - i; omega,(map2 (D_inc rfl (by omega)) (D_arIput rfl (D_addw (D_arI rfl rfl hd) rfl) rfl)),⟨⟨hi2,by rw [List.length_set]; exact hl⟩,rfl⟩⟩
 ·replace h := of_decide_eq_false h
  have h0 : l[0]? = some l[0] := List.getElem?_eq_getElem (by omega)
  refine den_loopR (α := Nat × Int × Int) (fun ⟨d,a,b⟩ => [ii a,ii b,ii (d : Nat)]) (fun ⟨d,a,b⟩ => d <= 8) (fun ⟨d,a,b⟩ => 8 - d) ((1,l[0],l[0])) (map3 (D_arI0 rfl h0) (D_arI0 rfl h0) rfl) ((show 1 <= 8 by decide)) fun ⟨d,a,b⟩ hQ => ?_
  simp only [cA,nA]
  refine den_rq ⟨_,rfl⟩ ?_
  refine den_rq ⟨_,rfl⟩ ?_
  refine den_br (b := decide (((d : Nat) : Int) < (k : Nat))) rfl (fun h2 => ?_) (fun h2 => ?_)
  ·replace h2 := of_decide_eq_true h2
   have hd : l[d]? = some l[d] := List.getElem?_eq_getElem (by omega)
   refine den_rq ⟨_,_,rfl⟩ ?_
   refine den_rq ⟨by show (0 : Int) <= ((d : Nat) : Int); omega,by show ((d : Nat) : Int) < 8; omega⟩ ?_
   refine den_prim ((yld_minI (vs := [ii a,ii l[d]]) op_r32wei_10_4 rfl rfl).rds _) (map2 rfl (D_arI rfl rfl hd)) ?_
   simp only [cA,nA]
   refine den_prim ((yld_maxI (vs := [ii b,ii l[d]]) op_r32wei_10_9 rfl rfl).rds _) (map2 rfl (D_arI rfl rfl hd)) ?_
   simp only [cA,nA]
   exact ⟨(d + 1,_,_),by show 8 - (d + 1) < 8 - d; omega,(map3 rfl rfl (D_inc rfl (by omega))),⟨by show d + 1 <= 8; omega,rfl⟩⟩
  ·replace h2 := of_decide_eq_false h2
   exact den_ret rfl ⟨rfl,a,b,rfl⟩
end
end Go.Proofs.YtkcjbfoejpfbbaaGreatDoor


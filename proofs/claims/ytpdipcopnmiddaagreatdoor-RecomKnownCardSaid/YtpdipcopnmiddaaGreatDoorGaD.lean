/- Chapter 32: contracts of the library, part 2. -/
import Derived.Test.YtpdipcopnmiddaaGreatDoorGaA
import Derived.Test.YtpdipcopnmiddaaGreatDoorGsC
import Derived.Test.YtpdipcopnmiddaaGreatDoorWdK
namespace Go.Proofs.YtpdipcopnmiddaaGreatDoor
open Go.RowKit Go.RX Go.GS

def SV1 (x : SV) : SV := .op2 .add .u64 (.op2 .and .u64 (.op2 .shr .u64 x (.k (.int .u64 (1)))) (.k (.int .u64 (6148914691236517205)))) (.op2 .and .u64 x (.k (.int .u64 (6148914691236517205))))
def SV2 (x : SV) : SV := .op2 .add .u64 (.op2 .and .u64 (.op2 .shr .u64 x (.k (.int .u64 (2)))) (.k (.int .u64 (3689348814741910323)))) (.op2 .and .u64 x (.k (.int .u64 (3689348814741910323))))
def SV3 (x : SV) : SV := .op2 .and .u64 (.op2 .add .u64 (.op2 .shr .u64 x (.k (.int .u64 (4)))) x) (.k (.int .u64 (1085102592571150095)))
def SV4 (k : Int) (x : SV) : SV := .op2 .add .u64 x (.op2 .shr .u64 x (.k (.int .u64 (k))))
theorem det_oc64 {s : Nat} (hs : s < M64) : Det Tryz.prog 48 [uv s] (ii (card s)) := by
 obtain ⟨l,h1,h2,h3,h4,h5,h6,h7⟩ := pop_3 hs
 obtain ⟨g1,g2,g3,g4⟩ := pop_4 h1 h2
 refine det_of_tree mixed tr_oc64 np_oc64 rfl (pd_rq ⟨_,rfl⟩ (pd_ret ?_ rfl))
 have e1 : D Tryz.prog [uv s] (SV1 (.v 0)) = uv (pop1 s) := D_addu (D_and (D_shrk (n := 1) rfl rfl (by decide)) (B := 6148914691236517205) rfl (div_lt' (x := 1) hs) (by decide)) (D_and (B := 6148914691236517205) rfl rfl hs (by decide)) h5
 generalize hx1 : SV1 (.v 0) = x1 at e1
 have e2 : D Tryz.prog [uv s] (SV2 x1) = uv (pop2 (pop1 s)) := D_addu (D_and (D_shrk (n := 2) e1 rfl (by decide)) (B := 3689348814741910323) rfl (div_lt' (x := 2) h5) (by decide)) (D_and (B := 3689348814741910323) e1 rfl h5 (by decide)) h6
 generalize hx2 : SV2 x1 = x2 at e2
 have e3 : D Tryz.prog [uv s] (SV3 x2) = uv (pop3 (pop2 (pop1 s))) := D_and (D_addu (D_shrk (n := 4) e2 rfl (by decide)) e2 h7) (B := 1085102592571150095) rfl h7 (by decide)
 generalize hx3 : SV3 x2 = x3 at e3
 rw [h3] at e3
 have hF : Go.GS.Fd 8 l < M64 := Nat.lt_of_le_of_lt (Nat.le_add_right _ _) g1
 have e4 : D Tryz.prog [uv s] (SV4 8 x3) = uv (pop4 8 (Go.GS.Fd 8 l)) := D_addu e3 (D_shrk (n := 8) e3 rfl (by decide)) g1
 generalize hx4 : SV4 8 x3 = x4 at e4
 have e5 : D Tryz.prog [uv s] (SV4 16 x4) = uv (pop4 16 (pop4 8 (Go.GS.Fd 8 l))) := D_addu e4 (D_shrk (n := 16) e4 rfl (by decide)) g2
 generalize hx5 : SV4 16 x4 = x5 at e5
 have e6 : D Tryz.prog [uv s] (SV4 32 x5) = uv (pop4 32 (pop4 16 (pop4 8 (Go.GS.Fd 8 l)))) := D_addu e5 (D_shrk (n := 32) e5 rfl (by decide)) g3
 generalize hx6 : SV4 32 x5 = x6 at e6
 generalize pop4 32 (pop4 16 (pop4 8 (Go.GS.Fd 8 l))) = m at e6 g3 g4
 have e7 := D_127 e6 g3
 rw [g4,h4] at e7
 rw [<- hx6,<- hx5,<- hx4,<- hx3,<- hx2,<- hx1] at e7
 exact e7

theorem at_drop {α : Type} {l : List α} {i : Nat} (h : i < l.length) : ∃ x,l[i]? = some x /\ l.drop i = x :: l.drop (i + 1) :=
 ⟨l[i],List.getElem?_eq_getElem h,List.drop_eq_getElem_cons h⟩
section
variable {H : PH} {u v : Value} {l m : List Int}
end
end Go.Proofs.YtpdipcopnmiddaaGreatDoor

/- Chapter 32: graphs. -/
namespace Go.Proofs.YtpdipcopnmiddaaGreatDoor
open Go.RowKit Go.RX Go.GS

theorem sc_u64 : Sc Tryz.prog 39 := ⟨by kernel_rfl,by kernel_rfl,by kernel_rfl⟩
section
variable {H : PH} {n : Nat} {w : Value} {es : List (Nat × Nat)}
end
end Go.Proofs.YtpdipcopnmiddaaGreatDoor

/- Chapter 32: graphs, part 2. -/
namespace Go.Proofs.YtpdipcopnmiddaaGreatDoor
open Go.RowKit Go.RX Go.GS
theorem z_u64 : zeroV Tryz.prog 39 = uv 0 := by kernel_rfl
theorem take_snoc {α : Type} {l : List α} {i : Nat} {x : α} (h : l[i]? = some x) : l.take (i + 1) = l.take i ++ [x] := by rw [List.take_add_one,h]; rfl
section
variable {H : PH} {n : Nat} {w : Value} {es : List (Nat × Nat)}
theorem ent_gnod1 : entB Tryz.prog 137 = true := by kernel_rfl
def nbox (b s : Nat) : PH := PH.nil.put b (.cells #[uv s] 39 (0,0))
theorem bN (a b : Int) : Value.bool (a != b) = .bool (decide (a ≠ b)) := by
 by_cases h : a = b <;> simp [h]
theorem bN0 (s : Nat) : Value.bool (((s : Nat) : Int) != 0) = .bool (decide (s ≠ 0)) := by
 rw [bN]; congr 1; apply decide_eq_decide.2; omega
theorem nbox_self (b s : Nat) : nbox b s b = some (.cells #[uv s] 39 (0,0)) := PH.put_self _ _ _
theorem nbox_put {X : PH} {b s t : Nat} (h : X b = none) : (X.or (nbox b s)).put b (.cells #[uv t] 39 (0,0)) = X.or (nbox b t) := by
 rw [PH.or_put h]; unfold nbox; rw [PH.put_put]
theorem nbox_disj {X : PH} {b : Nat} (s : Nat) (h : X b = none) : Disj X (nbox b s) := disj_put (disj_nil X) h
theorem nbox_none {X : PH} {b s : Nat} (h : Disj X (nbox b s)) : X b = none := Disj.none h (b := b) (by rw [nbox_self]; exact fun h => nomatch h)
abbrev nxs (s : Nat) : List (List Value) := (els s).map fun x : Nat => [ii (x : Int)]
theorem itc_nodes {b s : Nat} {Ro : PH} (hs : s < M64) (hT : Tb Ro) : ItC Tryz.prog 137 [.pointer (some ⟨b,0,none⟩)] Ro (nbox b s) (fun pre xs => ∃ x,(els s)[pre.length]? = some x /\ xs = [ii (x : Nat)] /\ pre = ((els s).take pre.length).map fun x : Nat => [ii (x : Int)]) (fun xs _ => xs = nxs s) (fun _ _ => True) := by
 intro l J Jx hRo hr X hX hd w hw
 refine (con_of_tree (H := X.or (nbox b s)) (V := fun _ H' => ∃ X' K',PH.le (X'.or K') H' /\ Disj X' K' /\ ((∃ xs,xs = nxs s /\ J xs X') \/ (∃ pre,True /\ Jx pre X'))) mixed tr_gnod1 np_gnod1 rfl ?_ w hw).mono fun e w' ⟨v,H',he,hst,hV⟩ => ⟨v,H',he,hst,hV⟩
 refine den_loopV (α := Nat × Nat × PH) (fun ⟨k,s',X'⟩ => []) (fun ⟨k,s',X'⟩ => fun H' => k <= (els s).length /\ s' < M64 /\ els s' = (els s).drop k /\ H' = X'.or (nbox b s') /\ J (((els s).take k).map fun x : Nat => [ii (x : Int)]) X' /\ Disj X' (nbox b s')) (fun ⟨k,s',X'⟩ => (els s).length - k) ((0,s,X)) rfl (⟨Nat.zero_le _,hs,rfl,rfl,hX,hd⟩) fun ⟨k,s',X'⟩ H' hQ => ?_
 simp only [cA,nA]
 obtain ⟨hk,hs',he,rfl,hJ,hd'⟩ := hQ
 have hb := PH.or_right hd' (nbox_self b s')
 refine den_ldS sc_u64 op_gnod1_0_0 rfl hb rfl rfl ?_
 simp only [cA,nA]
 refine den_rq ⟨_,rfl⟩ ?_
 refine den_br (b := decide (s' ≠ 0)) (bN0 s') (fun h => ?_) (fun h => ?_)
 ·replace h := of_decide_eq_true h
  refine den_ldS sc_u64 op_gnod1_2_1 rfl hb rfl rfl ?_
  simp only [cA,nA]
  obtain ⟨x,r,hel⟩ : ∃ x r,els s' = x :: r := by
   cases hel : els s' with
   | nil => exact absurd (els_nil hs' hel) h
   | cons x r => exact ⟨x,r,rfl⟩
  have htz : tz s' = x := by simp [tz,hel]
  have hk' : k < (els s).length := by
   apply Nat.lt_of_not_le; intro hh
   rw [List.drop_eq_nil_of_le hh,hel] at he; cases he
  obtain ⟨y,hy,hdy⟩ := at_drop hk'
  rw [<- he,hel] at hdy
  obtain ⟨rfl,hr'⟩ := List.cons.inj hdy
  refine den_ask (con_tz ((hT.mono (hRo _ _ hJ)).mono (PH.le_or _ _)) hs') rfl ?_
  simp only [cA,nA]
  rw [htz]
  refine den_yield (hr _ [ii (x : Nat)] X' (nbox b s') ⟨x,by simp [Nat.min_eq_left hk,hy],rfl,by simp [Nat.min_eq_left hk]⟩ hJ hd') op_gnod1_2_3 rfl rfl rfl rfl fun v X2 hd2 hV => ?_
  simp only [cA,nA]
  obtain ⟨bb,rfl,hb1,hb2⟩ : ∃ bb,v = .bool bb /\ (bb = true -> J ((((els s).take k).map fun x : Nat => [ii (x : Int)]) ++ [[ii (x : Nat)]]) X2) /\ (bb = false -> Jx ((((els s).take k).map fun x : Nat => [ii (x : Int)]) ++ [[ii (x : Nat)]]) X2) := by
   rcases hV with ⟨rfl,h⟩ | ⟨rfl,h⟩
   ·exact ⟨true,rfl,fun _ => h,(fun h => nomatch h)⟩
   ·exact ⟨false,rfl,(fun h => nomatch h),fun _ => h⟩
  refine den_rq ⟨_,rfl⟩ ?_
  refine den_br (b := !bb) rfl (fun hbb => ?_) (fun hbb => ?_)
  ·skip
   exact den_ret rfl ⟨X2,nbox b s',PH.le.refl _,hd2,.inr ⟨_,trivial,hb2 (by simpa using hbb)⟩⟩
  ·skip
   have hn2 := nbox_none hd2
   have hb2 := PH.or_right hd2 (nbox_self b s')
   refine den_ldS sc_u64 op_gnod1_1_0 rfl hb2 rfl rfl ?_
   simp only [cA,nA]
   refine den_ldS sc_u64 op_gnod1_1_1 rfl hb2 rfl rfl ?_
   simp only [cA,nA]
   refine den_rq ⟨_,rfl⟩ ?_
   refine den_rq ⟨_,rfl⟩ ?_
   refine den_stS sc_u64 op_gnod1_1_4 rfl rfl hb2 (by simp) rfl rfl (map2 rfl (D_and rfl (D_subu (B := 1) rfl rfl hs' (by omega)) hs' (Nat.lt_of_le_of_lt (Nat.sub_le _ _) hs'))) (fun h => (nomatch h)) ?_
   simp only [cA,nA]
   exact ⟨(k + 1,s' &&& (s' - 1),X2),by show (els s).length - (k + 1) < (els s).length - k; omega,rfl,⟨hk',and_lt hs',by rw [els_pred hs' hel,hr'],nbox_put hn2,by rw [take_snoc hy,List.map_append]; exact hb1 (by simpa using hbb),nbox_disj _ hn2⟩⟩
 ·replace h := of_decide_eq_false h
  have h0 : s' = 0 := by omega
  rw [h0,els_zero] at he
  have hk2 : (els s).length <= k := by
   apply Nat.le_of_not_lt; intro hh
   rw [List.drop_eq_getElem_cons hh] at he; cases he
  rw [List.take_of_length_le hk2] at hJ
  exact den_ret rfl ⟨X',nbox b s',PH.le.refl _,hd',.inl ⟨_,rfl,hJ⟩⟩
end
end Go.Proofs.YtpdipcopnmiddaaGreatDoor


/- Concrete runs: the iterators over the edges of a set, and over the parts of a set. -/
import Derived.Test.YtpdipcopnmiddaaGreatDoorGaD
import Derived.Test.YtpdipcopnmiddaaGreatDoorGcA
import Derived.Test.YtpdipcopnmiddaaGreatDoorGmT
namespace Go.Proofs.YtpdipcopnmiddaaGreatDoor
open Go.RowKit Go.RX Go.GS
section
variable {H : PH}
theorem ent_tinn1 : entB Tryz.prog 170 = true := by kernel_rfl
theorem ent_mpar1 : entB Tryz.prog 121 = true := by kernel_rfl

def leastB (p : Nat) : Nat := p &&& ((M64 - p) % M64)
def parL (rest least : Nat) : Nat -> Nat -> List Nat
 | 0,_ => []
 | n + 1,part => if part = 0 then [] else ((part - 1) &&& rest ||| least) :: parL rest least n ((part - 1) &&& rest)
def plist (p : Nat) : List Nat := parL (sdf p (leastB p)) (leastB p) (sdf p (leastB p) + 1) (sdf p (leastB p))
theorem leastB_lt {p : Nat} (h : p < M64) : leastB p < M64 := Nat.lt_of_le_of_lt Nat.and_le_left h
theorem sdf_lt {a b : Nat} (h : a < M64) : sdf a b < M64 := Nat.xor_lt_two_pow (n := 64) h (Nat.lt_of_le_of_lt Nat.and_le_left h)
theorem itc_parts {b p : Nat} {Ro : PH} (hp : p < M64) : ItC Tryz.prog 121 [.pointer (some ⟨b,0,none⟩)] Ro (nbox b p) (fun pre xs => ∃ y,(plist p)[pre.length]? = some y /\ xs = [uv y]) (fun xs _ => xs.length = (plist p).length) (fun _ _ => True) := by
 intro l J Jx hRo hr X hX hd w hw
 refine (con_of_tree (H := X.or (nbox b p)) (V := fun _ H' => ∃ X' K',PH.le (X'.or K') H' /\ Disj X' K' /\ ((∃ xs,xs.length = (plist p).length /\ J xs X') \/ (∃ pre,True /\ Jx pre X'))) mixed tr_mpar1 np_mpar1 rfl ?_ w hw).mono fun e w' ⟨v,H',he,hst,hV⟩ => ⟨v,H',he,hst,hV⟩
 have hb := PH.or_right hd (nbox_self b p)
 have hL := leastB_lt hp
 have hR : sdf p (leastB p) < M64 := sdf_lt hp
 refine den_ldS sc_u64 op_mpar1_0_0 rfl hb rfl rfl ?_
 simp only [cA,nA]
 refine den_ldS sc_u64 op_mpar1_0_1 rfl hb rfl rfl ?_
 simp only [cA,nA]
 refine den_rq ⟨_,rfl⟩ ?_
 refine den_rq ⟨_,rfl⟩ ?_
 refine den_ldS sc_u64 op_mpar1_1_0 rfl hb rfl rfl ?_
 simp only [cA,nA]
 refine den_rq ⟨_,rfl⟩ ?_
 refine den_loopV (α := Nat × Nat × List Nat × PH) (fun a => [uv a.1]) (fun a H' => a.1 < M64 /\ a.1 < a.2.1 /\ H' = a.2.2.2.or (nbox b p) /\ Disj a.2.2.2 (nbox b p) /\ a.2.2.1 ++ parL (sdf p (leastB p)) (leastB p) a.2.1 a.1 = plist p /\ J (a.2.2.1.map fun y : Nat => [uv y]) a.2.2.2) (fun a => a.2.1) (sdf p (leastB p),sdf p (leastB p) + 1,[],X)
  (map1 (D_andn rfl (D_and rfl (D_negu rfl hp) hp (Nat.mod_lt _ (by decide))) hp hL)) ⟨hR,Nat.lt_succ_self _,rfl,hd,rfl,hX⟩ fun a H' hQ => ?_
 obtain ⟨part,fu,pre,X'⟩ := a
 obtain ⟨h1,h2,rfl,hd',hpre,hJ⟩ := hQ
 simp only at h1 h2 hd' hpre hJ
 simp only [cA,nA]
 refine den_rq ⟨_,rfl⟩ ?_
 obtain ⟨fu,rfl⟩ : ∃ m,fu = m + 1 := ⟨fu - 1,by omega⟩
 refine den_br (b := decide (part ≠ 0)) (bN0 part) (fun h => ?_) (fun h => ?_)
 ·replace h := of_decide_eq_true h
  simp only [parL,if_neg h] at hpre
  have hq : (part - 1) &&& sdf p (leastB p) < M64 := Nat.lt_of_le_of_lt Nat.and_le_right hR
  have hle : (part - 1) &&& sdf p (leastB p) <= part - 1 := Nat.and_le_left
  have dL : ∀ {ρ : List Value},D Tryz.prog ρ (.v 2) = uv p -> D Tryz.prog ρ (.v 3) = uv p -> D Tryz.prog ρ (.op2 .and .u64 (.v 2) (.op1 .neg .u64 (.v 3))) = uv (leastB p) := fun h2 h3 => D_and h2 (D_negu h3 hp) hp (Nat.mod_lt _ (by decide))
  have dR : ∀ {ρ : List Value},D Tryz.prog ρ (.v 2) = uv p -> D Tryz.prog ρ (.v 3) = uv p -> D Tryz.prog ρ (.v 4) = uv p -> D Tryz.prog ρ (.op2 .andNot .u64 (.v 4) (.op2 .and .u64 (.v 2) (.op1 .neg .u64 (.v 3)))) = uv (sdf p (leastB p)) := fun h2 h3 h4 => D_andn h4 (dL h2 h3) hp hL
  have dQ : ∀ {ρ : List Value},D Tryz.prog ρ (.v 2) = uv p -> D Tryz.prog ρ (.v 3) = uv p -> D Tryz.prog ρ (.v 4) = uv p -> D Tryz.prog ρ (.v 5) = uv part -> D Tryz.prog ρ (.op2 .and .u64 (.op2 .sub .u64 (.v 5) (.k (.int .u64 1))) (.op2 .andNot .u64 (.v 4) (.op2 .and .u64 (.v 2) (.op1 .neg .u64 (.v 3))))) = uv ((part - 1) &&& sdf p (leastB p)) := fun h2 h3 h4 h5 => D_and (D_subu (B := 1) h5 rfl h1 (by omega)) (dR h2 h3 h4) (by omega) hR
  refine den_yield (hr _ [uv ((part - 1) &&& sdf p (leastB p) ||| leastB p)] X' (nbox b p) ⟨_,by rw [<- hpre,List.length_map,List.getElem?_append_right (Nat.le_refl _),Nat.sub_self]; rfl,rfl⟩ hJ hd') op_mpar1_5_4 rfl rfl (map2 rfl (D_or (dQ rfl rfl rfl rfl) (dL rfl rfl) hq hL)) rfl fun v X2 hd2 hV => ?_
  simp only [cA,nA]
  obtain ⟨bb,rfl,hb1,hb2⟩ : ∃ bb,v = .bool bb /\ (bb = true -> J ((pre.map fun y : Nat => [uv y]) ++ [[uv ((part - 1) &&& sdf p (leastB p) ||| leastB p)]]) X2) /\ (bb = false -> Jx ((pre.map fun y : Nat => [uv y]) ++ [[uv ((part - 1) &&& sdf p (leastB p) ||| leastB p)]]) X2) := by
   rcases hV with ⟨rfl,h⟩ | ⟨rfl,h⟩
   ·exact ⟨true,rfl,fun _ => h,(fun h => nomatch h)⟩
   ·exact ⟨false,rfl,(fun h => nomatch h),fun _ => h⟩
  refine den_rq ⟨_,rfl⟩ ?_
  refine den_br (b := !bb) rfl (fun hbb => ?_) (fun hbb => ?_)
  ·exact den_ret rfl ⟨X2,nbox b p,PH.le.refl _,hd2,.inr ⟨_,trivial,hb2 (by simpa using hbb)⟩⟩
  ·exact ⟨((part - 1) &&& sdf p (leastB p),fu,pre ++ [(part - 1) &&& sdf p (leastB p) ||| leastB p],X2),Nat.lt_succ_self _,map1 (dQ rfl rfl rfl rfl),⟨hq,by show (part - 1) &&& sdf p (leastB p) < fu; omega,rfl,hd2,by rw [List.append_assoc]; exact hpre,by rw [List.map_append]; exact hb1 (by simpa using hbb)⟩⟩
 ·replace h := of_decide_eq_false h
  have h0 : part = 0 := by omega
  subst h0
  simp only [parL,if_true,List.append_nil] at hpre
  exact den_ret rfl ⟨X',nbox b p,PH.le.refl _,hd',.inl ⟨_,by rw [List.length_map,hpre],hJ⟩⟩

theorem fa_g1 : FA Tryz.prog 25 1 1 := ⟨by kernel_rfl,of_decide_eq_true (by kernel_rfl),by kernel_rfl,by kernel_rfl,of_decide_eq_true (by kernel_rfl)⟩
theorem sc_es : Sc Tryz.prog 23 := ⟨by kernel_rfl,by kernel_rfl,by kernel_rfl⟩
def innL (set : Nat) : Nat -> List (Nat × Nat) -> List (Nat × (Nat × Nat))
 | _,[] => []
 | i,e :: r => if (bit set e.1 && bit set e.2) = true then (i,e) :: innL set (i + 1) r else innL set (i + 1) r
def gbox (b j : Nat) (x v : Value) (T : TypeId) (s : Nat) : PH := (PH.nil.put b (.cells #[x,v] T (0,0))).put j (.cells #[uv s] 39 (0,0))
theorem itc_inner {b j s : Nat} {x v : Value} {T : TypeId} {es : List (Nat × Nat)} {Ro : PH} (hs : s < M64) (hbj : b ≠ j) (he : ∀ e ∈ es,e.1 <= 64 /\ e.2 <= 64) (hes : es.length <= 1000000) (hv : SE Ro 2 (fun e : Nat × Nat => [ii (e.1 : Nat),ii (e.2 : Nat)]) v es) (hvc : v.cells = #[v]) :
  ItC Tryz.prog 170 [.pointer (some ⟨b,0,none⟩),.pointer (some ⟨j,0,none⟩)] Ro (gbox b j x v T s) (fun pre xs => ∃ y,(innL s 0 es)[pre.length]? = some y /\ xs = [ii (y.1 : Nat),ev2 y.2]) (fun xs _ => xs.length = (innL s 0 es).length) (fun _ _ => True) := by
 intro l J Jx hRo hr X hX hd w hw
 refine (con_of_tree (H := X.or (gbox b j x v T s)) (V := fun _ H' => ∃ X' K',PH.le (X'.or K') H' /\ Disj X' K' /\ ((∃ xs,xs.length = (innL s 0 es).length /\ J xs X') \/ (∃ pre,True /\ Jx pre X'))) mixed tr_tinn1 np_tinn1 rfl ?_ w hw).mono fun e w' ⟨v,H',he,hst,hV⟩ => ⟨v,H',he,hst,hV⟩
 have kb : gbox b j x v T s b = some (.cells #[x,v] T (0,0)) := by unfold gbox; rw [PH.put_ne _ _ hbj]; exact PH.put_self _ _ _
 have kj : gbox b j x v T s j = some (.cells #[uv s] 39 (0,0)) := PH.put_self _ _ _
 have hb := PH.or_right hd kb
 refine den_fa fa_g1 op_tinn1_0_0 rfl rfl ?_
 simp only [cA,nA]
 refine den_ldS sc_es op_tinn1_0_1 rfl hb (u := v) (by rfl) rfl ?_
 simp only [cA,nA]
 have hsl : ∀ {pre X'},J pre X' -> SE (X'.or (gbox b j x v T s)) 2 (fun e : Nat × Nat => [ii (e.1 : Nat),ii (e.2 : Nat)]) v es := fun hJ => hv.mono ((hRo _ _ hJ).trans (PH.le_or _ _))
 refine den_lenE el_edge op_tinn1_0_2 rfl (hsl hX) rfl ?_
 refine den_loopV (α := Nat × List (Nat × Nat × Nat) × PH) (fun a => [ii (a.1 : Nat)]) (fun a H' => a.1 <= es.length /\ H' = a.2.2.or (gbox b j x v T s) /\ Disj a.2.2 (gbox b j x v T s) /\ a.2.1 ++ innL s a.1 (es.drop a.1) = innL s 0 es /\ J (a.2.1.map fun y : Nat × Nat × Nat => [ii (y.1 : Int),ev2 y.2]) a.2.2) (fun a => es.length - a.1) (0,[],X)
  rfl ⟨Nat.zero_le _,rfl,hd,rfl,hX⟩ fun a H' hQ => ?_
 obtain ⟨i,pre,X'⟩ := a
 obtain ⟨hi,rfl,hd',hpre,hJ⟩ := hQ
 simp only at hi hd' hpre hJ
 simp only [cA,nA]
 refine den_rq ⟨_,rfl⟩ ?_
 refine den_rq ⟨_,rfl⟩ ?_
 refine den_br (b := decide (((i : Nat) : Int) < (es.length : Nat))) rfl (fun h => ?_) (fun h => ?_)
 ·replace h := of_decide_eq_true h
  have hi' : i < es.length := by omega
  obtain ⟨e,hx,hdx⟩ := at_drop hi'
  obtain ⟨he1,he2⟩ := he e (List.mem_of_getElem? hx)
  have hkj := PH.or_right hd' kj
  refine den_atE el_edge op_tinn1_2_1 op_tinn1_2_2 rfl rfl (fun _ => rfl) (hsl hJ) hx rfl (fun _ => rfl) fun _ => ?_
  simp only [cA,nA]
  refine den_rq (el_edge.vcells e) ?_
  refine den_ldS sc_u64 op_tinn1_3_0 rfl hkj rfl rfl ?_
  simp only [cA,nA]
  refine den_ask (det_thas hs he1 he2) rfl ?_
  simp only [cA,nA]
  refine den_rq ⟨_,rfl⟩ ?_
  rw [hdx] at hpre
  refine den_br (b := bit s e.1 && bit s e.2) rfl (fun hbit => ?_) (fun hbit => ?_)
  ·simp only [innL,hbit,if_true] at hpre
   refine den_yield (hr _ [ii (i : Nat),ev2 e] X' (gbox b j x v T s) ⟨(i,e),by rw [<- hpre,List.length_map,List.getElem?_append_right (Nat.le_refl _),Nat.sub_self]; rfl,rfl⟩ hJ hd') op_tinn1_3_7 rfl rfl rfl rfl fun v2 X2 hd2 hV => ?_
   simp only [cA,nA]
   obtain ⟨bb,rfl,hb1,hb2⟩ : ∃ bb,v2 = .bool bb /\ (bb = true -> J ((pre.map fun y : Nat × Nat × Nat => [ii (y.1 : Int),ev2 y.2]) ++ [[ii (i : Nat),ev2 e]]) X2) /\ (bb = false -> Jx ((pre.map fun y : Nat × Nat × Nat => [ii (y.1 : Int),ev2 y.2]) ++ [[ii (i : Nat),ev2 e]]) X2) := by
    rcases hV with ⟨rfl,h⟩ | ⟨rfl,h⟩
    ·exact ⟨true,rfl,fun _ => h,(fun h => nomatch h)⟩
    ·exact ⟨false,rfl,(fun h => nomatch h),fun _ => h⟩
   refine den_rq ⟨_,rfl⟩ ?_
   refine den_br (b := !bb) rfl (fun hbb => ?_) (fun hbb => ?_)
   ·exact den_ret rfl ⟨X2,_,PH.le.refl _,hd2,.inr ⟨_,trivial,hb2 (by simpa using hbb)⟩⟩
   ·exact ⟨(i + 1,pre ++ [(i,e)],X2),by show es.length - (i + 1) < es.length - i; omega,map1 (D_inc rfl (by omega)),⟨by show i + 1 <= es.length; omega,rfl,hd2,by rw [List.append_assoc]; exact hpre,by rw [List.map_append]; exact hb1 (by simpa using hbb)⟩⟩
  ·simp only [innL,hbit] at hpre
   exact ⟨(i + 1,pre,X'),by show es.length - (i + 1) < es.length - i; omega,map1 (D_inc rfl (by omega)),⟨by show i + 1 <= es.length; omega,rfl,hd',by simpa using hpre,hJ⟩⟩
 ·replace h := of_decide_eq_false h
  rw [List.drop_eq_nil_of_le (by omega)] at hpre
  simp only [innL,List.append_nil] at hpre
  exact den_ret rfl ⟨X',_,PH.le.refl _,hd',.inl ⟨_,by rw [List.length_map,hpre],hJ⟩⟩
end
end Go.Proofs.YtpdipcopnmiddaaGreatDoor


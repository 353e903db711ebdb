/- Chapter 32: draws of chance.Below. -/
import Derived.Test.YtpdipcopnmiddaaGreatDoorGwT
import Derived.Test.YtpdipcopnmiddaaGreatDoorGaD
import Derived.Test.YtpdipcopnmiddaaGreatDoorRzL
namespace Go.GS
open Go.RowKit Go.RX
def nxS (s : Nat) : Nat := (s + 11400714819323198485) % M64
def mixA (z : Nat) : Nat := (z ^^^ z / 2 ^ 30) * 13787848793156543929 % M64
def mixB (z : Nat) : Nat := (z ^^^ z / 2 ^ 27) * 10723151780598845931 % M64
def mixC (z : Nat) : Nat := z ^^^ z / 2 ^ 31
def drw (s : Nat) : Nat := mixC (mixB (mixA (nxS s)))
def nxN : Nat -> Nat -> Nat
 | 0,s => s
 | k + 1,s => nxS (nxN k s)
theorem m64_pos : 0 < M64 := by decide
theorem nxS_lt (s : Nat) : nxS s < M64 := Nat.mod_lt _ m64_pos
theorem nxN_lt {s : Nat} (hs : s < M64) : ∀ k,nxN k s < M64
 | 0 => hs
 | k + 1 => nxS_lt _
theorem xor_lt64 {a b : Nat} (ha : a < M64) (hb : b < M64) : a ^^^ b < M64 := Nat.xor_lt_two_pow (n := 64) ha hb
theorem div_lt64 {a k : Nat} (ha : a < M64) : a / 2 ^ k < M64 := Nat.lt_of_le_of_lt (Nat.div_le_self _ _) ha
theorem u64_xor {a b : Nat} (ha : a < M64) (hb : b < M64) : IntKind.u64.wrap ((BitVec.ofInt (IntKind.bits .u64) (a : Int) ^^^ BitVec.ofInt (IntKind.bits .u64) (b : Int)).toNat : Int) = ((a ^^^ b : Nat) : Int) := by
 have e : (BitVec.ofInt 64 (a : Int) ^^^ BitVec.ofInt 64 (b : Int)).toNat = a ^^^ b := by rw [BitVec.toNat_xor,bv_of ha,bv_of hb]
 show IntKind.u64.wrap ((BitVec.ofInt 64 (a : Int) ^^^ BitVec.ofInt 64 (b : Int)).toNat : Int) = _
 rw [e,IntKind.wrap_u64]
 have := xor_lt64 ha hb
 exact Int.emod_eq_of_lt (by omega) (by simp only [M64] at this; omega)
section
variable {P : Program} {ρ : List Value} {a b : SV} {A B : Nat}
theorem D_xoru (ha : D P ρ a = uv A) (hb : D P ρ b = uv B) (hA : A < M64) (hB : B < M64) : D P ρ (.op2 .xor .u64 a b) = uv (A ^^^ B) := by
 show binV .xor .u64 (intOf (D P ρ a)) (intOf (D P ρ b)) = _
 rw [ha,hb]
 show Value.int .u64 _ = .int .u64 _
 congr 1
 exact u64_xor hA hB
theorem D_mulw (ha : D P ρ a = uv A) (hb : D P ρ b = uv B) : D P ρ (.op2 .mul .u64 a b) = uv (A * B % M64) := by
 show binV .mul .u64 (intOf (D P ρ a)) (intOf (D P ρ b)) = _
 rw [ha,hb]
 show Value.int .u64 (IntKind.u64.wrap ((A : Int) * (B : Int))) = .int .u64 _
 rw [IntKind.wrap_u64]
 congr 1
theorem D_adduw (ha : D P ρ a = uv A) (hb : D P ρ b = uv B) : D P ρ (.op2 .add .u64 a b) = uv ((A + B) % M64) := by
 show binV .add .u64 (intOf (D P ρ a)) (intOf (D P ρ b)) = _
 rw [ha,hb]
 show Value.int .u64 (IntKind.u64.wrap ((A : Int) + (B : Int))) = .int .u64 _
 rw [IntKind.wrap_u64]
 congr 1
theorem D_mixA (ha : D P ρ a = uv A) (hA : A < M64) : D P ρ (.op2 .mul .u64 (.op2 .xor .u64 a (.op2 .shr .u64 a (.k (.int .u64 30)))) (.k (.int .u64 13787848793156543929))) = uv (mixA A) :=
 D_mulw (D_xoru ha (D_shrk ha rfl (by omega)) hA (div_lt64 hA)) rfl
theorem D_mixB (ha : D P ρ a = uv A) (hA : A < M64) : D P ρ (.op2 .mul .u64 (.op2 .xor .u64 a (.op2 .shr .u64 a (.k (.int .u64 27)))) (.k (.int .u64 10723151780598845931))) = uv (mixB A) :=
 D_mulw (D_xoru ha (D_shrk ha rfl (by omega)) hA (div_lt64 hA)) rfl
theorem D_mixC (ha : D P ρ a = uv A) (hA : A < M64) : D P ρ (.op2 .xor .u64 a (.op2 .shr .u64 a (.k (.int .u64 31)))) = uv (mixC A) := D_xoru ha (D_shrk ha rfl (by omega)) hA (div_lt64 hA)
end
theorem mixA_lt (z : Nat) : mixA z < M64 := Nat.mod_lt _ m64_pos
theorem mixB_lt (z : Nat) : mixB z < M64 := Nat.mod_lt _ m64_pos
end Go.GS
namespace Go.Proofs.YtpdipcopnmiddaaGreatDoor
open Go.RowKit Go.RX Go.GS
theorem fa_src : FA Tryz.prog 183 0 0 := ⟨by kernel_rfl,of_decide_eq_true (by kernel_rfl),by kernel_rfl,by kernel_rfl,of_decide_eq_true (by kernel_rfl)⟩
theorem fa_sta : FA Tryz.prog 181 0 0 := ⟨by kernel_rfl,of_decide_eq_true (by kernel_rfl),by kernel_rfl,by kernel_rfl,of_decide_eq_true (by kernel_rfl)⟩
theorem fa_cha : FA Tryz.prog 42 0 0 := ⟨by kernel_rfl,of_decide_eq_true (by kernel_rfl),by kernel_rfl,by kernel_rfl,of_decide_eq_true (by kernel_rfl)⟩
section
variable {H : PH} {b s : Nat} {T : TypeId}
theorem den_nc {G : Value -> PH -> Prop} {nx : List (List Value -> PH -> Prop)} {ρ : List Value} {t : Tree} {id i : Nat} {o : Oper} {x : Operand} {args : List SV} {ad : Addr} (ho : o.op = .nilCheck x) (hx : argEv [x] [.pointer (some ad)] x = .pointer (some ad)) (ha : args.map (D Tryz.prog ρ) = [.pointer (some ad)]) (n : den Tryz.prog G t nx (ρ ++ [.pointer (some ad)]) H) : den Tryz.prog G (.prim id i o args t) nx ρ H :=
 den_prim ((yld_nilCheck ho hx).rds H) ha n
theorem con_cnxt (hs : s < M64) (hb : H b = some (.cells #[uv s] T (0,0))) : Con Tryz.prog 135 [.pointer (some ⟨b,0,none⟩)] H fun u H' => u = uv (drw s) /\ H' = H.put b (.cells #[uv (nxS s)] T (0,0)) := by
 refine con_of_tree mixed tr_cnxt np_cnxt rfl ?_
 refine den_nc (ad := ⟨b,0,none⟩) op_cnxt_1_1 rfl rfl ?_
 simp only [cA,nA]
 refine den_fa fa_sta op_cnxt_1_2 rfl rfl ?_
 simp only [cA,nA]
 refine den_fa fa_cha op_cnxt_1_3 rfl rfl ?_
 simp only [cA,nA]
 refine den_ldS sc_u64 op_cnxt_1_4 rfl hb rfl rfl ?_
 simp only [cA,nA]
 refine den_rq ⟨_,rfl⟩ ?_
 refine den_nc (ad := ⟨b,0,none⟩) op_cnxt_1_6 rfl rfl ?_
 simp only [cA,nA]
 refine den_fa fa_sta op_cnxt_1_7 rfl rfl ?_
 simp only [cA,nA]
 refine den_fa fa_cha op_cnxt_1_8 rfl rfl ?_
 simp only [cA,nA]
 refine den_stS (u := uv (nxS s)) sc_u64 op_cnxt_1_9 rfl rfl hb (by simp) rfl rfl (map2 rfl (D_adduw rfl rfl)) (fun h => (nomatch h)) ?_
 simp only [cA,nA]
 have hb2 : (H.put b (.cells ((#[uv s] : Array Value).setIfInBounds 0 (uv (nxS s))) T (0,0))) b = some (.cells #[uv (nxS s)] T (0,0)) := PH.put_self _ _ _
 refine den_nc (ad := ⟨b,0,none⟩) op_cnxt_2_1 rfl rfl ?_
 simp only [cA,nA]
 refine den_fa fa_sta op_cnxt_2_2 rfl rfl ?_
 simp only [cA,nA]
 refine den_fa fa_cha op_cnxt_2_3 rfl rfl ?_
 simp only [cA,nA]
 refine den_ldS sc_u64 op_cnxt_2_4 rfl hb2 rfl rfl ?_
 simp only [cA,nA]
 have hn := nxS_lt s
 refine den_rq ⟨_,rfl⟩ ?_
 refine den_ret (v := uv (drw s)) ?_ ⟨rfl,rfl⟩
 exact D_mixC (D_mixB (D_mixA rfl hn) (mixA_lt _)) (mixB_lt _)
end
theorem ent_ccan1 : entB Tryz.prog 157 = true := by kernel_rfl
theorem ent_cnxt : entB Tryz.prog 135 = true := by kernel_rfl
theorem sc_fu : Sc Tryz.prog 199 := ⟨by kernel_rfl,by kernel_rfl,by kernel_rfl⟩
def fnx (b : Nat) : Value := .func (.func 135) #[.pointer (some ⟨b,0,none⟩)] #[]
def kbx (c b : Nat) (Tf Ts : TypeId) (s k : Nat) : PH := (PH.nil.put c (.cells #[fnx b] Tf (0,0))).put b (.cells #[uv (nxN k s)] Ts (0,0))
section
variable {c b s : Nat} {Tf Ts : TypeId}
theorem kbx_b (k : Nat) : kbx c b Tf Ts s k b = some (.cells #[uv (nxN k s)] Ts (0,0)) := PH.put_self _ _ _
theorem kbx_c (h : c ≠ b) (k : Nat) : kbx c b Tf Ts s k c = some (.cells #[fnx b] Tf (0,0)) := by unfold kbx; rw [PH.put_ne _ _ h]; exact PH.put_self _ _ _
theorem kbx_next {X : PH} (k : Nat) (h : X b = none) : (X.or (kbx c b Tf Ts s k)).put b (.cells #[uv (nxN (k + 1) s)] Ts (0,0)) = X.or (kbx c b Tf Ts s (k + 1)) := by
 rw [PH.or_put h]; unfold kbx; rw [PH.put_put]
theorem kbx_disj {X : PH} {k j : Nat} (h : Disj X (kbx c b Tf Ts s k)) : Disj X (kbx c b Tf Ts s j) := fun x hx => by
 have := h x hx
 unfold kbx PH.put at this ⊢
 split at this
 ·cases this
 ·rename_i e; rw [if_neg e]; exact this
theorem itc_cand {Ro : PH} (hs : s < M64) (hcb : c ≠ b) : ItC Tryz.prog 157 [.pointer (some ⟨c,0,none⟩)] Ro (kbx c b Tf Ts s 0) (fun pre xs => pre.length < 200 /\ xs = [uv (drw (nxN pre.length s))])
  (fun xs K' => xs.length = 200 /\ K' = kbx c b Tf Ts s 200) (fun pre K' => K' = kbx c b Tf Ts s pre.length) := by
 intro l J Jx hRo hr X hX hd w hw
 refine (con_of_tree (H := X.or (kbx c b Tf Ts s 0)) (V := fun _ H' => ∃ X' K',PH.le (X'.or K') H' /\ Disj X' K' /\ ((∃ xs,(xs.length = 200 /\ K' = kbx c b Tf Ts s 200) /\ J xs X') \/ (∃ pre,K' = kbx c b Tf Ts s pre.length /\ Jx pre X'))) mixed tr_ccan1 np_ccan1 rfl ?_ w hw).mono fun e w' ⟨v,H',he,hst,hV⟩ => ⟨v,H',he,hst,hV⟩
 refine den_loopV (α := Nat × List (List Value) × PH) (fun a => [ii (a.1 : Nat)]) (fun a H' => a.1 <= 200 /\ H' = a.2.2.or (kbx c b Tf Ts s a.1) /\ Disj a.2.2 (kbx c b Tf Ts s a.1) /\ a.2.1.length = a.1 /\ J a.2.1 a.2.2) (fun a => 200 - a.1) (0,[],X)
  rfl ⟨Nat.zero_le _,rfl,hd,rfl,hX⟩ fun a H' hQ => ?_
 obtain ⟨k,pre,X'⟩ := a
 obtain ⟨hk,rfl,hd',hpre,hJ⟩ := hQ
 simp only at hk hd' hpre hJ
 simp only [cA,nA]
 refine den_rq ⟨_,rfl⟩ ?_
 refine den_br (b := decide (((k : Nat) : Int) < 200)) rfl (fun h => ?_) (fun h => ?_)
 ·replace h := of_decide_eq_true h
  have hXb : X' b = none := Disj.none hd' (b := b) (by rw [kbx_b]; exact fun h => nomatch h)
  refine den_ldS sc_fu op_ccan1_2_1 rfl (PH.or_right hd' (kbx_c hcb k)) (u := fnx b) rfl rfl ?_
  simp only [cA,nA]
  have hcon := con_cnxt (b := b) (nxN_lt hs k) (PH.or_right hd' (kbx_b k))
  refine den_eff (Go.RZ.opn_callw (P := Tryz.prog) (ws := []) (bs := #[.pointer (some ⟨b,0,none⟩)]) (caps := #[]) (vs := [fnx b]) op_ccan1_2_2 rfl rfl ent_cnxt hcon) rfl fun u H2 ⟨hu,hH2⟩ => ⟨fun h => (nomatch h),?_⟩
  subst hu
  rw [show nxS (nxN k s) = nxN (k + 1) s from rfl,kbx_next k hXb] at hH2
  subst hH2
  simp only [cA,nA]
  refine den_yield (hr _ [uv (drw (nxN pre.length s))] X' (kbx c b Tf Ts s (k + 1)) ⟨by omega,rfl⟩ hJ (kbx_disj hd')) op_ccan1_2_3 rfl rfl (by rw [hpre]; rfl) rfl fun v X2 hd2 hV => ?_
  simp only [cA,nA]
  obtain ⟨bb,rfl,hb1,hb2⟩ : ∃ bb,v = .bool bb /\ (bb = true -> J (pre ++ [[uv (drw (nxN pre.length s))]]) X2) /\ (bb = false -> Jx (pre ++ [[uv (drw (nxN pre.length s))]]) X2) := by
   rcases hV with ⟨rfl,h⟩ | ⟨rfl,h⟩
   ·exact ⟨true,rfl,fun _ => h,(fun h => nomatch h)⟩
   ·exact ⟨false,rfl,(fun h => nomatch h),fun _ => h⟩
  refine den_rq ⟨_,rfl⟩ ?_
  refine den_br (b := !bb) rfl (fun hbb => ?_) (fun hbb => ?_)
  ·exact den_ret rfl ⟨X2,_,PH.le.refl _,hd2,.inr ⟨_,by rw [List.length_append,hpre]; rfl,hb2 (by simpa using hbb)⟩⟩
  ·exact ⟨(k + 1,pre ++ [[uv (drw (nxN pre.length s))]],X2),by show 200 - (k + 1) < 200 - k; omega,map1 (D_inc rfl (by omega)),⟨by show k + 1 <= 200; omega,rfl,hd2,by simp [hpre],hb1 (by simpa using hbb)⟩⟩
 ·replace h := of_decide_eq_false h
  have hk2 : k = 200 := by omega
  subst hk2
  exact den_ret rfl ⟨X',_,PH.le.refl _,hd',.inl ⟨_,⟨hpre,rfl⟩,hJ⟩⟩
end
end Go.Proofs.YtpdipcopnmiddaaGreatDoor

/- Chapter 32: chance.Below. -/
namespace Go.GS
open Go.RowKit Go.RX
theorem nxN_nx (s : Nat) : ∀ k,nxN k (nxS s) = nxS (nxN k s)
 | 0 => rfl
 | k + 1 => by show nxS (nxN k (nxS s)) = _; rw [nxN_nx s k]; rfl
def restB (n : Nat) : Nat := (M64 - n) % M64 % n
def accB (n x : Nat) : Bool := decide (x <= ((M64 - restB n) % M64 + (M64 - 1)) % M64) || decide (restB n = 0)
def belF (n : Nat) : Nat -> Nat -> Option (Nat × Nat)
 | 0,_ => none
 | f + 1,s => if accB n (drw s) then some (drw s % n,nxS s) else belF n f (nxS s)
theorem belF_at (n : Nat) : ∀ (k f s : Nat),(∀ j,j < k -> accB n (drw (nxN j s)) = false) -> accB n (drw (nxN k s)) = true -> k < f -> belF n f s = some (drw (nxN k s) % n,nxN (k + 1) s) := by
 intro k
 induction k with
 | zero =>
  intro f s _ h hf
  obtain ⟨f,rfl⟩ : ∃ g,f = g + 1 := ⟨f - 1,by omega⟩
  have h : accB n (drw s) = true := h
  rw [show nxN (0 + 1) s = nxS s from rfl,show nxN 0 s = s from rfl]
  simp only [belF,h,if_true]
 | succ k ih =>
  intro f s h0 h hf
  obtain ⟨f,rfl⟩ : ∃ g,f = g + 1 := ⟨f - 1,by omega⟩
  have h1 : accB n (drw s) = false := h0 0 (by omega)
  simp only [belF,h1,Bool.false_eq_true,if_false]
  have := ih f (nxS s) (fun j hj => by rw [nxN_nx]; exact h0 (j + 1) (by omega)) (by rw [nxN_nx]; exact h) (by omega)
  rw [this,nxN_nx s k,nxN_nx s (k + 1)]
  rw [show nxN (k + 1) s = nxS (nxN k s) from rfl,show nxN (k + 1 + 1) s = nxS (nxS (nxN k s)) from rfl]
set_option maxRecDepth 100000 in
theorem belF_none (n : Nat) : ∀ (f s : Nat),(∀ j,j < f -> accB n (drw (nxN j s)) = false) -> belF n f s = none
 | 0,_,_ => rfl
 | f + 1,s,h => by
  have h1 : accB n (drw s) = false := h 0 (by omega)
  simp only [belF,h1,Bool.false_eq_true,if_false]
  exact belF_none n f (nxS s) fun j hj => by rw [nxN_nx]; exact h (j + 1) (by omega)
set_option maxRecDepth 100000 in
theorem belF_lt {n x t : Nat} (hn : 0 < n) : ∀ {f s},belF n f s = some (x,t) -> x < n /\ t < M64
 | 0,s,h => by simp [belF] at h
 | f + 1,s,h => by
  simp only [belF] at h
  split at h
  ·simp only [Option.some.injEq,Prod.mk.injEq] at h
   obtain ⟨rfl,rfl⟩ := h
   exact ⟨Nat.mod_lt _ hn,nxS_lt s⟩
  ·exact belF_lt hn h
section
variable {P : Program} {ρ : List Value} {a b : SV} {A B : Nat}
theorem D_remu (ha : D P ρ a = uv A) (hb : D P ρ b = uv B) : D P ρ (.op2 .rem .u64 a b) = uv (A % B) := by
 show binV .rem .u64 (intOf (D P ρ a)) (intOf (D P ρ b)) = _
 rw [ha,hb]
 show Value.int .u64 (Int.tmod (A : Int) (B : Int)) = .int .u64 _
 rw [<- Int.ofNat_tmod]
theorem D_leu (ha : D P ρ a = uv A) (hb : D P ρ b = uv B) : D P ρ (.op2 .leq .u64 a b) = .bool (decide (A <= B)) := by
 show binV .leq .u64 (intOf (D P ρ a)) (intOf (D P ρ b)) = _
 rw [ha,hb]
 show Value.bool (decide ((A : Int) <= (B : Int))) = _
 exact congrArg Value.bool (decide_eq_decide.2 (by omega))
theorem D_eqlu (ha : D P ρ a = uv A) (hb : D P ρ b = uv B) : D P ρ (.op2 .eql .u64 a b) = .bool (decide (A = B)) := by
 show binV .eql .u64 (intOf (D P ρ a)) (intOf (D P ρ b)) = _
 rw [ha,hb]
 show Value.bool ((A : Int) == (B : Int)) = _
 congr 1
 rw [Bool.eq_iff_iff,beq_iff_eq,decide_eq_true_iff]
 omega
theorem D_dec (ha : D P ρ a = uv A) (hA : A < M64) : D P ρ (.op2 .sub .u64 a (.k (.int .u64 1))) = uv ((A + (M64 - 1)) % M64) := by
 show binV .sub .u64 (intOf (D P ρ a)) 1 = _
 rw [ha]
 show Value.int .u64 (IntKind.u64.wrap ((A : Int) - 1)) = .int .u64 _
 rw [IntKind.wrap_u64]
 congr 1
 simp only [M64] at *
 omega
end
end Go.GS
namespace Go.Proofs.YtpdipcopnmiddaaGreatDoor
open Go.RowKit Go.RX Go.GS
def cutB (H : PH) (b : Nat) : PH := fun k => if k = b then none else H k
theorem cutB_kbx {H : PH} {b c s : Nat} {Tf Ts : TypeId} (hb : H b = some (.cells #[uv s] Ts (0,0))) (hc : H c = none) : H.put c (.cells #[fnx b] Tf (0,0)) = (cutB H b).or (kbx c b Tf Ts s 0) := by
 funext k
 unfold PH.or cutB kbx PH.put PH.nil
 by_cases e : k = b
 ·subst e
  have : ¬ k = c := fun h => by subst h; rw [hc] at hb; cases hb
  simp only [if_neg this,if_true]; exact hb
 ·by_cases e2 : k = c
  ·subst e2; simp only [if_neg e,if_true,hc]
  ·simp only [if_neg e,if_neg e2]; cases H k <;> rfl
theorem cutB_disj {H : PH} {b c s : Nat} {Tf Ts : TypeId} (hc : H c = none) : Disj (cutB H b) (kbx c b Tf Ts s 0) := fun k hk => by
 unfold cutB at hk
 unfold kbx PH.put PH.nil
 by_cases e : k = b
 ·rw [if_pos e] at hk; exact absurd rfl hk
 ·rw [if_neg e] at hk
  rw [if_neg e,if_neg (fun h => by subst h; exact hk hc)]
section
variable {H : PH} {b s n : Nat} {Ts : TypeId}
theorem con_ccan : Con Tryz.prog 136 [fnx b] H fun u H' => ∃ c,H c = none /\ H' = H.put c (.cells #[fnx b] 199 (0,0)) /\ u = .func (.func 157) #[] #[.pointer (some ⟨c,0,none⟩)] := by
 refine con_of_tree mixed tr_ccan np_ccan rfl ?_
 refine den_rq ⟨rfl,fun x hx => by simp [fnx,Value.cells,D] at hx; subst hx; rfl⟩ ?_
 refine den_pub (cs := #[fnx b]) rfl fun c hc => ?_
 simp only [cA,nA]
 refine den_run (run_makeFunc (vs := [.pointer (some ⟨c,0,none⟩)]) op_ccan_1_0 rfl) rfl ?_
 simp only [cA,nA]
 exact den_ret rfl ⟨c,hc,rfl,rfl⟩
def belV (n s : Nat) (r : Option (Nat × Nat)) : Value × Nat := match r with
 | some (x,t) => (.tuple #[uv x,ii 0],t)
 | none => (.tuple #[uv 0,ii 9],nxN 200 s)
theorem z_err : zeroV Tryz.prog 32 = ii 0 := by kernel_rfl
set_option maxHeartbeats 1000000 in
theorem con_csbe (hs : s < M64) (hn0 : 0 < n) (hn : n < M64) (hb : H b = some (.cells #[uv s] Ts (0,0))) : Con Tryz.prog 111 [.pointer (some ⟨b,0,none⟩),uv n] H fun u H' => u = (belV n s (belF n 200 s)).1 /\ PH.le (cutB H b) H' /\ H' b = some (.cells #[uv (belV n s (belF n 200 s)).2] Ts (0,0)) := by
 refine con_of_tree mixed tr_csbe np_csbe rfl ?_
 refine den_rq (el_u64.vcells n) ?_
 refine den_nc (ad := ⟨b,0,none⟩) op_csbe_1_1 rfl rfl ?_
 simp only [cA,nA]
 refine den_fa fa_src op_csbe_1_2 rfl rfl ?_
 simp only [cA,nA]
 refine den_run (v := fnx b) (vs := [.pointer (some ⟨b,0,none⟩)]) (fun w => ?_) rfl ?_
 ·have hos : (opr Tryz.f111 1 3).op.operands.toList = [.tmp 11] := by rw [op_csbe_1_3]; rfl
  unfold Stp
  rw [hos]
  simp only [execOp,op_csbe_1_3,Sem.run_bind,Instr.makeFunc,Sem.run_pure,Result.andThen_ok]
  exact ⟨by simp [fnx,argEv,findT],Ext.refl _⟩
 simp only [cA,nA]
 refine den_rq ⟨_,rfl⟩ ?_
 refine den_rq (by show ((n : Nat) : Int) ≠ 0; omega) ?_
 refine den_call (con_ccan (b := b)) rfl fun u H1 ⟨c,hc,hH1,hu⟩ => ⟨fun h => (nomatch h),?_⟩
 subst hu
 simp only [cA,nA]
 rw [cutB_kbx hb hc] at hH1
 subst hH1
 have hcb : c ≠ b := fun h => by subst h; rw [hc] at hb; cases hb
 have hr : restB n < M64 := Nat.lt_of_le_of_lt (Nat.mod_le _ _) (Nat.mod_lt _ m64_pos)
 have dN : ∀ {ρ : List Value} {y : SV},D Tryz.prog ρ y = uv n -> D Tryz.prog ρ (.op2 .rem .u64 (.op1 .neg .u64 y) y) = uv (restB n) := fun h => D_remu (D_negu h hn) h
 have dL : ∀ {ρ : List Value} {y : SV},D Tryz.prog ρ y = uv n -> D Tryz.prog ρ (.op2 .sub .u64 (.op1 .neg .u64 (.op2 .rem .u64 (.op1 .neg .u64 y) y)) (.k (.int .u64 1))) = uv (((M64 - restB n) % M64 + (M64 - 1)) % M64) := fun h => D_dec (D_negu (dN h) hr) (Nat.mod_lt _ m64_pos)
 refine den_rf (X := cutB H b) (K := kbx c b 199 Ts s 0) (Ro := PH.nil) (fun pre vals X' => X' = cutB H b /\ vals = [uv 0,ii 0] /\ ∀ j,j < pre.length -> accB n (drw (nxN j s)) = false)
  (fun pre vals X' => X' = cutB H b /\ ∃ k,k < 200 /\ pre.length = k + 1 /\ (∀ j,j < k -> accB n (drw (nxN j s)) = false) /\ accB n (drw (nxN k s)) = true /\ vals = [uv (drw (nxN k s) % n),ii 0]) (itc_cand hs hcb) ent_ccan1 (cutB_disj hc) rfl (fun _ _ _ _ x o hx => by cases hx)
  ⟨rfl,by show [zeroV Tryz.prog _,zeroV Tryz.prog _] = _; rw [z_u64,z_err],fun j hj => absurd hj (Nat.not_lt_zero _)⟩ ?_ ?_ ?_
 ·intro pre xs vals X' hE hv hI
  obtain ⟨rfl,rfl,hacc⟩ := hI
  obtain ⟨hlt,hE⟩ := hE
  subst hE
  refine ⟨rfl,?_⟩
  simp only [cA,nA]
  refine den_rq ⟨_,rfl⟩ ?_
  have hx : ∀ {ρ : List Value},D Tryz.prog ρ (.cell (.v 1) 0 0 noI) = uv n -> D Tryz.prog ρ (.v 6) = uv (drw (nxN pre.length s)) -> D Tryz.prog ρ (.op2 .rem .u64 (.v 6) (.cell (.v 1) 0 0 noI)) = uv (drw (nxN pre.length s) % n) := fun h1 h2 => D_remu h2 h1
  refine den_br (b := decide (drw (nxN pre.length s) <= ((M64 - restB n) % M64 + (M64 - 1)) % M64)) (D_leu rfl (dL rfl)) (fun h => ?_) (fun h => ?_)
  ·exact ⟨rfl,pre.length,hlt,by simp,hacc,by unfold accB; rw [h]; rfl,map2 (hx rfl rfl) rfl⟩
  ·refine den_br (b := decide (restB n = 0)) (D_eqlu (dN rfl) rfl) (fun h2 => ?_) (fun h2 => ?_)
   ·exact ⟨rfl,pre.length,hlt,by simp,hacc,by unfold accB; rw [h2,Bool.or_true],map2 (hx rfl rfl) rfl⟩
   ·refine ⟨rfl,rfl,fun j hj => ?_⟩
    simp only [List.length_append,List.length_cons,List.length_nil] at hj
    by_cases e : j = pre.length
    ·subst e; unfold accB; rw [h,h2]; rfl
    ·exact hacc j (by omega)
 ·intro xs vals X' K' hS _ _ hI
  obtain ⟨rfl,rfl,hacc⟩ := hI
  obtain ⟨hl,rfl⟩ := hS
  have hf : belF n 200 s = none := belF_none n 200 s fun j hj => hacc j (by omega)
  rw [hf]
  refine den_ret rfl ⟨rfl,PH.le_or _ _,?_⟩
  exact PH.or_right (kbx_disj (cutB_disj hc)) (kbx_b 200)
 ·intro pre vals X' K' hS _ _ hI
  obtain ⟨rfl,k,hk2,hk,h0,h1,rfl⟩ := hI
  subst hS
  have hf := belF_at n k 200 s h0 h1 hk2
  rw [hf]
  refine den_ret rfl ⟨rfl,PH.le_or _ _,?_⟩
  rw [hk]
  exact PH.or_right (kbx_disj (cutB_disj hc)) (kbx_b (k + 1))
end
end Go.Proofs.YtpdipcopnmiddaaGreatDoor

/- Chapter 32: chance.Below returns what belF says. -/
namespace Go.Proofs.YtpdipcopnmiddaaGreatDoor
open Go.RowKit Go.RX Go.GS
def chV (s : Nat) : Value := .agg #[uv s]
def belowV (s : Nat) (z : Int) : Value := if z < 1 then .tuple #[ii 0,chV 0,ii 2] else match belF z.toNat 200 s with
 | some (x,t) => .tuple #[ii (x : Nat),chV t,ii 0]
 | none => .tuple #[ii 0,chV 0,ii 9]
theorem z_cha : zeroV Tryz.prog 42 = chV 0 := by kernel_rfl
theorem ag_cha : Ag Tryz.prog 42 1 := ⟨by kernel_rfl,by kernel_rfl,by kernel_rfl⟩
section
variable {H : PH} {s : Nat} {z : Int}
theorem chV_one (s : Nat) : (chV s).cells.size = 1 /\ oneAll (chV s).cells := ⟨rfl,fun c hc => by simp [chV,Value.cells] at hc; subst hc; rfl⟩
theorem con_cfrm : Con Tryz.prog 110 [chV s] H fun u H' => ∃ b,H b = none /\ H' = H.put b (.cells #[uv s] 183 (0,0)) /\ u = .pointer (some ⟨b,0,none⟩) := by
 refine con_of_tree mixed tr_cfrm np_cfrm rfl ?_
 refine den_rq (chV_one s) ?_
 refine den_pub (cs := #[uv s]) rfl fun b hb => ?_
 simp only [cA,nA]
 exact den_ret rfl ⟨b,hb,rfl,rfl⟩
theorem give_cBel (hs : s < M64) (hz : z < 9223372036854775808) : Give Tryz.prog 80 [chV s,ii z] H (belowV s z) := by
 refine con_of_tree mixed tr_cBel np_cBel rfl ?_
 refine den_rq (chV_one s) ?_
 refine den_rq ⟨_,rfl⟩ ?_
 refine den_br (b := decide (z < 1)) rfl (fun h => ?_) (fun h => ?_)
 ·replace h := of_decide_eq_true h
  refine den_ret ?_ ⟨PH.le.refl _,by unfold belowV; rw [if_pos h]⟩
  show Value.tuple #[ii 0,zeroV Tryz.prog _,ii 2] = _
  rw [z_cha]
 ·replace h := of_decide_eq_false h
  obtain ⟨n,rfl⟩ : ∃ n : Nat,z = (n : Int) := ⟨z.toNat,by omega⟩
  have hn0 : 0 < n := by omega
  have hn : n < M64 := by simp only [M64]; omega
  refine den_call con_cfrm rfl fun u H1 ⟨b,hb,hH1,hu⟩ => ⟨fun h => (nomatch h),?_⟩
  subst hu
  simp only [cA,nA]
  have hb1 : H1 b = some (.cells #[uv s] 183 (0,0)) := by rw [hH1]; exact PH.put_self _ _ _
  have hle : PH.le H (cutB H1 b) := fun k o hk => by
   unfold cutB
   rw [if_neg (fun e => by subst e; rw [hb] at hk; cases hk),hH1,PH.put_ne _ _ (fun e => by subst e; rw [hb] at hk; cases hk)]
   exact hk
  refine den_call (con_csbe (b := b) hs hn0 hn hb1) (map2 rfl (D_cvu rfl hn)) fun u H2 ⟨hu,hl2,hb2⟩ => ⟨fun h => (nomatch h),?_⟩
  have hl := hle.trans hl2
  have hbv : belowV s ((n : Nat) : Int) = match belF n 200 s with | some (x,t) => .tuple #[ii (x : Nat),chV t,ii 0] | none => .tuple #[ii 0,chV 0,ii 9] := by
   unfold belowV; rw [if_neg h,Int.toNat_natCast]
  rw [hbv]
  cases hf : belF n 200 s with
  | none =>
   rw [hf] at hu
   subst hu
   simp only [cA,nA]
   refine den_rq ⟨_,rfl,by decide⟩ ?_
   refine den_rq ⟨_,rfl,by decide⟩ ?_
   refine den_rq ⟨_,rfl⟩ ?_
   refine den_true rfl ?_
   refine den_ret ?_ ⟨hl,rfl⟩
   show Value.tuple #[ii 0,zeroV Tryz.prog _,ii 9] = _
   rw [z_cha]
  | some p =>
   obtain ⟨x,t⟩ := p
   obtain ⟨hx,ht⟩ := belF_lt hn0 hf
   rw [hf] at hu hb2
   subst hu
   simp only [cA,nA]
   refine den_rq ⟨_,rfl,by simp [belV]⟩ ?_
   refine den_rq ⟨_,rfl,by simp [belV]⟩ ?_
   refine den_rq ⟨_,rfl⟩ ?_
   refine den_false rfl ?_
   refine den_rq ⟨_,rfl⟩ ?_
   refine den_nc (ad := ⟨b,0,none⟩) op_cBel_7_3 rfl rfl ?_
   simp only [cA,nA]
   refine den_fa fa_src op_cBel_7_4 rfl rfl ?_
   simp only [cA,nA]
   refine den_fa fa_sta op_cBel_7_5 rfl rfl ?_
   simp only [cA,nA]
   refine den_ldA (vs := [uv t]) ag_cha op_cBel_7_6 rfl hb2 rfl (by simp) rfl ?_
   simp only [cA,nA]
   refine den_rq (chV_one t) ?_
   refine den_ret ?_ ⟨hl,rfl⟩
   show Value.tuple #[.int .i64 (IntKind.i64.wrap ((x : Nat) : Int)),chV t,ii 0] = _
   rw [wrap_n (by omega)]; rfl
end
end Go.Proofs.YtpdipcopnmiddaaGreatDoor


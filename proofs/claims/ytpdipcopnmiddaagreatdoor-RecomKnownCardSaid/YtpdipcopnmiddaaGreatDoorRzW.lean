/- Concrete runs: what the evaluator leans on, for this program. -/
import Derived.Test.YtpdipcopnmiddaaGreatDoorRzU
import Derived.Test.YtpdipcopnmiddaaGreatDoorRzM
import Derived.Test.YtpdipcopnmiddaaGreatDoorGaD
import Derived.Test.YtpdipcopnmiddaaGreatDoorWdL
import Derived.Test.YtpdipcopnmiddaaGreatDoorRzV
namespace Go.GS
theorem tzR_ok : ∀ (n s : Nat),s ≠ 0 -> s < 2 ^ n -> Go.Proofs.YtpdipcopnmiddaaGreatDoor.tzR n s < n /\ s.testBit (Go.Proofs.YtpdipcopnmiddaaGreatDoor.tzR n s) = true /\ ∀ y,y < Go.Proofs.YtpdipcopnmiddaaGreatDoor.tzR n s -> s.testBit y = false
 | 0,s,h,hs => by simp at hs; omega
 | n + 1,s,h,hs => by
  rw [Nat.pow_succ] at hs
  unfold Go.Proofs.YtpdipcopnmiddaaGreatDoor.tzR
  cases hb : Nat.beq (Nat.mod s 2) 1 with
  | true =>
   have hm : s % 2 = 1 := Nat.eq_of_beq_eq_true hb
   simp only [cond_true]
   exact ⟨by omega,by rw [Nat.testBit_zero]; simp [hm],fun y hy => by omega⟩
  | false =>
   have hm : s % 2 ≠ 1 := fun e => by rw [show Nat.mod s 2 = 1 from e] at hb; simp at hb
   have hd : s / 2 ≠ 0 := by omega
   obtain ⟨h1,h2,h3⟩ := tzR_ok n (s / 2) hd (by omega)
   simp only [cond_false]
   refine ⟨Nat.succ_lt_succ h1,?_,fun y hy => ?_⟩
   ·rw [Nat.succ_eq_add_one,Nat.testBit_succ]; exact h2
   ·cases y with
    | zero => rw [Nat.testBit_zero]; simp [hm]
    | succ y => rw [Nat.testBit_succ]; exact h3 y (Nat.lt_of_succ_lt_succ hy)
theorem tzR_tz {s : Nat} (h : s ≠ 0) (hs : s < M64) : Go.Proofs.YtpdipcopnmiddaaGreatDoor.tzR 64 s = Go.Proofs.YtpdipcopnmiddaaGreatDoor.tz s := by
 obtain ⟨h1,h2,h3⟩ := tzR_ok 64 s h hs
 unfold Go.Proofs.YtpdipcopnmiddaaGreatDoor.tz
 cases he : els s with
 | nil => exact absurd (els_nil hs he) h
 | cons x r =>
  obtain ⟨b1,b2,b3⟩ := least_of he
  show _ = x
  rcases Nat.lt_trichotomy (Go.Proofs.YtpdipcopnmiddaaGreatDoor.tzR 64 s) x with hlt | heq | hgt
  ·have := b3 _ hlt; unfold bit at this; rw [h2] at this; cases this
  ·exact heq
  ·have := h3 _ hgt; unfold bit at b1; rw [b1] at this; cases this
end Go.GS
namespace Go.RZ
open Go.RowKit Go.RX Go.GS
def cutP (H : PH) (b : Nat) : PH := fun k => if k = b then none else H k
theorem Inv.cut {P : Program} {σ : Rl} {s : S} {wm k : Nat} {H0 H : PH} {o : AO} (h : Inv P σ s wm H0 H) (hk : s.get k = some o) (hw : wm <= k) : Inv P σ (s.del k) wm H0 (cutP H (σ k).1) := by
 have h' := h.del k
 refine ⟨fun {j o'} hj => ?_,fun hi hj he => h'.inj hi hj he,fun b x hb => ?_,fun hj hwj => h'.fr hj hwj⟩
 ·obtain ⟨h1,h2,h3⟩ := h'.ob hj
  refine ⟨h1,h2,RO.ext (fun _ _ => rfl) h1 ?_ h2 h3⟩
  unfold cutP
  rw [if_neg]
  intro e
  rw [S.get_del] at hj
  split at hj
  ·cases hj
  ·rename_i hjk; exact hjk (h.inj hj hk e)
 ·unfold cutP
  rw [if_neg]
  ·exact h.le _ _ hb
  ·intro e; subst e; rw [h.fr hk hw] at hb; cases hb
theorem cut_or {H : PH} {b : Nat} {ob : Obj} (h : H b = some ob) : H = (cutP H b).or (PH.nil.put b ob) := by
 funext k
 unfold PH.or cutP PH.put PH.nil
 by_cases e : k = b
 ·subst e; simp [h]
 ·simp only [if_neg e]; cases H k <;> rfl
theorem cut_disj {H : PH} {b : Nat} {ob : Obj} : Disj (cutP H b) (PH.nil.put b ob) := fun k hk => by
 unfold cutP at hk
 unfold PH.put PH.nil
 by_cases e : k = b
 ·rw [if_pos e] at hk; exact absurd rfl hk
 ·rw [if_neg e]
theorem cut2_or {H : PH} {b j : Nat} {ob oj : Obj} (hbj : b ≠ j) (h : H b = some ob) (h' : H j = some oj) : H = (cutP (cutP H b) j).or ((PH.nil.put b ob).put j oj) := by
 funext k
 unfold PH.or cutP PH.put PH.nil
 by_cases e : k = j
 ·subst e; simp [h']
 ·by_cases e2 : k = b
  ·subst e2; simp [e,h]
  ·simp only [if_neg e,if_neg e2]; cases H k <;> rfl
theorem cut2_disj {H : PH} {b j : Nat} {ob oj : Obj} : Disj (cutP (cutP H b) j) ((PH.nil.put b ob).put j oj) := fun k hk => by
 unfold cutP at hk
 unfold PH.put PH.nil
 by_cases e : k = j
 ·rw [if_pos e] at hk; exact absurd rfl hk
 ·rw [if_neg e] at hk
  by_cases e2 : k = b
  ·rw [if_pos e2] at hk; exact absurd rfl hk
  ·rw [if_neg e,if_neg e2]
end Go.RZ
namespace Go.Proofs.YtpdipcopnmiddaaGreatDoor
open Go.RowKit Go.RX Go.GS Go.RZ
theorem kty_ok : ∀ t,kty t = true -> KeyT Tryz.prog t := fun t h => by
 have big : 6 <= (Tryz.prog).types.size + 1 := of_decide_eq_true (by kernel_rfl)
 simp only [kty,Bool.or_eq_true] at h
 rcases h with ((h | h) | h) | h <;> obtain rfl := beqp h <;> exact ⟨by kernel_rfl,by kernel_rfl,by kernel_rfl,by kernel_rfl,by kernel_rfl,big⟩
theorem own_ok : ∀ g vs v,own g vs = some v -> ∀ σ,Own Tryz.prog g (rzs σ vs) (rz σ v) /\ ∀ n,lts n vs -> lt n v := fun g vs v h σ => by
 unfold own at h
 split at h
 ·rename_i x y c
  cases hc : Nat.blt x 18446744073709551616 && Nat.blt y 18446744073709551616 && Nat.ble c 1 with
  | false => rw [hc] at h; cases h
  | true =>
   rw [hc] at h
   simp only [cond_true] at h
   simp only [Bool.and_eq_true] at hc
   obtain ⟨⟨h1,h2⟩,h3⟩ := hc
   cases ha : Nat.beq g 165 with
   | true =>
    rw [ha] at h
    simp only [cond_true,Option.some.injEq] at h; subst h
    rw [beqp ha]
    exact ⟨by simp only [rzs,rz]; exact own_add64 x y c (bltp h1) (bltp h2) (blep h3),fun n _ => by simp [lt,lts]⟩
   | false =>
    rw [ha] at h
    simp only [cond_false] at h
    cases hs : Nat.beq g 155 with
    | true =>
     rw [hs] at h
     simp only [cond_true,Option.some.injEq] at h; subst h
     rw [beqp hs]
     refine ⟨?_,fun n _ => by simp [lt,lts]⟩
     have := own_sub64 x y c (blep h3)
     have e : (bif Nat.blt x (Nat.add y c) then 1 else 0) = (if x < y + c then 1 else 0) := by
      by_cases hh : x < y + c
      ·rw [if_pos hh,show Nat.blt x (Nat.add y c) = true from by simpa [Nat.blt_eq] using hh]; rfl
      ·rw [if_neg hh,show Nat.blt x (Nat.add y c) = false from Bool.eq_false_iff.2 fun e => hh (bltp e)]; rfl
     simp only [rzs,rz,e]
     exact this
    | false => rw [hs] at h; cases h
 ·cases h
theorem cond_some {α : Type} {b : Bool} {x y : Option α} {v : α} (h : (bif b then x else y) = some v) : (b = true /\ x = some v) \/ (b = false /\ y = some v) := by
 cases b
 ·exact .inr ⟨rfl,h⟩
 ·exact .inl ⟨rfl,h⟩
def Orc (K0 : PH) (g : FuncId) (vs : List AV) (v : AV) : Prop := ∀ σ H,PH.le K0 H -> (Con Tryz.prog g (rzs σ vs) H fun u H' => u = rz σ v /\ H' = H) /\ ∀ n,lt n v
theorem or_tz {K0 : PH} (hT : Tb K0) {vs : List AV} {v : AV} (h : orTz vs = some v) : Orc K0 79 vs v := fun σ H hl => by
 unfold orTz at h
 split at h
 ·rename_i s
  rcases cond_some h with ⟨hc,h'⟩ | ⟨_,h'⟩
  ·simp only [Bool.and_eq_true] at hc
   have h0 : s ≠ 0 := by have := bltp hc.1; omega
   have hs : s < M64 := bltp hc.2
   simp only [Option.some.injEq] at h'; subst h'
   refine ⟨(con_tz (hT.mono hl) hs).mono fun u H' ⟨h1,h2⟩ => ⟨?_,h1⟩,fun n => by simp [lt]⟩
   rw [h2,<- tzR_tz h0 hs,rz]; rfl
  ·cases h'
 ·cases h
theorem or_ln {K0 : PH} {vs : List AV} {v : AV} (h : orLn vs = some v) : Orc K0 75 vs v := fun σ H hl => by
 unfold orLn at h
 split at h
 ·rename_i s
  rcases cond_some h with ⟨hc,h'⟩ | ⟨_,h'⟩
  ·simp only [Option.some.injEq] at h'; subst h'
   refine ⟨?_,fun n => by simp [lt]⟩
   have e : lenF s = Go.WD.blen s := by
    unfold lenF Go.WD.blen
    cases hb : Nat.beq s 0 with
    | true => have := beqp hb; subst this; rfl
    | false => rw [if_neg (fun e => by subst e; simp at hb)]; rfl
   have := (det_len64 s (bltp hc)).con H
   simp only [rzs,rz,e]
   exact this
  ·cases h'
 ·cases h
theorem or_oc {K0 : PH} {vs : List AV} {v : AV} (h : orOc vs = some v) : Orc K0 48 vs v := fun σ H hl => by
 unfold orOc at h
 split at h
 ·rename_i s
  rcases cond_some h with ⟨hc,h'⟩ | ⟨_,h'⟩
  ·simp only [Option.some.injEq] at h'; subst h'
   refine ⟨?_,fun n => by simp [lt]⟩
   have := (det_oc64 (s := s) (bltp hc)).con H
   simp only [rzs,rz]
   exact this
  ·cases h'
 ·cases h
theorem or_mu {K0 : PH} {vs : List AV} {v : AV} (h : orMu vs = some v) : Orc K0 164 vs v := fun σ H hl => by
 unfold orMu at h
 split at h
 ·rename_i x y
  rcases cond_some h with ⟨hc,h'⟩ | ⟨_,h'⟩
  ·simp only [Bool.and_eq_true] at hc
   simp only [Option.some.injEq] at h'; subst h'
   refine ⟨?_,fun n => by simp [lt,lts]⟩
   have := (det_mul64 x y (bltp hc.1) (bltp hc.2)).con H
   simp only [rzs,rz]
   exact this
  ·cases h'
 ·cases h
theorem or_di {K0 : PH} {vs : List AV} {v : AV} (h : orDi vs = some v) : Orc K0 166 vs v := fun σ H hl => by
 unfold orDi at h
 split at h
 ·rename_i hi lo y
  rcases cond_some h with ⟨hc,h'⟩ | ⟨_,h'⟩
  ·simp only [Bool.and_eq_true] at hc
   simp only [Option.some.injEq] at h'; subst h'
   refine ⟨?_,fun n => by simp [lt,lts]⟩
   have := (det_div64 hi lo y (bltp hc.1.1) (bltp hc.1.2) (bltp hc.2)).con H
   simp only [rzs,rz]
   exact this
  ·cases h'
 ·cases h
theorem orv_ok {K0 : PH} (hT : Tb K0) {g : FuncId} {vs : List AV} {v : AV} (h : orv g vs = some v) : Orc K0 g vs v := by
 unfold orv at h
 rcases cond_some h with ⟨hg,h⟩ | ⟨_,h⟩
 ·rw [beqp hg]; exact or_tz hT h
 rcases cond_some h with ⟨hg,h⟩ | ⟨_,h⟩
 ·rw [beqp hg]; exact or_ln h
 rcases cond_some h with ⟨hg,h⟩ | ⟨_,h⟩
 ·rw [beqp hg]; exact or_oc h
 rcases cond_some h with ⟨hg,h⟩ | ⟨_,h⟩
 ·rw [beqp hg]; exact or_mu h
 rcases cond_some h with ⟨hg,h⟩ | ⟨_,h⟩
 ·rw [beqp hg]; exact or_di h
 cases h
theorem edgL_ok {σ : Rl} : ∀ {l : List AV} {el : List (Nat × Nat)},edgL l = some el -> rzs σ l = el.flatMap (fun e : Nat × Nat => [ii (e.1 : Nat),ii (e.2 : Nat)]) /\ ∀ e ∈ el,e.1 <= 64 /\ e.2 <= 64
 | l,el,h => by
  unfold edgL at h
  split at h
  ·simp only [Option.some.injEq] at h; subst h; exact ⟨rfl,fun e he => absurd he (by simp)⟩
  ·rename_i a b r
   obtain ⟨hg,h⟩ := gd_some h
   rw [Bool.and_eq_true] at hg
   split at h
   ·rename_i q hq
    simp only [Option.some.injEq] at h; subst h
    obtain ⟨h1,h2⟩ := edgL_ok (σ := σ) hq
    refine ⟨by rw [List.flatMap_cons,<- h1]; simp only [rzs,rz]; rfl,fun e he => ?_⟩
    rcases List.mem_cons.1 he with rfl | he
    ·exact ⟨blep hg.1,blep hg.2⟩
    ·exact h2 e he
   ·cases h
  ·cases h
theorem edg_len : ∀ el : List (Nat × Nat),(el.flatMap (fun e : Nat × Nat => [ii (e.1 : Nat),ii (e.2 : Nat)])).length = el.length * 2
 | [] => rfl
 | e :: r => by rw [List.flatMap_cons,List.length_append,edg_len r,List.length_cons]; simp; omega
theorem innV_rz {σ : Rl} (y : Nat × (Nat × Nat)) : rzs σ (innV y) = [ii (y.1 : Nat),ev2 y.2] := by simp only [innV,rzs,rz]; rfl
theorem innV_lt (n : Nat) (y : Nat × (Nat × Nat)) : lts n (innV y) := by simp [innV,lts,lt]
def ItOk (h : FuncId) (cs : List AV) (s : S) (ys : List (List AV)) (ks ls : List Nat) (K0 : PH) : Prop := ∀ σ wm H0 H s',PH.le K0 H0 -> lts s.n cs -> Inv Tryz.prog σ s wm H0 H -> delAll s wm ks = some s' -> ∃ X K Ro E S Sp,
  H = X.or K /\ Disj X K /\ Inv Tryz.prog σ s' wm H0 X /\ entB Tryz.prog h = true /\ ItC Tryz.prog h (rzs σ cs) Ro K E S Sp /\ (∀ X',PH.le K0 X' -> (∀ k ∈ ls,X' (σ k).1 = X (σ k).1) -> PH.le Ro X') /\
  (∀ pre xs,E pre xs -> ∃ y,ys[pre.length]? = some y /\ xs = rzs σ y) /\ (∀ l K',S l K' -> l.length = ys.length) /\ ∀ y ∈ ys,lts s.n y
theorem del1 {s s' : S} {wm k : Nat} (h : delAll s wm [k] = some s') : wm <= k /\ s' = s.del k := by
 simp only [delAll] at h
 obtain ⟨h1,h⟩ := gd_some h
 split at h
 ·simp only [Option.some.injEq] at h; exact ⟨blep h1,h.symm⟩
 ·cases h
theorem del2 {s s' : S} {wm k j : Nat} (h : delAll s wm [k,j] = some s') : wm <= k /\ wm <= j /\ s' = (s.del k).del j /\ ∃ o,(s.del k).get j = some o := by
 simp only [delAll] at h
 obtain ⟨h1,h⟩ := gd_some h
 split at h
 ·obtain ⟨h2,h⟩ := gd_some h
  split at h
  ·rename_i o ho
   simp only [Option.some.injEq] at h; exact ⟨blep h1,blep h2,h.symm,o,ho⟩
  ·cases h
 ·cases h
theorem it_nod {K0 : PH} (hT : Tb K0) {s : S} {k : Nat} {ys : List (List AV)} {ks ls : List Nat} (h : itNod s k = some (ys,ks,ls)) : ItOk 137 [.ptr k 0] s ys ks ls K0 := by
 intro σ wm H0 H s' hK hlc hI hdel
 unfold itNod at h
 split at h
 ·rename_i p T hk
  obtain ⟨hg,h⟩ := gd_some h
  rw [Bool.and_eq_true] at hg
  obtain ⟨g1,g2⟩ := hg
  have g1 := beqp g1
  have hp : p < M64 := bltp g2
  simp only [Option.some.injEq,Prod.mk.injEq] at h
  obtain ⟨rfl,rfl,rfl⟩ := h
  obtain ⟨hw,rfl⟩ := del1 hdel
  have hR := (hI.ob hk).2.2
  simp only [RO,rzs,rz,g1] at hR
  refine ⟨cutP H (σ k).1,nbox (σ k).1 p,K0,_,_,_,cut_or hR,cut_disj,hI.cut hk hw,ent_gnod1,by simp only [rzs,rz]; exact itc_nodes hp hT,fun X' hX _ => hX,fun pre xs hE => ?_,fun l K' hl => ?_,fun y hy => ?_⟩
  ·obtain ⟨x,h1,rfl,_⟩ := hE
   exact ⟨_,by rw [List.getElem?_map,h1]; rfl,by simp only [rzs,rz]; rfl⟩
  ·rw [hl,List.length_map,List.length_map]
  ·obtain ⟨x,_,rfl⟩ := List.mem_map.1 hy
   simp [lts,lt]
 ·cases h
theorem it_par {K0 : PH} {s : S} {k : Nat} {ys : List (List AV)} {ks ls : List Nat} (h : itPar s k = some (ys,ks,ls)) : ItOk 121 [.ptr k 0] s ys ks ls K0 := by
 intro σ wm H0 H s' hK hlc hI hdel
 unfold itPar at h
 split at h
 ·rename_i p T hk
  obtain ⟨hg,h⟩ := gd_some h
  rw [Bool.and_eq_true] at hg
  obtain ⟨g1,g2⟩ := hg
  have g1 := beqp g1
  have hp : p < M64 := bltp g2
  simp only [Option.some.injEq,Prod.mk.injEq] at h
  obtain ⟨rfl,rfl,rfl⟩ := h
  obtain ⟨hw,rfl⟩ := del1 hdel
  have hR := (hI.ob hk).2.2
  simp only [RO,rzs,rz,g1] at hR
  refine ⟨cutP H (σ k).1,nbox (σ k).1 p,K0,_,_,_,cut_or hR,cut_disj,hI.cut hk hw,ent_mpar1,by simp only [rzs,rz]; exact itc_parts hp,fun X' hX _ => hX,fun pre xs hE => ?_,fun l K' hl => ?_,fun y hy => ?_⟩
  ·obtain ⟨x,h1,rfl⟩ := hE
   exact ⟨_,by rw [List.getElem?_map,h1]; rfl,by simp only [rzs,rz]; rfl⟩
  ·rw [hl,List.length_map]
  ·obtain ⟨x,_,rfl⟩ := List.mem_map.1 hy
   simp [lts,lt]
 ·cases h
theorem it_inn {K0 : PH} {s : S} {k j : Nat} {ys : List (List AV)} {ks ls : List Nat} (h : itInn s k j = some (ys,ks,ls)) : ItOk 170 [.ptr k 0,.ptr j 0] s ys ks ls K0 := by
 intro σ wm H0 H s' hK hlc hI hdel
 unfold itInn at h
 split at h
 ·rename_i x es T p T2 hk hj
  obtain ⟨hg,h'⟩ := gd_some h
  clear h
  simp only [Bool.and_eq_true,Bool.not_eq_true'] at hg
  obtain ⟨⟨⟨⟨g1,g2⟩,g3⟩,g4⟩,g6⟩ := hg
  have g1 := beqp g1
  have hp : p < M64 := bltp g2
  have hkj : k ≠ j := fun e => by subst e; simp at g3
  split at h'
  ·rename_i l hl
   split at h'
   ·rename_i el hel
    obtain ⟨g5,h⟩ := gd_some h'
    clear h'
    have g5 : el.length <= 1000000 := by have := blep g5; rwa [len_eq] at this
    simp only [Option.some.injEq,Prod.mk.injEq] at h
    obtain ⟨rfl,rfl,rfl⟩ := h
    obtain ⟨hw,hwj,rfl,oj,hoj⟩ := del2 hdel
    have hR := (hI.ob hk).2.2
    have hRj := (hI.ob hj).2.2
    simp only [RO,rzs,rz] at hR
    simp only [RO,rzs,rz,g1] at hRj
    have hbj : (σ k).1 ≠ (σ j).1 := fun e => hkj (hI.inj hk hj e)
    obtain ⟨he1,he2⟩ := edgL_ok (σ := σ) hel
    have hIc := (hI.cut hk hw).cut hoj hwj
    have h2 : (Tryz.prog).cellsOf 31 = 2 := by kernel_rfl
    have hsl : ∃ Ro : PH,SE Ro 2 (fun e : Nat × Nat => [ii (e.1 : Nat),ii (e.2 : Nat)]) (rz σ es) el /\ ∀ X',(∀ q ∈ slBs es,X' (σ q).1 = (cutP (cutP H (σ k).1) (σ j).1) (σ q).1) -> (∀ q ∈ slBs es,(cutP (cutP H (σ k).1) (σ j).1) (σ q).1 = H (σ q).1) -> PH.le Ro X' := by
     cases es
     case nsl =>
      simp only [rdS,Option.some.injEq] at hl
      subst hl
      unfold edgL at hel
      simp only [Option.some.injEq] at hel
      subst hel
      exact ⟨PH.nil,⟨rfl,none,0,by rw [rz]; rfl,Nat.le_refl _,Nat.zero_le _,.inl rfl⟩,fun X' _ _ b o hb => by cases hb⟩
     case sl q o n c =>
      simp only [slOk,Bool.and_eq_true] at g4
      have c1 := blep g4.1
      have c2 := blep g4.2
      obtain ⟨_,hs⟩ := rdS_ok (σ := σ) hl hI
      obtain ⟨k3,q3,n3,c3,e3,l3,len3,cs3,T3,hH3,ht3⟩ := hs.resolve_left (fun h => by cases h.1)
      rw [rz] at e3
      injection e3 with e3 e4 e5
      subst e4; subst e5
      injection e3 with e3
      injection e3 with e3 e6
      subst e6
      rw [h2] at len3 ht3
      have hlen : el.length = n := by
       have := congrArg List.length he1
       rw [rzs_len,len3,edg_len] at this
       omega
      refine ⟨fun b => if b = (σ q).1 then H b else none,⟨by rw [<- he1,rzs_len,len3,hlen],some ⟨(σ q).1,o,none⟩,c,by rw [rz,hlen],by omega,by simp only [maxLen]; omega,.inr ⟨(σ q).1,o,cs3,T3,(0,0),rfl,by show (if (σ q).1 = (σ q).1 then H (σ q).1 else none) = _; rw [if_pos rfl,e3]; exact hH3,by rw [hlen,<- he1]; exact ht3⟩⟩,fun X' h1 h3 b ob hb => ?_⟩
      simp only at hb
      split at hb
      ·rename_i e; subst e
       rw [h1 q (by simp [slBs]),h3 q (by simp [slBs])]; exact hb
      ·cases hb
     all_goals exact absurd g4 (by simp [slOk])
    obtain ⟨Ro,hse,hro⟩ := hsl
    have hvc : (rz σ es).cells = #[rz σ es] := by
     cases es
     case nsl => simp [rz,Value.cells]
     case sl => simp [rz,Value.cells]
     all_goals exact absurd g4 (by simp [slOk])
    refine ⟨cutP (cutP H (σ k).1) (σ j).1,gbox (σ k).1 (σ j).1 (rz σ x) (rz σ es) T p,Ro,_,_,_,cut2_or hbj hR hRj,cut2_disj,hIc,ent_tinn1,by simp only [rzs,rz]; exact itc_inner hp hbj he2 g5 hse hvc,fun X' _ hX => hro X' hX fun q hq => ?_,fun pre xs hE => ?_,fun l K' hl => ?_,fun y hy => ?_⟩
    ·have hne : ∃ o,s.get q = some o /\ q ≠ k /\ q ≠ j := by
      cases es
      case sl q' o n c =>
       obtain rfl := List.mem_singleton.1 hq
       simp only [slNe,Bool.and_eq_true,Bool.not_eq_true'] at g6
       simp only [rdS] at hl
       have hlive : ∃ o',s.get q = some o' := by
        cases e : s.get q with
        | none => simp [pkL,e] at hl
        | some o' => exact ⟨o',rfl⟩
       obtain ⟨o',ho'⟩ := hlive
       exact ⟨o',ho',fun e => by subst e; simp at g6,fun e => by subst e; simp at g6⟩
      all_goals exact absurd hq (by simp [slBs])
     obtain ⟨o,ho,n1,n2⟩ := hne
     unfold cutP
     rw [if_neg (fun e => n2 (hI.inj ho hj e)),if_neg (fun e => n1 (hI.inj ho hk e))]
    ·obtain ⟨y,h1,rfl⟩ := hE
     exact ⟨_,by rw [List.getElem?_map,h1]; rfl,(innV_rz y).symm⟩
    ·rw [hl,List.length_map]
    ·obtain ⟨y,_,rfl⟩ := List.mem_map.1 hy
     exact innV_lt _ y
   ·cases h'
  ·cases h'
 ·cases h
theorem itb_ok {K0 : PH} (hT : Tb K0) : ∀ h cs s ys ks ls,itb h cs s = some (ys,ks,ls) -> ItOk h cs s ys ks ls K0 := fun f cs s ys ks ls h => by
 unfold itb at h
 split at h
 ·rename_i k
  rcases cond_some h with ⟨hg,h⟩ | ⟨_,h⟩
  ·rw [beqp hg]; exact it_nod hT h
  rcases cond_some h with ⟨hg,h⟩ | ⟨_,h⟩
  ·rw [beqp hg]; exact it_par h
  cases h
 ·rename_i k j
  rcases cond_some h with ⟨hg,h⟩ | ⟨_,h⟩
  ·rw [beqp hg]; exact it_inn h
  cases h
 ·cases h
theorem sup {K0 : PH} (hT : Tb K0) : Sup Tryz.prog kty tab orc own itb K0 where
 mix := mixed
 key := kty_ok
 tab := tab_ok
 orc := fun g vs s wm outs h σ H0 H hK hl hI => by
  unfold orc at h
  split at h
  ·rename_i v hv
   simp only [Option.some.injEq] at h; subst h
   obtain ⟨h1,h2⟩ := orv_ok hT hv σ H (hK.trans hI.le)
   exact h1.mono fun u H' ⟨hu,hH⟩ => ⟨_,List.mem_singleton.2 rfl,σ,hu,h2 _,by rw [hH]; exact hI,Ex.refl _ _⟩
  ·cases h
 own := own_ok
 itb := itb_ok hT
theorem inv_nil {H : PH} : Inv Tryz.prog (fun _ => (0,0)) ⟨0,.nil⟩ 0 H H where
 ob := fun {k o} h => by have h : none = some o := h; cases h
 inj := fun {j k o o'} h => by have h : none = some o := h; cases h
 le := PH.le.refl _
 fr := fun {k o} h => by have h : none = some o := h; cases h
end Go.Proofs.YtpdipcopnmiddaaGreatDoor

/- works() of chapter 32 returns true. -/
namespace Go.Proofs.YtpdipcopnmiddaaGreatDoor
open Go.RowKit Go.RX Go.GS Go.RZ
theorem allT_ok : ∀ {l : List (AV × S)},allT l = true -> ∀ p ∈ l,p.1 = .bool true
 | q :: r,h,p,hp => by
  simp only [allT,Bool.and_eq_true] at h
  rcases List.mem_cons.1 hp with rfl | hp
  ·exact eqV_ok _ _ h.1
  ·exact allT_ok h.2 p hp
theorem con_lwor {H : PH} (hT : Tb H) : Give Tryz.prog 4 [] H (.bool true) := by
 have hrun := works_run
 generalize ho : ev Tryz.prog kty tab pur orc own itb 100000 tt_lwor [] [] 0 ⟨0,.nil⟩ 0 = o at hrun
 cases o with
 | none => cases hrun
 | some outs =>
  have := con_of_ev (f := 100000) (vs := []) (s := ⟨0,.nil⟩) (wm := 0) (H0 := H) (σ := fun _ => (0,0)) (pur := pur) (sup hT) (g := 4) (np := 0) (tg := tt_lwor) (by kernel_rfl) rfl ho (by simp [lts]) (PH.le.refl _) inv_nil
  refine this.mono fun u H' ⟨h1,p,hp,σ',hu,_⟩ => ?_
  rw [allT_ok hrun p hp,rz] at hu
  exact ⟨h1,hu⟩
end Go.Proofs.YtpdipcopnmiddaaGreatDoor


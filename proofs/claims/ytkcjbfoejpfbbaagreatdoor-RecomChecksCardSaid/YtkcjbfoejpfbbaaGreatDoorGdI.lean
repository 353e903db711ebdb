/- Chapter 32: changed drafts. -/
import Derived.Test.YtkcjbfoejpfbbaaGreatDoorGdG
namespace Go.RX
open Go.RowKit
theorem yld_eqSl {P : Program} {o : Oper} {x y : Operand} {vs : List Value} {t t' e : TypeId} {p : Option Addr} {n c : Nat} (ho : o.op = .binOp .eql t x y t') (hx : argEv [x,y] vs x = .slice p n c) (hy : argEv [x,y] vs y = .slice none 0 0) (hu : P.underlying t = some (.slice e)) : Yld P o vs (.bool p.isNone) := fun w => by
 have hos : o.op.operands.toList = [x,y] := by simp [ho,Op.operands]
 rw [hos]
 have h : ∀ d : Nat,(Op.equalIn (d + 1) t (.slice p n c) (.slice none 0 0)).run P w = .ok p.isNone w := fun d => by
  cases p <;> simp [Op.equalIn,run_underlying hu]
 have hb : (binOp .eql t (.slice p n c) (.slice none 0 0)).run P w = .ok (.bool p.isNone) w := by
  simp only [binOp]
  simp [Op.equal,Op.maxDepth,h 9999]
 simp only [execOp,ho,hx,hy,Sem.run_bind,eqGuard]
 simp [hb]
end Go.RX
namespace Go.Proofs.YtkcjbfoejpfbbaaGreatDoor
open Go.RowKit Go.RX Go.GS
section
variable {H : PH} {u : Value} {l : List Int}
theorem con_sclI (hu : SI H u l) (hl : l.length <= 1000000) : Con Tryz.prog 50 [u] H fun r H' => PH.le H H' /\ SO H H' 3 1 (fun z : Int => [ii z]) r l := by
 refine con_of_tree mixed tr_sclI np_sclI rfl ?_
 obtain ⟨q1,a,c,rfl,q2,q3,q4⟩ := id hu
 refine den_prim ((yld_eqSl (p := a) (n := l.length) (c := c) op_sclI_1_1 rfl rfl el_int.und).rds _) rfl ?_
 simp only [cA,nA]
 refine den_rq ⟨_,rfl⟩ ?_
 refine den_br (b := a.isNone) rfl (fun h => ?_) (fun h => ?_)
 ·skip
  have h0 : l.length = 0 := by
   rcases q4 with h | ⟨_,_,_,_,_,h,_⟩
   ·exact h
   ·subst h; cases h
  have hnil : l = [] := List.eq_nil_of_length_eq_zero h0
  subst hnil
  exact den_ret rfl ⟨PH.le.refl _,SO.nil _ _ _ _ _⟩
 ·skip
  refine den_build0E el_int op_sclI_3_0 rfl fun v2 H1 l1 o1 _ => ?_
  simp only [cA,nA]
  refine den_appendE el_int op_sclI_3_2 rfl rfl l1 o1 (hu.mono l1) (by simp only [List.length_nil]; omega) rfl rfl fun v3 H2 l2 o2 _ => ?_
  simp only [cA,nA]
  exact den_ret rfl ⟨l2,by rw [List.nil_append] at o2; exact o2⟩
theorem con_sclP (hu : SI H u l) (hl : l.length <= 1000000) : Con Tryz.prog 51 [u] H fun r H' => PH.le H H' /\ SO H H' 3 1 (fun z : Int => [ii z]) r l := by
 refine con_of_tree mixed tr_sclP np_sclP rfl ?_
 obtain ⟨q1,a,c,rfl,q2,q3,q4⟩ := id hu
 refine den_prim ((yld_eqSl (p := a) (n := l.length) (c := c) op_sclP_1_1 rfl rfl el_plan.und).rds _) rfl ?_
 simp only [cA,nA]
 refine den_rq ⟨_,rfl⟩ ?_
 refine den_br (b := a.isNone) rfl (fun h => ?_) (fun h => ?_)
 ·skip
  have h0 : l.length = 0 := by
   rcases q4 with h | ⟨_,_,_,_,_,h,_⟩
   ·exact h
   ·subst h; cases h
  have hnil : l = [] := List.eq_nil_of_length_eq_zero h0
  subst hnil
  exact den_ret rfl ⟨PH.le.refl _,SO.nil _ _ _ _ _⟩
 ·skip
  refine den_build0E el_plan op_sclP_3_0 rfl fun v2 H1 l1 o1 _ => ?_
  simp only [cA,nA]
  refine den_appendE el_plan op_sclP_3_2 rfl rfl l1 o1 (hu.mono l1) (by simp only [List.length_nil]; omega) rfl rfl fun v3 H2 l2 o2 _ => ?_
  simp only [cA,nA]
  exact den_ret rfl ⟨l2,by rw [List.nil_append] at o2; exact o2⟩
end
theorem apart {H H1 H2 : PH} {e e' : TypeId} {sz sz' : Nat} {α β : Type} {ce : α -> List Value} {ce' : β -> List Value} {v v' : Value} {l : List α} {l' : List β} (h1 : SO H H1 e sz ce v l) (h2 : SO H1 H2 e' sz' ce' v' l') (l1 : PH.le H H1) (l12 : PH.le H1 H2) : ∃ X,PH.le H X /\ PH.le X H2 /\ SO X H2 e sz ce v l /\ SE X sz' ce' v' l' := by
 obtain ⟨a1,⟨a2,a3⟩ | ⟨g,cap,cur,a2,a3,a4,a5,a6,a7,a8⟩⟩ := h1
 ·exact ⟨H2,l1.trans l12,PH.le.refl _,⟨a1,.inl ⟨a2,a3⟩⟩,h2.se⟩
 ·have hX : PH.le (fun b => if b = g then none else H2 b) H2 := fun b ob hb => by
   simp only at hb
   split at hb
   ·cases hb
   ·exact hb
  refine ⟨fun b => if b = g then none else H2 b,fun b ob hb => ?_,hX,⟨a1,.inr ⟨g,cap,cur,a2,if_pos rfl,l12 _ _ a4,a5,a6,a7,a8⟩⟩,?_⟩
  ·show (if b = g then none else H2 b) = _
   rw [if_neg (fun e => by subst e; rw [a3] at hb; cases hb)]
   exact l12 _ _ (l1 _ _ hb)
  ·obtain ⟨b1,⟨b2,b3⟩ | ⟨g',cap',cur',b2,b3,b4,b5,b6,b7,b8⟩⟩ := h2
   ·exact ⟨b1,none,0,by rw [b2,b3],by omega,by simp [maxLen],.inl b3⟩
   ·refine ⟨b1,_,cap',b2,b5,b6,.inr ⟨g',0,cur',e',(0,0),rfl,?_,by rw [List.drop_zero]; exact b8⟩⟩
    show (if g' = g then none else H2 g') = _
    rw [if_neg (fun e => by subst e; rw [b3] at a4; cases a4)]
    exact b4
theorem rq_bv {ρ : List Value} {x : SV} {wts : Value} {lo hi k : Int} (h : D Tryz.prog ρ x = bv wts lo hi k) (h1 : oneC wts = true) : (D Tryz.prog ρ x).cells.size = 4 /\ oneAll (D Tryz.prog ρ x).cells := by rw [h]; exact bv_one h1 _ _ _
theorem ret3 {ρ : List Value} {a b c : SV} {x y z : Value} (h1 : D Tryz.prog ρ a = x) (h2 : D Tryz.prog ρ b = y) (h3 : D Tryz.prog ρ c = z) : retV ([a,b,c].map (D Tryz.prog ρ)) = .tuple #[x,y,z] := by
 simp only [List.map_cons,List.map_nil]; rw [h1,h2,h3]; rfl
section
variable {ρ : List Value} {x y v : SV} {wts u : Value} {lo hi k z : Int} (hx : D Tryz.prog ρ x = u) (hy : D Tryz.prog ρ y = ii z) (hv : D Tryz.prog ρ v = bv wts lo hi k) (hc : u.cells = #[u])
include hx hy hv hc
omit hx hy hc in
theorem D_b0' : D Tryz.prog ρ (.sub v 1 3 0 noI) = .agg #[ii lo,ii hi,ii k] := (D_sub hv).trans rfl
theorem D_b1 : D Tryz.prog ρ (.cat x 1 (.cat y 1 (.sub (.sub v 1 3 0 noI) 1 2 0 noI))) = bv u z hi k := by
 have h : D Tryz.prog ρ (.sub (.sub v 1 3 0 noI) 1 2 0 noI) = .agg #[ii hi,ii k] := (D_sub (D_b0' hv)).trans rfl
 rw [D_cat hx (D_cat hy h),hc]; rfl
theorem D_b2 : D Tryz.prog ρ (.cat x 1 (.cat (.sub (.sub v 1 3 0 noI) 0 1 0 noI) 1 (.cat y 1 (.sub (.sub v 1 3 0 noI) 2 1 0 noI)))) = bv u lo z k := by
 have h : D Tryz.prog ρ (.sub (.sub v 1 3 0 noI) 0 1 0 noI) = .agg #[ii lo] := (D_sub (D_b0' hv)).trans rfl
 have h2 : D Tryz.prog ρ (.sub (.sub v 1 3 0 noI) 2 1 0 noI) = .agg #[ii k] := (D_sub (D_b0' hv)).trans rfl
 rw [D_cat hx (D_cat h (D_cat hy h2)),hc]; rfl
theorem D_b3 : D Tryz.prog ρ (.cat x 1 (.cat (.sub (.sub v 1 3 0 noI) 0 2 0 noI) 2 y)) = bv u lo hi z := by
 have h : D Tryz.prog ρ (.sub (.sub v 1 3 0 noI) 0 2 0 noI) = .agg #[ii lo,ii hi] := (D_sub (D_b0' hv)).trans rfl
 rw [D_cat hx (D_cat h hy),hc]; rfl
end
def bn (a b : Nat) (z : Int) : Value := .agg #[.int .u8 (a : Nat),.int .u8 (b : Nat),ii z]
def BendR (H : PH) (n : Nat) (r : Value) : Prop := ∃ (w : Value) (es : List (Nat × Nat)) (wts : Value) (wl : List Int) (lo hi k : Int) (u : Value) (p : List Int),
 r = .tuple #[gv n w,bv wts lo hi k,u] /\ SG H w es /\ GV n es /\ SI H wts wl /\ SI H u p /\ wl.length <= 64 /\ p.length <= 65
section
variable {H : PH} {n : Nat} {w wts u : Value} {es : List (Nat × Nat)} {wl p : List Int} {lo hi k z : Int} {x y : Nat}
set_option maxHeartbeats 2000000 in
theorem con_lben (hy : y < 256) (hw : SG H w es) (hg : GV n es) (hwt : SI H wts wl) (hu : SI H u p) (hwl : 1 <= wl.length) (hpl : 1 <= p.length) (hw64 : wl.length <= 64) (hp64 : p.length <= 64) : Con Tryz.prog 9 [bn x y z,gv n w,bv wts lo hi k,u] H fun r H' => PH.le H H' /\ BendR H' n r := by
 refine con_of_tree mixed tr_lben np_lben rfl ?_
 refine den_rq ⟨rfl,fun c hc => by rw [show D Tryz.prog _ _ = bn x y z from rfl,bn,cells_agg] at hc; simp only [List.mem_cons,List.not_mem_nil,or_false] at hc; rcases hc with rfl | rfl | rfl <;> rfl⟩ ?_
 refine den_rq (gv_one hw) ?_
 refine den_rq (bv_one (sl_oneC hwt) _ _ _) ?_
 refine den_call (con_sclI hwt (by omega)) rfl ?_
 rintro v4 H1 ⟨l1,o1⟩
 refine ⟨fun h => (nomatch h),?_⟩
 simp only [cA,nA]
 refine den_call (con_sclP (hu.mono l1) (by omega)) rfl ?_
 rintro v5 H2 ⟨l2,o2⟩
 refine ⟨fun h => (nomatch h),?_⟩
 simp only [cA,nA]
 have l12 := l1.trans l2
 obtain ⟨X,lX1,lX2,oX,sX⟩ := apart o1 o2 l1 l2
 have o1' := o1
 have hwH := hw
 have o1 := o1.mono l2
 have hw := hw.mono l12
 obtain ⟨q1,a1,c1,rfl,_⟩ := id o1.se
 obtain ⟨q1,a2,c2,rfl,_⟩ := id o2.se
 refine den_rq o1.se.one ?_
 refine den_rq ⟨_,rfl⟩ ?_
 refine den_br (b := _) rfl (fun h0 => ?_) (fun h0 => ?_)
 ·skip
  refine den_rq (one_ii _) ?_
  refine den_rq (rq_bv (D_b1 rfl rfl rfl rfl) rfl) ?_
  exact den_ret (ret3 (x := gv n w) (y := bv (.slice a1 wl.length c1) z hi k) rfl (D_b1 rfl rfl rfl rfl) rfl) ⟨l12,w,es,.slice a1 wl.length c1,wl,z,hi,k,.slice a2 p.length c2,p,rfl,hw,hg,o1.se,o2.se,hw64,by omega⟩
 ·skip
  refine den_br (b := _) rfl (fun h1 => ?_) (fun h1 => ?_)
  ·skip
   refine den_rq (one_ii _) ?_
   refine den_rq (rq_bv (D_b2 rfl rfl rfl rfl) rfl) ?_
   exact den_ret (ret3 (x := gv n w) (y := bv (.slice a1 wl.length c1) lo z k) rfl (D_b2 rfl rfl rfl rfl) rfl) ⟨l12,w,es,.slice a1 wl.length c1,wl,lo,z,k,.slice a2 p.length c2,p,rfl,hw,hg,o1.se,o2.se,hw64,by omega⟩
  ·skip
   refine den_br (b := _) rfl (fun h2 => ?_) (fun h2 => ?_)
   ·skip
    refine den_rq (one_ii _) ?_
    refine den_rq (rq_bv (D_b3 rfl rfl rfl rfl) rfl) ?_
    exact den_ret (ret3 (x := gv n w) (y := bv (.slice a1 wl.length c1) lo hi z) rfl (D_b3 rfl rfl rfl rfl) rfl) ⟨l12,w,es,.slice a1 wl.length c1,wl,lo,hi,z,.slice a2 p.length c2,p,rfl,hw,hg,o1.se,o2.se,hw64,by omega⟩
   ·skip
    refine den_br (b := _) rfl (fun h3 => ?_) (fun h3 => ?_)
    ·skip
     refine den_rq ⟨_,rfl⟩ ?_
     refine den_lenE el_int op_lben_10_7 rfl o1.se rfl ?_
     refine den_rq ⟨_,rfl⟩ ?_
     refine den_rq (show ((wl.length : Nat) : Int) ≠ 0 by omega) ?_
     have hm : y % wl.length < wl.length := Nat.mod_lt _ hwl
     refine den_setE el_int (a := z) op_lben_10_11 op_lben_10_12 rfl rfl (fun _ => rfl) (fun _ => rfl) lX2 oX hm (map2 rfl (D_modn rfl hy rfl)) (fun _ => rfl) rfl fun q u' H3 l3 o3 _ => ?_
     simp only [cA,nA]
     exact den_ret (ret3 (x := gv n w) (y := bv (.slice a1 wl.length c1) lo hi k) rfl (D_bcat rfl rfl rfl) rfl) ⟨lX1.trans l3,w,es,.slice a1 wl.length c1,wl.set (y % wl.length) z,lo,hi,k,.slice a2 p.length c2,p,rfl,hwH.mono (lX1.trans l3),hg,o3.se,sX.mono l3,by rw [List.length_set]; exact hw64,by omega⟩
    ·skip
     refine den_br (b := _) rfl (fun h4 => ?_) (fun h4 => ?_)
     ·skip
      refine den_rq ⟨_,rfl⟩ ?_
      refine den_lenE el_plan op_lben_12_5 rfl o2.se rfl ?_
      refine den_rq ⟨_,rfl⟩ ?_
      refine den_rq (show ((p.length : Nat) : Int) ≠ 0 by omega) ?_
      have hm : y % p.length < p.length := Nat.mod_lt _ hpl
      refine den_setE el_plan (a := z) op_lben_12_9 op_lben_12_10 rfl rfl (fun _ => rfl) (fun _ => rfl) l2 o2 hm (map2 rfl (D_modn rfl hy rfl)) (fun _ => rfl) rfl fun q u' H3 l3 o3 _ => ?_
      simp only [cA,nA]
      exact den_ret (ret3 (x := gv n w) (y := bv (.slice a1 wl.length c1) lo hi k) rfl (D_bcat rfl rfl rfl) rfl) ⟨l1.trans l3,w,es,.slice a1 wl.length c1,wl,lo,hi,k,.slice a2 p.length c2,p.set (y % p.length) z,rfl,hwH.mono (l1.trans l3),hg,(o1'.mono l3).se,o3.se,hw64,by rw [List.length_set]; omega⟩
     ·skip
      refine den_br (b := _) rfl (fun h5 => ?_) (fun h5 => ?_)
      ·skip
       refine den_pushE el_plan op_lben_14_1 op_lben_14_2 rfl (fun _ => rfl) (fun _ => rfl) l2 o2 (by omega) rfl (fun _ => rfl) rfl fun q v7 H3 l3 o3 => ?_
       simp only [cA,nA]
       exact den_ret (ret3 (x := gv n w) (y := bv (.slice a1 wl.length c1) lo hi k) rfl (D_bcat rfl rfl rfl) rfl) ⟨l1.trans l3,w,es,.slice a1 wl.length c1,wl,lo,hi,k,v7,p ++ [0],rfl,hwH.mono (l1.trans l3),hg,(o1'.mono l3).se,o3.se,hw64,by rw [List.length_append]; simp only [List.length_cons,List.length_nil]; omega⟩
      ·skip
       refine den_br (b := _) rfl (fun h6 => ?_) (fun h6 => ?_)
       ·skip
        obtain ⟨v6,hy6,hs6⟩ := yld_dropE el_int (vs := [.slice a1 wl.length c1,ii 1]) (k := .i64) (j := 1) op_lben_16_2 rfl rfl o1.se hwl
        refine den_prim (hy6.rds _) rfl ?_
        simp only [cA,nA]
        refine den_rq hs6.one ?_
        exact den_ret (ret3 (x := gv n w) (y := bv (v6) lo hi k) rfl (D_bcat rfl rfl hs6.cells) rfl) ⟨l12,w,es,v6,wl.drop 1,lo,hi,k,.slice a2 p.length c2,p,rfl,hw,hg,hs6,o2.se,by rw [List.length_drop]; omega,by omega⟩
       ·skip
        refine den_br (b := _) rfl (fun h7 => ?_) (fun h7 => ?_)
        ·skip
         refine den_lenE el_edge op_lben_18_2 rfl hw rfl ?_
         refine den_rq ⟨_,rfl⟩ ?_
         refine den_br (b := decide (((es.length : Nat) : Int) > 0)) rfl (fun h8 => ?_) (fun h8 => ?_)
         ·replace h8 := of_decide_eq_true h8
          obtain ⟨v7,hy7,hs7⟩ := yld_dropE el_edge (vs := [w,ii 1]) (k := .i64) (j := 1) op_lben_19_2 rfl rfl hw (by omega)
          refine den_prim (hy7.rds _) rfl ?_
          simp only [cA,nA]
          refine den_rq hs7.one ?_
          obtain ⟨e,es',rfl⟩ : ∃ e es',es = e :: es' := by
           cases es with
           | nil => simp at h8
           | cons e es' => exact ⟨e,es',rfl⟩
          exact den_ret (ret3 (x := gv n v7) (y := bv (.slice a1 wl.length c1) lo hi k) (D_gcat rfl rfl hs7.cells) (D_bcat rfl rfl rfl) rfl) ⟨l12,v7,es',.slice a1 wl.length c1,wl,lo,hi,k,.slice a2 p.length c2,p,rfl,hs7,hg.tail,o1.se,o2.se,hw64,by omega⟩
         ·replace h8 := of_decide_eq_false h8
          exact den_ret (ret3 (x := gv n w) (y := bv (.slice a1 wl.length c1) lo hi k) rfl (D_bcat rfl rfl rfl) rfl) ⟨l12,w,es,.slice a1 wl.length c1,wl,lo,hi,k,.slice a2 p.length c2,p,rfl,hw,hg,o1.se,o2.se,hw64,by omega⟩
        ·skip
         exact den_ret (ret3 (x := gv n w) (y := bv (.slice a1 wl.length c1) lo hi k) rfl (D_bcat rfl rfl rfl) rfl) ⟨l12,w,es,.slice a1 wl.length c1,wl,lo,hi,k,.slice a2 p.length c2,p,rfl,hw,hg,o1.se,o2.se,hw64,by omega⟩
end
end Go.Proofs.YtkcjbfoejpfbbaaGreatDoor

/- Chapter 32: the checks, on both sides. -/
namespace Go.RX
open Go.RowKit
section
variable {P : Program} {T e : TypeId} {sz : Nat} {ag : Bool} {α : Type} {ce : α -> List Value} {ve : α -> Value} (E : El P T e sz ag ce ve)
variable {G : Value -> PH -> Prop} {nx : List (List Value -> PH -> Prop)} {ρ : List Value} {H : PH} {o : Oper} {id i : Nat} {args : List SV} {t : Tree} {l : List α} {vs : List Value}
include E
theorem den_mkE {N : Nat} {parts : Array (Nat × Operand)} (hl : l.length = N) (h0 : 0 < N) (hN : N <= 1000) (ho : o.op = .buildSlice T N parts) (hp : parts.toList.map (fun p => (p.1,argEv (parts.toList.map (·.2)) vs p.2)) = (l.zipIdx 0).map fun p => (p.2,ve p.1)) (ha : args.map (D P ρ) = vs)
  (n : ∀ v H',PH.le H H' -> SO H H' e sz ce v l -> den P G t nx (ρ ++ [v]) H') : den P G (.mk id i o args t) nx ρ H := by
 obtain ⟨ti,zv,h1,h2,h3,h4,h5⟩ := E.inf
 have hpos := E.pos
 have hsm := E.small
 have hb : N * sz <= 1000 * 1000 := Nat.mul_le_mul hN hsm
 have hNp : 0 < N * sz := Nat.mul_pos h0 hpos
 refine ⟨fun b => .slice (some ⟨b,0,none⟩) N N,.cells (l.flatMap ce).toArray e (0,0),fun w => ?_,fun b hb => n _ _ (PH.le_put hb _) (so_new E hb hl (by simp only [maxLen]; omega) (by simp))⟩
 have hos : o.op.operands.toList = parts.toList.map (·.2) := by simp [ho,Op.operands]
 have hf : Instr.fill (fun j => some (j * ti.size,ti.size)) ((Array.range (N * ti.size)).map (zv.cells[· % zv.cells.size]!)) (parts.toList.map fun p => (p.1,argEv (parts.toList.map (·.2)) vs p.2)) = some (l.flatMap ce).toArray := by
  rw [h3,hp,fill_spl _ _ _ fun p hp => ?_]
  ·rw [fold_fill E.len E.cells,Nat.zero_mul,spl_all (by rw [fm_len E.len,hl]; simp)]
  ·simp only [List.mem_map,Prod.exists] at hp
   obtain ⟨a,k,hk,rfl⟩ := hp
   have hk' := List.mem_zipIdx hk
   refine ⟨k * sz,sz,rfl,(E.vcells a).1,?_⟩
   have : (k + 1) * sz <= N * sz := Nat.mul_le_mul_right _ (by omega)
   rw [Nat.add_mul,Nat.one_mul] at this
   simpa using this
 have hr := run_buildSlice (P := P) w T e N (parts.map fun (j,x) => (j,argEv (parts.toList.map (·.2)) vs x)) (l.flatMap ce).toArray ti zv E.und h1 h2 (by rw [h3]; omega) (by rw [h3]; omega) (by rw [Array.toList_map]; exact hf)
 rw [hos,ha]
 simp only [execOp,ho,Sem.run_bind,hr,Result.andThen_ok,Sem.run_pure]
end
end Go.RX
namespace Go.Proofs.YtkcjbfoejpfbbaaGreatDoor
open Go.RowKit Go.RX Go.GS
open Go.WD (wd toI iw rs)
theorem el_pla : El Tryz.prog 44 33 1 false (fun s : Slc => [vs s]) vs where
 und := by kernel_rfl
 has := by kernel_rfl
 cel := by kernel_rfl
 agg := by kernel_rfl
 pos := by decide
 one1 := fun _ => rfl
 small := by decide
 inf := ⟨(Tryz.prog.info? 33).getD default,vs (none,0,0),by kernel_rfl,by kernel_rfl,by kernel_rfl,rfl,of_decide_eq_true (by kernel_rfl)⟩
 len := fun _ => rfl
 val := fun _ => rfl
 cells := fun _ => rfl
 one := fun x c hc => by simp at hc; subst hc; rfl
def yv (n : Nat) (w wts : Value) (lo hi k : Int) (s : Value) : Value := .agg #[ii n,w,wts,ii lo,ii hi,ii k,s]
theorem z_2s : (zeroV Tryz.prog 46).cells.size = 14 := by kernel_rfl
theorem D_yc {ρ : List Value} {a b c : SV} {n : Nat} {w wts s : Value} {lo hi k : Int} (h1 : D Tryz.prog ρ a = gv n w) (h2 : D Tryz.prog ρ b = bv wts lo hi k) (h3 : D Tryz.prog ρ c = s) (hs : s.cells = #[s]) : D Tryz.prog ρ (.cat (.ag a) 2 (.cat (.ag b) 4 c)) = yv n w wts lo hi k s := by
 show Value.agg ((Value.agg (D Tryz.prog ρ a).cells).cells ++ (Value.agg ((Value.agg (D Tryz.prog ρ b).cells).cells ++ (D Tryz.prog ρ c).cells)).cells) = _
 rw [h1,h2,h3,hs]; rfl
theorem spl_len : ∀ (ys : List Value) (cs : Array Value) (q : Nat),(spl cs q ys).size = cs.size
 | [],_,_ => rfl
 | y :: ys,cs,q => by rw [spl,spl_len ys]; simp
theorem spl_at (ys : List Value) (cs : Array Value) (q : Nat) (h : q + ys.length <= cs.size) : ((spl cs q ys).toList.drop q).take ys.length = ys := by
 induction ys generalizing cs q with
 | nil => simp
 | cons y ys ih =>
  simp only [List.length_cons] at h
  have h1 := ih (cs.setIfInBounds q y) (q + 1) (by simp; omega)
  have h2 : (spl (cs.setIfInBounds q y) (q + 1) ys).toList[q]? = some y := by
   have : ∀ (zs : List Value) (cs : Array Value) (p : Nat),q < p -> (spl cs p zs)[q]? = cs[q]? := by
    intro zs
    induction zs with
    | nil => intro cs p hp; rfl
    | cons z zs ih => intro cs p hp; rw [spl,ih _ _ (by omega),Array.getElem?_setIfInBounds_ne (by omega)]
   rw [Array.getElem?_toList,this _ _ _ (by omega),Array.getElem?_setIfInBounds_self_of_lt (by omega)]
  obtain ⟨hl,he⟩ := List.getElem?_eq_some_iff.1 h2
  rw [spl,List.drop_eq_getElem_cons hl,List.length_cons,List.take_succ_cons,he,h1]
theorem spl_off (ys : List Value) (cs : Array Value) (q r n : Nat) (h : r + n <= q) : ((spl cs q ys).toList.drop r).take n = (cs.toList.drop r).take n := by
 induction ys generalizing cs q with
 | nil => rfl
 | cons y ys ih =>
  rw [spl,ih _ _ (by omega),Array.toList_setIfInBounds]
  apply List.ext_getElem?
  intro i
  by_cases hi : i < n
  ·rw [List.getElem?_take_of_lt hi,List.getElem?_take_of_lt hi,List.getElem?_drop,List.getElem?_drop,List.getElem?_set_ne (by omega)]
  ·rw [List.getElem?_eq_none (by rw [List.length_take]; omega),List.getElem?_eq_none (by rw [List.length_take]; omega)]
theorem ext_take (cs : Array Value) (q n : Nat) : (cs.extract q (q + n)).toList = (cs.toList.drop q).take n := by
 rw [Array.toList_extract,List.extract_eq_take_drop,Nat.add_sub_cancel_left]
theorem D_y {ρ : List Value} {A B I : SV} {n n' : Nat} {w wts s w' wts' s' : Value} {lo hi k lo' hi' k' : Int} {i : Nat} (hA : D Tryz.prog ρ A = yv n w wts lo hi k s) (hB : D Tryz.prog ρ B = yv n' w' wts' lo' hi' k' s') (hI : D Tryz.prog ρ I = ii (i : Nat)) (hi2 : i < 2) :
  D Tryz.prog ρ (.sub (.put (.put (.z 46) 0 7 A 0 noI) 7 7 B 0 noI) 0 7 7 I) = if i = 0 then yv n w wts lo hi k s else yv n' w' wts' lo' hi' k' s' := by
 show Value.agg ((Value.agg (spl (Value.agg (spl (zeroV Tryz.prog 46).cells (0 + 0 * ixOf (D Tryz.prog ρ noI)) (D Tryz.prog ρ A).cells.toList)).cells (7 + 0 * ixOf (D Tryz.prog ρ noI)) (D Tryz.prog ρ B).cells.toList)).cells.extract (0 + 7 * ixOf (D Tryz.prog ρ I)) (0 + 7 * ixOf (D Tryz.prog ρ I) + 7)) = _
 rw [hA,hB,hI,Nat.zero_mul,Nat.add_zero,Nat.add_zero,Nat.zero_add,show ixOf (ii (i : Nat)) = i from Int.toNat_natCast i,cells_agg,cells_agg]
 have hz := z_2s
 generalize (zeroV Tryz.prog 46).cells = Z at hz
 have e0 : (yv n w wts lo hi k s).cells.toList.length = 7 := rfl
 have e1 : (yv n' w' wts' lo' hi' k' s').cells.toList.length = 7 := rfl
 rcases (show i = 0 \/ i = 1 by omega) with rfl | rfl
 ·rw [if_pos rfl,Nat.mul_zero]
  have : (spl (spl Z 0 (yv n w wts lo hi k s).cells.toList) 7 (yv n' w' wts' lo' hi' k' s').cells.toList).extract 0 (0 + 7) = (yv n w wts lo hi k s).cells := by
   rw [<- Array.toList_inj,ext_take,spl_off _ _ _ _ _ (by omega)]
   have := spl_at (yv n w wts lo hi k s).cells.toList Z 0 (by rw [e0,hz]; omega)
   rw [e0] at this
   exact this
  rw [this]; rfl
 ·rw [if_neg (by omega),Nat.mul_one]
  have : (spl (spl Z 0 (yv n w wts lo hi k s).cells.toList) 7 (yv n' w' wts' lo' hi' k' s').cells.toList).extract 7 (7 + 7) = (yv n' w' wts' lo' hi' k' s').cells := by
   rw [<- Array.toList_inj,ext_take]
   have := spl_at (yv n' w' wts' lo' hi' k' s').cells.toList (spl Z 0 (yv n w wts lo hi k s).cells.toList) 7 (by rw [e1,spl_len,hz]; omega)
   rw [e1] at this
   exact this
  rw [this]; rfl
section
variable {ρ : List Value} {x : SV} {n : Nat} {w wts s : Value} {lo hi k : Int} (h : D Tryz.prog ρ x = yv n w wts lo hi k s)
include h
theorem D_yg : D Tryz.prog ρ (.sub x 0 2 0 noI) = gv n w := (D_sub h).trans rfl
theorem D_yb : D Tryz.prog ρ (.sub x 2 4 0 noI) = bv wts lo hi k := (D_sub h).trans rfl
theorem D_yl : D Tryz.prog ρ (.cell x 6 0 noI) = s := by
 show (D Tryz.prog ρ x).cells.getD (6 + 0 * ixOf (D Tryz.prog ρ noI)) undef = _
 rw [h,Nat.zero_mul]; rfl
end
theorem z_3u : zeroV Tryz.prog 51 = .agg #[uv 0,uv 0,uv 0] := by kernel_rfl
def setOf (n s i : Nat) : Nat := if i = 0 then s &&& (2 ^ n - 1) else if i = 1 then 2 ^ n - 1 else s
theorem D_set {ρ : List Value} {x g I : SV} {n s i : Nat} {w : Value} (hx : D Tryz.prog ρ x = uv s) (hs : s < M64) (hg : D Tryz.prog ρ g = gv n w) (hn : n < 64) (hI : D Tryz.prog ρ I = ii (i : Nat)) (hi3 : i < 3) :
  D Tryz.prog ρ (.cell (.put (.put (.put (.z 51) 0 1 (.op2 .and .u64 x (.op2 .sub .u64 (.op2 .shl .u64 (.k (.int .u64 1)) (.cell g 0 0 noI)) (.k (.int .u64 1)))) 0 noI) 1 1 (.op2 .sub .u64 (.op2 .shl .u64 (.k (.int .u64 1)) (.cell g 0 0 noI)) (.k (.int .u64 1))) 0 noI) 2 1 x 0 noI) 0 1 I) = uv (setOf n s i) := by
 have h0 : D Tryz.prog ρ (.cell g 0 0 noI) = ii (n : Nat) := by
  show (D Tryz.prog ρ g).cells.getD (0 + 0 * ixOf (D Tryz.prog ρ noI)) undef = _
  rw [hg,Nat.zero_mul]; rfl
 have hp := pow_lt hn
 have h1 : D Tryz.prog ρ (.op2 .sub .u64 (.op2 .shl .u64 (.k (.int .u64 1)) (.cell g 0 0 noI)) (.k (.int .u64 1))) = uv (2 ^ n - 1) := D_subu (B := 1) (D_pow h0 hn) rfl hp (Nat.two_pow_pos n)
 have h2 : D Tryz.prog ρ (.op2 .and .u64 x (.op2 .sub .u64 (.op2 .shl .u64 (.k (.int .u64 1)) (.cell g 0 0 noI)) (.k (.int .u64 1)))) = uv (s &&& (2 ^ n - 1)) := D_and hx h1 hs (by omega)
 show (Value.agg (spl (Value.agg (spl (Value.agg (spl (zeroV Tryz.prog 51).cells (0 + 0 * ixOf (D Tryz.prog ρ noI)) (D Tryz.prog ρ (.op2 .and .u64 x (.op2 .sub .u64 (.op2 .shl .u64 (.k (.int .u64 1)) (.cell g 0 0 noI)) (.k (.int .u64 1))))).cells.toList)).cells (1 + 0 * ixOf (D Tryz.prog ρ noI)) (D Tryz.prog ρ (.op2 .sub .u64 (.op2 .shl .u64 (.k (.int .u64 1)) (.cell g 0 0 noI)) (.k (.int .u64 1)))).cells.toList)).cells (2 + 0 * ixOf (D Tryz.prog ρ noI)) (D Tryz.prog ρ x).cells.toList)).cells.getD (0 + 1 * ixOf (D Tryz.prog ρ I)) undef = _
 rw [h2,h1,hx,hI,z_3u,Nat.zero_mul,Nat.add_zero,Nat.add_zero,Nat.add_zero,Nat.zero_add,Nat.one_mul,show ixOf (ii (i : Nat)) = i from Int.toNat_natCast i]
 rcases (show i = 0 \/ i = 1 \/ i = 2 by omega) with rfl | rfl | rfl <;> rfl
theorem D_eqt {ρ : List Value} {x y : SV} {b : Bool} (hx : D Tryz.prog ρ x = .bool b) (hy : D Tryz.prog ρ y = .bool b) : D Tryz.prog ρ (.eqb true x y) = .bool false := by
 show Value.bool (true != (boolOf (D Tryz.prog ρ x) == boolOf (D Tryz.prog ρ y))) = _
 rw [hx,hy]; simp
theorem D_neqs {ρ : List Value} {x y : SV} {z : Int} (hx : D Tryz.prog ρ x = ii z) (hy : D Tryz.prog ρ y = ii z) : D Tryz.prog ρ (.op2 .neq .i64 x y) = .bool false := by
 show Value.bool (intOf (D Tryz.prog ρ x) != intOf (D Tryz.prog ρ y)) = _
 rw [hx,hy]; simp
theorem map8 {ρ : List Value} {a b c d e f g h : SV} {a' b' c' d' e' f' g' h' : Value} (h1 : D Tryz.prog ρ a = a') (h2 : D Tryz.prog ρ b = b') (h3 : D Tryz.prog ρ c = c') (h4 : D Tryz.prog ρ d = d') (h5 : D Tryz.prog ρ e = e') (h6 : D Tryz.prog ρ f = f') (h7 : D Tryz.prog ρ g = g') (h8 : D Tryz.prog ρ h = h') : [a,b,c,d,e,f,g,h].map (D Tryz.prog ρ) = [a',b',c',d',e',f',g',h'] := by
 rw [List.map_cons,h1,List.map_cons,h2,List.map_cons,h3,List.map_cons,h4,map4 h5 h6 h7 h8]
theorem setOf_lt {n s i : Nat} (hs : s < M64) (hn : n < 64) : setOf n s i < M64 := by
 have := pow_lt hn
 unfold setOf
 split
 ·exact and_lt hs
 ·split
  ·omega
  ·exact hs
section
variable {H : PH} {s wv cu rv : Value} {more : List (Nat × Nat)} {wl0 cuts : List Nat} {raw : List Int} {da db dc dk s0 s1 tr bw ba set nn : Nat} {bz : Int}
set_option maxHeartbeats 4000000 in
theorem con_lRC (hT : Tb H) (hwork : Give Tryz.prog 7 [] H (.bool true)) (hs : SE H 2 bc s more) (hwv : SE H 1 c8 wv wl0) (hcu : SE H 1 c8 cu cuts) (hc256 : ∀ c ∈ cuts,c < 256) (htr : tr < 256) (hba : ba < 256) (hrv : SI H rv raw) (hset : set < M64) (hnn : nn < 65536) :
  Con Tryz.prog 3 [cv da db dc s wv cu dk s0 s1 tr,bn bw ba bz,rv,uv set,.int .u16 (nn : Nat)] H fun r H' => PH.le H H' /\ r = .bool true := by
 refine con_of_tree mixed tr_lRC np_lRC rfl ?_
 refine den_rq (cv_one (sl_oneC hs) (sl_oneC hwv) (sl_oneC hcu) _ _ _ _ _ _ _) ?_
 refine den_rq ⟨rfl,fun c hc => by rw [show D Tryz.prog _ _ = bn bw ba bz from rfl,bn,cells_agg] at hc; simp only [List.mem_cons,List.not_mem_nil,or_false] at hc; rcases hc with rfl | rfl | rfl <;> rfl⟩ ?_
 refine den_give (hwork) rfl fun H1 l1 => ?_
 simp only [cA,nA]
 refine den_rq ⟨_,rfl⟩ ?_
 refine den_false rfl ?_
 refine den_call (con_r32cas (hs.mono l1) (hwv.mono l1) (hcu.mono l1) hc256 htr) rfl ?_
 rintro _ H2 ⟨l2,n,w,es,wts,wl,lo,hi,k,u,p,rfl,hw,hg,hn9,hC,hwt,hwl,hk1,hk4,hu,hpl,hp8⟩
 refine ⟨fun h => (nomatch h),?_⟩
 simp only [cA,nA]
 have hn1 := hg.n1
 refine den_rq ⟨_,rfl,by simp⟩ ?_
 refine den_rq ⟨_,rfl,by simp⟩ ?_
 refine den_rq ⟨_,rfl,by simp⟩ ?_
 refine den_rq (gv_one hw) ?_
 refine den_rq (bv_one (sl_oneC hwt) _ _ _) ?_
 refine den_call (con_lben (x := bw) (z := bz) hba hw hg hwt hu (by omega) (by omega) (by omega) (by omega)) rfl ?_
 rintro _ H3 ⟨l3,w',es',wts',wl',lo',hi',k',u',p',rfl,hw',hg',hwt',hu',hwl',hpl'⟩
 refine ⟨fun h => (nomatch h),?_⟩
 simp only [cA,nA]
 refine den_rq ⟨_,rfl,by simp⟩ ?_
 refine den_rq ⟨_,rfl,by simp⟩ ?_
 refine den_rq ⟨_,rfl,by simp⟩ ?_
 refine den_rq (gv_one hw') ?_
 refine den_rq (bv_one (sl_oneC hwt') _ _ _) ?_
 have l13 := (l1.trans l2).trans l3
 have hrv3 := hrv.mono l13
 have hmin : (if (12 : Int) < (raw.length : Nat) then (12 : Int) else (raw.length : Nat)) = ((min raw.length 12 : Nat) : Int) := by split <;> omega
 refine den_lenE el_plan op_lRC_5_6 rfl hrv3 rfl ?_
 refine den_prim ((yld_minI (vs := [ii (raw.length : Nat),ii 12]) op_lRC_5_7 rfl rfl).rds _) rfl ?_
 simp only [cA,nA]
 rw [hmin]
 obtain ⟨ur,hyr,hsr⟩ := yld_takeE el_plan (vs := [rv,ii ((min raw.length 12 : Nat) : Int)]) (k := .i64) (j := min raw.length 12) op_lRC_5_8 rfl rfl hrv3 (by omega)
 refine den_prim (hyr.rds _) rfl ?_
 simp only [cA,nA]
 obtain ⟨su,rfl⟩ := so_slc hu
 obtain ⟨su',rfl⟩ := so_slc hu'
 obtain ⟨sr,rfl⟩ := so_slc hsr
 refine den_mkE el_pla (N := 3) (l := [su,su',sr]) (vs := [vs su,vs su',vs sr]) rfl (by decide) (by decide) op_lRC_5_9 rfl rfl fun v11 H4 l4 o4 => ?_
 simp only [cA,nA]
 refine den_rq o4.se.one ?_
 refine den_mkE el_pla (N := 2) (l := [su,su']) (vs := [vs su,vs su']) rfl (by decide) (by decide) op_lRC_5_15 rfl rfl fun v12 H5 l5 o5 => ?_
 simp only [cA,nA]
 refine den_rq o5.se.one ?_
 have hw := hw.mono (l3.trans (l4.trans l5))
 have hwt := hwt.mono (l3.trans (l4.trans l5))
 have hu := hu.mono (l3.trans (l4.trans l5))
 have hw' := hw'.mono (l4.trans l5)
 have hwt' := hwt'.mono (l4.trans l5)
 have hu' := hu'.mono (l4.trans l5)
 have hsr := hsr.mono (l4.trans l5)
 have o4 := o4.mono l5
 have l15 := l13.trans (l4.trans l5)
 have hT := hT.mono l15
 refine den_loopV (α := Nat) (fun i => [.bool false,ii (i : Nat),cv da db dc s wv cu dk s0 s1 tr,bn bw ba bz,gv n w,bv wts lo hi (k : Nat),gv n w',bv wts' lo' hi' k']) (fun i => fun H' => PH.le H5 H' /\ i <= 2) (fun i => 2 - i) (0) rfl (⟨PH.le.refl _,Nat.zero_le _⟩) fun i H6 hQ6 => ?_
 simp only [cA,nA]
 obtain ⟨l6,hi2⟩ := hQ6
 refine den_rq ⟨_,rfl⟩ ?_
 refine den_br (b := decide (((i : Nat) : Int) < 2)) rfl (fun h => ?_) (fun h => ?_)
 ·replace h := of_decide_eq_true h
  have hi2 : i < 2 := by omega
  refine den_rq ⟨_,_,rfl⟩ ?_
  refine den_rq ⟨by show (0 : Int) <= ((i : Nat) : Int); omega,by show ((i : Nat) : Int) < 2; omega⟩ ?_
  obtain ⟨w2,es2,wts2,wl2,lo2,hi2',k2,s2,l2',hY,hw2,hg2,hwt2,hs2,hl2⟩ : ∃ (w2 : Value) (es2 : List (Nat × Nat)) (wts2 : Value) (wl2 : List Int) (lo2 hi2 k2 : Int) (s2 : Value) (l2 : List Slc),(∀ ρ : List Value,D Tryz.prog ρ (.v 6) = .tuple #[gv n w,bv wts lo hi (k : Nat),vs su] -> D Tryz.prog ρ (.v 7) = .tuple #[gv n w',bv wts' lo' hi' k',vs su'] -> D Tryz.prog ρ (.v 11) = v11 -> D Tryz.prog ρ (.v 12) = v12 -> D Tryz.prog ρ (.v 14) = ii (i : Nat) -> D Tryz.prog ρ (.sub (.put (.put (.z 46) 0 7 (.cat (.ag (.proj (.v 6) 0)) 2 (.cat (.ag (.proj (.v 6) 1)) 4 (.v 11))) 0 noI) 7 7 (.cat (.ag (.proj (.v 7) 0)) 2 (.cat (.ag (.proj (.v 7) 1)) 4 (.v 12))) 0 noI) 0 7 7 (.v 14)) = yv n w2 wts2 lo2 hi2 k2 s2) /\ SG H5 w2 es2 /\ GV n es2 /\ SI H5 wts2 wl2 /\ SE H5 1 (fun s : Slc => [vs s]) s2 l2 /\ ∀ s ∈ l2,∃ p,SI H5 (vs s) p := by
   have hA : ∀ ρ : List Value,D Tryz.prog ρ (.v 6) = .tuple #[gv n w,bv wts lo hi (k : Nat),vs su] -> D Tryz.prog ρ (.v 11) = v11 -> D Tryz.prog ρ (.cat (.ag (.proj (.v 6) 0)) 2 (.cat (.ag (.proj (.v 6) 1)) 4 (.v 11))) = yv n w wts lo hi (k : Nat) v11 := fun ρ h1 h2 => D_yc (by show tupV 0 (D Tryz.prog ρ (.v 6)) = _; rw [h1]; rfl) (by show tupV 1 (D Tryz.prog ρ (.v 6)) = _; rw [h1]; rfl) h2 o4.se.cells
   have hB : ∀ ρ : List Value,D Tryz.prog ρ (.v 7) = .tuple #[gv n w',bv wts' lo' hi' k',vs su'] -> D Tryz.prog ρ (.v 12) = v12 -> D Tryz.prog ρ (.cat (.ag (.proj (.v 7) 0)) 2 (.cat (.ag (.proj (.v 7) 1)) 4 (.v 12))) = yv n w' wts' lo' hi' k' v12 := fun ρ h1 h2 => D_yc (by show tupV 0 (D Tryz.prog ρ (.v 7)) = _; rw [h1]; rfl) (by show tupV 1 (D Tryz.prog ρ (.v 7)) = _; rw [h1]; rfl) h2 o5.se.cells
   rcases (show i = 0 \/ i = 1 by omega) with h0 | h0
   ·refine ⟨w,es,wts,wl,lo,hi,_,v11,[su,su',sr],fun ρ a b c d e => by rw [D_y (hA ρ a c) (hB ρ b d) e hi2,if_pos h0],hw,hg,hwt,o4.se,fun x hx => ?_⟩
    simp only [List.mem_cons,List.not_mem_nil,or_false] at hx
    rcases hx with rfl | rfl | rfl
    ·exact ⟨_,hu⟩
    ·exact ⟨_,hu'⟩
    ·exact ⟨_,hsr⟩
   ·refine ⟨w',es',wts',wl',lo',hi',k',v12,[su,su'],fun ρ a b c d e => by rw [D_y (hA ρ a c) (hB ρ b d) e hi2,if_neg (by omega)],hw',hg',hwt',o5.se,fun x hx => ?_⟩
    simp only [List.mem_cons,List.not_mem_nil,or_false] at hx
    rcases hx with rfl | rfl
    ·exact ⟨_,hu⟩
    ·exact ⟨_,hu'⟩
  obtain ⟨_,a2,c2,rfl,_⟩ := id hs2
  have hYg : ∀ ρ : List Value,D Tryz.prog ρ (.v 6) = .tuple #[gv n w,bv wts lo hi (k : Nat),vs su] -> D Tryz.prog ρ (.v 7) = .tuple #[gv n w',bv wts' lo' hi' k',vs su'] -> D Tryz.prog ρ (.v 11) = v11 -> D Tryz.prog ρ (.v 12) = v12 -> D Tryz.prog ρ (.v 14) = ii (i : Nat) -> D Tryz.prog ρ (.sub (.sub (.put (.put (.z 46) 0 7 (.cat (.ag (.proj (.v 6) 0)) 2 (.cat (.ag (.proj (.v 6) 1)) 4 (.v 11))) 0 noI) 7 7 (.cat (.ag (.proj (.v 7) 0)) 2 (.cat (.ag (.proj (.v 7) 1)) 4 (.v 12))) 0 noI) 0 7 7 (.v 14)) 0 2 0 noI) = gv n w2 := fun ρ a b c d e => D_yg (hY ρ a b c d e)
  have hYb : ∀ ρ : List Value,D Tryz.prog ρ (.v 6) = .tuple #[gv n w,bv wts lo hi (k : Nat),vs su] -> D Tryz.prog ρ (.v 7) = .tuple #[gv n w',bv wts' lo' hi' k',vs su'] -> D Tryz.prog ρ (.v 11) = v11 -> D Tryz.prog ρ (.v 12) = v12 -> D Tryz.prog ρ (.v 14) = ii (i : Nat) -> D Tryz.prog ρ (.sub (.sub (.put (.put (.z 46) 0 7 (.cat (.ag (.proj (.v 6) 0)) 2 (.cat (.ag (.proj (.v 6) 1)) 4 (.v 11))) 0 noI) 7 7 (.cat (.ag (.proj (.v 7) 0)) 2 (.cat (.ag (.proj (.v 7) 1)) 4 (.v 12))) 0 noI) 0 7 7 (.v 14)) 2 4 0 noI) = bv wts2 lo2 hi2' k2 := fun ρ a b c d e => D_yb (hY ρ a b c d e)
  have hYl : ∀ ρ : List Value,D Tryz.prog ρ (.v 6) = .tuple #[gv n w,bv wts lo hi (k : Nat),vs su] -> D Tryz.prog ρ (.v 7) = .tuple #[gv n w',bv wts' lo' hi' k',vs su'] -> D Tryz.prog ρ (.v 11) = v11 -> D Tryz.prog ρ (.v 12) = v12 -> D Tryz.prog ρ (.v 14) = ii (i : Nat) -> D Tryz.prog ρ (.cell (.sub (.put (.put (.z 46) 0 7 (.cat (.ag (.proj (.v 6) 0)) 2 (.cat (.ag (.proj (.v 6) 1)) 4 (.v 11))) 0 noI) 7 7 (.cat (.ag (.proj (.v 7) 0)) 2 (.cat (.ag (.proj (.v 7) 1)) 4 (.v 12))) 0 noI) 0 7 7 (.v 14)) 6 0 noI) = .slice a2 l2'.length c2 := fun ρ a b c d e => D_yl (hY ρ a b c d e)
  refine den_rq (by show (D Tryz.prog _ (.sub (.put (.put (.z 46) 0 7 (.cat (.ag (.proj (.v 6) 0)) 2 (.cat (.ag (.proj (.v 6) 1)) 4 (.v 11))) 0 noI) 7 7 (.cat (.ag (.proj (.v 7) 0)) 2 (.cat (.ag (.proj (.v 7) 1)) 4 (.v 12))) 0 noI) 0 7 7 (.v 14))).cells.size = 7 /\ oneAll (D Tryz.prog _ (.sub (.put (.put (.z 46) 0 7 (.cat (.ag (.proj (.v 6) 0)) 2 (.cat (.ag (.proj (.v 6) 1)) 4 (.v 11))) 0 noI) 7 7 (.cat (.ag (.proj (.v 7) 0)) 2 (.cat (.ag (.proj (.v 7) 1)) 4 (.v 12))) 0 noI) 0 7 7 (.v 14))).cells; rw [hY _ rfl rfl rfl rfl rfl]; exact ⟨rfl,fun c hc => by rw [yv,cells_agg] at hc; simp only [List.mem_cons,List.not_mem_nil,or_false] at hc; rcases hc with rfl | rfl | rfl | rfl | rfl | rfl | rfl; exact rfl; exact sl_oneC hw2; exact sl_oneC hwt2; exact rfl; exact rfl; exact rfl; exact sl_oneC hs2⟩) ?_
  have hw2 := hw2.mono l6
  have hwt2 := hwt2.mono l6
  have hs2 := hs2.mono l6
  refine den_give (give_mchk (lo := lo2) (hi := hi2') (ds := k2) hw2 hg2 hwt2) (map2 (hYg _ rfl rfl rfl rfl rfl) (hYb _ rfl rfl rfl rfl rfl)) fun H7 l7 => ?_
  simp only [cA,nA]
  have hw2 := hw2.mono l7
  have hwt2 := hwt2.mono l7
  have hs2 := hs2.mono l7
  refine den_ask (ask_r32chk (lo := lo2) (hi := hi2') (ds := k2) hw2 hg2 hwt2) (map2 (hYg _ rfl rfl rfl rfl rfl) (hYb _ rfl rfl rfl rfl rfl)) ?_
  simp only [cA,nA]
  refine den_rq ⟨_,rfl⟩ ?_
  refine den_rq ⟨_,rfl⟩ ?_
  refine den_false (by show Value.bool (bdE n wl2 lo2 hi2' k2 != bdE n wl2 lo2 hi2' k2) = _; simp) ?_
  refine den_lenE el_pla op_lRC_10_2 rfl hs2 (map1 (hYl _ rfl rfl rfl rfl rfl)) ?_
  simp only [cA,nA]
  refine den_loopV (α := Nat) (fun j => [.bool false,ii (j : Nat)]) (fun j => fun H' => PH.le H7 H' /\ j <= l2'.length) (fun j => l2'.length - j) (0) rfl (⟨PH.le.refl _,Nat.zero_le _⟩) fun j H8 hQ8 => ?_
  simp only [cA,nA]
  obtain ⟨l8,hj⟩ := hQ8
  refine den_rq ⟨_,rfl⟩ ?_
  refine den_rq ⟨_,rfl⟩ ?_
  refine den_br (b := decide (((j : Nat) : Int) < (l2'.length : Nat))) rfl (fun h2 => ?_) (fun h2 => ?_)
  ·replace h2 := of_decide_eq_true h2
   have hj2 : j < l2'.length := by omega
   have hl63 := hs2.len
   obtain ⟨sj,hsj,_⟩ := at_drop hj2
   obtain ⟨pj,hpj⟩ := hl2 sj (List.mem_of_getElem? hsj)
   have hpj := hpj.mono ((l6.trans l7).trans l8)
   refine den_atE el_pla op_lRC_12_0 op_lRC_12_1 rfl rfl (fun _ => rfl) (hs2.mono l8) hsj (map2 (hYl _ rfl rfl rfl rfl rfl) rfl) (fun _ => rfl) fun _ => ?_
   simp only [cA,nA]
   refine den_give (give_mAll (lo := lo2) (hi := hi2') (ds := k2) (hT.mono ((l6.trans l7).trans l8)) (hw2.mono l8) hg2 (hwt2.mono l8) hpj) (map3 (hYg _ rfl rfl rfl rfl rfl) (hYb _ rfl rfl rfl rfl rfl) rfl) fun H9 l9 => ?_
   simp only [cA,nA]
   refine den_rq ⟨_,rfl,by simp⟩ ?_
   refine den_rq ⟨_,rfl,by simp⟩ ?_
   refine den_give (give_r32all (lo := lo2) (hi := hi2') (ds := k2) (hw2.mono (l8.trans l9)) hg2 (hwt2.mono (l8.trans l9)) (hpj.mono l9)) (map3 (hYg _ rfl rfl rfl rfl rfl) (hYb _ rfl rfl rfl rfl rfl) rfl) fun H10 l10 => ?_
   simp only [cA,nA]
   refine den_rq ⟨_,rfl,by simp⟩ ?_
   refine den_rq ⟨_,rfl,by simp⟩ ?_
   refine den_rq ⟨_,rfl⟩ ?_
   refine den_rq ⟨_,rfl⟩ ?_
   refine den_false (D_eqt rfl rfl) ?_
   refine den_rq ⟨_,rfl⟩ ?_
   refine den_rq ⟨_,rfl⟩ ?_
   refine den_false (D_neqs rfl rfl) ?_
   exact ⟨j + 1,by omega,(map2 rfl (D_inc rfl (by omega))),⟨(l8.trans l9).trans l10,hj2⟩⟩
  ·replace h2 := of_decide_eq_false h2
   refine den_rq ⟨_,_,rfl⟩ ?_
   refine den_rq (by show (0 : Int) <= ((n : Nat) : Int); omega) ?_
   refine den_rq ⟨_,rfl⟩ ?_
   refine den_rq (el_u64.vcells set) ?_
   have hw2 := hw2.mono l8
   have hwt2 := hwt2.mono l8
   have hT := hT.mono ((l6.trans l7).trans l8)
   refine den_loopV (α := Nat) (fun q => [.bool false,ii (q : Nat)]) (fun q => fun H' => PH.le H8 H' /\ q <= 3) (fun q => 3 - q) (0) rfl (⟨PH.le.refl _,Nat.zero_le _⟩) fun q H9 hQ9 => ?_
   simp only [cA,nA]
   obtain ⟨l9,hq⟩ := hQ9
   refine den_rq ⟨_,rfl⟩ ?_
   refine den_br (b := decide (((q : Nat) : Int) < 3)) rfl (fun h3 => ?_) (fun h3 => ?_)
   ·replace h3 := of_decide_eq_true h3
    have hq3 : q < 3 := by omega
    refine den_rq ⟨_,_,rfl⟩ ?_
    refine den_rq ⟨by show (0 : Int) <= ((q : Nat) : Int); omega,by show ((q : Nat) : Int) < 3; omega⟩ ?_
    have hsq : setOf n set q < M64 := setOf_lt hset (by omega)
    have hw2 := hw2.mono l9
    have hwt2 := hwt2.mono l9
    have hT := hT.mono l9
    have hfM : fewN (setOf n set q) n < M64 := M64_pow (by omega) (fewN_lt _ n)
    refine den_ask (ask_r30few hw2 (by omega) hsq) (map2 (hYg _ rfl rfl rfl rfl rfl) (D_set rfl hset (w := w) rfl (by omega) rfl hq3)) ?_
    simp only [cA,nA]
    refine den_call (con_r30cou hw2 hg2 hfM (fewN_card _ _)) (map2 (hYg _ rfl rfl rfl rfl rfl) rfl) ?_
    rintro _ H10 ⟨l10,a,e,rfl⟩
    refine ⟨fun _ => l10,?_⟩
    simp only [cA,nA]
    refine den_rq ⟨_,rfl,by simp⟩ ?_
    refine den_rq ⟨_,rfl,by simp⟩ ?_
    refine den_rq (wd_one8 a) ?_
    refine den_call (con_rInt a) rfl ?_
    rintro v30 H11 ⟨l11,hv30⟩
    refine ⟨fun h => (nomatch h),?_⟩
    simp only [cA,nA]
    obtain ⟨z,e2,hze⟩ := told64_form (toI a)
    rw [hze] at hv30
    subst hv30
    refine den_rq ⟨_,rfl,by simp⟩ ?_
    refine den_rq ⟨_,rfl,by simp⟩ ?_
    refine den_rq ⟨_,rfl⟩ ?_
    refine den_prim ((yld_maxI (vs := [ii z,ii 1]) op_lRC_23_9 rfl rfl).rds _) rfl ?_
    simp only [cA,nA]
    obtain ⟨m,hm,hm1⟩ : ∃ m : Int,(if (1 : Int) > z then (1 : Int) else z) = m /\ 1 <= m := ⟨_,rfl,by split <;> omega⟩
    rw [hm]
    refine den_rq ⟨_,rfl⟩ ?_
    refine den_rq (show m ≠ 0 by omega) ?_
    have lx := l10.trans l11
    refine den_ask (ask_r30few (hw2.mono lx) (by omega) hsq) (map2 (hYg _ rfl rfl rfl rfl rfl) (D_set rfl hset (w := w) rfl (by omega) rfl hq3)) ?_
    simp only [cA,nA]
    have ht0 : 0 <= Int.tmod ((nn : Nat) : Int) m := Int.tmod_nonneg _ (by omega)
    have ht1 : Int.tmod ((nn : Nat) : Int) m <= (nn : Nat) := by
     obtain ⟨m',rfl⟩ : ∃ m' : Nat,m = (m' : Int) := ⟨m.toNat,by omega⟩
     rw [<- Int.ofNat_tmod]
     have := Nat.mod_le nn m'
     omega
    refine den_call (con_rOf (Int.tmod ((nn : Nat) : Int) m) (by omega) (by omega)) (map1 (by show Value.int .i64 (Int.tmod (IntKind.i64.wrap ((nn : Nat) : Int)) m) = _; rw [show IntKind.i64.wrap ((nn : Nat) : Int) = ((nn : Nat) : Int) by rw [IntKind.wrap_i64]; omega])) ?_
    rintro _ H12 ⟨l12,rfl⟩
    refine ⟨fun _ => l12,?_⟩
    simp only [cA,nA]
    have lx := lx.trans l12
    refine den_call (con_r30unr (hw2.mono lx) hg2 hfM (fewN_card _ _) (rs (Int.tmod ((nn : Nat) : Int) m))) (map3 (hYg _ rfl rfl rfl rfl rfl) rfl rfl) ?_
    rintro _ H13 ⟨l13',v,t,e3,rfl,ht⟩
    refine ⟨fun _ => l13',?_⟩
    simp only [cA,nA]
    have lx := lx.trans l13'
    refine den_rq ⟨_,rfl,by simp⟩ ?_
    refine den_rq ⟨_,rfl,by simp⟩ ?_
    refine den_call (con_mBal (lo := lo2) (hi := hi2') (ds := k2) (hT.mono lx) (hw2.mono lx) hg2 (hwt2.mono lx) ht hsq) (map4 (hYg _ rfl rfl rfl rfl rfl) (hYb _ rfl rfl rfl rfl rfl) (D_set rfl hset (w := w) rfl (by omega) rfl hq3) rfl) ?_
    rintro _ H14 ⟨l14,vb1,lb1,eb1,rfl,hb1,he1,hL1⟩
    refine ⟨fun h => (nomatch h),?_⟩
    simp only [cA,nA]
    have lx := lx.trans l14
    refine den_rq ⟨_,rfl,by simp⟩ ?_
    refine den_rq ⟨_,rfl,by simp⟩ ?_
    refine den_call (con_r32bal (lo := lo2) (hi := hi2') (ds := k2) (hT.mono lx) (hw2.mono lx) hg2 (hwt2.mono lx) (ht.mono l14) hsq) (map4 (hYg _ rfl rfl rfl rfl rfl) (hYb _ rfl rfl rfl rfl rfl) (D_set rfl hset (w := w) rfl (by omega) rfl hq3) rfl) ?_
    rintro _ H15 ⟨l15',vb2,lb2,eb2,rfl,hb2,he2,hL2⟩
    refine ⟨fun h => (nomatch h),?_⟩
    simp only [cA,nA]
    have lx := lx.trans l15'
    have hee : eb2 = eb1 := by rw [he1,he2]
    subst hee
    have hll : lb2 = lb1 := by rw [hL1,hL2]
    subst hll
    refine den_rq ⟨_,rfl,by simp⟩ ?_
    refine den_rq ⟨_,rfl,by simp⟩ ?_
    refine den_ask (ask_seqI (hb1.mono l15') hb2) rfl ?_
    simp only [cA,nA]
    refine den_rq ⟨_,rfl⟩ ?_
    refine den_false rfl ?_
    refine den_rq ⟨_,rfl⟩ ?_
    refine den_rq ⟨_,rfl⟩ ?_
    refine den_false (D_neqs rfl rfl) ?_
    exact ⟨q + 1,by omega,(map2 rfl (D_inc rfl (by omega))),⟨l9.trans lx,hq3⟩⟩
   ·replace h3 := of_decide_eq_false h3
    exact ⟨i + 1,by omega,(map8 rfl (D_inc rfl (by omega)) rfl rfl rfl rfl rfl rfl),⟨((l6.trans l7).trans l8).trans l9,by omega⟩⟩
 ·replace h := of_decide_eq_false h
  exact den_ret rfl ⟨l15.trans l6,rfl⟩
end
end Go.Proofs.YtkcjbfoejpfbbaaGreatDoor


/- Chapter 32: trees. -/
import Derived.Test.YtkcjbfoejpfbbaaGreatDoorGbB
import Derived.Test.YtkcjbfoejpfbbaaGreatDoorGsO
import Derived.Test.YtkcjbfoejpfbbaaGreatDoorGtT
namespace Go.GS
structure Par (p : List Nat) (f : Nat -> Nat) : Prop where
 len : p.length = 64
 lb : Lb f
 le : ∀ x y : Nat,p[x]? = some y -> y <= x
 up : ∀ x y : Nat,p[x]? = some y -> f y = f x
 fix : ∀ x y : Nat,p[x]? = some y -> (y = x ↔ f x = x)
theorem Par.at {p : List Nat} {f : Nat -> Nat} (h : Par p f) {x : Nat} (hx : x < 64) : ∃ y,p[x]? = some y := ⟨_,List.getElem?_eq_getElem (by rw [h.len]; exact hx)⟩
theorem Par.id : Par (List.range 64) id where
 len := by simp
 lb := ⟨fun _ => rfl,fun _ => Nat.le_refl _⟩
 le := fun x y h => by rw [List.getElem?_eq_some_iff] at h; obtain ⟨_,rfl⟩ := h; simp
 up := fun x y h => by rw [List.getElem?_eq_some_iff] at h; obtain ⟨_,rfl⟩ := h; simp
 fix := fun x y h => by rw [List.getElem?_eq_some_iff] at h; obtain ⟨_,rfl⟩ := h; simp
theorem Par.join {p : List Nat} {f : Nat -> Nat} (h : Par p f) {e : Nat × Nat} (h1 : e.1 < 64) (h2 : e.2 < 64) : Par (p.set (max (f e.1) (f e.2)) (min (f e.1) (f e.2))) (joinF f e) := by
 have la := h.lb.le e.1
 have lb := h.lb.le e.2
 have ia := h.lb.idm e.1
 have ib := h.lb.idm e.2
 have hlb := h.lb.join e
 unfold joinF at hlb ⊢
 generalize f e.1 = a at *
 generalize f e.2 = b at *
 have hm : f (min a b) = min a b := by rcases Nat.le_total a b with hh | hh; rw [Nat.min_eq_left hh,ia]; rw [Nat.min_eq_right hh,ib]
 have hM : f (max a b) = max a b := by rcases Nat.le_total a b with hh | hh; rw [Nat.max_eq_right hh,ib]; rw [Nat.max_eq_left hh,ia]
 have hle : min a b <= max a b := by omega
 have hMl : max a b < p.length := by rw [h.len]; omega
 generalize max a b = M at *
 generalize min a b = m at *
 refine ⟨by rw [List.length_set]; exact h.len,hlb,?_,?_,?_⟩
 ·intro x y hy
  rw [List.getElem?_set] at hy
  split at hy
  ·rename_i e; subst e; cases hy; exact hle
  ·exact h.le x y hy
 ·intro x y hy
  rw [List.getElem?_set] at hy
  split at hy
  ·rename_i e; subst e; cases hy
   rw [hm,if_pos hM]
   split <;> rfl
  ·rw [h.up x y hy]
 ·intro x y hy
  rw [List.getElem?_set] at hy
  split at hy
  ·rename_i e; subst e; cases hy
   rw [if_pos hM]
  ·rename_i hne
   rw [h.fix x y hy]
   split
   ·rename_i hfx
    constructor
    ·intro h1; exact absurd (hfx.symm.trans h1) hne
    ·intro h1; subst h1; rw [hm] at hfx; exact absurd hfx.symm hne
   ·exact Iff.rfl
end Go.GS
namespace Go.Proofs.YtkcjbfoejpfbbaaGreatDoor
theorem rng_set {i : Nat} (h : i < 64) : (List.range i ++ List.replicate (64 - i) 0).set i i = List.range (i + 1) ++ List.replicate (64 - (i + 1)) 0 := by
 obtain ⟨k,hk⟩ : ∃ k,64 - i = k + 1 := ⟨64 - i - 1,by omega⟩
 rw [hk,show 64 - (i + 1) = k by omega,List.replicate_succ,List.range_succ,List.append_assoc]
 simp [List.set_append]
open Go.RowKit Go.RX Go.GS
theorem el_par : El Tryz.prog 193 3 1 false (fun x : Nat => [ii (x : Nat)]) (fun x : Nat => ii (x : Nat)) where
 und := by kernel_rfl
 has := by kernel_rfl
 cel := by kernel_rfl
 agg := by kernel_rfl
 pos := by decide
 one1 := fun _ => rfl
 small := by decide
 inf := ⟨(Tryz.prog.info? 3).getD default,ii 0,by kernel_rfl,by kernel_rfl,by kernel_rfl,rfl,of_decide_eq_true (by kernel_rfl)⟩
 len := fun _ => rfl
 val := fun _ => rfl
 cells := fun _ => rfl
 one := fun x c hc => by simp at hc; subst hc; rfl
abbrev PO (H0 H : PH) (v : Value) (p : List Nat) : Prop := SO H0 H 3 1 (fun x : Nat => [ii (x : Nat)]) v p
abbrev PS (H : PH) (v : Value) (p : List Nat) : Prop := SE H 1 (fun x : Nat => [ii (x : Nat)]) v p
section
variable {H H0 : PH} {u v w wts : Value} {p : List Nat} {wl : List Int} {n : Nat} {es : List (Nat × Nat)} {lo hi ds : Int} {set x : Nat} {f : Nat -> Nat} {e : Nat × Nat}
theorem con_talo : Con Tryz.prog 125 [] H fun r H' => PH.le H H' /\ ∃ v,r = .agg #[v] /\ PO H H' v (List.range 64) := by
 refine con_of_tree mixed tr_talo np_talo rfl ?_
 refine den_makeE el_par (z := (0 : Nat)) z_int op_talo_1_0 rfl rfl (m := 64) (by omega) rfl fun v H1 l1 o1 _ => ?_
 simp only [cA,nA]
 refine den_lenE el_par op_talo_2_1 rfl o1.se rfl ?_
 refine den_loopV (α := Nat) (fun i => [ii (i : Nat)]) (fun i => fun H' => i <= 64 /\ PH.le H H' /\ PO H H' v (List.range i ++ List.replicate (64 - i) 0)) (fun i => 64 - i) (0) rfl (⟨Nat.zero_le _,l1,o1⟩) fun i H' hQ => ?_
 simp only [cA,nA]
 obtain ⟨hi,l2,o2⟩ := hQ
 refine den_rq ⟨_,rfl⟩ ?_
 refine den_rq ⟨_,rfl⟩ ?_
 refine den_br (b := decide (((i : Nat) : Int) < 64)) rfl (fun h => ?_) (fun h => ?_)
 ·replace h := of_decide_eq_true h
  refine den_setE el_par (a := i) op_talo_5_3 op_talo_5_4 rfl rfl (fun _ => rfl) (fun _ => rfl) l2 o2 (by simp; omega) rfl (fun _ => rfl) rfl fun q u H3 l3 o3 _ => ?_
  simp only [cA,nA]
  exact ⟨i + 1,by omega,(map1 (D_inc rfl (by omega))),⟨by omega,l3,by rw [rng_set (by omega)] at o3; exact o3⟩⟩
 ·replace h := of_decide_eq_false h
  have he : i = 64 := by omega
  subst he
  refine den_rq o2.se.one ?_
  exact den_ret rfl ⟨l2,v,by show Value.agg v.cells = _; rw [o2.se.cells],by rw [Nat.sub_self,List.replicate_zero,List.append_nil] at o2; exact o2⟩
theorem ask_troo (hp : PS H v p) (h : Par p f) (hx : x < 64) : Asks Tryz.prog 161 [v,ii (x : Nat)] H (ii (f x : Nat)) := by
 refine con_of_tree mixed tr_troo np_troo rfl ?_
 refine den_loopR (α := Nat) (fun y => [ii (y : Nat)]) (fun y => y < 64 /\ f y = f x) (fun y => y) (x) rfl (⟨hx,rfl⟩) fun y hQ => ?_
 simp only [cA,nA]
 obtain ⟨hy,hf⟩ := hQ
 obtain ⟨z,hz⟩ := h.at hy
 refine den_atE el_par op_troo_1_2 op_troo_1_3 rfl rfl (fun _ => rfl) hp hz rfl (fun _ => rfl) fun _ => ?_
 simp only [cA,nA]
 refine den_rq ⟨_,rfl⟩ ?_
 refine den_rq ⟨_,rfl⟩ ?_
 refine den_br (b := decide (z ≠ y)) (by show Value.bool (((z : Nat) : Int) != ((y : Nat) : Int)) = _; rw [bN]; congr 1; apply decide_eq_decide.2; omega) (fun h2 => ?_) (fun h2 => ?_)
 ·replace h2 := of_decide_eq_true h2
  refine den_atE el_par op_troo_2_2 op_troo_2_3 rfl rfl (fun _ => rfl) hp hz rfl (fun _ => rfl) fun _ => ?_
  simp only [cA,nA]
  have hle := h.le y z hz
  exact ⟨z,by omega,rfl,⟨⟨by omega,by rw [h.up y z hz,hf]⟩,rfl⟩⟩
 ·replace h2 := of_decide_eq_false h2
  have hzy : z = y := Classical.byContradiction h2
  have := (h.fix y z hz).1 hzy
  exact den_ret rfl ⟨rfl,by rw [<- hf,this]; rfl⟩
theorem yld_minI {o : Oper} {x y : Operand} {t u : TypeId} {a b : Int} {vs : List Value} (ho : o.op = .call ⟨.builtin .min,#[x,y],#[t,u]⟩) (hx : argEv [x,y] vs x = .int .i64 a) (hy : argEv [x,y] vs y = .int .i64 b) : Yld Tryz.prog o vs (.int .i64 (if b < a then b else a)) := fun w => by
 have hos : o.op.operands.toList = [x,y] := by simp [ho,Op.operands,Call.operands]
 rw [hos]
 simp only [execOp,ho,resolve,invoke,Sem.run_bind,Sem.run_pure,Result.andThen_ok,List.map_toArray,List.map_cons,List.map_nil,hx,hy]
 simp only [builtin,Sem.run_bind,run_min_int2,Result.andThen_ok]
 rfl
theorem yld_maxI {o : Oper} {x y : Operand} {t u : TypeId} {a b : Int} {vs : List Value} (ho : o.op = .call ⟨.builtin .max,#[x,y],#[t,u]⟩) (hx : argEv [x,y] vs x = .int .i64 a) (hy : argEv [x,y] vs y = .int .i64 b) : Yld Tryz.prog o vs (.int .i64 (if b > a then b else a)) := fun w => by
 have hos : o.op.operands.toList = [x,y] := by simp [ho,Op.operands,Call.operands]
 rw [hos]
 simp only [execOp,ho,resolve,invoke,Sem.run_bind,Sem.run_pure,Result.andThen_ok,List.map_toArray,List.map_cons,List.map_nil,hx,hy]
 simp only [builtin,Sem.run_bind,run_max_int2,Result.andThen_ok]
 rfl
theorem con_tjoi (hle : PH.le H0 H) (hp : PO H0 H v p) (h : Par p f) (h1 : e.1 < 64) (h2 : e.2 < 64) : Con Tryz.prog 127 [.agg #[v],ev2 e] H fun r H' => r = .bool (decide (f e.1 ≠ f e.2)) /\ PH.le H0 H' /\ ∃ q,PO H0 H' v q /\ Par q (joinF f e) := by
 refine con_of_tree mixed tr_tjoi np_tjoi rfl ?_
 have hps := hp.se
 have la := h.lb.le e.1
 have lb := h.lb.le e.2
 have emin : (if ((f e.2 : Nat) : Int) < (f e.1 : Nat) then ((f e.2 : Nat) : Int) else (f e.1 : Nat)) = ((min (f e.1) (f e.2) : Nat) : Int) := by split <;> omega
 have emax : (if ((f e.2 : Nat) : Int) > (f e.1 : Nat) then ((f e.2 : Nat) : Int) else (f e.1 : Nat)) = ((max (f e.1) (f e.2) : Nat) : Int) := by split <;> omega
 refine den_rq ⟨rfl,fun c hc => by have hc : c ∈ [v] := hc; rw [List.mem_singleton] at hc; subst hc; exact sl_oneC hps⟩ ?_
 refine den_rq (el_edge.vcells e) ?_
 refine den_ask (ask_troo hps h h1) rfl ?_
 simp only [cA,nA]
 refine den_ask (ask_troo hps h h2) rfl ?_
 simp only [cA,nA]
 refine den_prim ((yld_maxI (vs := [ii (f e.1 : Nat),ii (f e.2 : Nat)]) op_tjoi_2_4 rfl rfl).rds _) rfl ?_
 simp only [cA,nA]
 refine den_prim ((yld_minI (vs := [ii (f e.1 : Nat),ii (f e.2 : Nat)]) op_tjoi_2_7 rfl rfl).rds _) rfl ?_
 simp only [cA,nA]
 rw [emin,emax]
 refine den_setE el_par (a := min (f e.1) (f e.2)) op_tjoi_2_8 op_tjoi_2_9 rfl rfl (fun _ => rfl) (fun _ => rfl) hle hp (by rw [h.len]; omega) rfl (fun _ => rfl) rfl fun q u H3 l3 o3 _ => ?_
 simp only [cA,nA]
 refine den_rq ⟨_,rfl⟩ ?_
 refine den_rq ⟨_,rfl⟩ ?_
 exact den_ret rfl ⟨by show Value.bool (((f e.1 : Nat) : Int) != ((f e.2 : Nat) : Int)) = _; rw [bN]; exact congrArg Value.bool (decide_eq_decide.2 (by omega)),l3,_,o3,h.join h1 h2⟩
theorem det_thas (hs : set < M64) (h1 : e.1 <= 64) (h2 : e.2 <= 64) : Asks Tryz.prog 126 [uv set,ev2 e] H (.bool (bit set e.1 && bit set e.2)) := by
 refine con_of_tree mixed tr_thas np_thas rfl ?_
 refine den_rq (el_edge.vcells e) ?_
 refine den_rq ⟨_,rfl⟩ ?_
 refine den_rq ⟨_,_,rfl⟩ ?_
 refine den_rq (by show (0 : Int) <= ((e.1 : Nat) : Int); omega) ?_
 refine den_br (b := bit set e.1) (D_bit rfl hs rfl h1) (fun b1 => ?_) (fun b1 => ?_)
 ·skip
  refine den_rq ⟨_,_,rfl⟩ ?_
  refine den_rq (by show (0 : Int) <= ((e.2 : Nat) : Int); omega) ?_
  exact den_ret rfl ⟨rfl,by rw [b1]; exact (D_bit rfl hs rfl h2)⟩
 ·skip
  exact den_ret rfl ⟨rfl,by rw [b1]; rfl⟩
theorem give_tck (hw : SG H w es) (hg : GV n es) (hs : set < M64) : Give Tryz.prog 91 [gv n w,uv set] H (ii (if set ≠ 0 /\ set < 2 ^ n then 0 else 2)) := by
 refine con_of_tree mixed tr_tck np_tck rfl ?_
 refine den_rq (gv_one hw) ?_
 refine den_give (give_gchk hw hg) rfl fun H1 l1 => ?_
 simp only [cA,nA]
 refine den_rq ⟨_,rfl⟩ ?_
 refine den_false (bF (p := (0 : Int) ≠ 0) (by simp)) ?_
 refine den_rq ⟨_,rfl⟩ ?_
 refine den_br (b := decide (set = 0)) (bE0 _) (fun h0 => ?_) (fun h0 => ?_)
 ·replace h0 := of_decide_eq_true h0
  exact den_ret rfl ⟨l1,by rw [if_neg (fun e => e.1 h0)]; rfl⟩
 ·replace h0 := of_decide_eq_false h0
  refine den_det (det_len64 set hs) rfl ?_
  simp only [cA,nA]
  refine den_rq ⟨_,rfl⟩ ?_
  refine den_rq ⟨_,rfl⟩ ?_
  refine den_br (b := decide (set ≥ 2 ^ n)) (by show Value.bool (decide (((Go.WD.blen set : Nat) : Int) > ((n : Nat) : Int))) = _; congr 1; apply decide_eq_decide.2; constructor <;> intro hh <;> first | (have := Go.WD.blen_ge hh; omega) | (apply Nat.le_of_not_lt; intro h2; have := Go.WD.blen_le h2; omega)) (fun h => ?_) (fun h => ?_)
  ·replace h := of_decide_eq_true h
   exact den_ret rfl ⟨l1,by rw [if_neg (by omega)]; rfl⟩
  ·replace h := of_decide_eq_false h
   exact den_ret rfl ⟨l1,by rw [if_pos ⟨h0,by omega⟩]; rfl⟩
end
end Go.Proofs.YtkcjbfoejpfbbaaGreatDoor

/- Chapter 32: trees, part 2. -/
namespace Go.Proofs.YtkcjbfoejpfbbaaGreatDoor
open Go.RowKit Go.RX Go.GS
section
variable {H H0 : PH} {u v w wts : Value} {p wl t : List Int} {n : Nat} {es : List (Nat × Nat)} {lo hi ds but : Int} {set x : Nat}
theorem give_tchk (hw : SG H w es) (hg : GV n es) (hs : set < M64) (hu : SI H u t) : Give Tryz.prog 64 [gv n w,uv set,u] H (ii (trE n es set t)) := by
 refine con_of_tree mixed tr_tchk np_tchk rfl ?_
 have h64 := hg.n64
 have hl := hu.len
 refine den_rq (gv_one hw) ?_
 refine den_give (give_tck hw hg hs) rfl fun H1 l1 => ?_
 simp only [cA,nA]
 refine den_rq ⟨_,rfl⟩ ?_
 refine den_br (b := decide (¬ (set ≠ 0 /\ set < 2 ^ n))) (by show Value.bool ((if set ≠ 0 /\ set < 2 ^ n then (0 : Int) else 2) != 0) = _; by_cases hh : set ≠ 0 /\ set < 2 ^ n; (rw [if_pos hh,decide_eq_false (fun e => e hh)]; rfl); (rw [if_neg hh,decide_eq_true hh]; rfl)) (fun h0 => ?_) (fun h0 => ?_)
 ·replace h0 := of_decide_eq_true h0
  exact den_ret rfl ⟨l1,by rw [trE_bad h0]; show ii (if set ≠ 0 /\ set < 2 ^ n then (0 : Int) else 2) = _; rw [if_neg h0]⟩
 ·replace h0 := of_decide_eq_false h0
  have h0 : set ≠ 0 /\ set < 2 ^ n := Classical.byContradiction h0
  refine den_call (con_talo (H := H1)) rfl ?_
  rintro _ H2 ⟨l2,v,rfl,o2⟩
  refine ⟨fun h => (nomatch h),?_⟩
  simp only [cA,nA]
  refine den_rq ⟨rfl,fun c hc => by have hc : c ∈ [v] := hc; rw [List.mem_singleton] at hc; subst hc; exact sl_oneC o2.se⟩ ?_
  have hu1 := hu.mono l1
  have hw1 := hw.mono l1
  refine den_lenE el_int op_tchk_6_1 rfl (hu1.mono l2) rfl ?_
  refine den_loopV (α := Nat × Int × Int × List Nat) (fun ⟨i,last,z,q⟩ => [ii z,ii last,ii (i : Nat)]) (fun ⟨i,last,z,q⟩ => fun H' => i <= t.length /\ PH.le H1 H' /\ PO H1 H' v q /\ Par q (lab (etl es (t.take i))) /\ (last = -1 \/ last ∈ t.take i) /\ (∀ a ∈ t.take i,a <= last) /\ -1 <= last /\ (t.take i).Pairwise (· < ·) /\ (∀ a ∈ t.take i,OkI es set a) /\ Acy (etl es (t.take i)) (etl es (t.take i)).length) (fun ⟨i,last,z,q⟩ => t.length - i) ((0,-1,0,List.range 64)) rfl (⟨Nat.zero_le _,l2,o2,Par.id,.inl rfl,(fun a ha => by cases ha),Int.le_refl _,List.Pairwise.nil,(fun a ha => by cases ha),(fun i e hi => by cases hi)⟩) fun ⟨i,last,z,q⟩ H' hQ => ?_
  simp only [cA,nA]
  obtain ⟨hi,l3,o3,hP,hla,hal,hl1,hpw,hok,hac⟩ := hQ
  refine den_rq ⟨_,rfl⟩ ?_
  refine den_rq ⟨_,rfl⟩ ?_
  refine den_br (b := decide (((i : Nat) : Int) < (t.length : Nat))) rfl (fun h => ?_) (fun h => ?_)
  ·replace h := of_decide_eq_true h
   have hi' : i < t.length := by omega
   obtain ⟨x,hx,hdx⟩ := at_drop hi'
   have hxm := List.mem_of_getElem? hx
   refine den_atE el_int op_tchk_8_0 op_tchk_8_1 rfl rfl (fun _ => rfl) (hu1.mono l3) hx rfl (fun _ => rfl) fun _ => ?_
   simp only [cA,nA]
   refine den_rq ⟨_,rfl⟩ ?_
   refine den_rq ⟨_,rfl⟩ ?_
   refine den_br (b := decide (x <= last)) rfl (fun h2 => ?_) (fun h2 => ?_)
   ·replace h2 := of_decide_eq_true h2
    exact den_ret rfl ⟨l1.trans l3,by rw [trE_no h0 fun hT => by rcases hla with hla|hla; (have := (hT.ok x hxm).1; omega); (have := pw_at hT.asc hla hx; omega)]; rfl⟩
   ·replace h2 := of_decide_eq_false h2
    obtain ⟨m,rfl⟩ : ∃ m : Nat,x = (m : Int) := ⟨x.toNat,by omega⟩
    refine den_lenE el_edge op_tchk_9_7 rfl (hw1.mono l3) rfl ?_
    refine den_rq ⟨_,rfl⟩ ?_
    refine den_br (b := decide (((m : Nat) : Int) ≥ (es.length : Nat))) rfl (fun h3 => ?_) (fun h3 => ?_)
    ·replace h3 := of_decide_eq_true h3
     exact den_ret rfl ⟨l1.trans l3,by rw [trE_no h0 fun hT => by have := (hT.ok _ hxm).2.1; rw [Int.toNat_natCast] at this; omega]; rfl⟩
    ·replace h3 := of_decide_eq_false h3
     have hem := Ed_at (es := es) (m := m) (by omega)
     have hed := hg.mem hem
     refine den_atE el_edge op_tchk_9_15 op_tchk_9_16 rfl rfl (fun _ => rfl) (hw1.mono l3) hem rfl (fun _ => rfl) fun _ => ?_
     simp only [cA,nA]
     refine den_ask (det_thas hs (by omega) (by omega)) rfl ?_
     simp only [cA,nA]
     refine den_rq ⟨_,rfl⟩ ?_
     refine den_br (b := !(bit set (Ed es (m : Nat)).1 && bit set (Ed es (m : Nat)).2)) rfl (fun h4 => ?_) (fun h4 => ?_)
     ·skip
      exact den_ret rfl ⟨l1.trans l3,by rw [trE_no h0 fun hT => by have := hT.ok _ hxm; simp [this.2.2.1,this.2.2.2] at h4]; rfl⟩
     ·skip
      have h4 : bit set (Ed es (m : Nat)).1 = true /\ bit set (Ed es (m : Nat)).2 = true := by simpa using h4
      refine den_atE el_edge op_tchk_9_25 op_tchk_9_26 rfl rfl (fun _ => rfl) (hw1.mono l3) hem rfl (fun _ => rfl) fun _ => ?_
      simp only [cA,nA]
      refine den_call (con_tjoi l3 o3 hP (by omega) (by omega)) rfl ?_
      rintro _ H4 ⟨rfl,l4,q4,o4,hP4⟩
      refine ⟨fun h => (nomatch h),?_⟩
      simp only [cA,nA]
      refine den_rq ⟨_,rfl⟩ ?_
      refine den_br (b := decide (¬ (lab (etl es (t.take i)) (Ed es (m : Nat)).1 ≠ lab (etl es (t.take i)) (Ed es (m : Nat)).2))) (by show Value.bool (!decide _) = _; congr 1; rw [Bool.eq_iff_iff]; simp) (fun h5 => ?_) (fun h5 => ?_)
      ·replace h5 := of_decide_eq_true h5
       exact den_ret rfl ⟨l1.trans l4,by rw [trE_no h0 fun hT => by have := hT.acy i _ hi' (etl_at hx); rw [etl_take] at this; exact h5 this]; rfl⟩
      ·replace h5 := of_decide_eq_false h5
       have h5 := Classical.byContradiction h5
       exact ⟨(i + 1,(m : Int),z,q4),by show t.length - (i + 1) < t.length - i; omega,(map3 rfl rfl (D_inc rfl (by omega))),⟨hi',l4,o4,by rw [take_snoc hx,etl_snoc,lab_snoc]; exact hP4,.inr (by rw [take_snoc hx]; simp),by rw [take_snoc hx]; intro a ha; rw [List.mem_append,List.mem_singleton] at ha; rcases ha with ha|rfl; (have := hal a ha; show a <= (m : Int); omega); (exact Int.le_refl _),by show -1 <= (m : Int); omega,by rw [take_snoc hx]; exact pw_snoc hpw fun a ha => by have := hal a ha; omega,by rw [take_snoc hx]; intro a ha; rw [List.mem_append,List.mem_singleton] at ha; rcases ha with ha|rfl; (exact hok a ha); exact ⟨by omega,by rw [Int.toNat_natCast]; omega,h4⟩,by rw [take_snoc hx,etl_snoc]; have := hac.snoc h5; rw [List.length_append]; exact this⟩⟩
  ·replace h := of_decide_eq_false h
   have he : i = t.length := by omega
   rw [List.take_of_length_le (by omega)] at hpw hok hac
   rw [show (etl es t).length = t.length from List.length_map _] at hac
   refine den_lenE el_int op_tchk_13_1 rfl (hu1.mono l3) rfl ?_
   refine den_det (det_oc64 hs) rfl ?_
   simp only [cA,nA]
   have hc64 := card_le64 set
   refine den_rq ⟨_,rfl⟩ ?_
   refine den_rq ⟨_,rfl⟩ ?_
   refine den_br (b := decide (¬ t.length + 1 = card set)) (by show Value.bool (((t.length : Nat) : Int) != intOf (D Tryz.prog _ (.op2 .sub .i64 (.v 10) (.k (.int .i64 1))))) = _; rw [D_subi (x := (card set : Nat)) (y := 1) rfl rfl (by omega) (by omega)]; show Value.bool (((t.length : Nat) : Int) != ((card set : Nat) : Int) - 1) = _; rw [bN]; congr 1; apply decide_eq_decide.2; omega) (fun h6 => ?_) (fun h6 => ?_)
   ·replace h6 := of_decide_eq_true h6
    exact den_ret rfl ⟨l1.trans l3,by rw [trE_no h0 fun hT => h6 hT.len]; rfl⟩
   ·replace h6 := of_decide_eq_false h6
    exact den_ret rfl ⟨l1.trans l3,by rw [trE_ok h0 ⟨hpw,hok,hac,Classical.byContradiction h6⟩]; rfl⟩
def etb (es : List (Nat × Nat)) (t : List Int) (but : Int) : List (Nat × Nat) := etl es (t.filter fun i => decide (i ≠ but))
theorem ask_trea (hw : SG H w es) (hg : GV n es) (hu : SI H u t) (ht : ∀ i ∈ t,0 <= i /\ i.toNat < es.length) (hx : x < 64) : Asks Tryz.prog 100 [gv n w,u,ii but,ii (x : Nat)] H (uv (reach (etb es t but) x)) := by
 refine con_of_tree mixed tr_trea np_trea rfl ?_
 have h64 := hg.n64
 have hl := hu.len
 have hL : ∀ e ∈ etb es t but,e.1 < 64 /\ e.2 < 64 := by
  intro e he
  unfold etb etl at he
  rw [List.mem_map] at he
  obtain ⟨i,hi,rfl⟩ := he
  obtain ⟨h1,h2⟩ := ht i (List.mem_filter.1 hi).1
  have := Ed_at (es := es) h2
  rw [Int.toNat_of_nonneg h1] at this
  have := hg.mem this
  omega
 refine den_rq (gv_one hw) ?_
 refine den_rq ⟨_,_,rfl⟩ ?_
 refine den_rq (by show (0 : Int) <= ((x : Nat) : Int); omega) ?_
 refine den_loopR (α := Nat × Bool) (fun ⟨r,more⟩ => [uv (rnds full (etb es t but) r (2 ^ x)),.bool more]) (fun ⟨r,more⟩ => more = false -> Clo full (etb es t but) (rnds full (etb es t but) r (2 ^ x))) (fun ⟨r,more⟩ => if more then 66 - card (rnds full (etb es t but) r (2 ^ x)) else 0) ((0,true)) (map2 (D_pow rfl hx) rfl) ((fun h => nomatch h)) fun ⟨r,more⟩ hQ => ?_
 simp only [cA,nA]
 refine den_rq ⟨_,rfl⟩ ?_
 refine den_br (b := more) rfl (fun hm => ?_) (fun hm => ?_)
 ·skip
  subst hm
  have hS := (rnds_card (set := full) hL (pow_lt hx) r).1
  generalize hSe : rnds full (etb es t but) r (2 ^ x) = S at hS
  refine den_lenE el_int op_trea_5_1 rfl hu rfl ?_
  refine den_loopR (α := Nat × Bool) (fun ⟨j,mo⟩ => [uv (rnd full (etb es (t.take j) but) S),.bool mo,ii (j : Nat)]) (fun ⟨j,mo⟩ => j <= t.length /\ (mo = false ↔ rnd full (etb es (t.take j) but) S = S)) (fun ⟨j,mo⟩ => t.length - j) ((0,false)) rfl (⟨Nat.zero_le _,fun _ => rfl,fun _ => rfl⟩) fun ⟨j,mo⟩ hQ2 => ?_
  simp only [cA,nA]
  obtain ⟨hj,hmo⟩ := hQ2
  refine den_rq ⟨_,rfl⟩ ?_
  refine den_rq ⟨_,rfl⟩ ?_
  refine den_br (b := decide (((j : Nat) : Int) < (t.length : Nat))) rfl (fun h2 => ?_) (fun h2 => ?_)
  ·replace h2 := of_decide_eq_true h2
   have hj' : j < t.length := by omega
   obtain ⟨y,hy,hdy⟩ := at_drop hj'
   obtain ⟨hy1,hy2⟩ := ht y (List.mem_of_getElem? hy)
   obtain ⟨m,rfl⟩ : ∃ m : Nat,y = (m : Int) := ⟨y.toNat,by omega⟩
   rw [Int.toNat_natCast] at hy2
   have hem := Ed_at (es := es) (m := m) (by omega)
   have hed := hg.mem hem
   have hLj : ∀ e ∈ etb es (t.take j) but,e.1 < 64 /\ e.2 < 64 := by
    intro e he
    apply hL
    unfold etb etl at he ⊢
    rw [List.mem_map] at he ⊢
    obtain ⟨i,hi,rfl⟩ := he
    rw [List.mem_filter] at hi
    exact ⟨i,List.mem_filter.2 ⟨List.mem_of_mem_take hi.1,hi.2⟩,rfl⟩
   have hR := rnd_lt (set := full) hLj hS
   have hRm : ∀ y,bit S y = true -> bit (rnd full (etb es (t.take j) but) S) y = true := fun y hy => rnd_mono hy
   have hst : rnd full (etb es (t.take (j + 1)) but) S = if (m : Int) ≠ but then rst full (rnd full (etb es (t.take j) but) S) (Ed es (m : Nat)) else rnd full (etb es (t.take j) but) S := by
    rw [take_snoc hy]; unfold etb; rw [List.filter_append,List.filter_cons]
    by_cases hb : (m : Int) ≠ but
    ·rw [if_pos (by simpa using hb),if_pos hb,List.filter_nil,etl_snoc,rnd_snoc]
    ·rw [if_neg (by simpa using hb),if_neg hb,List.filter_nil,List.append_nil]
   rw [rst_full (by omega) (by omega)] at hst
   generalize hRe : rnd full (etb es (t.take j) but) S = R at hR hst hmo hRm
   refine den_atE el_int op_trea_7_0 op_trea_7_1 rfl rfl (fun _ => rfl) hu hy rfl (fun _ => rfl) fun _ => ?_
   simp only [cA,nA]
   refine den_ed0 op_trea_8_3 op_trea_8_4 op_trea_8_5 rfl rfl (fun _ => rfl) (fun _ => rfl) (fun _ => rfl) hw hem rfl (fun _ => rfl) (fun _ _ => rfl) fun _ _ => ?_
   simp only [cA,nA]
   refine den_rq ⟨_,_,rfl⟩ ?_
   refine den_rq (by show (0 : Int) <= (((Ed es (m : Nat)).1 : Nat) : Int); omega) ?_
   refine den_ed1 op_trea_8_10 op_trea_8_11 op_trea_8_12 rfl rfl (fun _ => rfl) (fun _ => rfl) (fun _ => rfl) hw hem rfl (fun _ => rfl) (fun _ _ => rfl) fun _ _ => ?_
   simp only [cA,nA]
   refine den_rq ⟨_,_,rfl⟩ ?_
   refine den_rq (by show (0 : Int) <= (((Ed es (m : Nat)).2 : Nat) : Int); omega) ?_
   have pa : 2 ^ (Ed es (m : Nat)).1 < M64 := pow_lt (by omega)
   have pb : 2 ^ (Ed es (m : Nat)).2 < M64 := pow_lt (by omega)
   refine den_rq ⟨_,rfl⟩ ?_
   refine den_rq ⟨_,rfl⟩ ?_
   refine den_br (b := decide ((m : Int) ≠ but)) (bN _ _) (fun h3 => ?_) (fun h3 => ?_)
   ·replace h3 := of_decide_eq_true h3
    rw [if_pos h3] at hst
    refine den_rq ⟨_,rfl⟩ ?_
    refine den_br (b := decide (¬ R &&& (2 ^ (Ed es (m : Nat)).1 ||| 2 ^ (Ed es (m : Nat)).2) = 0)) (by show Value.bool (intOf (D Tryz.prog _ (.op2 .and .u64 (.v 7) (.op2 .or .u64 (.op2 .shl .u64 (.k (.int .u64 1)) (.v 14)) (.op2 .shl .u64 (.k (.int .u64 1)) (.v 17))))) != 0) = _; rw [D_and rfl (D_or (D_pow rfl (by omega)) (D_pow rfl (by omega)) pa pb) hR (or_lt pa pb)]; exact bN0 _) (fun h4 => ?_) (fun h4 => ?_)
    ·replace h4 := of_decide_eq_true h4
     rw [or_zero] at h4
     have h4' : (bit R (Ed es (m : Nat)).1 || bit R (Ed es (m : Nat)).2) = true := by
      cases c1 : bit R (Ed es (m : Nat)).1 <;> cases c2 : bit R (Ed es (m : Nat)).2 <;> first | rfl | exact absurd ⟨c1,c2⟩ h4
     rw [if_pos h4'] at hst
     refine den_br (b := decide (¬ R &&& (2 ^ (Ed es (m : Nat)).1 ||| 2 ^ (Ed es (m : Nat)).2) = 2 ^ (Ed es (m : Nat)).1 ||| 2 ^ (Ed es (m : Nat)).2)) (by show Value.bool (intOf (D Tryz.prog _ (.op2 .and .u64 (.v 7) (.op2 .or .u64 (.op2 .shl .u64 (.k (.int .u64 1)) (.v 14)) (.op2 .shl .u64 (.k (.int .u64 1)) (.v 17))))) != intOf (D Tryz.prog _ (.op2 .or .u64 (.op2 .shl .u64 (.k (.int .u64 1)) (.v 14)) (.op2 .shl .u64 (.k (.int .u64 1)) (.v 17))))) = _; rw [D_and rfl (D_or (D_pow rfl (by omega)) (D_pow rfl (by omega)) pa pb) hR (or_lt pa pb),D_or (D_pow rfl (by omega)) (D_pow rfl (by omega)) pa pb]; refine (bN _ _).trans (congrArg Value.bool (decide_eq_decide.2 ?_)); show ¬ ((_ : Nat) : Int) = ((_ : Nat) : Int) ↔ _; rw [Int.natCast_inj]) (fun h5 => ?_) (fun h5 => ?_)
     ·replace h5 := of_decide_eq_true h5
      rw [or_all] at h5
      exact ⟨(j + 1,true),by show t.length - (j + 1) < t.length - j; omega,(map3 (by show _ = uv (rnd full (etb es (t.take (j + 1)) but) S); rw [hst]; exact D_or rfl (D_or (D_pow rfl (by omega)) (D_pow rfl (by omega)) pa pb) hR (or_lt pa pb)) rfl (D_inc rfl (by omega))),⟨⟨hj',(fun h => nomatch h),fun hh => absurd (by rw [hst] at hh; have a1 : bit S (Ed es (m : Nat)).1 = true := by { rw [<- hh,has_or,has_or,has_pow]; simp }; have a2 : bit S (Ed es (m : Nat)).2 = true := by { rw [<- hh,has_or,has_or,has_pow,has_pow]; simp }; exact ⟨hRm _ a1,hRm _ a2⟩) h5⟩,rfl⟩⟩
     ·replace h5 := of_decide_eq_false h5
      have h5 := Classical.byContradiction h5
      rw [or_all] at h5
      rw [or_same h5.1 h5.2] at hst
      exact ⟨(j + 1,mo),by show t.length - (j + 1) < t.length - j; omega,(map3 (by show _ = uv (rnd full (etb es (t.take (j + 1)) but) S); rw [hst]; rfl) rfl (D_inc rfl (by omega))),⟨⟨hj',by rw [hst]; exact hmo⟩,rfl⟩⟩
    ·replace h4 := of_decide_eq_false h4
     have h4 := Classical.byContradiction h4
     rw [or_zero] at h4
     rw [if_neg (by rw [h4.1,h4.2]; simp)] at hst
     exact ⟨(j + 1,mo),by show t.length - (j + 1) < t.length - j; omega,(map3 (by show _ = uv (rnd full (etb es (t.take (j + 1)) but) S); rw [hst]; rfl) rfl (D_inc rfl (by omega))),⟨⟨hj',by rw [hst]; exact hmo⟩,rfl⟩⟩
   ·replace h3 := of_decide_eq_false h3
    rw [if_neg h3] at hst
    exact ⟨(j + 1,mo),by show t.length - (j + 1) < t.length - j; omega,(map3 (by show _ = uv (rnd full (etb es (t.take (j + 1)) but) S); rw [hst]; rfl) rfl (D_inc rfl (by omega))),⟨⟨hj',by rw [hst]; exact hmo⟩,rfl⟩⟩
  ·replace h2 := of_decide_eq_false h2
   have hje : t.take j = t := List.take_of_length_le (by omega)
   have hnx : rnd full (etb es (t.take j) but) S = rnds full (etb es t but) (r + 1) (2 ^ x) := by rw [hje,<- hSe]; rfl
   have hSr : rnds full (etb es t but) (r + 1) (2 ^ x) < M64 := (rnds_card (set := full) hL (pow_lt hx) (r + 1)).1
   rw [hnx] at hmo
   have hms : (if mo then 66 - card (rnds full (etb es t but) (r + 1) (2 ^ x)) else 0) < 66 - card S := by
    have hc := card_le64 S
    cases mo with
    | false => rw [if_neg (by decide)]; omega
    | true =>
     have hne : S ≠ rnds full (etb es t but) (r + 1) (2 ^ x) := fun e => by have := hmo.2 e.symm; cases this
     have hsub : ∀ y,bit S y = true -> bit (rnds full (etb es t but) (r + 1) (2 ^ x)) y = true := fun y hy => by rw [<- hnx]; exact rnd_mono hy
     obtain ⟨z,hz1,hz2⟩ := ne_bit hne hsub
     have := card_lt hsub hz1 hz2 (has_lt hSr hz1)
     have := card_le64 (rnds full (etb es t but) (r + 1) (2 ^ x))
     rw [if_pos rfl]; omega
   exact ⟨(r + 1,mo),by refine Nat.lt_of_lt_of_eq hms (Eq.symm (if_pos ?_)); simp,(map2 (by show _ = uv (rnds full (etb es t but) (r + 1) (2 ^ x)); rw [<- hnx]; rfl) rfl),⟨fun hmf => by have e := hmo.1 hmf; rw [e]; refine rnd_clo (L := etb es t but) ?_; rw [hje] at hnx; rw [hnx,e],rfl⟩⟩
 ·skip
  exact den_ret rfl ⟨rfl,by rw [<- clo_reach hL hx (hQ hm)]; rfl⟩
end
end Go.Proofs.YtkcjbfoejpfbbaaGreatDoor

/- Chapter 32: balanced edges, on both sides. -/
namespace Go.Proofs.YtkcjbfoejpfbbaaGreatDoor
open Go.RowKit Go.RX Go.GS
section
variable {H H0 : PH} {u v w wts : Value} {p wl t : List Int} {n : Nat} {es : List (Nat × Nat)} {lo hi ds k : Int} {set x : Nat}
theorem give_tsid (hT : Tb H) (hw : SG H w es) (hg : GV n es) (hu : SI H u t) (h0 : set ≠ 0 /\ set < 2 ^ n) (ht : TreeOk es set t) (hk : k ∈ t) : Give Tryz.prog 38 [gv n w,uv set,u,ii k] H (.tuple #[uv (sideA es set t k),uv (sdf set (sideA es set t k)),ii 0]) := by
 refine con_of_tree mixed tr_tsid np_tsid rfl ?_
 have hs := M64_pow hg.n64 h0.2
 obtain ⟨x,r,hel,hx,hx64,hlx⟩ := tz_of hs h0.1
 have hsd : sideA es set t k = reach (etb es t k) x := by unfold sideA; rw [hel]; rfl
 have hcl := reach_CL (L := etb es t k) (x := x) (etl_64 hg fun i hi => by have := ht.ok i (List.mem_filter.1 hi).1; exact ⟨this.1,this.2.1⟩) hx64
 refine den_rq (gv_one hw) ?_
 refine den_give (give_tchk hw hg hs hu) rfl fun H1 l1 => ?_
 simp only [cA,nA]
 rw [trE_ok h0 ht]
 refine den_rq ⟨_,rfl⟩ ?_
 refine den_false (bF (p := (0 : Int) ≠ 0) (by simp)) ?_
 refine den_ask (ask_sct (hu.mono l1) k) rfl ?_
 simp only [cA,nA]
 refine den_rq ⟨_,rfl⟩ ?_
 refine den_false (by show Value.bool (!t.contains k) = _; rw [List.contains_iff_mem.2 hk]; rfl) ?_
 refine den_ask (con_tz (hT.mono l1) hs) rfl ?_
 simp only [cA,nA]
 rw [show tz set = x from by simp [tz,hel]]
 refine den_ask (ask_trea (hw.mono l1) hg (hu.mono l1) (fun i hi => ⟨(ht.ok i hi).1,(ht.ok i hi).2.1⟩) hx64) rfl ?_
 simp only [cA,nA]
 refine den_rq ⟨_,rfl⟩ ?_
 refine den_rq ⟨_,rfl⟩ ?_
 exact den_ret rfl ⟨l1,by rw [hsd]; show Value.tuple #[_,D Tryz.prog _ (.op2 .andNot .u64 (.v 1) (.v 7)),_] = _; rw [D_andn rfl rfl hs hcl.1]; rfl⟩
theorem con_mbal (hc : Chn H n w wts es wl) (hu : SI H u t) (h0 : set ≠ 0 /\ set < 2 ^ n) (ht : TreeOk es set t) : Con Tryz.prog 65 [chv wts lo hi ds n w,uv set,u] H fun r H' => PH.le H H' /\ SI H' r (balL es wl lo hi set t t) := by
 refine con_of_tree mixed tr_mbal np_mbal rfl ?_
 have hl := hu.len
 have hs := M64_pow hc.ok.n64 h0.2
 have hc64 := card_le64 set
 have htl := ht.len
 refine den_rq (chv_one (sl_oneC hc.wt) (sl_oneC hc.gr) _ _ _ _) ?_
 refine den_lenE el_int op_mbal_2_1 rfl hu rfl ?_
 refine den_loopV (α := Nat × Value) (fun ⟨i,v⟩ => [v,ii (i : Nat)]) (fun ⟨i,v⟩ => fun H' => i <= t.length /\ PH.le H H' /\ SO H H' 3 1 (fun z : Int => [ii z]) v (balL es wl lo hi set t (t.take i))) (fun ⟨i,v⟩ => t.length - i) ((0,.slice none 0 0)) rfl (⟨Nat.zero_le _,PH.le.refl _,SO.nil _ _ _ _ _⟩) fun ⟨i,v⟩ H' hQ => ?_
 simp only [cA,nA]
 obtain ⟨hi',l1,o1⟩ := hQ
 refine den_rq ⟨_,rfl⟩ ?_
 refine den_rq ⟨_,rfl⟩ ?_
 refine den_br (b := decide (((i : Nat) : Int) < (t.length : Nat))) rfl (fun h => ?_) (fun h => ?_)
 ·replace h := of_decide_eq_true h
  have hi'' : i < t.length := by omega
  obtain ⟨x,hx,hdx⟩ := at_drop hi''
  have hlen : (balL es wl lo hi set t (t.take i)).length <= i := Nat.le_trans (List.length_filter_le _ _) (by rw [List.length_take]; omega)
  have hsub := side_sub hs h0.1 ht x
  have hA := sub_lt2 h0.2 hsub
  have hB : sdf set (sideA es set t x) < 2 ^ n := sub_lt2 h0.2 fun y hy => by rw [has_sdf,Bool.and_eq_true] at hy; exact hy.1
  have hst : balL es wl lo hi set t (t.take (i + 1)) = if alB es wl lo hi (sideA es set t x) && alB es wl lo hi (sdf set (sideA es set t x)) then balL es wl lo hi set t (t.take i) ++ [x] else balL es wl lo hi set t (t.take i) := by
   rw [take_snoc hx]; unfold balL; rw [List.filter_append,List.filter_cons,List.filter_nil]
   split
   ·rfl
   ·rw [List.append_nil]
  refine den_atE el_int op_mbal_4_0 op_mbal_4_1 rfl rfl (fun _ => rfl) (hu.mono l1) hx rfl (fun _ => rfl) fun _ => ?_
  simp only [cA,nA]
  refine den_give (give_tsid (k := x) (hc.tb.mono l1) (hc.gr.mono l1) hc.ok (hu.mono l1) h0 ht (List.mem_of_getElem? hx)) rfl fun H2 l2 => ?_
  simp only [cA,nA]
  refine den_rq ⟨_,rfl,by simp⟩ ?_
  refine den_rq ⟨_,rfl,by simp⟩ ?_
  refine den_rq ⟨_,rfl,by simp⟩ ?_
  refine den_give (give_mall (lo := lo) (hi := hi) (ds := ds) (hc.mono (l1.trans l2)) hA) rfl fun H3 l3 => ?_
  simp only [cA,nA]
  refine den_rq ⟨_,rfl⟩ ?_
  refine den_br (b := alB es wl lo hi (sideA es set t x)) rfl (fun b1 => ?_) (fun b1 => ?_)
  ·skip
   refine den_give (give_mall (lo := lo) (hi := hi) (ds := ds) (hc.mono ((l1.trans l2).trans l3)) hB) rfl fun H4 l4 => ?_
   simp only [cA,nA]
   refine den_rq ⟨_,rfl⟩ ?_
   refine den_br (b := alB es wl lo hi (sdf set (sideA es set t x))) rfl (fun b2 => ?_) (fun b2 => ?_)
   ·skip
    refine den_pushE el_int op_mbal_7_2 op_mbal_7_3 rfl (fun _ => rfl) (fun _ => rfl) (((l1.trans l2).trans l3).trans l4) (o1.mono ((l2.trans l3).trans l4)) (by omega) rfl (fun _ => rfl) rfl fun q v2 H5 l5 o5 => ?_
    simp only [cA,nA]
    exact ⟨(i + 1,v2),by show t.length - (i + 1) < t.length - i; omega,(map2 rfl (D_inc rfl (by omega))),⟨hi'',l5,by rw [hst,b1,b2]; exact o5⟩⟩
   ·skip
    exact ⟨(i + 1,v),by show t.length - (i + 1) < t.length - i; omega,(map2 rfl (D_inc rfl (by omega))),⟨hi'',((l1.trans l2).trans l3).trans l4,by rw [hst,b1,b2]; exact o1.mono ((l2.trans l3).trans l4)⟩⟩
  ·skip
   exact ⟨(i + 1,v),by show t.length - (i + 1) < t.length - i; omega,(map2 rfl (D_inc rfl (by omega))),⟨hi'',(l1.trans l2).trans l3,by rw [hst,b1]; exact o1.mono (l2.trans l3)⟩⟩
 ·replace h := of_decide_eq_false h
  rw [List.take_of_length_le (by omega)] at o1
  exact den_ret rfl ⟨l1,o1.se⟩
def BalV (H : PH) (n : Nat) (es : List (Nat × Nat)) (wl : List Int) (lo hi ds : Int) (set : Nat) (t : List Int) (r : Value) : Prop :=
 ∃ v l e,r = .tuple #[v,ii e] /\ SI H v l /\ e = (if bdE n wl lo hi ds ≠ 0 then bdE n wl lo hi ds else trE n es set t) /\ l = (if e ≠ 0 then [] else balL es wl lo hi set t t)
theorem con_mBal (hT : Tb H) (hw : SG H w es) (hg : GV n es) (hwt : SI H wts wl) (hu : SI H u t) (hs : set < M64) : Con Tryz.prog 19 [gv n w,bv wts lo hi ds,uv set,u] H fun r H' => PH.le H H' /\ BalV H' n es wl lo hi ds set t r := by
 refine con_of_tree mixed tr_mBal np_mBal rfl ?_
 refine den_rq (gv_one hw) ?_
 refine den_rq (bv_one (sl_oneC hwt) _ _ _) ?_
 refine den_give (give_mchk hw hg hwt) rfl fun H1 l1 => ?_
 simp only [cA,nA]
 refine den_rq ⟨_,rfl⟩ ?_
 refine den_br (b := decide (bdE n wl lo hi ds ≠ 0)) (bN _ _) (fun h => ?_) (fun h => ?_)
 ·replace h := of_decide_eq_true h
  exact den_ret rfl ⟨l1,_,[],_,rfl,SE.nil _ _ _,(if_pos h).symm,by rw [if_pos h]⟩
 ·replace h := of_decide_eq_false h
  have h0 : bdE n wl lo hi ds = 0 := Classical.byContradiction h
  have hb := bdE_ok h0
  refine den_give (give_tchk (hw.mono l1) hg hs (hu.mono l1)) rfl fun H2 l2 => ?_
  simp only [cA,nA]
  refine den_rq ⟨_,rfl⟩ ?_
  refine den_br (b := decide (trE n es set t ≠ 0)) (bN _ _) (fun h2 => ?_) (fun h2 => ?_)
  ·replace h2 := of_decide_eq_true h2
   exact den_ret rfl ⟨l1.trans l2,_,[],_,rfl,SE.nil _ _ _,(if_neg h).symm,by rw [if_pos h2]⟩
  ·replace h2 := of_decide_eq_false h2
   have h2 : trE n es set t = 0 := Classical.byContradiction h2
   obtain ⟨hset,hok⟩ := trE_zero h2
   refine den_call (con_mbal (lo := lo) (hi := hi) (ds := ds) (u := u) (t := t) (⟨hT.mono (l1.trans l2),hw.mono (l1.trans l2),hg,hwt.mono (l1.trans l2),hb.1,hb.2.2.2.2.2⟩ : Chn H2 n w wts es wl) (hu.mono (l1.trans l2)) hset hok) rfl ?_
   rintro r H3 ⟨l3,hr⟩
   refine ⟨fun h => (nomatch h),?_⟩
   simp only [cA,nA]
   exact den_ret rfl ⟨(l1.trans l2).trans l3,_,_,0,rfl,hr,by rw [if_neg h,h2],by rw [if_neg (by simp)]⟩
theorem ask_r30fit (hw : SG H w es) (hg : GV n es) (hs : set < M64) : Asks Tryz.prog 57 [gv n w,uv set] H (ii (if set ≠ 0 /\ set < 2 ^ n then 0 else 2)) := by
 refine con_of_tree mixed tr_r30fit np_r30fit rfl ?_
 refine den_rq (gv_one hw) ?_
 refine den_ask (ask_r18chk hw hg) rfl ?_
 simp only [cA,nA]
 refine den_rq ⟨_,rfl⟩ ?_
 refine den_false (bF (p := (0 : Int) ≠ 0) (by simp)) ?_
 refine den_rq ⟨_,rfl⟩ ?_
 refine den_br (b := decide (set = 0)) (bE0 _) (fun h0 => ?_) (fun h0 => ?_)
 ·replace h0 := of_decide_eq_true h0
  exact den_ret rfl ⟨rfl,by rw [if_neg (fun e => e.1 h0)]; rfl⟩
 ·replace h0 := of_decide_eq_false h0
  refine den_ask (ask_r18fit hw hg hs) rfl ?_
  simp only [cA,nA]
  exact den_ret rfl ⟨rfl,by by_cases h1 : set < 2 ^ n; (rw [if_pos h1,if_pos ⟨h0,h1⟩]; rfl); (rw [if_neg h1,if_neg (fun e => h1 e.2)]; rfl)⟩
theorem ask_r30inn (hw : SG H w es) (hg : GV n es) (hs : set < M64) (i : Int) : Asks Tryz.prog 175 [gv n w,uv set,ii i] H (.bool (decide (OkI es set i))) := by
 refine con_of_tree mixed tr_r30inn np_r30inn rfl ?_
 have h64 := hg.n64
 refine den_rq (gv_one hw) ?_
 refine den_rq ⟨_,rfl⟩ ?_
 refine den_br (b := decide (i ≥ 0)) rfl (fun h => ?_) (fun h => ?_)
 ·replace h := of_decide_eq_true h
  refine den_lenE el_edge op_r30inn_1_6 rfl hw rfl ?_
  refine den_rq ⟨_,rfl⟩ ?_
  refine den_br (b := decide (i < (es.length : Nat))) rfl (fun h2 => ?_) (fun h2 => ?_)
  ·replace h2 := of_decide_eq_true h2
   obtain ⟨m,rfl⟩ : ∃ m : Nat,i = (m : Int) := ⟨i.toNat,by omega⟩
   have hem := Ed_at (es := es) (m := m) (by omega)
   have hed := hg.mem hem
   refine den_ed0 op_r30inn_1_14 op_r30inn_1_15 op_r30inn_1_16 rfl rfl (fun _ => rfl) (fun _ => rfl) (fun _ => rfl) hw hem rfl (fun _ => rfl) (fun _ _ => rfl) fun _ _ => ?_
   simp only [cA,nA]
   refine den_det (det_r18has hs (by omega)) rfl ?_
   simp only [cA,nA]
   refine den_rq ⟨_,rfl⟩ ?_
   refine den_br (b := bit set (Ed es (m : Nat)).1) rfl (fun b1 => ?_) (fun b1 => ?_)
   ·skip
    refine den_ed1 op_r30inn_1_24 op_r30inn_1_25 op_r30inn_1_26 rfl rfl (fun _ => rfl) (fun _ => rfl) (fun _ => rfl) hw hem rfl (fun _ => rfl) (fun _ _ => rfl) fun _ _ => ?_
    simp only [cA,nA]
    refine den_det (det_r18has hs (by omega)) rfl ?_
    simp only [cA,nA]
    exact den_ret rfl ⟨rfl,by refine congrArg Value.bool ?_; rw [Bool.eq_iff_iff,decide_eq_true_iff]; exact ⟨fun hb => ⟨by omega,by rw [Int.toNat_natCast]; omega,b1,hb⟩,fun hk => hk.2.2.2⟩⟩
   ·skip
    exact den_ret rfl ⟨rfl,by rw [decide_eq_false (fun hk : OkI es set (m : Nat) => by rw [hk.2.2.1] at b1; cases b1)]; rfl⟩
  ·replace h2 := of_decide_eq_false h2
   exact den_ret rfl ⟨rfl,by rw [decide_eq_false (fun hk : OkI es set i => by have := hk.1; have := hk.2.1; omega)]; rfl⟩
 ·replace h := of_decide_eq_false h
  exact den_ret rfl ⟨rfl,by rw [decide_eq_false (fun hk : OkI es set i => by have := hk.1; omega)]; rfl⟩
theorem ask_r30rea (hw : SG H w es) (hg : GV n es) (hu : SI H u t) (ht : ∀ i ∈ t,0 <= i /\ i.toNat < es.length) (hx : x < 64) : Asks Tryz.prog 147 [gv n w,u,ii (x : Nat)] H (uv (reach (etl es t) x)) := by
 refine con_of_tree mixed tr_r30rea np_r30rea rfl ?_
 have h64 := hg.n64
 have hl := hu.len
 have hL := etl_64 hg ht
 refine den_rq (gv_one hw) ?_
 refine den_det (det_r18one hx) rfl ?_
 simp only [cA,nA]
 refine den_loopR (α := Nat) (fun r => [uv (rnds full (etl es t) r (2 ^ x)),ii (r : Nat)]) (fun r => r <= 64) (fun r => 64 - r) (0) rfl (Nat.zero_le _) fun r hQ => ?_
 simp only [cA,nA]
 refine den_rq ⟨_,rfl⟩ ?_
 refine den_br (b := decide (((r : Nat) : Int) < 64)) rfl (fun h => ?_) (fun h => ?_)
 ·replace h := of_decide_eq_true h
  have hS := (rnds_card (set := full) hL (pow_lt hx) r).1
  generalize hSe : rnds full (etl es t) r (2 ^ x) = S at hS
  refine den_loopR (α := Nat) (fun j => [uv (rnd full (etl es (t.take j)) S),ii (j : Nat)]) (fun j => j <= t.length) (fun j => t.length - j) (0) rfl (Nat.zero_le _) fun j hQ2 => ?_
  simp only [cA,nA]
  refine den_lenE el_int op_r30rea_6_2 rfl hu rfl ?_
  refine den_rq ⟨_,rfl⟩ ?_
  refine den_rq ⟨_,rfl⟩ ?_
  refine den_br (b := decide (((j : Nat) : Int) < (t.length : Nat))) rfl (fun h2 => ?_) (fun h2 => ?_)
  ·replace h2 := of_decide_eq_true h2
   have hj' : j < t.length := by omega
   obtain ⟨y,hy,hdy⟩ := at_drop hj'
   obtain ⟨hy1,hy2⟩ := ht y (List.mem_of_getElem? hy)
   obtain ⟨m,rfl⟩ : ∃ m : Nat,y = (m : Int) := ⟨y.toNat,by omega⟩
   rw [Int.toNat_natCast] at hy2
   have hem := Ed_at (es := es) (m := m) (by omega)
   have hed := hg.mem hem
   have hR := rnd_lt (set := full) (etl_64 hg (t := t.take j) fun i hi => ht i (List.mem_of_mem_take hi)) hS
   have hst : rnd full (etl es (t.take (j + 1))) S = rst full (rnd full (etl es (t.take j)) S) (Ed es (m : Nat)) := by rw [take_snoc hy,etl_snoc,rnd_snoc]
   rw [rst_full (by omega) (by omega),<- Nat.or_assoc] at hst
   generalize rnd full (etl es (t.take j)) S = R at hR hst
   refine den_atE el_int op_r30rea_8_4 op_r30rea_8_5 rfl rfl (fun _ => rfl) hu hy rfl (fun _ => rfl) fun _ => ?_
   simp only [cA,nA]
   refine den_ed0 op_r30rea_8_6 op_r30rea_8_7 op_r30rea_8_8 rfl rfl (fun _ => rfl) (fun _ => rfl) (fun _ => rfl) hw hem rfl (fun _ => rfl) (fun _ _ => rfl) fun _ _ => ?_
   simp only [cA,nA]
   refine den_atE el_int op_r30rea_8_13 op_r30rea_8_14 rfl rfl (fun _ => rfl) hu hy rfl (fun _ => rfl) fun _ => ?_
   simp only [cA,nA]
   refine den_ed1 op_r30rea_8_15 op_r30rea_8_16 op_r30rea_8_17 rfl rfl (fun _ => rfl) (fun _ => rfl) (fun _ => rfl) hw hem rfl (fun _ => rfl) (fun _ _ => rfl) fun _ _ => ?_
   simp only [cA,nA]
   refine den_det (det_r18has hR (by omega)) rfl ?_
   simp only [cA,nA]
   refine den_rq ⟨_,rfl⟩ ?_
   refine den_br (b := bit R (Ed es (m : Nat)).1) rfl (fun b3 => ?_) (fun b3 => ?_)
   ·skip
    refine den_det (det_r18one (n := (Ed es (m : Nat)).1) (by omega)) rfl ?_
    simp only [cA,nA]
    refine den_rq ⟨_,rfl⟩ ?_
    refine den_rq ⟨_,rfl⟩ ?_
    refine den_det (det_r18one (n := (Ed es (m : Nat)).2) (by omega)) rfl ?_
    simp only [cA,nA]
    refine den_rq ⟨_,rfl⟩ ?_
    exact ⟨j + 1,by omega,(map2 (by rw [hst,if_pos (by rw [b3]; rfl)]; exact D_or (D_or rfl rfl hR (pow_lt (by omega))) rfl (or_lt hR (pow_lt (by omega))) (pow_lt (by omega))) (D_inc rfl (by omega))),⟨by omega,rfl⟩⟩
   ·skip
    refine den_det (det_r18has hR (by omega)) rfl ?_
    simp only [cA,nA]
    refine den_rq ⟨_,rfl⟩ ?_
    refine den_br (b := bit R (Ed es (m : Nat)).2) rfl (fun b4 => ?_) (fun b4 => ?_)
    ·skip
     refine den_det (det_r18one (n := (Ed es (m : Nat)).1) (by omega)) rfl ?_
     simp only [cA,nA]
     refine den_rq ⟨_,rfl⟩ ?_
     refine den_rq ⟨_,rfl⟩ ?_
     refine den_det (det_r18one (n := (Ed es (m : Nat)).2) (by omega)) rfl ?_
     simp only [cA,nA]
     refine den_rq ⟨_,rfl⟩ ?_
     exact ⟨j + 1,by omega,(map2 (by rw [hst,if_pos (by rw [b3,b4]; rfl)]; exact D_or (D_or rfl rfl hR (pow_lt (by omega))) rfl (or_lt hR (pow_lt (by omega))) (pow_lt (by omega))) (D_inc rfl (by omega))),⟨by omega,rfl⟩⟩
    ·skip
     exact ⟨j + 1,by omega,(map2 (by rw [hst,if_neg (by rw [b3,b4]; decide)]; rfl) (D_inc rfl (by omega))),⟨by omega,rfl⟩⟩
  ·replace h2 := of_decide_eq_false h2
   have hje : t.take j = t := List.take_of_length_le (by omega)
   exact ⟨r + 1,by omega,(map2 (by rw [show rnds full (etl es t) (r + 1) (2 ^ x) = rnd full (etl es t) S from by rw [<- hSe]; rfl,hje]; rfl) (D_inc rfl (by omega))),⟨by omega,rfl⟩⟩
 ·replace h := of_decide_eq_false h
  have hre : r = 64 := by omega
  exact den_ret rfl ⟨rfl,by rw [hre]; rfl⟩
theorem ask_r30lea (hs : set < M64) (h0 : set ≠ 0) : Asks Tryz.prog 148 [uv set] H (ii ((els set).headD 64 : Nat)) := by
 refine con_of_tree mixed tr_r30lea np_r30lea rfl ?_
 obtain ⟨x,r,hel,hx,hx64,hlx⟩ := tz_of hs h0
 rw [hel]
 refine den_loopR (α := Nat) (fun i => [ii (i : Nat)]) (fun i => i <= x) (fun i => x - i) (0) rfl (Nat.zero_le _) fun i hQ => ?_
 simp only [cA,nA]
 refine den_det (det_r18has hs (by omega)) rfl ?_
 simp only [cA,nA]
 refine den_rq ⟨_,rfl⟩ ?_
 refine den_br (b := !bit set i) rfl (fun h1 => ?_) (fun h1 => ?_)
 ·skip
  have hne : i ≠ x := fun e => by rw [e,hx] at h1; cases h1
  refine den_rq ⟨_,rfl⟩ ?_
  exact ⟨i + 1,by omega,(map1 (D_inc rfl (by omega))),⟨by omega,rfl⟩⟩
 ·skip
  have he : i = x := Classical.byContradiction fun e => by rw [hlx i (by omega)] at h1; cases h1
  exact den_ret rfl ⟨rfl,by rw [he]; rfl⟩
theorem ask_r30rig (hw : SG H w es) (hg : GV n es) (hu : SI H u t) (h0 : set ≠ 0 /\ set < 2 ^ n) : Con Tryz.prog 129 [gv n w,uv set,u] H fun r H' => H' = H /\ ∃ b,r = .bool b /\ (b = true ↔ TreeOk es set t) := by
 refine con_of_tree mixed tr_r30rig np_r30rig rfl ?_
 have hl := hu.len
 have hs := M64_pow hg.n64 h0.2
 obtain ⟨x,r,hel,hx0,hx64,hlx⟩ := tz_of hs h0.1
 refine den_rq (gv_one hw) ?_
 refine den_loopR (α := Nat × Value) (fun ⟨i,z⟩ => [z,ii (i : Nat)]) (fun ⟨i,z⟩ => i <= t.length /\ (∀ a ∈ t.take i,OkI es set a) /\ (t.take i).Pairwise (· < ·) /\ (∀ m a b,i = m + 1 -> t[m]? = some b -> a ∈ t.take i -> a <= b)) (fun ⟨i,z⟩ => t.length - i) ((0,.bool false)) rfl (⟨Nat.zero_le _,(fun a ha => by cases ha),List.Pairwise.nil,(fun m a b hm => by cases hm)⟩) fun ⟨i,z⟩ hQ => ?_
 simp only [cA,nA]
 obtain ⟨hi,hok,hpw,hmx⟩ := hQ
 refine den_lenE el_int op_r30rig_2_2 rfl hu rfl ?_
 refine den_rq ⟨_,rfl⟩ ?_
 refine den_rq ⟨_,rfl⟩ ?_
 refine den_br (b := decide (((i : Nat) : Int) < (t.length : Nat))) rfl (fun h => ?_) (fun h => ?_)
 ·replace h := of_decide_eq_true h
  have hi' : i < t.length := by omega
  obtain ⟨y,hy,hdy⟩ := at_drop hi'
  have hym := List.mem_of_getElem? hy
  refine den_atE el_int op_r30rig_4_4 op_r30rig_4_5 rfl rfl (fun _ => rfl) hu hy rfl (fun _ => rfl) fun _ => ?_
  simp only [cA,nA]
  refine den_ask (ask_r30inn hw hg hs y) rfl ?_
  simp only [cA,nA]
  refine den_rq ⟨_,rfl⟩ ?_
  refine den_br (b := !decide (OkI es set y)) rfl (fun h2 => ?_) (fun h2 => ?_)
  ·skip
   exact den_ret rfl ⟨rfl,false,rfl,(fun hh => nomatch hh),fun hT => by rw [decide_eq_true (hT.ok y hym)] at h2; cases h2⟩
  ·skip
   have h2 : OkI es set y := by simpa using h2
   refine den_br (b := decide (((i : Nat) : Int) > 0)) rfl (fun h3 => ?_) (fun h3 => ?_)
   ·replace h3 := of_decide_eq_true h3
    obtain ⟨m,rfl⟩ : ∃ m,i = m + 1 := ⟨i - 1,by omega⟩
    have hpm : t[m]? = some t[m] := List.getElem?_eq_getElem (by omega)
    refine den_atE el_int op_r30rig_4_14 op_r30rig_4_15 rfl rfl (fun _ => rfl) hu hy rfl (fun _ => rfl) fun _ => ?_
    simp only [cA,nA]
    refine den_atE el_int op_r30rig_4_19 op_r30rig_4_20 rfl rfl (fun _ => rfl) hu hpm (map2 rfl (by rw [D_subi (x := ((m + 1 : Nat) : Int)) (y := 1) rfl rfl (by omega) (by omega)]; show ii _ = ii _; congr 1; omega)) (fun _ => rfl) fun _ => ?_
    simp only [cA,nA]
    refine den_rq ⟨_,rfl⟩ ?_
    refine den_rq ⟨_,rfl⟩ ?_
    refine den_br (b := decide (y <= t[m])) rfl (fun h4 => ?_) (fun h4 => ?_)
    ·replace h4 := of_decide_eq_true h4
     exact den_ret rfl ⟨rfl,false,rfl,(fun hh => nomatch hh),fun hT => by have := pw_at hT.asc (List.mem_take_iff_getElem.2 ⟨m,by omega,rfl⟩) hy; omega⟩
    ·replace h4 := of_decide_eq_false h4
     exact ⟨(m + 1 + 1,z),by show t.length - (m + 1 + 1) < t.length - (m + 1); omega,(map2 rfl (D_inc rfl (by omega))),⟨⟨hi',by rw [take_snoc hy]; intro a ha; rw [List.mem_append,List.mem_singleton] at ha; rcases ha with ha|rfl; (exact hok a ha); exact h2,by rw [take_snoc hy]; exact pw_snoc hpw fun a ha => by have := hmx m a _ rfl hpm ha; omega,fun m' a b hm hb ha => by have hm : m + 1 + 1 = m' + 1 := hm; have : m' = m + 1 := (by omega); subst this; rw [hy] at hb; cases hb; rw [take_snoc hy,List.mem_append,List.mem_singleton] at ha; rcases ha with ha|rfl; (have := hmx m a _ rfl hpm ha; omega); exact Int.le_refl _⟩,rfl⟩⟩
   ·replace h3 := of_decide_eq_false h3
    have hi0 : i = 0 := by omega
    subst hi0
    exact ⟨(0 + 1,z),by show t.length - (0 + 1) < t.length - 0; omega,(map2 rfl (D_inc rfl (by omega))),⟨⟨hi',by rw [take_snoc hy]; intro a ha; rw [List.take_zero,List.nil_append,List.mem_singleton] at ha; subst ha; exact h2,by rw [take_snoc hy,List.take_zero,List.nil_append]; exact List.pairwise_singleton _ _,fun m' a b hm hb ha => by have hm : 0 + 1 = m' + 1 := hm; have : m' = 0 := (by omega); subst this; rw [hy] at hb; cases hb; rw [take_snoc hy,List.take_zero,List.nil_append,List.mem_singleton] at ha; subst ha; exact Int.le_refl _⟩,rfl⟩⟩
 ·replace h := of_decide_eq_false h
  rw [List.take_of_length_le (by omega)] at hok hpw
  have hc64 := card_le64 set
  have hin : Inn set (etl es t) := by
   intro e he
   unfold etl at he
   rw [List.mem_map] at he
   obtain ⟨i,hi,rfl⟩ := he
   exact (hok i hi).2.2
  refine den_lenE el_int op_r30rig_6_1 rfl hu rfl ?_
  refine den_ask (ask_r18siz hs) rfl ?_
  simp only [cA,nA]
  refine den_rq ⟨_,rfl⟩ ?_
  refine den_rq ⟨_,rfl⟩ ?_
  refine den_br (b := decide (t.length + 1 = card set)) (by show Value.bool (((t.length : Nat) : Int) == intOf (D Tryz.prog _ (.op2 .sub .i64 (.v 7) (.k (.int .i64 1))))) = _; rw [D_subi (x := (card set : Nat)) (y := 1) rfl rfl (by omega) (by omega)]; show Value.bool (((t.length : Nat) : Int) == ((card set : Nat) : Int) - 1) = _; rw [bE]; congr 1; apply decide_eq_decide.2; omega) (fun h6 => ?_) (fun h6 => ?_)
  ·replace h6 := of_decide_eq_true h6
   refine den_ask (ask_r30lea hs h0.1) rfl ?_
   simp only [cA,nA]
   rw [hel]
   refine den_ask (ask_r30rea hw hg hu (fun i hi => ⟨(hok i hi).1,(hok i hi).2.1⟩) hx64) rfl ?_
   simp only [cA,nA]
   have law := acy_reach hs hin hx0 (by rw [show (etl es t).length = t.length from List.length_map _]; exact h6)
   rw [show (etl es t).length = t.length from List.length_map _] at law
   refine den_rq ⟨_,rfl⟩ ?_
   refine den_rq ⟨_,rfl⟩ ?_
   exact den_ret rfl ⟨rfl,decide (reach (etl es t) x = set),by show Value.bool (((reach (etl es t) x : Nat) : Int) == ((set : Nat) : Int)) = _; rw [bE]; exact congrArg Value.bool (decide_eq_decide.2 (by omega)),fun hb => ⟨hpw,hok,law.2 (of_decide_eq_true hb),h6⟩,fun hT => decide_eq_true (law.1 hT.acy)⟩
  ·replace h6 := of_decide_eq_false h6
   exact den_ret rfl ⟨rfl,false,rfl,(fun hh => nomatch hh),fun hT => absurd hT.len h6⟩
theorem ask_r30chk (hw : SG H w es) (hg : GV n es) (hs : set < M64) (hu : SI H u t) : Asks Tryz.prog 66 [gv n w,uv set,u] H (ii (trE n es set t)) := by
 refine con_of_tree mixed tr_r30chk np_r30chk rfl ?_
 refine den_rq (gv_one hw) ?_
 refine den_ask (ask_r30fit hw hg hs) rfl ?_
 simp only [cA,nA]
 refine den_rq ⟨_,rfl⟩ ?_
 refine den_br (b := decide (¬ (set ≠ 0 /\ set < 2 ^ n))) (by show Value.bool ((if set ≠ 0 /\ set < 2 ^ n then (0 : Int) else 2) != 0) = _; by_cases hh : set ≠ 0 /\ set < 2 ^ n; (rw [if_pos hh,decide_eq_false (fun e => e hh)]; rfl); (rw [if_neg hh,decide_eq_true hh]; rfl)) (fun h0 => ?_) (fun h0 => ?_)
 ·replace h0 := of_decide_eq_true h0
  exact den_ret rfl ⟨rfl,by rw [trE_bad h0]; show ii (if set ≠ 0 /\ set < 2 ^ n then (0 : Int) else 2) = _; rw [if_neg h0]⟩
 ·replace h0 := of_decide_eq_false h0
  have h0 : set ≠ 0 /\ set < 2 ^ n := Classical.byContradiction h0
  refine den_call (ask_r30rig hw hg hu h0) rfl ?_
  rintro _ _ ⟨rfl,b,rfl,hb⟩
  refine ⟨fun h => (nomatch h),?_⟩
  simp only [cA,nA]
  refine den_rq ⟨_,rfl⟩ ?_
  refine den_br (b := !b) rfl (fun h2 => ?_) (fun h2 => ?_)
  ·skip
   exact den_ret rfl ⟨rfl,by rw [trE_no h0 fun hT => by rw [hb.2 hT] at h2; cases h2]; rfl⟩
  ·skip
   exact den_ret rfl ⟨rfl,by rw [trE_ok h0 (hb.1 (by simpa using h2))]; rfl⟩
theorem con_r30wit (hu : SI H u t) (hb : t.length <= 1000000) (k : Int) : Con Tryz.prog 146 [u,ii k] H fun r H' => PH.le H H' /\ SI H' r (t.filter fun i => decide (i ≠ k)) := by
 refine con_of_tree mixed tr_r30wit np_r30wit rfl ?_
 refine den_loopV (α := Nat × Value) (fun ⟨i,v⟩ => [v,ii (i : Nat)]) (fun ⟨i,v⟩ => fun H' => i <= t.length /\ PH.le H H' /\ SO H H' 3 1 (fun z : Int => [ii z]) v ((t.take i).filter fun i => decide (i ≠ k))) (fun ⟨i,v⟩ => t.length - i) ((0,.slice none 0 0)) rfl (⟨Nat.zero_le _,PH.le.refl _,SO.nil _ _ _ _ _⟩) fun ⟨i,v⟩ H' hQ => ?_
 simp only [cA,nA]
 obtain ⟨hi',l1,o1⟩ := hQ
 refine den_lenE el_int op_r30wit_3_2 rfl (hu.mono l1) rfl ?_
 refine den_rq ⟨_,rfl⟩ ?_
 refine den_rq ⟨_,rfl⟩ ?_
 refine den_br (b := decide (((i : Nat) : Int) < (t.length : Nat))) rfl (fun h => ?_) (fun h => ?_)
 ·replace h := of_decide_eq_true h
  have hi'' : i < t.length := by omega
  obtain ⟨x,hx,hdx⟩ := at_drop hi''
  have hlen : ((t.take i).filter fun i => decide (i ≠ k)).length <= i := Nat.le_trans (List.length_filter_le _ _) (by rw [List.length_take]; omega)
  refine den_atE el_int op_r30wit_5_2 op_r30wit_5_3 rfl rfl (fun _ => rfl) (hu.mono l1) hx rfl (fun _ => rfl) fun _ => ?_
  simp only [cA,nA]
  refine den_rq ⟨_,rfl⟩ ?_
  refine den_rq ⟨_,rfl⟩ ?_
  refine den_br (b := decide (x ≠ k)) (bN _ _) (fun h2 => ?_) (fun h2 => ?_)
  ·replace h2 := of_decide_eq_true h2
   refine den_atE el_int op_r30wit_6_3 op_r30wit_6_4 rfl rfl (fun _ => rfl) (hu.mono l1) hx rfl (fun _ => rfl) fun _ => ?_
   simp only [cA,nA]
   refine den_pushE el_int op_r30wit_6_5 op_r30wit_6_6 rfl (fun _ => rfl) (fun _ => rfl) l1 o1 (by omega) rfl (fun _ => rfl) rfl fun q v2 H5 l5 o5 => ?_
   simp only [cA,nA]
   exact ⟨(i + 1,v2),by show t.length - (i + 1) < t.length - i; omega,(map2 rfl (D_inc rfl (by omega))),⟨hi'',l5,by rw [take_snoc hx,List.filter_append,List.filter_cons,if_pos (decide_eq_true h2)]; exact o5⟩⟩
  ·replace h2 := of_decide_eq_false h2
   exact ⟨(i + 1,v),by show t.length - (i + 1) < t.length - i; omega,(map2 rfl (D_inc rfl (by omega))),⟨hi'',l1,by rw [take_snoc hx,List.filter_append,List.filter_cons,if_neg (by simpa using h2),List.filter_nil,List.append_nil]; exact o1⟩⟩
 ·replace h := of_decide_eq_false h
  rw [List.take_of_length_le (by omega)] at o1
  exact den_ret rfl ⟨l1,o1.se⟩
theorem give_r30sid (hw : SG H w es) (hg : GV n es) (hu : SI H u t) (h0 : set ≠ 0 /\ set < 2 ^ n) (ht : TreeOk es set t) (hk : k ∈ t) : Give Tryz.prog 75 [gv n w,uv set,u,ii k] H (.tuple #[uv (sideA es set t k),uv (sdf set (sideA es set t k)),ii 0]) := by
 refine con_of_tree mixed tr_r30sid np_r30sid rfl ?_
 have hs := M64_pow hg.n64 h0.2
 have hc64 := card_le64 set
 have htl := ht.len
 obtain ⟨x,r,hel,hx,hx64,hlx⟩ := tz_of hs h0.1
 have hsd : sideA es set t k = reach (etl es (t.filter fun i => decide (i ≠ k))) x := by unfold sideA; rw [hel]; rfl
 have hval : ∀ i ∈ (t.filter fun i => decide (i ≠ k)),0 <= i /\ i.toNat < es.length := fun i hi => by have := ht.ok i (List.mem_filter.1 hi).1; exact ⟨this.1,this.2.1⟩
 have hcl := reach_CL (etl_64 hg hval) hx64
 have hflt : (t.filter fun i => decide (i ≠ k)).length < t.length := List.length_filter_lt_length_iff_exists.2 ⟨k,hk,by simp⟩
 refine den_rq (gv_one hw) ?_
 refine den_ask (ask_r30chk hw hg hs hu) rfl ?_
 simp only [cA,nA]
 rw [trE_ok h0 ht]
 refine den_rq ⟨_,rfl⟩ ?_
 refine den_false (bF (p := (0 : Int) ≠ 0) (by simp)) ?_
 refine den_call (con_r30wit hu (by omega) k) rfl ?_
 rintro z H1 ⟨l1,hz⟩
 refine ⟨fun h => (nomatch h),?_⟩
 simp only [cA,nA]
 refine den_lenE el_int op_r30sid_5_1 rfl hz rfl ?_
 refine den_lenE el_int op_r30sid_5_3 rfl (hu.mono l1) rfl ?_
 refine den_rq ⟨_,rfl⟩ ?_
 refine den_rq ⟨_,rfl⟩ ?_
 refine den_false (by show Value.bool ((((t.filter fun i => decide (i ≠ k)).length : Nat) : Int) == ((t.length : Nat) : Int)) = _; rw [bE]; exact congrArg Value.bool (decide_eq_false (by omega))) ?_
 refine den_ask (ask_r30lea hs h0.1) rfl ?_
 simp only [cA,nA]
 rw [hel]
 refine den_ask (ask_r30rea (hw.mono l1) hg hz hval hx64) rfl ?_
 simp only [cA,nA]
 have hsub := side_sub hs h0.1 ht k
 rw [hsd] at hsub
 refine den_rq ⟨_,rfl⟩ ?_
 refine den_rq ⟨_,rfl⟩ ?_
 exact den_ret rfl ⟨l1,by rw [hsd,<- sub_sdf hs hsub]; show Value.tuple #[_,D Tryz.prog _ (.op2 .sub .u64 (.v 1) (.v 9)),_] = _; rw [D_subu rfl rfl hs (sub_le hsub)]; rfl⟩
theorem con_r32edg (hc : Chn H n w wts es wl) (hu : SI H u t) (h0 : set ≠ 0 /\ set < 2 ^ n) (ht : TreeOk es set t) : Con Tryz.prog 67 [gv n w,bv wts lo hi ds,uv set,u] H fun r H' => PH.le H H' /\ SI H' r (balL es wl lo hi set t t) := by
 refine con_of_tree mixed tr_r32edg np_r32edg rfl ?_
 have hl := hu.len
 have hs := M64_pow hc.ok.n64 h0.2
 have hc64 := card_le64 set
 have htl := ht.len
 refine den_rq (gv_one hc.gr) ?_
 refine den_rq (bv_one (sl_oneC hc.wt) _ _ _) ?_
 refine den_loopV (α := Nat × Value) (fun ⟨i,v⟩ => [v,ii (i : Nat)]) (fun ⟨i,v⟩ => fun H' => i <= t.length /\ PH.le H H' /\ SO H H' 3 1 (fun z : Int => [ii z]) v (balL es wl lo hi set t (t.take i))) (fun ⟨i,v⟩ => t.length - i) ((0,.slice none 0 0)) rfl (⟨Nat.zero_le _,PH.le.refl _,SO.nil _ _ _ _ _⟩) fun ⟨i,v⟩ H' hQ => ?_
 simp only [cA,nA]
 obtain ⟨hi',l1,o1⟩ := hQ
 refine den_lenE el_int op_r32edg_3_2 rfl (hu.mono l1) rfl ?_
 refine den_rq ⟨_,rfl⟩ ?_
 refine den_rq ⟨_,rfl⟩ ?_
 refine den_br (b := decide (((i : Nat) : Int) < (t.length : Nat))) rfl (fun h => ?_) (fun h => ?_)
 ·replace h := of_decide_eq_true h
  have hi'' : i < t.length := by omega
  obtain ⟨x,hx,hdx⟩ := at_drop hi''
  have hlen : (balL es wl lo hi set t (t.take i)).length <= i := Nat.le_trans (List.length_filter_le _ _) (by rw [List.length_take]; omega)
  have hsub := side_sub hs h0.1 ht x
  have hA := sub_lt2 h0.2 hsub
  have hB : sdf set (sideA es set t x) < 2 ^ n := sub_lt2 h0.2 fun y hy => by rw [has_sdf,Bool.and_eq_true] at hy; exact hy.1
  have hst : balL es wl lo hi set t (t.take (i + 1)) = if alB es wl lo hi (sideA es set t x) && alB es wl lo hi (sdf set (sideA es set t x)) then balL es wl lo hi set t (t.take i) ++ [x] else balL es wl lo hi set t (t.take i) := by
   rw [take_snoc hx]; unfold balL; rw [List.filter_append,List.filter_cons,List.filter_nil]
   split
   ·rfl
   ·rw [List.append_nil]
  refine den_atE el_int op_r32edg_5_5 op_r32edg_5_6 rfl rfl (fun _ => rfl) (hu.mono l1) hx rfl (fun _ => rfl) fun _ => ?_
  simp only [cA,nA]
  refine den_give (give_r30sid (k := x) (hc.gr.mono l1) hc.ok (hu.mono l1) h0 ht (List.mem_of_getElem? hx)) rfl fun H2 l2 => ?_
  simp only [cA,nA]
  refine den_rq ⟨_,rfl,by simp⟩ ?_
  refine den_rq ⟨_,rfl,by simp⟩ ?_
  refine den_rq ⟨_,rfl,by simp⟩ ?_
  refine den_give (give_r32goo (lo := lo) (hi := hi) (ds := ds) (hc.gr.mono (l1.trans l2)) hc.ok (hc.wt.mono (l1.trans l2)) hc.len hc.wok hA) rfl fun H3 l3 => ?_
  simp only [cA,nA]
  refine den_rq ⟨_,rfl⟩ ?_
  refine den_br (b := alB es wl lo hi (sideA es set t x)) rfl (fun b1 => ?_) (fun b1 => ?_)
  ·skip
   refine den_give (give_r32goo (lo := lo) (hi := hi) (ds := ds) (hc.gr.mono ((l1.trans l2).trans l3)) hc.ok (hc.wt.mono ((l1.trans l2).trans l3)) hc.len hc.wok hB) rfl fun H4 l4 => ?_
   simp only [cA,nA]
   refine den_rq ⟨_,rfl⟩ ?_
   refine den_br (b := alB es wl lo hi (sdf set (sideA es set t x))) rfl (fun b2 => ?_) (fun b2 => ?_)
   ·skip
    refine den_atE el_int op_r32edg_7_3 op_r32edg_7_4 rfl rfl (fun _ => rfl) (hu.mono (((l1.trans l2).trans l3).trans l4)) hx rfl (fun _ => rfl) fun _ => ?_
    simp only [cA,nA]
    refine den_pushE el_int op_r32edg_7_5 op_r32edg_7_6 rfl (fun _ => rfl) (fun _ => rfl) (((l1.trans l2).trans l3).trans l4) (o1.mono ((l2.trans l3).trans l4)) (by omega) rfl (fun _ => rfl) rfl fun q v2 H5 l5 o5 => ?_
    simp only [cA,nA]
    exact ⟨(i + 1,v2),by show t.length - (i + 1) < t.length - i; omega,(map2 rfl (D_inc rfl (by omega))),⟨hi'',l5,by rw [hst,b1,b2]; exact o5⟩⟩
   ·skip
    exact ⟨(i + 1,v),by show t.length - (i + 1) < t.length - i; omega,(map2 rfl (D_inc rfl (by omega))),⟨hi'',((l1.trans l2).trans l3).trans l4,by rw [hst,b1,b2]; exact o1.mono ((l2.trans l3).trans l4)⟩⟩
  ·skip
   exact ⟨(i + 1,v),by show t.length - (i + 1) < t.length - i; omega,(map2 rfl (D_inc rfl (by omega))),⟨hi'',(l1.trans l2).trans l3,by rw [hst,b1]; exact o1.mono (l2.trans l3)⟩⟩
 ·replace h := of_decide_eq_false h
  rw [List.take_of_length_le (by omega)] at o1
  exact den_ret rfl ⟨l1,o1.se⟩
theorem con_r32bal (hT : Tb H) (hw : SG H w es) (hg : GV n es) (hwt : SI H wts wl) (hu : SI H u t) (hs : set < M64) : Con Tryz.prog 20 [gv n w,bv wts lo hi ds,uv set,u] H fun r H' => PH.le H H' /\ BalV H' n es wl lo hi ds set t r := by
 refine con_of_tree mixed tr_r32bal np_r32bal rfl ?_
 refine den_rq (gv_one hw) ?_
 refine den_rq (bv_one (sl_oneC hwt) _ _ _) ?_
 refine den_ask (ask_r32chk hw hg hwt) rfl ?_
 simp only [cA,nA]
 refine den_rq ⟨_,rfl⟩ ?_
 refine den_br (b := decide (bdE n wl lo hi ds ≠ 0)) (bN _ _) (fun h => ?_) (fun h => ?_)
 ·replace h := of_decide_eq_true h
  exact den_ret rfl ⟨PH.le.refl _,_,[],_,rfl,SE.nil _ _ _,(if_pos h).symm,by rw [if_pos h]⟩
 ·replace h := of_decide_eq_false h
  have h0 : bdE n wl lo hi ds = 0 := Classical.byContradiction h
  have hb := bdE_ok h0
  refine den_ask (ask_r30chk hw hg hs hu) rfl ?_
  simp only [cA,nA]
  refine den_rq ⟨_,rfl⟩ ?_
  refine den_br (b := decide (trE n es set t ≠ 0)) (bN _ _) (fun h2 => ?_) (fun h2 => ?_)
  ·replace h2 := of_decide_eq_true h2
   exact den_ret rfl ⟨PH.le.refl _,_,[],_,rfl,SE.nil _ _ _,(if_neg h).symm,by rw [if_pos h2]⟩
  ·replace h2 := of_decide_eq_false h2
   have h2 : trE n es set t = 0 := Classical.byContradiction h2
   obtain ⟨hset,hok⟩ := trE_zero h2
   refine den_call (con_r32edg (lo := lo) (hi := hi) (ds := ds) (u := u) (t := t) (⟨hT,hw,hg,hwt,hb.1,hb.2.2.2.2.2⟩ : Chn H n w wts es wl) hu hset hok) rfl ?_
   rintro r H3 ⟨l3,hr⟩
   refine ⟨fun h => (nomatch h),?_⟩
   simp only [cA,nA]
   exact den_ret rfl ⟨l3,_,_,0,rfl,hr,by rw [if_neg h,h2],by rw [if_neg (by simp)]⟩
end
end Go.Proofs.YtkcjbfoejpfbbaaGreatDoor


/- Chapter 32: graphs, part 3. -/
import Derived.Test.YtkcjbfoejpfbbaaGreatDoorGaD
import Derived.Test.YtkcjbfoejpfbbaaGreatDoorGsO
import Derived.Test.YtkcjbfoejpfbbaaGreatDoorGmT
namespace Go.RX
open Go.RowKit
theorem D_cell0 {P : Program} {ρ : List Value} {x : SV} {v : Value} (h : D P ρ x = v) (hc : v.cells = #[v]) : D P ρ (.cell x 0 0 noI) = v := by
 show (D P ρ x).cells.getD (0 + 0 * ixOf (D P ρ noI)) undef = v
 rw [h,hc,Nat.zero_mul]; rfl
end Go.RX
namespace Go.Proofs.YtkcjbfoejpfbbaaGreatDoor
open Go.RowKit Go.RX Go.GS
section
variable {H : PH} {n : Nat} {w : Value} {es : List (Nat × Nat)} {set : Nat}
theorem M64_pow {n : Nat} (h : n <= 64) {s : Nat} (hs : s < 2 ^ n) : s < M64 := Nat.lt_of_lt_of_le hs (Nat.pow_le_pow_right (n := 2) (by decide) h)
theorem has_n {n s x : Nat} (hs : s < 2 ^ n) (h : bit s x = true) : x < n := by
 apply Nat.lt_of_not_le
 intro hn
 have := Nat.testBit_lt_two_pow (Nat.lt_of_lt_of_le hs (Nat.pow_le_pow_right (n := 2) (by decide) hn))
 rw [bit,this] at h; cases h
set_option maxHeartbeats 1000000 in
theorem con_gcomp (hT : Tb H) (hw : SG H w es) (hg : GV n es) (hs : set < 2 ^ n) : Con Tryz.prog 103 [gv n w,uv set] H fun u H' => PH.le H H' /\ ∃ l,SU H' u l /\ (l.length = 1 ↔ Cn es set) := by
 refine con_of_tree mixed tr_gcomp np_gcomp rfl ?_
 have hn := hg.n64
 have hs' := M64_pow hn hs
 refine den_rq (gv_one hw) ?_
 refine den_rq (el_u64.vcells set) ?_
 refine den_call (con_gar hw hg) rfl ?_
 rintro u H1 ⟨l1,o1⟩
 refine ⟨fun h => (nomatch h),?_⟩
 simp only [cA,nA]
 have hu := o1.se
 refine den_rq hu.one ?_
 refine den_loopV (α := Value × Nat × List Nat) (fun ⟨v,rest,l⟩ => [v,uv rest,gv n w,uv set,u]) (fun ⟨v,rest,l⟩ => fun H' => PH.le H1 H' /\ SO H1 H' 34 1 (fun s : Nat => [uv s]) v l /\ rest < M64 /\ (∀ y,bit rest y = true -> bit set y = true) /\ CS es set rest l.length /\ l.length + card rest <= 64) (fun ⟨v,rest,l⟩ => card rest) ((.slice none 0 0,set,[])) rfl (⟨PH.le.refl _,SO.nil _ _ _ _ _,hs',fun _ h => h,.inl ⟨rfl,rfl⟩,by simpa using card_le64 set⟩) fun ⟨v,rest,l⟩ H' hQ => ?_
 simp only [cA,nA]
 obtain ⟨l2,o2,hr,hrs,hC,hcl⟩ := hQ
 refine den_rq ⟨_,rfl⟩ ?_
 refine den_br (b := decide (rest ≠ 0)) (bN0 rest) (fun h => ?_) (fun h => ?_)
 ·replace h := of_decide_eq_true h
  obtain ⟨x,r,hel⟩ : ∃ x r,els rest = x :: r := by
   cases hel : els rest with
   | nil => exact absurd (els_nil hr hel) h
   | cons x r => exact ⟨x,r,rfl⟩
  obtain ⟨hx,hx64,_⟩ := least_of hel
  have hxs := hrs x hx
  refine den_loopV (α := Nat) (fun part => [uv part,gv n w,uv set,u]) (fun part => fun H'' => PH.le H' H'' /\ part < M64 /\ bit part x = true /\ ∀ y,bit part y = true -> Rch es set x y) (fun part => 64 - card part) (2 ^ x) (map4 (by rw [D_and (B := (M64 - rest) % M64) rfl (D_negu rfl hr) hr (Nat.mod_lt _ (by decide)),neg_least hr hel]) rfl rfl rfl) (⟨PH.le.refl _,pow_lt hx64,by rw [has_pow]; simp,fun y hy => by rw [has_pow] at hy; simp at hy; subst hy; exact .base⟩) fun part H2 hQ2 => ?_
  simp only [cA,nA]
  obtain ⟨l3,hp,hpx,hpr⟩ := hQ2
  refine den_rq (el_u64.vcells part) ?_
  refine den_call (con_gnod (H := H2) (s := part)) rfl ?_
  rintro _ _ ⟨b,hb,rfl,rfl⟩
  refine ⟨fun h => (nomatch h),?_⟩
  simp only [cA,nA]
  have l4 : PH.le H1 H2 := l2.trans l3
  have hu2 : SU H2 u (nbs n es) := hu.mono l4
  have hpn : ∀ y,bit part y = true -> y < n := fun y hy => has_n hs ((hpr y hy).mem hxs)
  refine den_rf (X := H2) (K := nbox b part) (Ro := H2) (fun pre vals X' => X' = H2 /\ vals = [uv (grow es set part ((els part).take pre.length))]) (fun _ _ _ => False) (itc_nodes hp ((hT.mono l1).mono l4)) ent_gnod1 (nbox_disj _ hb) rfl (fun _ _ _ h => by rw [h.1]; exact PH.le.refl _) ⟨rfl,rfl⟩ ?_ ?_ ?_
  ·rintro pre xs vals X' ⟨y,hy,rfl,hpre⟩ _ ⟨rfl,rfl⟩
   refine ⟨rfl,?_⟩
   simp only [cA,nA]
   have hyp : bit part y = true := (mem_els hp).1 (List.mem_of_getElem? hy)
   refine den_atE el_u64 op_gcomp_9_3 op_gcomp_9_4 rfl rfl (fun _ => rfl) hu2 (nbs_at es (hpn y hyp)) (map2 (D_cell0 rfl hu2.cells) rfl) (fun _ => rfl) fun _ => ?_
   simp only [cA,nA]
   have hgl := grow_lt (es := es) hs' hp ((els part).take pre.length)
   have hnb := nb_lt hg.ed hn y
   refine den_rq ⟨_,rfl⟩ ?_
   refine den_rq ⟨_,rfl⟩ ?_
   refine den_rq ⟨_,rfl⟩ ?_
   exact ⟨rfl,by rw [List.length_append]; simp only [List.length_cons,List.length_nil]; rw [take_snoc hy,grow_snoc]; exact map1 (D_or rfl (D_and rfl rfl hnb hs') hgl (and_lt hnb))⟩
  ·rintro xs vals X' K' rfl hd _ ⟨rfl,rfl⟩
   rw [List.length_map,List.take_length]
   simp only [cA,nA]
   have hgl := grow_lt (es := es) hs' hp (els part)
   have l5 : PH.le X' (X'.or K') := PH.le_or _ _
   refine den_rq ⟨_,rfl⟩ ?_
   refine den_rq ⟨_,rfl⟩ ?_
   refine den_br (b := decide (grow es set part (els part) = part)) (by show Value.bool (((grow es set part (els part) : Nat) : Int) == ((part : Nat) : Int)) = _; rw [bE]; congr 1; apply decide_eq_decide.2; omega) (fun h2 => ?_) (fun h2 => ?_)
   ·replace h2 := of_decide_eq_true h2
    have hcl2 := grow_end hg.ed hp hpx hpr h2
    refine den_pushE el_u64 op_gcomp_12_2 op_gcomp_12_3 rfl (fun _ => rfl) (fun _ => rfl) (l4.trans l5) (o2.mono (l3.trans l5)) (by omega) rfl (fun _ => rfl) rfl fun p v2 H3 l6 o3 => ?_
    simp only [cA,nA]
    have hlt : card (sdf rest part) < card rest := card_lt (fun y hy => by rw [has_sdf] at hy; exact (Bool.and_eq_true _ _ ▸ hy).1) hx (by rw [has_sdf,hpx]; simp) hx64
    exact ⟨(v2,sdf rest part,l ++ [part]),hlt,(by simp only [List.map_cons,List.map_nil]; rw [D_andn rfl rfl hr hp]; rfl),⟨l6,o3,sdf_lt hr,fun y hy => hrs y (by rw [has_sdf] at hy; exact (Bool.and_eq_true _ _ ▸ hy).1),by rw [List.length_append]; exact hC.next hx hxs hcl2,by rw [List.length_append]; simp only [List.length_cons,List.length_nil]; omega⟩⟩
   ·replace h2 := of_decide_eq_false h2
    obtain ⟨z,hz1,hz2⟩ := ne_bit (fun e => h2 e.symm) (fun y hy => by rw [grow_has]; exact .inl hy)
    have hlt : card part < card (grow es set part (els part)) := card_lt (fun y hy => by rw [grow_has]; exact .inl hy) hz1 hz2 (has_lt hgl hz1)
    have hc64 := card_le64 (grow es set part (els part))
    exact ⟨grow es set part (els part),by omega,rfl,⟨l3.trans l5,hgl,by rw [grow_has]; exact .inl hpx,grow_rch hg.ed hp hpr⟩⟩
  ·exact fun _ _ _ _ _ _ _ h => h.elim
 ·replace h := of_decide_eq_false h
  have h0 : rest = 0 := by omega
  subst h0
  exact den_ret rfl ⟨l1.trans l2,l,o2.se,hC.end⟩
end
end Go.Proofs.YtkcjbfoejpfbbaaGreatDoor

/- Chapter 32: library, part 3. -/
namespace Go.Proofs.YtkcjbfoejpfbbaaGreatDoor
open Go.RowKit Go.RX Go.GS
section
variable {H : PH} {u v : Value} {l : List Int}
theorem con_sifI {f : FuncId} {caps : List Value} {q : Int -> Bool} (hu : SI H u l) (hent : entB Tryz.prog f = true) (hf : ∀ H' x,PH.le H H' -> x ∈ l -> Give Tryz.prog f (ii x :: caps) H' (.bool (q x))) : Con Tryz.prog 109 [u,.func (.func f) #[] caps.toArray] H fun r H' => PH.le H H' /\ ∃ z : Int,r = ii z /\ decide (z ≥ 0) = l.any q := by
 refine con_of_tree mixed tr_sifI np_sifI rfl ?_
 have hl := hu.len
 refine den_lenE el_int op_sifI_1_1 rfl hu rfl ?_
 refine den_loopV (α := Nat × Int) (fun ⟨i,p⟩ => [ii p,ii (i : Nat)]) (fun ⟨i,p⟩ => fun H' => i <= l.length /\ PH.le H H' /\ (l.take i).any q = false) (fun ⟨i,p⟩ => l.length - i) ((0,0)) rfl (⟨Nat.zero_le _,PH.le.refl _,rfl⟩) fun ⟨i,p⟩ H' hQ => ?_
 simp only [cA,nA]
 obtain ⟨hi,l1,hq⟩ := hQ
 refine den_rq ⟨_,rfl⟩ ?_
 refine den_rq ⟨_,rfl⟩ ?_
 refine den_br (b := decide (((i : Nat) : Int) < (l.length : Nat))) rfl (fun h => ?_) (fun h => ?_)
 ·replace h := of_decide_eq_true h
  have hi' : i < l.length := by omega
  obtain ⟨x,hx,hdx⟩ := at_drop hi'
  refine den_atE el_int op_sifI_4_3 op_sifI_4_4 rfl rfl (fun _ => rfl) (hu.mono l1) hx rfl (fun _ => rfl) fun _ => ?_
  simp only [cA,nA]
  refine den_eff (opn_callv (f := f) (caps := caps.toArray) (vs := [ii x]) op_sifI_4_5 rfl rfl hent (hf _ x l1 (List.mem_of_getElem? hx))) rfl ?_
  rintro _ H2 ⟨l2,rfl⟩
  refine ⟨fun h => (nomatch h),?_⟩
  simp only [cA,nA]
  refine den_rq ⟨_,rfl⟩ ?_
  refine den_br (b := q x) rfl (fun hqx => ?_) (fun hqx => ?_)
  ·skip
   exact den_ret rfl ⟨l1.trans l2,_,rfl,by rw [List.any_eq_true.2 ⟨x,List.mem_of_getElem? hx,hqx⟩]; exact decide_eq_true (by omega)⟩
  ·skip
   exact ⟨(i + 1,p),by show l.length - (i + 1) < l.length - i; omega,(map2 rfl (D_inc rfl (by omega))),⟨hi',l1.trans l2,by rw [take_snoc hx,List.any_append,hq]; simp [hqx]⟩⟩
 ·replace h := of_decide_eq_false h
  rw [List.take_of_length_le (by omega)] at hq
  exact den_ret rfl ⟨l1,_,rfl,by rw [hq]; rfl⟩
theorem give_scfI {f : FuncId} {caps : List Value} {q : Int -> Bool} (hu : SI H u l) (hent : entB Tryz.prog f = true) (hf : ∀ H' x,PH.le H H' -> x ∈ l -> Give Tryz.prog f (ii x :: caps) H' (.bool (q x))) : Give Tryz.prog 53 [u,.func (.func f) #[] caps.toArray] H (.bool (l.any q)) := by
 refine con_of_tree mixed tr_scfI np_scfI rfl ?_
 refine den_call (con_sifI hu hent hf) rfl ?_
 rintro _ H1 ⟨l1,z,rfl,hz⟩
 refine ⟨fun h => (nomatch h),?_⟩
 simp only [cA,nA]
 refine den_rq ⟨_,rfl⟩ ?_
 exact den_ret rfl ⟨l1,hz ▸ rfl⟩
theorem ask_sixI (hu : SI H u l) (y : Int) : Con Tryz.prog 104 [u,ii y] H fun r H' => H' = H /\ ∃ z : Int,r = ii z /\ decide (z ≥ 0) = l.contains y := by
 refine con_of_tree mixed tr_sixI np_sixI rfl ?_
 have hl := hu.len
 refine den_lenE el_int op_sixI_1_1 rfl hu rfl ?_
 refine den_loopR (α := Nat × Int) (fun ⟨i,p⟩ => [ii p,ii (i : Nat)]) (fun ⟨i,p⟩ => i <= l.length /\ (l.take i).contains y = false) (fun ⟨i,p⟩ => l.length - i) ((0,0)) rfl (⟨Nat.zero_le _,rfl⟩) fun ⟨i,p⟩ hQ => ?_
 simp only [cA,nA]
 obtain ⟨hi,hq⟩ := hQ
 refine den_rq ⟨_,rfl⟩ ?_
 refine den_rq ⟨_,rfl⟩ ?_
 refine den_br (b := decide (((i : Nat) : Int) < (l.length : Nat))) rfl (fun h => ?_) (fun h => ?_)
 ·replace h := of_decide_eq_true h
  have hi' : i < l.length := by omega
  obtain ⟨x,hx,hdx⟩ := at_drop hi'
  refine den_atE el_int op_sixI_4_3 op_sixI_4_4 rfl rfl (fun _ => rfl) hu hx rfl (fun _ => rfl) fun _ => ?_
  simp only [cA,nA]
  refine den_rq ⟨_,rfl⟩ ?_
  refine den_rq ⟨_,rfl⟩ ?_
  refine den_br (b := decide (y = x)) (bE y x) (fun hyx => ?_) (fun hyx => ?_)
  ·replace hyx := of_decide_eq_true hyx
   exact den_ret rfl ⟨rfl,_,rfl,by rw [List.contains_iff_mem.2 (hyx ▸ List.mem_of_getElem? hx)]; exact decide_eq_true (by omega)⟩
  ·replace hyx := of_decide_eq_false hyx
   exact ⟨(i + 1,p),by show l.length - (i + 1) < l.length - i; omega,(map2 rfl (D_inc rfl (by omega))),⟨⟨hi',by rw [take_snoc hx,contains_snoc,hq]; simp [hyx]⟩,rfl⟩⟩
 ·replace h := of_decide_eq_false h
  rw [List.take_of_length_le (by omega)] at hq
  exact den_ret rfl ⟨rfl,_,rfl,by rw [hq]; rfl⟩
theorem ask_sct (hu : SI H u l) (y : Int) : Asks Tryz.prog 40 [u,ii y] H (.bool (l.contains y)) := by
 refine con_of_tree mixed tr_sct np_sct rfl ?_
 refine den_call (ask_sixI hu y) rfl ?_
 rintro _ _ ⟨rfl,z,rfl,hz⟩
 refine ⟨fun h => (nomatch h),?_⟩
 simp only [cA,nA]
 refine den_rq ⟨_,rfl⟩ ?_
 exact den_ret rfl ⟨rfl,hz ▸ rfl⟩
theorem ask_seqI {m : List Int} (hu : SI H u l) (hv : SI H v m) : Asks Tryz.prog 21 [u,v] H (.bool (decide (l = m))) := by
 refine con_of_tree mixed tr_seqI np_seqI rfl ?_
 have hl := hu.len
 have hm := hv.len
 refine den_lenE el_int op_seqI_1_1 rfl hu rfl ?_
 refine den_lenE el_int op_seqI_1_3 rfl hv rfl ?_
 refine den_rq ⟨_,rfl⟩ ?_
 refine den_rq ⟨_,rfl⟩ ?_
 refine den_br (b := decide (l.length ≠ m.length)) (by show Value.bool (((l.length : Nat) : Int) != ((m.length : Nat) : Int)) = _; rw [bN]; congr 1; apply decide_eq_decide.2; omega) (fun h => ?_) (fun h => ?_)
 ·replace h := of_decide_eq_true h
  exact den_ret rfl ⟨rfl,by rw [decide_eq_false (fun e => h (by rw [e]))]; rfl⟩
 ·replace h := of_decide_eq_false h
  have hlm : l.length = m.length := by omega
  refine den_lenE el_int op_seqI_3_1 rfl hu rfl ?_
  refine den_loopR (α := Nat × Value) (fun ⟨i,p⟩ => [p,ii (i : Nat)]) (fun ⟨i,p⟩ => i <= l.length /\ l.take i = m.take i) (fun ⟨i,p⟩ => l.length - i) ((0,.bool false)) rfl (⟨Nat.zero_le _,rfl⟩) fun ⟨i,p⟩ hQ => ?_
  simp only [cA,nA]
  obtain ⟨hi,hq⟩ := hQ
  refine den_rq ⟨_,rfl⟩ ?_
  refine den_rq ⟨_,rfl⟩ ?_
  refine den_br (b := decide (((i : Nat) : Int) < (l.length : Nat))) rfl (fun h2 => ?_) (fun h2 => ?_)
  ·replace h2 := of_decide_eq_true h2
   have hi' : i < l.length := by omega
   obtain ⟨x,hx,hdx⟩ := at_drop hi'
   refine den_atE el_int op_seqI_6_2 op_seqI_6_3 rfl rfl (fun _ => rfl) hu hx rfl (fun _ => rfl) fun _ => ?_
   simp only [cA,nA]
   obtain ⟨y,hy,hdy⟩ := at_drop (l := m) (i := i) (by omega)
   refine den_atE el_int op_seqI_6_6 op_seqI_6_7 rfl rfl (fun _ => rfl) hv hy rfl (fun _ => rfl) fun _ => ?_
   simp only [cA,nA]
   refine den_rq ⟨_,rfl⟩ ?_
   refine den_rq ⟨_,rfl⟩ ?_
   refine den_br (b := decide (x ≠ y)) (bN x y) (fun hxy => ?_) (fun hxy => ?_)
   ·replace hxy := of_decide_eq_true hxy
    exact den_ret rfl ⟨rfl,by rw [decide_eq_false (fun e => hxy (by subst e; rw [hx] at hy; exact Option.some.inj hy))]; rfl⟩
   ·replace hxy := of_decide_eq_false hxy
    have hxy : x = y := Classical.byContradiction hxy
    exact ⟨(i + 1,p),by show l.length - (i + 1) < l.length - i; omega,(map2 rfl (D_inc rfl (by omega))),⟨⟨hi',by rw [take_snoc hx,take_snoc hy,hq,hxy]⟩,rfl⟩⟩
  ·replace h2 := of_decide_eq_false h2
   rw [List.take_of_length_le (by omega),List.take_of_length_le (by omega)] at hq
   exact den_ret rfl ⟨rfl,by rw [decide_eq_true hq]; rfl⟩
end
section
variable {H : PH} {u v : Value} {l : List Nat}
theorem con_sifU {f : FuncId} {caps : List Value} {q : Nat -> Bool} (hu : SU H u l) (hent : entB Tryz.prog f = true) (hf : ∀ H' x,PH.le H H' -> x ∈ l -> Give Tryz.prog f (uv x :: caps) H' (.bool (q x))) : Con Tryz.prog 178 [u,.func (.func f) #[] caps.toArray] H fun r H' => PH.le H H' /\ ∃ z : Int,r = ii z /\ decide (z ≥ 0) = l.any q := by
 refine con_of_tree mixed tr_sifU np_sifU rfl ?_
 have hl := hu.len
 refine den_lenE el_u64 op_sifU_1_1 rfl hu rfl ?_
 refine den_loopV (α := Nat × Int) (fun ⟨i,p⟩ => [ii p,ii (i : Nat)]) (fun ⟨i,p⟩ => fun H' => i <= l.length /\ PH.le H H' /\ (l.take i).any q = false) (fun ⟨i,p⟩ => l.length - i) ((0,0)) rfl (⟨Nat.zero_le _,PH.le.refl _,rfl⟩) fun ⟨i,p⟩ H' hQ => ?_
 simp only [cA,nA]
 obtain ⟨hi,l1,hq⟩ := hQ
 refine den_rq ⟨_,rfl⟩ ?_
 refine den_rq ⟨_,rfl⟩ ?_
 refine den_br (b := decide (((i : Nat) : Int) < (l.length : Nat))) rfl (fun h => ?_) (fun h => ?_)
 ·replace h := of_decide_eq_true h
  have hi' : i < l.length := by omega
  obtain ⟨x,hx,hdx⟩ := at_drop hi'
  refine den_atE el_u64 op_sifU_4_3 op_sifU_4_4 rfl rfl (fun _ => rfl) (hu.mono l1) hx rfl (fun _ => rfl) fun _ => ?_
  simp only [cA,nA]
  refine den_eff (opn_callv (f := f) (caps := caps.toArray) (vs := [uv x]) op_sifU_4_5 rfl rfl hent (hf _ x l1 (List.mem_of_getElem? hx))) rfl ?_
  rintro _ H2 ⟨l2,rfl⟩
  refine ⟨fun h => (nomatch h),?_⟩
  simp only [cA,nA]
  refine den_rq ⟨_,rfl⟩ ?_
  refine den_br (b := q x) rfl (fun hqx => ?_) (fun hqx => ?_)
  ·skip
   exact den_ret rfl ⟨l1.trans l2,_,rfl,by rw [List.any_eq_true.2 ⟨x,List.mem_of_getElem? hx,hqx⟩]; exact decide_eq_true (by omega)⟩
  ·skip
   exact ⟨(i + 1,p),by show l.length - (i + 1) < l.length - i; omega,(map2 rfl (D_inc rfl (by omega))),⟨hi',l1.trans l2,by rw [take_snoc hx,List.any_append,hq]; simp [hqx]⟩⟩
 ·replace h := of_decide_eq_false h
  rw [List.take_of_length_le (by omega)] at hq
  exact den_ret rfl ⟨l1,_,rfl,by rw [hq]; rfl⟩
theorem give_scfU {f : FuncId} {caps : List Value} {q : Nat -> Bool} (hu : SU H u l) (hent : entB Tryz.prog f = true) (hf : ∀ H' x,PH.le H H' -> x ∈ l -> Give Tryz.prog f (uv x :: caps) H' (.bool (q x))) : Give Tryz.prog 112 [u,.func (.func f) #[] caps.toArray] H (.bool (l.any q)) := by
 refine con_of_tree mixed tr_scfU np_scfU rfl ?_
 refine den_call (con_sifU hu hent hf) rfl ?_
 rintro _ H1 ⟨l1,z,rfl,hz⟩
 refine ⟨fun h => (nomatch h),?_⟩
 simp only [cA,nA]
 refine den_rq ⟨_,rfl⟩ ?_
 exact den_ret rfl ⟨l1,hz ▸ rfl⟩
end
section
variable {H : PH} {n : Nat} {w : Value} {es : List (Nat × Nat)} {set : Nat}
theorem give_gck (hw : SG H w es) (hg : GV n es) (hs : set < M64) : Give Tryz.prog 102 [gv n w,uv set] H (ii (if set < 2 ^ n then 0 else 2)) := by
 refine con_of_tree mixed tr_gck np_gck rfl ?_
 refine den_rq (gv_one hw) ?_
 refine den_give (give_gchk hw hg) rfl fun H1 l1 => ?_
 simp only [cA,nA]
 refine den_rq ⟨_,rfl⟩ ?_
 refine den_false (bF (p := (0 : Int) ≠ 0) (by simp)) ?_
 refine den_det (det_len64 set hs) rfl ?_
 simp only [cA,nA]
 refine den_rq ⟨_,rfl⟩ ?_
 refine den_rq ⟨_,rfl⟩ ?_
 refine den_br (b := decide (set ≥ 2 ^ n)) (by show Value.bool (decide (((Go.WD.blen set : Nat) : Int) > ((n : Nat) : Int))) = _; congr 1; apply decide_eq_decide.2; constructor <;> intro hh <;> first | (have := Go.WD.blen_ge hh; omega) | (apply Nat.le_of_not_lt; intro h2; have := Go.WD.blen_le h2; omega)) (fun h => ?_) (fun h => ?_)
 ·replace h := of_decide_eq_true h
  exact den_ret rfl ⟨l1,by rw [if_neg (by omega)]; rfl⟩
 ·replace h := of_decide_eq_false h
  exact den_ret rfl ⟨l1,by rw [if_pos (by omega)]; rfl⟩
noncomputable def conV (n : Nat) (es : List (Nat × Nat)) (set : Nat) : Value := if set < 2 ^ n then .tuple #[.bool (cnB es set),ii 0] else .tuple #[.bool false,ii 2]
theorem give_gcon (hT : Tb H) (hw : SG H w es) (hg : GV n es) (hs : set < M64) : Give Tryz.prog 39 [gv n w,uv set] H (conV n es set) := by
 refine con_of_tree mixed tr_gcon np_gcon rfl ?_
 have hn := hg.n64
 refine den_rq (gv_one hw) ?_
 refine den_give (give_gck hw hg hs) rfl fun H1 l1 => ?_
 simp only [cA,nA]
 refine den_rq ⟨_,rfl⟩ ?_
 refine den_br (b := decide (¬ set < 2 ^ n)) (by show Value.bool ((if set < 2 ^ n then (0 : Int) else 2) != 0) = _; by_cases hh : set < 2 ^ n <;> simp [hh]) (fun h => ?_) (fun h => ?_)
 ·replace h := of_decide_eq_true h
  exact den_ret rfl ⟨l1,by unfold conV; rw [if_neg h,if_neg h]; rfl⟩
 ·replace h := of_decide_eq_false h
  have h : set < 2 ^ n := Classical.byContradiction h
  refine den_call (con_gcomp (hT.mono l1) (hw.mono l1) hg h) rfl ?_
  rintro u H2 ⟨l2,l,hl,hc⟩
  refine ⟨fun h => (nomatch h),?_⟩
  simp only [cA,nA]
  have e : cnB es set = decide (l.length = 1) := by rw [Bool.eq_iff_iff,cnB_iff,<- hc]; simp
  refine den_lenE el_u64 op_gcon_4_3 rfl hl rfl ?_
  refine den_rq ⟨_,rfl⟩ ?_
  exact den_ret rfl ⟨l1.trans l2,by rw [show conV n es set = .tuple #[.bool (cnB es set),ii 0] from if_pos h,e]; show Value.tuple #[.bool (((l.length : Nat) : Int) == 1),_] = _; rw [bE,show decide (((l.length : Nat) : Int) = 1) = decide (l.length = 1) from decide_eq_decide.2 (by omega)]; rfl⟩
end
end Go.Proofs.YtkcjbfoejpfbbaaGreatDoor

/- Chapter 32: plans. -/
namespace Go.Proofs.YtkcjbfoejpfbbaaGreatDoor
open Go.RowKit Go.RX Go.GS
section
variable {H : PH} {u v w : Value} {p : List Int} {n : Nat} {es : List (Nat × Nat)}
theorem ask_plab (hu : SI H u p) (k : Int) : Asks Tryz.prog 130 [u,ii k] H (.bool (decide (LabOk p k))) := by
 refine con_of_tree mixed tr_plab np_plab rfl ?_
 have hl := hu.len
 refine den_lenE el_plan op_plab_1_1 rfl hu rfl ?_
 refine den_loopR (α := Nat × Value) (fun ⟨i,z⟩ => [z,ii (i : Nat)]) (fun ⟨i,z⟩ => i <= p.length /\ ∀ x ∈ p.take i,0 <= x /\ x < k) (fun ⟨i,z⟩ => p.length - i) ((0,.bool false)) rfl (⟨Nat.zero_le _,fun x hx => by cases hx⟩) fun ⟨i,z⟩ hQ => ?_
 simp only [cA,nA]
 obtain ⟨hi,hq⟩ := hQ
 refine den_rq ⟨_,rfl⟩ ?_
 refine den_rq ⟨_,rfl⟩ ?_
 refine den_br (b := decide (((i : Nat) : Int) < (p.length : Nat))) rfl (fun h => ?_) (fun h => ?_)
 ·replace h := of_decide_eq_true h
  have hi' : i < p.length := by omega
  obtain ⟨x,hx,hdx⟩ := at_drop hi'
  refine den_atE el_plan op_plab_3_0 op_plab_3_1 rfl rfl (fun _ => rfl) hu hx rfl (fun _ => rfl) fun _ => ?_
  simp only [cA,nA]
  have hxm := List.mem_of_getElem? hx
  refine den_rq ⟨_,rfl⟩ ?_
  refine den_br (b := decide (x < 0)) rfl (fun h2 => ?_) (fun h2 => ?_)
  ·replace h2 := of_decide_eq_true h2
   exact den_ret rfl ⟨rfl,by rw [decide_eq_false (fun e => by have := e.1 x hxm; omega)]; rfl⟩
  ·replace h2 := of_decide_eq_false h2
   refine den_rq ⟨_,rfl⟩ ?_
   refine den_br (b := decide (x ≥ k)) rfl (fun h3 => ?_) (fun h3 => ?_)
   ·replace h3 := of_decide_eq_true h3
    exact den_ret rfl ⟨rfl,by rw [decide_eq_false (fun e => by have := e.1 x hxm; omega)]; rfl⟩
   ·replace h3 := of_decide_eq_false h3
    exact ⟨(i + 1,z),by show p.length - (i + 1) < p.length - i; omega,(map2 rfl (D_inc rfl (by omega))),⟨⟨hi',by rw [take_snoc hx]; intro y hy; rw [List.mem_append,List.mem_singleton] at hy; rcases hy with hy|rfl; (exact hq y hy); omega⟩,rfl⟩⟩
 ·replace h := of_decide_eq_false h
  rw [List.take_of_length_le (by omega)] at hq
  refine den_lenE el_plan op_plab_7_1 rfl hu rfl ?_
  refine den_rq ⟨_,rfl⟩ ?_
  refine den_br (b := decide (((p.length : Nat) : Int) > 0)) rfl (fun h4 => ?_) (fun h4 => ?_)
  ·replace h4 := of_decide_eq_true h4
   refine den_lenE el_plan op_plab_7_5 rfl hu rfl ?_
   refine den_rq ⟨_,rfl⟩ ?_
   exact den_ret rfl ⟨rfl,congrArg Value.bool (decide_eq_decide.2 ⟨fun h5 => ⟨hq,by omega,by have h6 : ((p.length : Nat) : Int) <= 64 := h5; omega⟩,fun h5 => by have := h5.2.2; show ((p.length : Nat) : Int) <= 64; omega⟩)⟩
  ·replace h4 := of_decide_eq_false h4
   exact den_ret rfl ⟨rfl,by rw [decide_eq_false (fun e => by have := e.2.1; omega)]; rfl⟩
theorem con_ppar {k : Nat} (hk : k <= 8) (hu : SI H u p) (hL : LabOk p (k : Int)) : Con Tryz.prog 177 [u,ii (k : Nat)] H fun r H' => PH.le H H' /\ ∃ z,r = .tuple #[z,.bool (decide (Used p k))] /\ (Used p k -> SU H' z (masks p k)) := by
 refine con_of_tree mixed tr_ppar np_ppar rfl ?_
 have hl := hu.len
 have hp64 := hL.2.2
 refine den_makeE el_u64 (z := (0 : Nat)) z_u64 op_ppar_1_1 rfl rfl (by omega) rfl fun v H1 l1 o1 _ => ?_
 simp only [cA,nA]
 rw [<- mksN_zero p] at o1
 refine den_lenE el_plan op_ppar_2_1 rfl (hu.mono l1) rfl ?_
 refine den_loopV (α := Nat) (fun i => [ii (i : Nat)]) (fun i => fun H' => i <= p.length /\ PH.le H H' /\ SO H H' 34 1 (fun s : Nat => [uv s]) v (mksN p k i)) (fun i => p.length - i) (0) rfl (⟨Nat.zero_le _,l1,o1⟩) fun i H' hQ => ?_
 simp only [cA,nA]
 obtain ⟨hi,l2,o2⟩ := hQ
 refine den_rq ⟨_,rfl⟩ ?_
 refine den_rq ⟨_,rfl⟩ ?_
 refine den_br (b := decide (((i : Nat) : Int) < (p.length : Nat))) rfl (fun h => ?_) (fun h => ?_)
 ·replace h := of_decide_eq_true h
  have hi' : i < p.length := by omega
  obtain ⟨x,hx,hdx⟩ := at_drop hi'
  refine den_atE el_plan op_ppar_4_1 op_ppar_4_2 rfl rfl (fun _ => rfl) (hu.mono l2) hx rfl (fun _ => rfl) fun _ => ?_
  simp only [cA,nA]
  have hxk := hL.at hx
  obtain ⟨d,rfl⟩ : ∃ d : Nat,x = (d : Int) := ⟨x.toNat,by omega⟩
  refine den_atE el_u64 op_ppar_5_2 op_ppar_5_3 rfl rfl (fun _ => rfl) o2.se (mksN_at p i (show d < k by omega)) rfl (fun _ => rfl) fun _ => ?_
  simp only [cA,nA]
  refine den_rq ⟨_,_,rfl⟩ ?_
  refine den_rq (by show (0 : Int) <= ((i : Nat) : Int); omega) ?_
  refine den_rq ⟨_,rfl⟩ ?_
  refine den_setE el_u64 (a := mkN p (d : Nat) i ||| 2 ^ i) op_ppar_5_7 op_ppar_5_8 rfl rfl (fun _ => rfl) (fun _ => rfl) l2 o2 (by rw [mksN_len]; omega) rfl (fun _ => map2 rfl (D_or rfl (D_pow rfl (by omega)) (mkN_64 _ _ (by omega)) (pow_lt (by omega)))) rfl fun p' u' H3 l4 o4 _ => ?_
  simp only [cA,nA]
  rw [mksN_succ p k hx] at o4
  exact ⟨i + 1,by omega,(map1 (D_inc rfl (by omega))),⟨hi',l4,o4⟩⟩
 ·replace h := of_decide_eq_false h
  have he : i = p.length := by omega
  subst he
  refine den_loopV (α := Nat × Value × Value) (fun ⟨d,z1,z2⟩ => [z1,z2,ii (d : Nat)]) (fun ⟨d,z1,z2⟩ => fun H2 => H2 = H' /\ d <= k /\ ∀ j,j < d -> mask p (j : Nat) ≠ 0) (fun ⟨d,z1,z2⟩ => k - d) ((0,.slice none 0 0,.bool false)) rfl (⟨rfl,Nat.zero_le _,fun j hj => by cases hj⟩) fun ⟨d,z1,z2⟩ H2 hQ2 => ?_
  simp only [cA,nA]
  obtain ⟨rfl,hd,hq⟩ := hQ2
  refine den_rq ⟨_,rfl⟩ ?_
  refine den_rq ⟨_,rfl⟩ ?_
  refine den_br (b := decide (((d : Nat) : Int) < (k : Nat))) rfl (fun h2 => ?_) (fun h2 => ?_)
  ·replace h2 := of_decide_eq_true h2
   refine den_atE el_u64 op_ppar_10_2 op_ppar_10_3 rfl rfl (fun _ => rfl) o2.se (mksN_at p _ (show d < k by omega)) rfl (fun _ => rfl) fun _ => ?_
   simp only [cA,nA]
   refine den_rq ⟨_,rfl⟩ ?_
   refine den_br (b := decide (mkN p (d : Nat) p.length = 0)) (bE0 _) (fun h3 => ?_) (fun h3 => ?_)
   ·replace h3 := of_decide_eq_true h3
    exact den_ret rfl ⟨l2,_,by rw [decide_eq_false (fun e => e d (by omega) h3)]; rfl,fun e => absurd h3 (e d (by omega))⟩
   ·replace h3 := of_decide_eq_false h3
    exact ⟨(d + 1,z1,z2),by show k - (d + 1) < k - d; omega,(map3 rfl rfl (D_inc rfl (by omega))),⟨rfl,by show d + 1 <= k; omega,fun j hj => by rcases Nat.lt_succ_iff_lt_or_eq.1 hj with hj|rfl; (exact hq j hj); exact h3⟩⟩
  ·replace h2 := of_decide_eq_false h2
   have he : d = k := by omega
   subst he
   exact den_ret rfl ⟨l2,v,by rw [decide_eq_true (p := Used p d) hq]; rfl,fun _ => o2.se⟩
theorem con_pdrw (hw : SG H w es) (hg : GV n es) (hu : SI H u p) (k : Int) : Con Tryz.prog 176 [gv n w,u,ii k] H fun r H' => PH.le H H' /\ ∃ q,r = .tuple #[q,ii (plE n p k)] := by
 refine con_of_tree mixed tr_pdrw np_pdrw rfl ?_
 refine den_rq (gv_one hw) ?_
 refine den_give (give_gchk hw hg) rfl fun H1 l1 => ?_
 simp only [cA,nA]
 refine den_rq ⟨_,rfl⟩ ?_
 refine den_false (bF (p := (0 : Int) ≠ 0) (by simp)) ?_
 refine den_rq ⟨_,rfl⟩ ?_
 refine den_br (b := decide (k < 1)) rfl (fun h => ?_) (fun h => ?_)
 ·replace h := of_decide_eq_true h
  exact den_ret rfl ⟨l1,_,by rw [show plE n p k = 2 from if_pos (.inl h)]; rfl⟩
 ·replace h := of_decide_eq_false h
  refine den_br (b := decide (k > 8)) rfl (fun h2 => ?_) (fun h2 => ?_)
  ·replace h2 := of_decide_eq_true h2
   exact den_ret rfl ⟨l1,_,by rw [show plE n p k = 2 from if_pos (.inr h2)]; rfl⟩
  ·replace h2 := of_decide_eq_false h2
   have hk : ¬ (k < 1 \/ k > 8) := by omega
   obtain ⟨m,rfl⟩ : ∃ m : Nat,k = (m : Int) := ⟨k.toNat,by omega⟩
   refine den_lenE el_plan op_pdrw_6_1 rfl (hu.mono l1) rfl ?_
   refine den_rq ⟨_,rfl⟩ ?_
   refine den_rq ⟨_,rfl⟩ ?_
   refine den_br (b := decide (p.length ≠ n)) (by show Value.bool (((p.length : Nat) : Int) != ((n : Nat) : Int)) = _; rw [bN]; congr 1; apply decide_eq_decide.2; omega) (fun h3 => ?_) (fun h3 => ?_)
   ·replace h3 := of_decide_eq_true h3
    exact den_ret rfl ⟨l1,_,by rw [show plE n p (m : Nat) = 210 from (if_neg hk).trans (if_neg fun e => h3 e.1)]; rfl⟩
   ·replace h3 := of_decide_eq_false h3
    refine den_ask (ask_plab (hu.mono l1) (m : Nat)) rfl ?_
    simp only [cA,nA]
    refine den_rq ⟨_,rfl⟩ ?_
    refine den_br (b := !decide (LabOk p (m : Nat))) rfl (fun h4 => ?_) (fun h4 => ?_)
    ·skip
     exact den_ret rfl ⟨l1,_,by rw [show plE n p (m : Nat) = 210 from (if_neg hk).trans (if_neg fun e => by simp [e.2.1] at h4)]; rfl⟩
    ·skip
     have hL : LabOk p (m : Nat) := by simpa using h4
     refine den_call (con_ppar (by omega) (hu.mono l1) hL) rfl ?_
     rintro _ H2 ⟨l2,z,rfl,hz⟩
     refine ⟨fun h => (nomatch h),?_⟩
     simp only [cA,nA]
     refine den_rq ⟨_,rfl,by simp⟩ ?_
     refine den_rq ⟨_,rfl,by simp⟩ ?_
     refine den_rq ⟨_,rfl⟩ ?_
     refine den_br (b := !decide (Used p m)) rfl (fun h5 => ?_) (fun h5 => ?_)
     ·skip
      exact den_ret rfl ⟨l1.trans l2,_,by rw [show plE n p (m : Nat) = 210 from (if_neg hk).trans (if_neg fun e => by have := e.2.2; rw [Int.toNat_natCast] at this; simp [this] at h5)]; rfl⟩
     ·skip
      have hU : Used p m := by simpa using h5
      refine den_rq ((hu.mono l1).one) ?_
      refine den_rq ((hz hU).one) ?_
      refine den_pub (cs := _) rfl fun b hb => ?_
      simp only [cA,nA]
      exact den_ret rfl ⟨(l1.trans l2).trans (PH.le_put hb _),_,by rw [show plE n p (m : Nat) = 0 from (if_neg hk).trans (if_pos ⟨by omega,hL,by rw [Int.toNat_natCast]; exact hU⟩)]; rfl⟩
theorem give_pchk (hw : SG H w es) (hg : GV n es) (hu : SI H u p) (k : Int) : Give Tryz.prog 110 [gv n w,u,ii k] H (ii (plE n p k)) := by
 refine con_of_tree mixed tr_pchk np_pchk rfl ?_
 refine den_rq (gv_one hw) ?_
 refine den_call (con_pdrw hw hg hu k) rfl ?_
 rintro _ H1 ⟨l1,q,rfl⟩
 refine ⟨fun h => (nomatch h),?_⟩
 simp only [cA,nA]
 refine den_rq ⟨_,rfl,by simp⟩ ?_
 refine den_rq ⟨_,rfl,by simp⟩ ?_
 exact den_ret rfl ⟨l1,rfl⟩
theorem con_pmsk (hu : SI H u p) (k : Nat) (h1 : 1 <= k) (h8 : k <= 8) (hL : LabOk p (k : Nat)) (hU : Used p k) : Con Tryz.prog 111 [u,ii (k : Nat)] H fun r H' => PH.le H H' /\ ∃ z,r = .tuple #[z,ii 0] /\ SU H' z (masks p k) := by
 refine con_of_tree mixed tr_pmsk np_pmsk rfl ?_
 refine den_rq ⟨_,rfl⟩ ?_
 refine den_false (bF (p := ((k : Nat) : Int) < 1) (by omega)) ?_
 refine den_false (bF (p := ((k : Nat) : Int) > 8) (by omega)) ?_
 refine den_ask (ask_plab hu (k : Nat)) rfl ?_
 simp only [cA,nA]
 refine den_rq ⟨_,rfl⟩ ?_
 refine den_false (by show Value.bool (!decide (LabOk p (k : Nat))) = _; rw [decide_eq_true hL]; rfl) ?_
 refine den_call (con_ppar h8 hu hL) rfl ?_
 rintro _ H2 ⟨l2,z,rfl,hz⟩
 refine ⟨fun h => (nomatch h),?_⟩
 simp only [cA,nA]
 refine den_rq ⟨_,rfl,by simp⟩ ?_
 refine den_rq ⟨_,rfl,by simp⟩ ?_
 refine den_rq ⟨_,rfl⟩ ?_
 refine den_false (by show Value.bool (!decide (Used p k)) = _; rw [decide_eq_true hU]; rfl) ?_
 exact den_ret rfl ⟨l2,z,rfl,hz hU⟩
end
end Go.Proofs.YtkcjbfoejpfbbaaGreatDoor

/- Chapter 32: recom, part 1. -/
namespace Go.Proofs.YtkcjbfoejpfbbaaGreatDoor
open Go.RowKit Go.RX Go.GS
def bv (wts : Value) (lo hi ds : Int) : Value := .agg #[wts,ii lo,ii hi,ii ds]
def chv (wts : Value) (lo hi ds : Int) (n : Nat) (w : Value) : Value := .agg #[wts,ii lo,ii hi,ii ds,ii n,w]
theorem sl_oneC {H : PH} {sz : Nat} {α : Type} {ce : α -> List Value} {v : Value} {l : List α} (h : SE H sz ce v l) : oneC v = true := h.one.2 v (by rw [h.cells]; simp)
theorem bv_one {wts : Value} (h : oneC wts = true) (lo hi ds : Int) : (bv wts lo hi ds).cells.size = 4 /\ oneAll (bv wts lo hi ds).cells := by
 refine ⟨rfl,fun c hc => ?_⟩
 rw [bv,cells_agg] at hc
 simp only [List.mem_cons,List.not_mem_nil,or_false] at hc
 rcases hc with rfl | rfl | rfl | rfl
 ·exact h
 all_goals rfl
theorem chv_one {wts w : Value} (h : oneC wts = true) (h2 : oneC w = true) (lo hi ds : Int) (n : Nat) : (chv wts lo hi ds n w).cells.size = 6 /\ oneAll (chv wts lo hi ds n w).cells := by
 refine ⟨rfl,fun c hc => ?_⟩
 rw [chv,cells_agg] at hc
 simp only [List.mem_cons,List.not_mem_nil,or_false] at hc
 rcases hc with rfl | rfl | rfl | rfl | rfl | rfl
 ·exact h
 ·rfl
 ·rfl
 ·rfl
 ·rfl
 ·exact h2
theorem fa_c0 : FA Tryz.prog 111 0 0 := ⟨by kernel_rfl,of_decide_eq_true (by kernel_rfl),by kernel_rfl,by kernel_rfl,of_decide_eq_true (by kernel_rfl)⟩
theorem fa_c1 : FA Tryz.prog 111 1 4 := ⟨by kernel_rfl,of_decide_eq_true (by kernel_rfl),by kernel_rfl,by kernel_rfl,of_decide_eq_true (by kernel_rfl)⟩
theorem fa_b0 : FA Tryz.prog 40 0 0 := ⟨by kernel_rfl,of_decide_eq_true (by kernel_rfl),by kernel_rfl,by kernel_rfl,of_decide_eq_true (by kernel_rfl)⟩
theorem fa_b1 : FA Tryz.prog 40 1 1 := ⟨by kernel_rfl,of_decide_eq_true (by kernel_rfl),by kernel_rfl,by kernel_rfl,of_decide_eq_true (by kernel_rfl)⟩
theorem fa_b2 : FA Tryz.prog 40 2 2 := ⟨by kernel_rfl,of_decide_eq_true (by kernel_rfl),by kernel_rfl,by kernel_rfl,of_decide_eq_true (by kernel_rfl)⟩
theorem fa_b3 : FA Tryz.prog 40 3 3 := ⟨by kernel_rfl,of_decide_eq_true (by kernel_rfl),by kernel_rfl,by kernel_rfl,of_decide_eq_true (by kernel_rfl)⟩
theorem sc_sli : Sc Tryz.prog 32 := ⟨by kernel_rfl,by kernel_rfl,by kernel_rfl⟩
theorem ag_gr : Ag Tryz.prog 38 2 := ⟨by kernel_rfl,by kernel_rfl,by kernel_rfl⟩
theorem ag_ch : Ag Tryz.prog 111 6 := ⟨by kernel_rfl,by kernel_rfl,by kernel_rfl⟩
theorem ent_mchk1 : entB Tryz.prog 54 = true := by kernel_rfl
theorem ent_mall1 : entB Tryz.prog 180 = true := by kernel_rfl
theorem ent_mfit1 : entB Tryz.prog 113 = true := by kernel_rfl
section
variable {H : PH} {u v w wts : Value} {p wl : List Int} {n : Nat} {es : List (Nat × Nat)} {lo hi ds : Int} {set : Nat}
theorem ask_mchk1 (x : Int) : Asks Tryz.prog 54 [ii x] H (.bool (decide (x < 0) || decide (x > 1000000000))) := by
 refine con_of_tree mixed tr_mchk1 np_mchk1 rfl ?_
 refine den_rq ⟨_,rfl⟩ ?_
 refine den_br (b := decide (x < 0)) rfl (fun h => ?_) (fun h => ?_)
 ·replace h := of_decide_eq_true h
  exact den_ret rfl ⟨rfl,by rw [decide_eq_true h]; rfl⟩
 ·replace h := of_decide_eq_false h
  exact den_ret rfl ⟨rfl,by rw [decide_eq_false h]; rfl⟩
theorem bdE_bad {h : ¬ (wl.length = n /\ 0 <= lo /\ lo <= hi /\ 1 <= ds /\ ds <= 8 /\ WtOk wl)} : bdE n wl lo hi ds = 320 := if_neg h
theorem give_mchk (hw : SG H w es) (hg : GV n es) (hwt : SI H wts wl) : Give Tryz.prog 10 [gv n w,bv wts lo hi ds] H (ii (bdE n wl lo hi ds)) := by
 refine con_of_tree mixed tr_mchk np_mchk rfl ?_
 refine den_rq (gv_one hw) ?_
 refine den_rq (bv_one (sl_oneC hwt) _ _ _) ?_
 refine den_give (give_gchk hw hg) rfl fun H1 l1 => ?_
 simp only [cA,nA]
 refine den_rq ⟨_,rfl⟩ ?_
 refine den_false (bF (p := (0 : Int) ≠ 0) (by simp)) ?_
 refine den_lenE el_int op_mchk_4_2 rfl (hwt.mono l1) rfl ?_
 refine den_rq ⟨_,rfl⟩ ?_
 refine den_rq ⟨_,rfl⟩ ?_
 refine den_br (b := decide (wl.length ≠ n)) (by show Value.bool (((wl.length : Nat) : Int) != ((n : Nat) : Int)) = _; rw [bN]; congr 1; apply decide_eq_decide.2; omega) (fun h => ?_) (fun h => ?_)
 ·replace h := of_decide_eq_true h
  exact den_ret rfl ⟨l1,by rw [bdE_bad (h := fun e => h e.1)]; rfl⟩
 ·replace h := of_decide_eq_false h
  refine den_rq ⟨_,rfl⟩ ?_
  refine den_br (b := decide (lo < 0)) rfl (fun h2 => ?_) (fun h2 => ?_)
  ·replace h2 := of_decide_eq_true h2
   exact den_ret rfl ⟨l1,by rw [bdE_bad (h := fun e => by omega)]; rfl⟩
  ·replace h2 := of_decide_eq_false h2
   refine den_rq ⟨_,rfl⟩ ?_
   refine den_br (b := decide (lo > hi)) rfl (fun h3 => ?_) (fun h3 => ?_)
   ·replace h3 := of_decide_eq_true h3
    exact den_ret rfl ⟨l1,by rw [bdE_bad (h := fun e => by omega)]; rfl⟩
   ·replace h3 := of_decide_eq_false h3
    refine den_rq ⟨_,rfl⟩ ?_
    refine den_br (b := decide (ds < 1)) rfl (fun h4 => ?_) (fun h4 => ?_)
    ·replace h4 := of_decide_eq_true h4
     exact den_ret rfl ⟨l1,by rw [bdE_bad (h := fun e => by omega)]; rfl⟩
    ·replace h4 := of_decide_eq_false h4
     refine den_br (b := decide (ds > 8)) rfl (fun h5 => ?_) (fun h5 => ?_)
     ·replace h5 := of_decide_eq_true h5
      exact den_ret rfl ⟨l1,by rw [bdE_bad (h := fun e => by omega)]; rfl⟩
     ·replace h5 := of_decide_eq_false h5
      refine den_give (give_scfI (caps := []) (q := fun x => decide (x < 0) || decide (x > 1000000000)) (hwt.mono l1) ent_mchk1 (fun H' x _ _ => (ask_mchk1 x).give)) rfl fun H2 l2 => ?_
      simp only [cA,nA]
      refine den_rq ⟨_,rfl⟩ ?_
      refine den_br (b := wl.any fun x => decide (x < 0) || decide (x > 1000000000)) rfl (fun h6 => ?_) (fun h6 => ?_)
      ·skip
       rw [List.any_eq_true] at h6
       obtain ⟨x,hx1,hx2⟩ := h6
       exact den_ret rfl ⟨l1.trans l2,by rw [bdE_bad (h := fun e => by have := e.2.2.2.2.2 x hx1; simp at hx2; omega)]; rfl⟩
      ·skip
       have hW : WtOk wl := by
        intro x hx
        rw [List.any_eq_false] at h6
        have := h6 x hx
        simp at this; omega
       exact den_ret rfl ⟨l1.trans l2,by rw [show bdE n wl lo hi ds = 0 from if_pos ⟨by omega,by omega,by omega,by omega,by omega,hW⟩]; rfl⟩
theorem give_mall1 {b : Nat} {T : TypeId} {x : Nat} {y : Int} (hb : H b = some (.cells #[wts,ii lo,ii hi,ii ds,ii n,w] T (0,0))) (hwt : SI H wts wl) (hx : wl[x]? = some y) : Give Tryz.prog 180 [ii (x : Nat),.pointer (some ⟨b,0,none⟩)] H (ii y) := by
 refine con_of_tree mixed tr_mall1 np_mall1 rfl ?_
 refine den_fa fa_c0 op_mall1_1_0 rfl rfl ?_
 simp only [cA,nA]
 refine den_fa fa_b0 op_mall1_1_1 rfl rfl ?_
 simp only [cA,nA]
 refine den_ldS sc_sli op_mall1_1_2 rfl hb rfl rfl ?_
 simp only [cA,nA]
 refine den_atE el_int op_mall1_1_4 op_mall1_1_5 rfl rfl (fun _ => rfl) hwt hx rfl (fun _ => rfl) fun _ => ?_
 simp only [cA,nA]
 exact den_ret rfl ⟨PH.le.refl _,rfl⟩
theorem give_mtot {f : FuncId} {caps : List Value} (hT : Tb H) (hs : set < M64) (hwl : WtOk wl) (hsn : ∀ x,bit set x = true -> x < wl.length) (hent : entB Tryz.prog f = true) (hf : ∀ H' x y,PH.le H H' -> wl[x]? = some y -> Give Tryz.prog f (ii (x : Nat) :: caps) H' (ii y)) : Give Tryz.prog 179 [uv set,.func (.func f) #[] caps.toArray] H (ii (sumS wl set)) := by
 refine con_of_tree mixed tr_mtot np_mtot rfl ?_
 refine den_loopV (α := Nat × Nat) (fun ⟨k,s⟩ => [ii (((els set).take k).map fun x => wl.getD x 0).sum,uv s]) (fun ⟨k,s⟩ => fun H' => PH.le H H' /\ s < M64 /\ k <= (els set).length /\ els s = (els set).drop k) (fun ⟨k,s⟩ => (els set).length - k) ((0,set)) rfl (⟨PH.le.refl _,hs,Nat.zero_le _,rfl⟩) fun ⟨k,s⟩ H' hQ => ?_
 simp only [cA,nA]
 obtain ⟨l1,hs',hk,he⟩ := hQ
 refine den_rq ⟨_,rfl⟩ ?_
 refine den_br (b := decide (s ≠ 0)) (bN0 s) (fun h => ?_) (fun h => ?_)
 ·replace h := of_decide_eq_true h
  obtain ⟨x,r,hel⟩ : ∃ x r,els s = x :: r := by
   cases hel : els s with
   | nil => exact absurd (els_nil hs' hel) h
   | cons x r => exact ⟨x,r,rfl⟩
  have htz : tz s = x := by simp [tz,hel]
  have hk' : k < (els set).length := by
   apply Nat.lt_of_not_le; intro hh
   rw [List.drop_eq_nil_of_le hh,hel] at he; cases he
  obtain ⟨y,hy,hdy⟩ := at_drop hk'
  rw [<- he,hel] at hdy
  obtain ⟨rfl,hr'⟩ := List.cons.inj hdy
  have hxl := hsn x ((mem_els hs).1 (List.mem_of_getElem? hy))
  have hwx : wl[x]? = some wl[x] := List.getElem?_eq_getElem hxl
  refine den_ask (con_tz (hT.mono l1) hs') rfl ?_
  simp only [cA,nA]
  rw [htz]
  refine den_eff (opn_callv (f := f) (caps := caps.toArray) (vs := [ii (x : Nat)]) op_mtot_4_4 rfl rfl hent (hf _ x _ l1 hwx)) rfl ?_
  rintro _ H2 ⟨l2,rfl⟩
  refine ⟨fun h => (nomatch h),?_⟩
  simp only [cA,nA]
  have hbd := sum_bound (((els set).take k).map fun x => wl.getD x 0) (by
   intro z hz
   rw [List.mem_map] at hz
   obtain ⟨a,ha,rfl⟩ := hz
   have ha' := hsn a ((mem_els hs).1 (List.mem_of_mem_take ha))
   rw [List.getD_eq_getElem?_getD,List.getElem?_eq_getElem ha']
   exact hwl _ (List.getElem_mem ha'))
  have h64 := card_le64 set
  have hlk : ((((els set).take k).map fun x => wl.getD x 0)).length <= 64 := by
   rw [List.length_map,List.length_take]; unfold card at h64; omega
  have hy2 := hwl _ (List.getElem_mem hxl)
  refine den_rq ⟨_,rfl⟩ ?_
  refine den_rq ⟨_,rfl⟩ ?_
  exact ⟨(k + 1,s &&& (s - 1)),by show (els set).length - (k + 1) < (els set).length - k; omega,(map2 (by rw [D_addi rfl rfl (by omega) (by omega)]; show ii _ = ii (((els set).take (k + 1)).map fun x => wl.getD x 0).sum; rw [take_snoc hy,List.map_append,List.sum_append,List.map_cons,List.map_nil,List.sum_cons,List.sum_nil,Int.add_zero,List.getD_eq_getElem?_getD,hwx]; rfl) (D_and rfl (D_subu (B := 1) rfl rfl hs' (by omega)) hs' (Nat.lt_of_le_of_lt (Nat.sub_le _ _) hs'))),⟨l1.trans l2,and_lt hs',hk',by rw [els_pred hs' hel,hr']⟩⟩
 ·replace h := of_decide_eq_false h
  have h0 : s = 0 := by omega
  rw [h0,els_zero] at he
  have hk2 : (els set).length <= k := by
   apply Nat.le_of_not_lt; intro hh
   rw [List.drop_eq_getElem_cons hh] at he; cases he
  exact den_ret rfl ⟨l1,by rw [List.take_of_length_le hk2]; rfl⟩
structure Chn (H : PH) (n : Nat) (w wts : Value) (es : List (Nat × Nat)) (wl : List Int) : Prop where
 tb : Tb H
 gr : SG H w es
 ok : GV n es
 wt : SI H wts wl
 len : wl.length = n
 wok : WtOk wl
theorem Chn.mono {H' : PH} (h : Chn H n w wts es wl) (hl : PH.le H H') : Chn H' n w wts es wl := ⟨h.tb.mono hl,h.gr.mono hl,h.ok,h.wt.mono hl,h.len,h.wok⟩
theorem give_mall (hc : Chn H n w wts es wl) (hs : set < 2 ^ n) : Give Tryz.prog 114 [chv wts lo hi ds n w,uv set] H (.bool (alB es wl lo hi set)) := by
 refine con_of_tree mixed tr_mall np_mall rfl ?_
 have hs' := M64_pow hc.ok.n64 hs
 refine den_rq (chv_one (sl_oneC hc.wt) (sl_oneC hc.gr) _ _ _ _) ?_
 refine den_pub (cs := #[wts,ii lo,ii hi,ii ds,ii n,w]) rfl fun b hb => ?_
 simp only [cA,nA]
 have l1 := PH.le_put hb (.cells #[wts,ii lo,ii hi,ii ds,ii n,w] 111 (0,0))
 have b1 := PH.put_self H b (.cells #[wts,ii lo,ii hi,ii ds,ii n,w] 111 (0,0))
 generalize H.put b (.cells #[wts,ii lo,ii hi,ii ds,ii n,w] 111 (0,0)) = H1 at l1 b1
 have hc1 := hc.mono l1
 refine den_run (run_makeFunc (vs := [.pointer (some ⟨b,0,none⟩)]) op_mall_1_1 rfl) rfl ?_
 simp only [cA,nA]
 refine den_give (give_mtot (caps := [.pointer (some ⟨b,0,none⟩)]) (wl := wl) hc1.tb hs' hc.wok (fun x hx => by rw [hc.len]; exact has_n hs hx) ent_mall1 (fun H' x y hl hx => give_mall1 (hl _ _ b1) (hc1.wt.mono hl) hx)) rfl fun H2 l2 => ?_
 simp only [cA,nA]
 have hc2 := hc1.mono l2
 have b2 := l2 _ _ b1
 refine den_fa fa_c1 op_mall_2_0 rfl rfl ?_
 simp only [cA,nA]
 refine den_ldA (vs := [ii n,w]) ag_gr op_mall_2_1 rfl b2 rfl (by simp) rfl ?_
 simp only [cA,nA]
 refine den_give (give_gcon hc2.tb hc2.gr hc.ok hs') rfl fun H3 l3 => ?_
 simp only [cA,nA]
 have b3 := l3 _ _ b2
 rw [show conV n es set = .tuple #[.bool (cnB es set),ii 0] from if_pos hs]
 refine den_rq ⟨_,rfl,by simp⟩ ?_
 refine den_rq ⟨_,rfl,by simp⟩ ?_
 refine den_rq ⟨_,rfl⟩ ?_
 refine den_br (b := cnB es set) rfl (fun h1 => ?_) (fun h1 => ?_)
 ·skip
  refine den_fa fa_c0 op_mall_3_3 rfl rfl ?_
  simp only [cA,nA]
  refine den_fa fa_b1 op_mall_3_4 rfl rfl ?_
  simp only [cA,nA]
  refine den_ldS sc_int op_mall_3_5 rfl b3 rfl rfl ?_
  simp only [cA,nA]
  refine den_rq ⟨_,rfl⟩ ?_
  refine den_rq ⟨_,rfl⟩ ?_
  refine den_br (b := decide (sumS wl set ≥ lo)) rfl (fun h2 => ?_) (fun h2 => ?_)
  ·replace h2 := of_decide_eq_true h2
   refine den_fa fa_c0 op_mall_3_10 rfl rfl ?_
   simp only [cA,nA]
   refine den_fa fa_b2 op_mall_3_11 rfl rfl ?_
   simp only [cA,nA]
   refine den_ldS sc_int op_mall_3_12 rfl b3 rfl rfl ?_
   simp only [cA,nA]
   refine den_rq ⟨_,rfl⟩ ?_
   exact den_ret rfl ⟨(l1.trans l2).trans l3,by unfold alB; rw [h1,decide_eq_true h2]; rfl⟩
  ·replace h2 := of_decide_eq_false h2
   exact den_ret rfl ⟨(l1.trans l2).trans l3,by unfold alB; rw [h1,decide_eq_false h2]; rfl⟩
 ·skip
  exact den_ret rfl ⟨(l1.trans l2).trans l3,by unfold alB; rw [h1]; rfl⟩
theorem give_mfit1 {b : Nat} {T : TypeId} (hc : Chn H n w wts es wl) (hb : H b = some (.cells #[wts,ii lo,ii hi,ii ds,ii n,w] T (0,0))) (hs : set < 2 ^ n) : Give Tryz.prog 113 [uv set,.pointer (some ⟨b,0,none⟩)] H (.bool (!alB es wl lo hi set)) := by
 refine con_of_tree mixed tr_mfit1 np_mfit1 rfl ?_
 refine den_ldA (vs := [wts,ii lo,ii hi,ii ds,ii n,w]) ag_ch op_mfit1_1_0 rfl hb rfl (by simp) rfl ?_
 simp only [cA,nA]
 refine den_give (give_mall hc hs) rfl fun H1 l1 => ?_
 simp only [cA,nA]
 refine den_rq ⟨_,rfl⟩ ?_
 exact den_ret rfl ⟨l1,rfl⟩
theorem give_mfit (hc : Chn H n w wts es wl) (hu : SI H u p) : Give Tryz.prog 55 [chv wts lo hi ds n w,u] H (.bool (fitB n es wl lo hi ds p)) := by
 refine con_of_tree mixed tr_mfit np_mfit rfl ?_
 refine den_rq (chv_one (sl_oneC hc.wt) (sl_oneC hc.gr) _ _ _ _) ?_
 refine den_pub (cs := #[wts,ii lo,ii hi,ii ds,ii n,w]) rfl fun b hb => ?_
 simp only [cA,nA]
 have l1 := PH.le_put hb (.cells #[wts,ii lo,ii hi,ii ds,ii n,w] 111 (0,0))
 have b1 := PH.put_self H b (.cells #[wts,ii lo,ii hi,ii ds,ii n,w] 111 (0,0))
 generalize H.put b (.cells #[wts,ii lo,ii hi,ii ds,ii n,w] 111 (0,0)) = H1 at l1 b1
 have hc1 := hc.mono l1
 refine den_fa fa_c1 op_mfit_1_0 rfl rfl ?_
 simp only [cA,nA]
 refine den_ldA (vs := [ii n,w]) ag_gr op_mfit_1_1 rfl b1 rfl (by simp) rfl ?_
 simp only [cA,nA]
 refine den_fa fa_c0 op_mfit_1_3 rfl rfl ?_
 simp only [cA,nA]
 refine den_fa fa_b3 op_mfit_1_4 rfl rfl ?_
 simp only [cA,nA]
 refine den_ldS sc_int op_mfit_1_5 rfl b1 rfl rfl ?_
 simp only [cA,nA]
 refine den_give (give_pchk hc1.gr hc.ok (hu.mono l1) ds) rfl fun H2 l2 => ?_
 simp only [cA,nA]
 refine den_rq ⟨_,rfl⟩ ?_
 refine den_br (b := decide (plE n p ds ≠ 0)) (bN _ _) (fun h => ?_) (fun h => ?_)
 ·replace h := of_decide_eq_true h
  exact den_ret rfl ⟨l1.trans l2,by unfold fitB; rw [decide_eq_false h]; rfl⟩
 ·replace h := of_decide_eq_false h
  have h0 : plE n p ds = 0 := Classical.byContradiction h
  have hp0 := plE_ok h0
  have hc2 := hc1.mono l2
  have b2 := l2 _ _ b1
  refine den_fa fa_c0 op_mfit_3_1 rfl rfl ?_
  simp only [cA,nA]
  refine den_fa fa_b3 op_mfit_3_2 rfl rfl ?_
  simp only [cA,nA]
  refine den_ldS sc_int op_mfit_3_3 rfl b2 rfl rfl ?_
  simp only [cA,nA]
  obtain ⟨k,rfl⟩ : ∃ k : Nat,ds = (k : Int) := ⟨ds.toNat,by omega⟩
  rw [Int.toNat_natCast] at hp0
  refine den_call (con_pmsk (hu.mono (l1.trans l2)) k (by omega) (by omega) hp0.2.2.2.1 hp0.2.2.2.2) rfl ?_
  rintro _ H3 ⟨l3,z,rfl,hz⟩
  refine ⟨fun h => (nomatch h),?_⟩
  simp only [cA,nA]
  have hc3 := hc2.mono l3
  have b3 := l3 _ _ b2
  refine den_rq ⟨_,rfl,by simp⟩ ?_
  refine den_rq ⟨_,rfl,by simp⟩ ?_
  refine den_run (run_makeFunc (vs := [.pointer (some ⟨b,0,none⟩)]) op_mfit_4_1 rfl) rfl ?_
  simp only [cA,nA]
  refine den_give (give_scfU (caps := [.pointer (some ⟨b,0,none⟩)]) (q := fun s => !alB es wl lo hi s) hz ent_mfit1 (fun H' s hl hsm => give_mfit1 (hc3.mono hl) (hl _ _ b3) (by have := mask_mem hsm hp0.2.2.2.1.2.2; rw [hp0.2.2.1] at this; exact this))) rfl fun H4 l4 => ?_
  simp only [cA,nA]
  refine den_rq ⟨_,rfl⟩ ?_
  exact den_ret rfl ⟨((l1.trans l2).trans l3).trans l4,by unfold fitB; rw [decide_eq_true h0,Int.toNat_natCast,Bool.true_and]; show Value.bool (!((masks p k).any fun s => !alB es wl lo hi s)) = _; rw [List.all_eq_not_any_not]⟩
theorem give_mAll (hT : Tb H) (hw : SG H w es) (hg : GV n es) (hwt : SI H wts wl) (hu : SI H u p) : Give Tryz.prog 12 [gv n w,bv wts lo hi ds,u] H (.tuple #[.bool (decide (bdE n wl lo hi ds = 0) && fitB n es wl lo hi ds p),ii (bdE n wl lo hi ds)]) := by
 refine con_of_tree mixed tr_mAll np_mAll rfl ?_
 refine den_rq (gv_one hw) ?_
 refine den_rq (bv_one (sl_oneC hwt) _ _ _) ?_
 refine den_give (give_mchk hw hg hwt) rfl fun H1 l1 => ?_
 simp only [cA,nA]
 refine den_rq ⟨_,rfl⟩ ?_
 refine den_br (b := decide (bdE n wl lo hi ds ≠ 0)) (bN _ _) (fun h => ?_) (fun h => ?_)
 ·replace h := of_decide_eq_true h
  exact den_ret rfl ⟨l1,by rw [decide_eq_false h]; rfl⟩
 ·replace h := of_decide_eq_false h
  have h0 : bdE n wl lo hi ds = 0 := Classical.byContradiction h
  have hb := bdE_ok h0
  refine den_give (give_mfit (lo := lo) (hi := hi) (ds := ds) (p := p) (u := u) ⟨hT.mono l1,hw.mono l1,hg,hwt.mono l1,hb.1,hb.2.2.2.2.2⟩ (hu.mono l1)) rfl fun H2 l2 => ?_
  simp only [cA,nA]
  exact den_ret rfl ⟨l1.trans l2,by rw [decide_eq_true h0,h0]; rfl⟩
end
end Go.Proofs.YtkcjbfoejpfbbaaGreatDoor


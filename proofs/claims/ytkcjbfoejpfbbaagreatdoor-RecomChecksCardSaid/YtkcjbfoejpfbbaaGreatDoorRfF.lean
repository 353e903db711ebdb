/- The reference of chapter 01: cut, made, order. -/
import Derived.Test.YtkcjbfoejpfbbaaGreatDoorRfB
import Derived.Test.YtkcjbfoejpfbbaaGreatDoorWdK
namespace Go.Proofs.YtkcjbfoejpfbbaaGreatDoor
open Go.RowKit Go.RX Go.WD

theorem wadd {a b : Nat} (h : a + b < 9223372036854775808) : IntKind.i64.wrap ((a : Int) + (b : Int)) = ((a + b : Nat) : Int) := by rw [IntKind.wrap_i64]; omega
theorem wadd1 {a : Nat} (h : a + 1 < 9223372036854775808) : IntKind.i64.wrap ((a : Int) + 1) = ((a + 1 : Nat) : Int) := by rw [IntKind.wrap_i64]; omega
theorem wsub1 {a : Nat} (h : a < 9223372036854775808) (hb : 1 <= a) : IntKind.i64.wrap ((a : Int) - 1) = ((a - 1 : Nat) : Int) := by rw [IntKind.wrap_i64]; omega
theorem wfit {z : Int} (h : -9223372036854775808 <= z) (h2 : z < 9223372036854775808) : IntKind.i64.wrap z = z := by rw [IntKind.wrap_i64]; omega
theorem Ds.len {H : PH} {v : Value} {l : List Nat} (h : Ds H v l) : l.length < 9223372036854775808 := by
 have := h.1.len_le; simp only [maxLen] at this; omega
theorem Ds.take {H : PH} {v : Value} {l : List Nat} {o : Oper} {x hi : Operand} {i : Nat} {k : IntKind} {vs : List Value} (h : Ds H v l) (ho : o.op = .slice 32 x none (some hi) none) (hx : argEv [x,hi] vs x = v) (hl : argEv [x,hi] vs hi = .int k (i : Nat)) (h1 : i <= l.length) : ∃ u,Yld Tryz.prog o vs u /\ Ds H u (l.take i) := by
 obtain ⟨u,h2,h3⟩ := sl_take (P := Tryz.prog) ho hx hl und_ints hasT_int h.1 h1
 refine ⟨u,h2,?_,h.2.take i⟩
 rw [List.length_take,Nat.min_eq_left h1,List.map_take]
 rwa [Nat.mul_one] at h3
section
variable {H : PH} {v : Value} {l : List Nat}
theorem take_zeros {n : Nat} (hn : n <= l.length) (hz : ∀ k,n <= k -> l.getD k 0 = 0) : vl (l.take n) = vl l := by
 obtain ⟨d,hd⟩ := Nat.exists_eq_add_of_le hn
 induction d generalizing n with
 | zero => rw [List.take_of_length_le (by omega)]
 | succ d ih =>
  have := ih (n := n + 1) (by omega) (fun k hk => hz k (by omega)) (by omega)
  rw [vl_take_succ (by omega),hz n (Nat.le_refl n),Nat.mul_zero,Nat.add_zero] at this
  exact this
theorem con_rcut (h : Ds H v l) : Con Tryz.prog 123 [v] H fun u H' => H' = H /\ Nu H u (vl l) := by
 have hlen := h.len
 refine con_of_tree mixed tr_rcut np_rcut rfl (den_len op_rcut_1_1 rfl h rfl ⟨fun vals H' => ∃ n : Nat,vals = [iv n] /\ H' = H /\ n <= l.length /\ ∀ k,n <= k -> l.getD k 0 = 0,fun vals _ => (intOf (vals.getD 0 undef)).toNat,⟨l.length,rfl,rfl,Nat.le_refl _,fun k hk => at_out hk⟩,?_⟩)
 rintro vals H' - ⟨n,rfl,rfl,hn,hz⟩
 simp only [cA,nA]
 refine ⟨fun vs H1 => H1 = H' /\ vs = [.bool (decide (0 < n /\ l.getD (n - 1) 0 = 0))],den_rq ⟨_,rfl⟩ (den_br (b := decide ((n : Int) > 0)) rfl (fun hb => ?_) (fun hb => ?_)),?_⟩
 ·have hb := of_decide_eq_true hb
  have e1 : IntKind.i64.wrap ((n : Int) - 1) = ((n - 1 : Nat) : Int) := wsub1 (by omega) (by omega)
  refine den_at (k := .i64) (j := n - 1) op_rcut_2_6 op_rcut_2_7 rfl rfl (fun _ => rfl) h (by omega) (by simp only [rxs,iv,e1]) (fun _ => rfl) fun p => den_rq ⟨_,rfl⟩ ⟨rfl,?_⟩
  simp only [rxs,iv]
  congr 2
  rw [Bool.eq_iff_iff]
  simp only [beq_iff_eq,decide_eq_true_eq]
  omega
 ·have hb := of_decide_eq_false hb
  refine ⟨rfl,?_⟩
  simp only [rxs]
  congr 2
  rw [eq_comm,decide_eq_false_iff_not]
  omega
 ·rintro vs H1 - ⟨rfl,rfl⟩
  simp only [cA,nA]
  refine den_rq ⟨_,rfl⟩ (den_br rfl (fun hb => ?_) (fun hb => ?_))
  ·have hb := of_decide_eq_true hb
   have e1 : IntKind.i64.wrap ((n : Int) - 1) = ((n - 1 : Nat) : Int) := wsub1 (by omega) (by omega)
   refine den_rq ⟨_,rfl⟩ ⟨⟨n - 1,?_,rfl,by omega,fun k hk => ?_⟩,?_⟩
   ·simp only [rxs,iv,e1]
   ·rcases Nat.eq_or_lt_of_le hk with e | e
    ·rw [<- e]; exact hb.2
    ·exact hz k (by omega)
   ·simp only [rxs,iv,e1]
    omega
  ·have hb := of_decide_eq_false hb
   obtain ⟨u,hu,hd⟩ := Ds.take (vs := [v,iv n]) (k := .i64) (i := n) h op_rcut_4_2 rfl rfl hn
   refine den_prim (hu.rds _) rfl (den_ret rfl ⟨rfl,l.take n,hd,?_,take_zeros hn hz⟩)
   rcases Nat.eq_zero_or_pos n with e | e
   ·subst e; exact Tm.nil
   ·refine Tm.of (n := n - 1) (by rw [List.length_take]; omega) ?_
    rw [List.getD_eq_getElem?_getD,List.getElem?_take,if_pos (by omega),<- List.getD_eq_getElem?_getD]
    exact fun h0 => hb ⟨e,h0⟩
def Lg (H : PH) (v : Value) (z : Int) : Prop := ∃ w,v = .agg #[.bool (decide (z < 0)),w] /\ Nu H w z.natAbs
theorem Lg.mono {H H' : PH} {v : Value} {z : Int} (h : Lg H v z) (hl : PH.le H H') : Lg H' v z := by
 obtain ⟨w,h1,h2⟩ := h; exact ⟨w,h1,h2.mono hl⟩
theorem Nu.one {H : PH} {v : Value} {n : Nat} (h : Nu H v n) : v.cells = #[v] /\ v.cells.size = 1 /\ oneAll v.cells := by
 obtain ⟨l,h1,_⟩ := h; exact ⟨h1.cells,h1.one⟩
def sn (b : Bool) (n : Nat) : Int := if b then -(n : Int) else n
theorem con_rmade (b : Bool) (h : Ds H v l) : Con Tryz.prog 121 [.bool b,v] H fun u H' => H' = H /\ Lg H u (sn b (vl l)) := by
 refine con_of_tree mixed tr_rmade np_rmade rfl (den_call (con_rcut h) rfl ?_)
 rintro u H' ⟨rfl,hu⟩
 refine ⟨fun h => (nomatch h),den_rq ⟨_,rfl⟩ (den_br rfl (fun hb => ?_) (fun hb => ?_))⟩
 ·subst hb
  obtain ⟨l2,h2,h3,h4⟩ := id hu
  refine den_len op_rmade_2_3 rfl h2 rfl (den_rq ⟨_,rfl⟩ (den_rq h2.one (den_ret rfl ⟨rfl,u,?_,?_⟩)))
  ·simp only [rxs,retV,h2.cells,iv,cells_bool]
   have := h3.pos
   rw [h4] at this
   show Value.agg #[.bool (decide ((l2.length : Int) > 0)),u] = _
   congr 4
   rw [decide_eq_decide]
   show _ ↔ -(vl l : Int) < 0
   omega
  ·show Nu _ u (-(vl l : Int)).natAbs
   rw [Int.natAbs_neg,Int.natAbs_natCast]; exact hu
 ·subst hb
  obtain ⟨h2,h3⟩ := hu.one
  refine den_rq h3 (den_ret rfl ⟨rfl,u,?_,?_⟩)
  ·simp only [rxs,retV,h2,cells_bool]
   show Value.agg #[.bool false,u] = _
   congr 4
  ·exact hu
theorem len_ne {a b : List Nat} (ha : Dg a) (hb : Dg b) (ta : Tm a) (tb : Tm b) (h : a.length ≠ b.length) : ((a.length : Int) - b.length < 0 ↔ vl a < vl b) /\ ((a.length : Int) - b.length = 0 ↔ vl a = vl b) := by
 rcases Nat.lt_or_gt_of_ne h with h1 | h1
 ·have := Tm.lt_of_len ha tb h1; omega
 ·have := Tm.lt_of_len hb ta h1; omega
theorem con_rorder {a b : List Nat} {va vb : Value} (ha : Ds H va a) (hb : Ds H vb b) (ta : Tm a) (tb : Tm b) : Con Tryz.prog 124 [va,vb] H fun u H' => H' = H /\ ∃ c : Int,u = .int .i64 c /\ (c < 0 ↔ vl a < vl b) /\ (c = 0 ↔ vl a = vl b) := by
 have hla := ha.len
 have hlb := hb.len
 refine con_of_tree mixed tr_rorder np_rorder rfl (den_len op_rorder_1_1 rfl ha rfl (den_len op_rorder_1_3 rfl hb rfl (den_rq ⟨_,rfl⟩ (den_rq ⟨_,rfl⟩ (den_br (b := decide (a.length ≠ b.length)) ?_ (fun h => ?_) (fun h => ?_))))))
 ·simp only [rxs,iv]
  congr 1
  rw [Bool.eq_iff_iff]
  simp only [bne_iff_ne,decide_eq_true_eq]
  omega
 ·have h := of_decide_eq_true h
  have e1 : IntKind.i64.wrap ((a.length : Int) - b.length) = (a.length : Int) - b.length := wfit (by omega) (by omega)
  refine den_len op_rorder_2_1 rfl ha rfl (den_len op_rorder_2_3 rfl hb rfl (den_rq ⟨_,rfl⟩ (den_rq ⟨_,rfl⟩ (den_ret rfl ⟨rfl,_,?_,len_ne ha.2 hb.2 ta tb h⟩))))
  simp only [rxs,iv,retV,e1]
 ·have h : a.length = b.length := by have := of_decide_eq_false h; omega
  have e0 : IntKind.i64.wrap ((a.length : Int) - 1) = (a.length : Int) - 1 := wfit (by omega) (by omega)
  refine den_len op_rorder_3_1 rfl ha rfl (den_rq ⟨_,rfl⟩ ⟨fun vals H' => ∃ n : Nat,vals = [.int .i64 0,.int .i64 ((n : Int) - 1)] /\ H' = H /\ n <= a.length /\ a.drop n = b.drop n,fun vals _ => (intOf (vals.getD 1 undef) + 1).toNat,⟨a.length,?_,rfl,Nat.le_refl _,?_⟩,?_⟩)
  ·simp only [rxs,iv,e0]
  ·rw [List.drop_of_length_le (Nat.le_refl _),List.drop_of_length_le (by omega)]
  ·rintro vals H' - ⟨n,rfl,rfl,hn,hd⟩
   simp only [cA,nA]
   refine den_rq ⟨_,rfl⟩ (den_br (b := decide ((n : Int) - 1 ≥ 0)) rfl (fun h1 => ?_) (fun h1 => ?_))
   ·have h1 := of_decide_eq_true h1
    obtain ⟨m,rfl⟩ : ∃ m,n = m + 1 := ⟨n - 1,by omega⟩
    have em : ((m + 1 : Nat) : Int) - 1 = (m : Nat) := by omega
    rw [em]
    refine den_at (k := .i64) (j := m) op_rorder_6_2 op_rorder_6_3 rfl rfl (fun _ => rfl) ha (by omega) rfl (fun _ => rfl) fun p => den_at (k := .i64) (j := m) op_rorder_6_6 op_rorder_6_7 rfl rfl (fun _ => rfl) hb (by omega) rfl (fun _ => rfl) fun q => ?_
    simp only [cA,nA]
    have da := ha.2.at m
    have db := hb.2.at m
    refine den_rq ⟨_,rfl⟩ (den_rq ⟨_,rfl⟩ (den_br (b := decide (a.getD m 0 ≠ b.getD m 0)) ?_ (fun h2 => ?_) (fun h2 => ?_)))
    ·simp only [rxs,iv]
     congr 1
     rw [Bool.eq_iff_iff]
     simp only [bne_iff_ne,decide_eq_true_eq]
     omega
    ·have h2 := of_decide_eq_true h2
     refine den_at (k := .i64) (j := m) op_rorder_7_2 op_rorder_7_3 rfl rfl (fun _ => rfl) ha (by omega) rfl (fun _ => rfl) fun p2 => den_at (k := .i64) (j := m) op_rorder_7_6 op_rorder_7_7 rfl rfl (fun _ => rfl) hb (by omega) rfl (fun _ => rfl) fun q2 => ?_
     simp only [cA,nA]
     have e1 : IntKind.i64.wrap ((a.getD m 0 : Nat) - (b.getD m 0 : Nat) : Int) = (a.getD m 0 : Nat) - (b.getD m 0 : Nat) := wfit (by omega) (by omega)
     refine den_rq ⟨_,rfl⟩ (den_rq ⟨_,rfl⟩ (den_ret rfl ⟨rfl,(a.getD m 0 : Nat) - (b.getD m 0 : Nat),?_,?_⟩))
     ·simp only [rxs,iv,retV,e1]
     ·rcases Nat.lt_or_gt_of_ne h2 with h3 | h3
      ·have := vl_order ha.2 hb.2 (by omega) (by omega) hd h3; omega
      ·have := vl_order hb.2 ha.2 (by omega) (by omega) hd.symm h3; omega
    ·have h2 : a.getD m 0 = b.getD m 0 := by have := of_decide_eq_false h2; omega
     have e2 : IntKind.i64.wrap ((m : Int) - 1) = (m : Int) - 1 := wfit (by omega) (by omega)
     refine ⟨⟨m,?_,rfl,by omega,?_⟩,?_⟩
     ·simp only [rxs,iv,e2]
     ·rw [drop_at (by omega),drop_at (l := b) (by omega),h2,hd]
     ·simp only [rxs,iv,e2]
      omega
   ·have h1 := of_decide_eq_false h1
    have hn0 : n = 0 := by omega
    subst hn0
    refine den_ret rfl ⟨rfl,0,rfl,?_⟩
    rw [List.drop_zero,List.drop_zero] at hd
    rw [hd]; omega
end
end Go.Proofs.YtkcjbfoejpfbbaaGreatDoor
namespace Go.Proofs.YtkcjbfoejpfbbaaGreatDoor
open Go.RowKit Go.RX Go.WD

theorem vl_take_next (l : List Nat) (k : Nat) : vl (l.take (k + 1)) = vl (l.take k) + BP k * l.getD k 0 := by
 rcases Nat.lt_or_ge k l.length with h | h
 ·exact vl_take_succ h
 ·rw [List.take_of_length_le (by omega),List.take_of_length_le h,at_out h,Nat.mul_zero,Nat.add_zero]
theorem vl_snoc (l : List Nat) (d : Nat) : vl (l ++ [d]) = vl l + BP l.length * d := by rw [vl_append,vl_one]
theorem tmodn (a b : Nat) : (a : Int).tmod (b : Int) = ((a % b : Nat) : Int) := (Int.ofNat_tmod a b).symm
theorem tdivn (a b : Nat) : (a : Int).tdiv (b : Int) = ((a / b : Nat) : Int) := (Int.ofNat_tdiv a b).symm
theorem tmodB (a : Nat) : (a : Int).tmod 4294967296 = ((a % 4294967296 : Nat) : Int) := tmodn a 4294967296
theorem tdivB (a : Nat) : (a : Int).tdiv 4294967296 = ((a / 4294967296 : Nat) : Int) := tdivn a 4294967296
theorem wn {a : Nat} (h : a < 9223372036854775808) : IntKind.i64.wrap (a : Int) = (a : Int) := by rw [IntKind.wrap_i64]; omega
theorem wu {a : Nat} (h : a < 18446744073709551616) : IntKind.u64.wrap (a : Int) = (a : Int) := by rw [IntKind.wrap_u64]; omega
section
variable {H : PH}
set_option maxRecDepth 100000 in
theorem con_rhalves (a : Nat) : Con Tryz.prog 120 [wd a] H fun u H' => PH.le H H' /\ ∃ l,Ds H' u l /\ l.length = 16 /\ vl l = a % M := by
 refine con_of_tree mixed tr_rhalves np_rhalves rfl (den_rq ⟨words_size a,words_one a⟩ ⟨fun vals H' => ∃ (n : Nat) (v : Value) (l : List Nat),vals = [v,iv n] /\ n <= 8 /\ PH.le H H' /\ Od H H' v l /\ l.length = 2 * n /\ vl l = a % PW n,fun vals _ => (8 - intOf (vals.getD 1 undef)).toNat,⟨0,_,[],rfl,by omega,PH.le.refl H,Od.nil H H,rfl,?_⟩,?_⟩)
 ·rw [PW_zero,Nat.mod_one]; rfl
 rintro vals H' - ⟨n,v,l,rfl,hn,hle,hO,hl,hv⟩
 simp only [cA,nA]
 refine den_rq ⟨_,rfl⟩ (den_br (b := decide ((n : Int) < 8)) rfl (fun h => ?_) (fun h => ?_))
 ·have h : n < 8 := by have := of_decide_eq_true h; omega
  have hd := dig_lt a n
  have e1 : IntKind.i64.wrap (((dig a n : Nat) : Int).tmod 4294967296) = ((dig a n % 4294967296 : Nat) : Int) := by rw [tmodB,wn (by omega)]
  have e2 : IntKind.i64.wrap (IntKind.u64.wrap (((dig a n : Nat) : Int).tdiv 4294967296)) = ((dig a n / 4294967296 : Nat) : Int) := by rw [tdivB,wu (by omega),wn (by omega)]
  have e3 : IntKind.i64.wrap ((n : Int) + 1) = ((n + 1 : Nat) : Int) := wadd1 (by omega)
  refine den_rq ⟨_,_,rfl⟩ (den_rq ⟨by show (0 : Int) <= (n : Int); omega,by show (n : Int) < 8; omega⟩ (den_rq ⟨(dig a n : Nat),by simp only [rxs,iv,words_get a h]⟩ (den_build2 (d := dig a n % 4294967296) (e := dig a n / 4294967296) op_rhalves_5_11 rfl rfl (by omega) (by omega) ?_ fun u H1 hl1 h1 => ?_)))
  ·simp only [rxs,iv,words_get a h,e1,e2]
  ·refine den_append op_rhalves_5_12 rfl rfl (hle.trans hl1) (hO.mono hl1) h1.ds (by rw [hl]; simp only [List.length_cons,List.length_nil]; omega) rfl rfl fun v' H2 hl2 h2 _ => ?_
   refine ⟨⟨n + 1,v',_,?_,by omega,hl2,h2,?_,?_⟩,?_⟩
   ·simp only [rxs,iv,e3]
   ·rw [List.length_append,hl]; rfl
   ·rw [vl_append,hv,hl,BP_PW,mod_succ]
    simp only [vl,Nat.mul_zero,Nat.add_zero]
    congr 2
    omega
   ·simp only [rxs,iv,e3]
    omega
 ·have h : n = 8 := by have := of_decide_eq_false h; omega
  subst h
  refine den_ret rfl ⟨hle,l,hO.ds,hl,?_⟩
  rw [M_def]; exact hv
variable {a b : List Nat} {va vb : Value}
set_option maxRecDepth 100000 in
theorem con_rless (ha : Ds H va a) (hb : Ds H vb b) (hab : vl b <= vl a) (hl : b.length <= a.length) (hA : a.length <= 100000) : Con Tryz.prog 122 [va,vb] H fun u H' => PH.le H H' /\ Nu H' u (vl a - vl b) := by
 refine con_of_tree mixed tr_rless np_rless rfl ⟨fun vals H' => ∃ (br i : Nat) (v : Value) (l : List Nat),vals = [iv br,v,iv i] /\ br <= 1 /\ i <= a.length /\ PH.le H H' /\ Od H H' v l /\ l.length = i /\ vl (a.take i) + BP i * br = vl (b.take i) + vl l,fun vals _ => (a.length - intOf (vals.getD 2 undef)).toNat,⟨0,0,_,[],rfl,by omega,by omega,PH.le.refl H,Od.nil H H,rfl,?_⟩,?_⟩
 ·simp [vl]
 rintro vals H' - ⟨br,i,v,l,rfl,hbr,hi,hle,hO,hll,hv⟩
 simp only [cA,nA]
 have ha' := ha.mono hle
 have hb' := hb.mono hle
 refine den_len op_rless_4_2 rfl ha' rfl (den_rq ⟨_,rfl⟩ (den_rq ⟨_,rfl⟩ (den_br (b := decide ((i : Int) < a.length)) rfl (fun h => ?_) (fun h => ?_))))
 ·have h : i < a.length := by have := of_decide_eq_true h; omega
  refine den_at (k := .i64) (j := i) op_rless_6_2 op_rless_6_3 rfl rfl (fun _ => rfl) ha' h rfl (fun _ => rfl) fun p => den_rq ⟨_,rfl⟩ (den_rq ⟨_,rfl⟩ (den_len op_rless_7_2 rfl hb' rfl (den_rq ⟨_,rfl⟩ ?_)))
  simp only [cA,nA]
  have da := ha.2.at i
  have db := hb.2.at i
  have e1 : IntKind.i64.wrap (((a.getD i 0 : Nat) : Int) - (br : Int)) = ((a.getD i 0 : Nat) : Int) - (br : Int) := wfit (by omega) (by omega)
  refine ⟨fun vs H1 => H1 = H' /\ vs = [.int .i64 (((a.getD i 0 : Nat) : Int) - (br : Int) - (b.getD i 0 : Nat))],den_br (b := decide ((i : Int) < b.length)) rfl (fun h1 => ?_) (fun h1 => ?_),?_⟩
  ·have h1 := of_decide_eq_true h1
   refine den_at (k := .i64) (j := i) op_rless_8_3 op_rless_8_4 rfl rfl (fun _ => rfl) hb' (by omega) rfl (fun _ => rfl) fun q => den_rq ⟨_,rfl⟩ ⟨rfl,?_⟩
   have e2 : IntKind.i64.wrap (((a.getD i 0 : Nat) : Int) - (br : Int) - (b.getD i 0 : Nat)) = ((a.getD i 0 : Nat) : Int) - (br : Int) - (b.getD i 0 : Nat) := wfit (by omega) (by omega)
   simp only [rxs,iv,e1,e2]
  ·have h1 := of_decide_eq_false h1
   refine ⟨rfl,?_⟩
   rw [at_out (l := b) (by omega)]
   simp only [rxs,iv,e1]
   congr 2
   omega
  ·rintro vs H1 - ⟨rfl,rfl⟩
   simp only [cA,nA]
   refine den_rq ⟨_,rfl⟩ ⟨fun vs H2 => H2 = H1 /\ ∃ d br' : Nat,vs = [iv d,iv br'] /\ d < 4294967296 /\ br' <= 1 /\ d + br + b.getD i 0 = a.getD i 0 + 4294967296 * br',den_br rfl (fun h1 => ?_) (fun h1 => ?_),?_⟩
   ·have h1 := of_decide_eq_true h1
    have e2 : IntKind.i64.wrap (((a.getD i 0 : Nat) : Int) - (br : Int) - (b.getD i 0 : Nat) + 4294967296) = ((a.getD i 0 + 4294967296 - br - b.getD i 0 : Nat) : Int) := by rw [wfit (by omega) (by omega)]; omega
    refine ⟨rfl,a.getD i 0 + 4294967296 - br - b.getD i 0,1,?_,?_,by omega,by omega⟩
    ·simp only [rxs,iv,e2]; rfl
    ·replace h1 : ((a.getD i 0 : Nat) : Int) - (br : Int) - (b.getD i 0 : Nat) < 0 := h1
     omega
   ·have h1 := of_decide_eq_false h1
    replace h1 : ¬ ((a.getD i 0 : Nat) : Int) - (br : Int) - (b.getD i 0 : Nat) < 0 := h1
    have e2 : ((a.getD i 0 : Nat) : Int) - (br : Int) - (b.getD i 0 : Nat) = ((a.getD i 0 - br - b.getD i 0 : Nat) : Int) := by omega
    refine ⟨rfl,a.getD i 0 - br - b.getD i 0,0,?_,by omega,by omega,by omega⟩
    simp only [rxs,iv,e2]; rfl
   ·rintro vs H2 - ⟨rfl,d,br',rfl,hd,hbr',key⟩
    simp only [cA,nA]
    have e3 : IntKind.i64.wrap ((i : Int) + 1) = ((i + 1 : Nat) : Int) := wadd1 (by omega)
    refine den_push op_rless_13_2 op_rless_13_3 rfl (fun _ => rfl) (fun _ => rfl) hle hO hd (by omega) rfl (fun _ => rfl) rfl fun p v' H3 hl3 h3 => ⟨⟨br',i + 1,v',l ++ [d],?_,hbr',by omega,hl3,h3,by simp [hll],?_⟩,?_⟩
    ·simp only [rxs,iv,e3]
    ·have k2 := congrArg (BP i * ·) key
     simp only [Nat.mul_add] at k2
     rw [vl_take_next,vl_take_next,vl_snoc,hll,BP_succ,Nat.mul_assoc]
     omega
    ·simp only [rxs,iv,e3]
     omega
 ·have h : i = a.length := by have := of_decide_eq_false h; omega
  rw [h,List.take_of_length_le (Nat.le_refl _),List.take_of_length_le hl] at hv
  have hlt := vl_lt hO.2
  rw [hll,h] at hlt
  have hb0 : br = 0 := by
   rcases Nat.eq_zero_or_pos br with e | e
   ·exact e
   ·have : br = 1 := by omega
    rw [this] at hv; omega
  refine den_call (con_rcut hO.ds) rfl ?_
  rintro u H1 ⟨rfl,hu⟩
  refine ⟨fun h => (nomatch h),den_ret rfl ⟨hle,?_⟩⟩
  have : vl a - vl b = vl l := by rw [hb0] at hv; omega
  rw [this]; exact hu
end
end Go.Proofs.YtkcjbfoejpfbbaaGreatDoor
namespace Go.Proofs.YtkcjbfoejpfbbaaGreatDoor
open Go.RowKit Go.RX Go.WD

section
variable {H : PH} {a b : List Nat} {va vb : Value}
set_option maxRecDepth 100000 in
theorem con_rmore (ha : Ds H va a) (hb : Ds H vb b) (hA : a.length <= 100000) (hB : b.length <= 100000) : Con Tryz.prog 231 [va,vb] H fun u H' => PH.le H H' /\ ∃ l,Ds H' u l /\ l.length <= max a.length b.length + 1 /\ vl l = vl a + vl b := by
 refine con_of_tree mixed tr_rmore np_rmore rfl ⟨fun vals H' => ∃ (c i : Nat) (v : Value) (l : List Nat),vals = [v,iv c,iv i] /\ c <= 1 /\ i <= max a.length b.length + 1 /\ (i = max a.length b.length + 1 -> c = 0) /\ PH.le H H' /\ Od H H' v l /\ l.length = i /\ vl l + BP i * c = vl (a.take i) + vl (b.take i),fun vals _ => ((max a.length b.length : Nat) + 1 - intOf (vals.getD 2 undef)).toNat,⟨0,0,_,[],rfl,by omega,by omega,by omega,PH.le.refl H,Od.nil H H,rfl,?_⟩,?_⟩
 ·simp [vl]
 rintro vals H' - ⟨c,i,v,l,rfl,hc,hi,hc0,hle,hO,hll,hv⟩
 simp only [cA,nA]
 have ha' := ha.mono hle
 have hb' := hb.mono hle
 refine ⟨fun vs H1 => H1 = H' /\ vs = [.bool (decide (i < a.length \/ i < b.length \/ 0 < c))],?_,?_⟩
 ·refine den_len op_rmore_4_2 rfl ha' rfl (den_rq ⟨_,rfl⟩ (den_rq ⟨_,rfl⟩ (den_br (b := decide ((i : Int) < a.length)) rfl (fun h => ?_) (fun h => ?_))))
  ·have h := of_decide_eq_true h
   refine ⟨rfl,?_⟩
   simp only [rxs]
   congr 2
   rw [eq_comm,decide_eq_true_iff]; omega
  ·have h := of_decide_eq_false h
   refine den_len op_rmore_4_7 rfl hb' rfl (den_rq ⟨_,rfl⟩ (den_br (b := decide ((i : Int) < b.length)) rfl (fun h1 => ?_) (fun h1 => ?_)))
   ·have h1 := of_decide_eq_true h1
    refine ⟨rfl,?_⟩
    simp only [rxs]
    congr 2
    rw [eq_comm,decide_eq_true_iff]; omega
   ·have h1 := of_decide_eq_false h1
    refine den_rq ⟨_,rfl⟩ ⟨rfl,?_⟩
    simp only [rxs,iv]
    congr 2
    rw [decide_eq_decide]; omega
 ·rintro vs H1 - ⟨rfl,rfl⟩
  simp only [cA,nA]
  refine den_rq ⟨_,rfl⟩ (den_br rfl (fun h => ?_) (fun h => ?_))
  ·have h := of_decide_eq_true h
   have da := ha.2.at i
   have db := hb.2.at i
   refine den_len op_rmore_6_2 rfl ha' rfl (den_rq ⟨_,rfl⟩ (den_rq ⟨_,rfl⟩ ⟨fun vs H2 => H2 = H1 /\ vs = [iv (c + a.getD i 0)],den_br (b := decide ((i : Int) < a.length)) rfl (fun h1 => ?_) (fun h1 => ?_),?_⟩))
   ·have h1 := of_decide_eq_true h1
    refine den_at (k := .i64) (j := i) op_rmore_7_3 op_rmore_7_4 rfl rfl (fun _ => rfl) ha' (by omega) rfl (fun _ => rfl) fun q => den_rq ⟨_,rfl⟩ (den_rq ⟨_,rfl⟩ ⟨rfl,?_⟩)
    have e2 : IntKind.i64.wrap ((c : Int) + (a.getD i 0 : Nat)) = ((c + a.getD i 0 : Nat) : Int) := wadd (by omega)
    simp only [rxs,iv,e2]
   ·have h1 := of_decide_eq_false h1
    refine ⟨rfl,?_⟩
    rw [at_out (l := a) (by omega)]
    simp only [rxs,iv]
   ·rintro vs H2 - ⟨rfl,rfl⟩
    simp only [cA,nA]
    refine den_len op_rmore_8_2 rfl hb' rfl (den_rq ⟨_,rfl⟩ ⟨fun vs H3 => H3 = H2 /\ vs = [iv (c + a.getD i 0 + b.getD i 0)],den_br (b := decide ((i : Int) < b.length)) rfl (fun h1 => ?_) (fun h1 => ?_),?_⟩)
    ·have h1 := of_decide_eq_true h1
     refine den_at (k := .i64) (j := i) op_rmore_9_3 op_rmore_9_4 rfl rfl (fun _ => rfl) hb' (by omega) rfl (fun _ => rfl) fun q => den_rq ⟨_,rfl⟩ (den_rq ⟨_,rfl⟩ ⟨rfl,?_⟩)
     have e2 : IntKind.i64.wrap (((c + a.getD i 0 : Nat) : Int) + (b.getD i 0 : Nat)) = ((c + a.getD i 0 + b.getD i 0 : Nat) : Int) := wadd (by omega)
     simp only [rxs,iv,e2]
    ·have h1 := of_decide_eq_false h1
     refine ⟨rfl,?_⟩
     rw [at_out (l := b) (by omega)]
     simp only [rxs,iv]
    ·rintro vs H3 - ⟨rfl,rfl⟩
     simp only [cA,nA]
     generalize hs : c + a.getD i 0 + b.getD i 0 = s
     have e3 : IntKind.i64.wrap ((i : Int) + 1) = ((i + 1 : Nat) : Int) := wadd1 (by omega)
     have e4 : ((s : Nat) : Int).tmod 4294967296 = ((s % 4294967296 : Nat) : Int) := tmodB s
     have e5 : IntKind.i64.wrap (((s : Nat) : Int).tdiv 4294967296) = ((s / 4294967296 : Nat) : Int) := by rw [tdivB,wn (by omega)]
     refine den_rq ⟨_,rfl⟩ (den_push (d := s % 4294967296) op_rmore_10_3 op_rmore_10_4 rfl (fun _ => rfl) (fun _ => rfl) hle hO (by omega) (by omega) ?_ (fun _ => rfl) rfl fun p v' H4 hl3 h3 => ⟨⟨s / 4294967296,i + 1,v',l ++ [s % 4294967296],?_,by omega,by omega,?_,hl3,h3,by simp [hll],?_⟩,?_⟩)
     ·simp only [rxs,iv,e4]
     ·simp only [rxs,iv,e3,e5]
     ·intro h4
      rw [at_out (l := a) (by omega),at_out (l := b) (by omega)] at hs
      omega
     ·have key : s % 4294967296 + 4294967296 * (s / 4294967296) = c + a.getD i 0 + b.getD i 0 := by omega
      have k2 := congrArg (BP i * ·) key
      simp only [Nat.mul_add] at k2
      rw [vl_take_next,vl_take_next,vl_snoc,hll,BP_succ,Nat.mul_assoc]
      omega
     ·simp only [rxs,iv,e3]
      omega
  ·have h := of_decide_eq_false h
   have hc0 : c = 0 := by omega
   rw [hc0,List.take_of_length_le (by omega),List.take_of_length_le (by omega)] at hv
   exact den_ret rfl ⟨hle,l,hO.ds,by omega,by omega⟩
end
end Go.Proofs.YtkcjbfoejpfbbaaGreatDoor

/- The reference of chapter 01: parts (quotient and remainder). -/
namespace Go.RX
open Go.RowKit
end Go.RX
namespace Go.Proofs.YtkcjbfoejpfbbaaGreatDoor
open Go.RowKit Go.RX Go.WD

theorem tmod2 (a : Nat) : (a : Int).tmod 2 = ((a % 2 : Nat) : Int) := tmodn a 2
section
variable {H : PH} {a b : List Nat} {va vb : Value}
end
end Go.Proofs.YtkcjbfoejpfbbaaGreatDoor


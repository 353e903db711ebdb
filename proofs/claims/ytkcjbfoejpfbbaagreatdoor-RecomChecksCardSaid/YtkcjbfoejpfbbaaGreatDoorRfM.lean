/- The reference of chapter 01: numbers with a sign. -/
import Derived.Test.YtkcjbfoejpfbbaaGreatDoorRfF
import Derived.Test.YtkcjbfoejpfbbaaGreatDoorWdR
import Derived.Test.YtkcjbfoejpfbbaaGreatDoorWdT
import Derived.Laws.Small
namespace Go.Proofs.YtkcjbfoejpfbbaaGreatDoor
open Go.RowKit Go.RX Go.WD

theorem Lg.rq {H : PH} {v : Value} {z : Int} (h : Lg H v z) : v.cells.size = 2 /\ oneAll v.cells := by
 obtain ⟨w,rfl,hw⟩ := h
 refine ⟨rfl,fun c hc => ?_⟩
 have h1 := hw.one.2.2
 rw [hw.one.1] at h1
 rw [show (Value.agg #[.bool (decide (z < 0)),w]).cells = #[.bool (decide (z < 0)),w] from rfl] at hc
 simp only [List.mem_cons,List.not_mem_nil,or_false] at hc
 rcases hc with h2 | h2
 ·rw [h2]; rfl
 ·rw [h2]; exact h1 w (by simp)
def Lm (z : Int) : Prop := z.natAbs < BP 10000
theorem sn_not (z : Int) : sn (!decide (z < 0)) z.natAbs = -z := by
 unfold sn; by_cases h : z < 0 <;> simp [h] <;> omega
theorem sn_self (z : Int) : sn (decide (z < 0)) z.natAbs = z := by
 unfold sn; by_cases h : z < 0 <;> simp [h] <;> omega
section
variable {H : PH} {v x y : Value} {z p q : Int}
theorem con_rTurn (h : Lg H v z) : Con Tryz.prog 222 [v] H fun u H' => H' = H /\ Lg H u (-z) := by
 have hrq := h.rq
 obtain ⟨w,rfl,l,hd,ht,hv⟩ := h
 refine con_of_tree mixed tr_rTurn np_rTurn rfl (den_rq hrq (den_rq ⟨_,rfl⟩ (den_call (con_rmade (!decide (z < 0)) hd) rfl ?_)))
 rintro u H' ⟨rfl,hu⟩
 rw [hv,sn_not] at hu
 have hr := hu.rq
 obtain ⟨w',rfl,hw'⟩ := hu
 exact ⟨fun h => (nomatch h),den_rq hr (den_ret rfl ⟨rfl,w',rfl,hw'⟩)⟩
theorem same_sum (h : (decide (p < 0) == decide (q < 0)) = true) : sn (decide (p < 0)) (p.natAbs + q.natAbs) = p + q := by
 unfold sn
 by_cases h1 : p < 0 <;> by_cases h2 : q < 0 <;> simp [h1,h2] at h ⊢ <;> omega
theorem diff_sum (h : (decide (p < 0) == decide (q < 0)) = false) (hl : q.natAbs <= p.natAbs) : sn (decide (p < 0)) (p.natAbs - q.natAbs) = p + q := by
 unfold sn
 by_cases h1 : p < 0 <;> by_cases h2 : q < 0 <;> simp [h1,h2] at h ⊢ <;> omega
theorem con_rPlus (hx : Lg H x p) (hy : Lg H y q) (hp : Lm p) (hq : Lm q) : Con Tryz.prog 190 [x,y] H fun u H' => PH.le H H' /\ Lg H' u (p + q) := by
 have r1 := hx.rq
 have r2 := hy.rq
 obtain ⟨wx,rfl,a,da,ta,va⟩ := hx
 obtain ⟨wy,rfl,b,db,tb,vb⟩ := hy
 have la : a.length <= 10000 := ta _ (by rw [va]; exact hp)
 have lb : b.length <= 10000 := tb _ (by rw [vb]; exact hq)
 refine con_of_tree mixed tr_rPlus np_rPlus rfl (den_rq r1 (den_rq r2 (den_rq ⟨_,rfl⟩ (den_rq ⟨_,rfl⟩ (den_br (b := (decide (p < 0) == decide (q < 0))) ?_ (fun h => ?_) (fun h => ?_))))))
 ·show Value.bool (false != (decide (p < 0) == decide (q < 0))) = _
  rw [Bool.false_bne]
 ·refine den_call (con_rmore da db (by omega) (by omega)) rfl ?_
  rintro u H1 ⟨hl1,l,hd,_,hv⟩
  refine ⟨fun _ => hl1,den_call (con_rmade (decide (p < 0)) hd) rfl ?_⟩
  rintro u2 H2 ⟨rfl,hu⟩
  rw [hv,va,vb,same_sum h] at hu
  have hr := hu.rq
  obtain ⟨w',rfl,hw'⟩ := hu
  exact ⟨fun _ => PH.le.refl _,den_rq hr (den_ret rfl ⟨hl1,w',rfl,hw'⟩)⟩
 ·refine den_call (con_rorder da db ta tb) rfl ?_
  rintro c H1 ⟨rfl,c,rfl,hc1,hc2⟩
  rw [va,vb] at hc1 hc2
  refine ⟨fun h => (nomatch h),den_rq ⟨_,rfl⟩ (den_br (b := decide (c ≥ 0)) rfl (fun hc => ?_) (fun hc => ?_))⟩
  ·have hc := of_decide_eq_true hc
   refine den_call (con_rless da db (by omega) (Tm.len_le tb da.2 (by omega)) (by omega)) rfl ?_
   rintro u H2 ⟨hl1,l,hd,_,hv⟩
   refine ⟨fun _ => hl1,den_call (con_rmade (decide (p < 0)) hd) rfl ?_⟩
   rintro u2 H3 ⟨rfl,hu⟩
   rw [hv,va,vb,diff_sum h (by omega)] at hu
   have hr := hu.rq
   obtain ⟨w',rfl,hw'⟩ := hu
   exact ⟨fun _ => PH.le.refl _,den_rq hr (den_ret rfl ⟨hl1,w',rfl,hw'⟩)⟩
  ·have hc := of_decide_eq_false hc
   refine den_call (con_rless db da (by omega) (Tm.len_le ta db.2 (by omega)) (by omega)) rfl ?_
   rintro u H2 ⟨hl1,l,hd,_,hv⟩
   refine ⟨fun _ => hl1,den_call (con_rmade (decide (q < 0)) hd) rfl ?_⟩
   rintro u2 H3 ⟨rfl,hu⟩
   rw [hv,va,vb,diff_sum (by rw [<- h]; exact Bool.beq_comm) (by omega),Int.add_comm] at hu
   have hr := hu.rq
   obtain ⟨w',rfl,hw'⟩ := hu
   exact ⟨fun _ => PH.le.refl _,den_rq hr (den_ret rfl ⟨hl1,w',rfl,hw'⟩)⟩
theorem con_rMinus (hx : Lg H x p) (hy : Lg H y q) (hp : Lm p) (hq : Lm q) : Con Tryz.prog 182 [x,y] H fun u H' => PH.le H H' /\ Lg H' u (p - q) := by
 have r1 := hx.rq
 have r2 := hy.rq
 have hq' : Lm (-q) := by unfold Lm at hq ⊢; rw [Int.natAbs_neg]; exact hq
 have hx' := hx
 have hy' := hy
 obtain ⟨wx,rfl,a,da,ta,va⟩ := hx
 obtain ⟨wy,rfl,b,db,tb,vb⟩ := hy
 refine con_of_tree mixed tr_rMinus np_rMinus rfl (den_rq r1 (den_rq r2 (den_call (con_rTurn hy') rfl ?_)))
 rintro u H1 ⟨rfl,hu⟩
 refine ⟨fun _ => PH.le.refl _,den_call (con_rPlus hx' hu hp hq') rfl ?_⟩
 rintro u2 H2 ⟨hl,hu2⟩
 rw [<- Int.sub_eq_add_neg] at hu2
 have hr := hu2.rq
 obtain ⟨w',rfl,hw'⟩ := hu2
 exact ⟨fun _ => hl,den_rq hr (den_ret rfl ⟨hl,w',rfl,hw'⟩)⟩
theorem con_rOrder (hx : Lg H x p) (hy : Lg H y q) (hp : Lm p) (hq : Lm q) : Con Tryz.prog 119 [x,y] H fun u H' => PH.le H H' /\ u = .int .i64 (sgI p q) := by
 have r1 := hx.rq
 have r2 := hy.rq
 have hx' := hx
 have hy' := hy
 obtain ⟨wx,rfl,a,da,ta,va⟩ := hx
 obtain ⟨wy,rfl,b,db,tb,vb⟩ := hy
 refine con_of_tree mixed tr_rOrder np_rOrder rfl (den_rq r1 (den_rq r2 (den_call (con_rMinus hx' hy' hp hq) rfl ?_)))
 rintro u H1 ⟨hl,hu⟩
 have hr := hu.rq
 obtain ⟨w,rfl,l,hd,ht,hv⟩ := hu
 refine ⟨fun h => (nomatch h),den_rq hr (den_rq ⟨_,rfl⟩ (den_br (b := decide (p - q < 0)) rfl (fun h => ?_) (fun h => ?_)))⟩
 ·have h := of_decide_eq_true h
  refine den_ret rfl ⟨hl,?_⟩
  unfold sgI; rw [if_pos (by omega)]; rfl
 ·have h := of_decide_eq_false h
  have hpos := ht.pos
  rw [hv] at hpos
  refine den_len op_rOrder_4_2 rfl hd rfl (den_rq ⟨_,rfl⟩ (den_br (b := decide ((l.length : Int) > 0)) rfl (fun h2 => ?_) (fun h2 => ?_)))
  ·have h2 := of_decide_eq_true h2
   refine den_ret rfl ⟨hl,?_⟩
   unfold sgI; rw [if_neg (by omega),if_neg (by omega)]; rfl
  ·have h2 := of_decide_eq_false h2
   refine den_ret rfl ⟨hl,?_⟩
   unfold sgI; rw [if_neg (by omega),if_pos (by omega)]; rfl
end
end Go.Proofs.YtkcjbfoejpfbbaaGreatDoor
namespace Go.Proofs.YtkcjbfoejpfbbaaGreatDoor
open Go.RowKit Go.RX Go.WD

section
variable {H : PH} {v x y : Value} {z p q : Int}
theorem negu (n : Int) (h0 : -9223372036854775808 <= n) (h1 : n < 0) : IntKind.u64.wrap (0 - IntKind.u64.wrap n) = (n.natAbs : Nat) := by
 rw [IntKind.wrap_u64,IntKind.wrap_u64]; omega
theorem posu (n : Int) (h0 : 0 <= n) (h1 : n < 9223372036854775808) : IntKind.u64.wrap n = (n.natAbs : Nat) := by
 rw [IntKind.wrap_u64]; omega
set_option maxRecDepth 100000 in
theorem con_rLong1 (n : Int) (h0 : -9223372036854775808 <= n) (h1 : n < 9223372036854775808) : Con Tryz.prog 63 [.int .i64 n] H fun u H' => PH.le H H' /\ Lg H' u n := by
 refine con_of_tree mixed tr_rLong1 np_rLong1 rfl (den_rq ⟨_,rfl⟩ ⟨fun vs H' => H' = H /\ vs = [.int .u64 (n.natAbs : Nat)],den_br (b := decide (n < 0)) rfl (fun h => ⟨rfl,?_⟩) (fun h => ⟨rfl,?_⟩),?_⟩)
 ·have h := of_decide_eq_true h
  simp only [rxs]
  simp only [unV,negu n h0 h]
 ·have h := of_decide_eq_false h
  simp only [rxs]
  rw [posu n (by omega) h1]
 ·rintro vs H' - ⟨rfl,rfl⟩
  simp only [cA,nA]
  have e1 : IntKind.i64.wrap ((n.natAbs % 4294967296 : Nat) : Int) = ((n.natAbs % 4294967296 : Nat) : Int) := wn (by omega)
  have e2 : IntKind.i64.wrap (IntKind.u64.wrap ((n.natAbs / 4294967296 : Nat) : Int)) = ((n.natAbs / 4294967296 : Nat) : Int) := by rw [wu (by omega),wn (by omega)]
  refine den_rq ⟨_,rfl⟩ (den_build2 (d := n.natAbs % 4294967296) (e := n.natAbs / 4294967296) op_rLong1_5_7 rfl rfl (by omega) (by omega) (by simp only [rxs,iv,tmodB,tdivB,e1,e2]) fun u H1 hl1 hd => den_call (con_rmade (decide (n < 0)) hd.ds) rfl ?_)
  rintro u2 H2 ⟨rfl,hu⟩
  have e3 : vl [n.natAbs % 4294967296,n.natAbs / 4294967296] = n.natAbs := by simp only [vl]; omega
  rw [e3,sn_self] at hu
  have hr := hu.rq
  obtain ⟨w',rfl,hw'⟩ := hu
  exact ⟨fun h => (nomatch h),den_rq hr (den_ret rfl ⟨hl1,w',rfl,hw'⟩)⟩
theorem vl_whole (n d : Nat) : vl ((List.replicate (n + 1) 0).set n d) = BP n * d := by
 have := vl_set (l := List.replicate (n + 1) 0) (k := n) d (by simp)
 rw [at_zeros,vl_zeros] at this
 omega
set_option maxRecDepth 100000 in
theorem con_rIn (a : Nat) : Con Tryz.prog 61 [wd a] H fun u H' => PH.le H H' /\ Lg H' u (toI a) := by
 have hM := Nat.mod_lt a M_pos
 have hHM := M_HM
 refine con_of_tree mixed tr_rIn np_rIn rfl (den_rq ⟨words_size a,words_one a⟩ (den_call (con_rhalves a) rfl ?_))
 rintro u H1 ⟨hl1,l,hd,hll,hv⟩
 refine ⟨fun h => (nomatch h),den_rq ⟨(dig a 7 : Nat),rfl⟩ (den_br (b := decide (((dig a 7 : Nat) : Int) < 9223372036854775808)) rfl (fun h => ?_) (fun h => ?_))⟩
 ·have h : dig a 7 < 9223372036854775808 := by have := of_decide_eq_true h; omega
  rw [top_bit] at h
  refine den_call (con_rmade false hd) rfl ?_
  rintro u2 H2 ⟨rfl,hu⟩
  have e : sn false (vl l) = toI a := by rw [hv]; unfold toI sn; rw [if_pos h]; rfl
  rw [e] at hu
  have hr := hu.rq
  obtain ⟨w',rfl,hw'⟩ := hu
  exact ⟨fun h => (nomatch h),den_rq hr (den_ret rfl ⟨hl1,w',rfl,hw'⟩)⟩
 ·have h : ¬ dig a 7 < 9223372036854775808 := by have := of_decide_eq_false h; omega
  rw [top_bit] at h
  simp only [cA,nA]
  refine den_make (kl := .i64) (kc := .i64) (m := 17) op_rIn_4_0 rfl rfl (by omega) rfl fun wh H2 hl2 h2 => ?_
  simp only [cA,nA]
  refine den_set (k := .i64) (j := 16) (d := 1) op_rIn_5_1 op_rIn_5_2 rfl rfl (fun _ => rfl) (fun _ => rfl) hl2 h2 (by simp) (by omega) rfl (fun _ => rfl) rfl fun p3 u3 H3 hl3 h3 _ => ?_
  simp only [cA,nA]
  refine den_call (con_rcut (hd.mono hl3)) rfl ?_
  rintro u4 H4 ⟨rfl,l4,hd4,ht4,hv4⟩
  refine ⟨fun h => (nomatch h),?_⟩
  simp only [cA,nA]
  have hw : vl ((List.replicate 17 0).set 16 1) = M := by rw [vl_whole 16 1,Nat.mul_one,BP_M]
  refine den_call (con_rless h3.ds hd4 (by omega) (ht4.len_le h3.2 (by omega)) (by simp)) rfl ?_
  rintro u5 H5 ⟨hl5,l5,hd5,ht5,hv5⟩
  refine ⟨fun h => (nomatch h),?_⟩
  simp only [cA,nA]
  refine den_call (con_rmade true hd5) rfl ?_
  rintro u6 H6 ⟨rfl,hu⟩
  have e : sn true (vl l5) = toI a := by
   rw [hv5,hw,hv4,hv]; unfold toI sn; rw [if_neg h,if_pos rfl]; omega
  rw [e] at hu
  have hr := hu.rq
  obtain ⟨w',rfl,hw'⟩ := hu
  exact ⟨fun h => (nomatch h),den_rq hr (den_ret rfl ⟨hl1.trans (hl3.trans hl5),w',rfl,hw'⟩)⟩
theorem dig_addk {X k e : Nat} (hX : X < PW (k + 1)) (h : dig X k + e < 18446744073709551616) (j : Nat) : dig (X + PW k * e) j = if j = k then dig X k + e else dig X j := by
 have hdk : X / PW k = dig X k := by
  unfold dig; rw [Nat.mod_eq_of_lt]
  rw [PW_succ] at hX
  exact (Nat.div_lt_iff_lt_mul (PW_pos k)).2 (by rw [Nat.mul_comm]; exact hX)
 rcases Nat.lt_trichotomy j k with hj | hj | hj
 ·rw [if_neg (by omega)]
  obtain ⟨d,rfl⟩ := Nat.exists_eq_add_of_lt hj
  unfold dig
  rw [show j + d + 1 = j + (d + 1) from rfl,PW_add,Nat.mul_assoc,Nat.add_mul_div_left _ _ (PW_pos j),PW_succ,Nat.mul_right_comm,Nat.add_mul_mod_self_right]
 ·subst hj
  rw [if_pos rfl]
  rw [show dig (X + PW j * e) j = (X + PW j * e) / PW j % 18446744073709551616 from rfl,Nat.add_mul_div_left _ _ (PW_pos j),hdk,Nat.mod_eq_of_lt h]
 ·rw [if_neg (by omega)]
  have h1 : X + PW k * e < PW (k + 1) := by
   have h2 := Nat.div_add_mod X (PW k)
   have h3 := Nat.mod_lt X (PW_pos k)
   rw [hdk] at h2
   have h4 := Nat.mul_le_mul_left (PW k) (show dig X k + e + 1 <= 18446744073709551616 from h)
   rw [Nat.mul_add,Nat.mul_add,Nat.mul_one,<- PW_succ] at h4
   omega
  have h5 := PW_le (show k + 1 <= j from hj)
  rw [dig_small (by omega),dig_small (by omega)]
theorem BP_odd (k : Nat) : BP (2 * k + 1) = PW k * 4294967296 := by rw [BP_succ,BP_PW]
theorem words_digit {X i d : Nat} (hX : X < BP i) (hd : d < 4294967296) : ∃ e : Nat,IntKind.u64.wrap ((dig X (i / 2) : Nat) + IntKind.u64.wrap ((d : Int) * 2 ^ min (32 * (i % 2)) (IntKind.bits .u64))) = (e : Int) /\ (wf fun j => if j = i / 2 then e else dig X j) = words (X + BP i * d) := by
 obtain ⟨k,hk⟩ : ∃ k,i = 2 * k \/ i = 2 * k + 1 := ⟨i / 2,by omega⟩
 rcases hk with rfl | rfl
 ·rw [show 2 * k / 2 = k from by omega,show 2 * k % 2 = 0 from by omega]
  rw [BP_PW] at hX ⊢
  have h0 : dig X k = 0 := dig_small hX
  have hX1 : X < PW (k + 1) := Nat.lt_of_lt_of_le hX (PW_le (by omega))
  refine ⟨d,?_,wf_words fun j _ => ?_⟩
  ·rw [h0,show (2 : Int) ^ min (32 * 0) (IntKind.bits .u64) = 1 from rfl,Int.mul_one,wu (by omega)]
   rw [IntKind.wrap_u64]; omega
  ·rw [dig_addk hX1 (by omega),h0,Nat.zero_add]
 ·rw [show (2 * k + 1) / 2 = k from by omega,show (2 * k + 1) % 2 = 1 from by omega]
  rw [BP_odd] at hX ⊢
  have hX1 : X < PW (k + 1) := by rw [PW_succ]; exact Nat.lt_of_lt_of_le hX (Nat.mul_le_mul_left _ (by omega))
  have hk : dig X k < 4294967296 := by
   have : X / PW k < 4294967296 := (Nat.div_lt_iff_lt_mul (PW_pos k)).2 (by rw [Nat.mul_comm]; exact hX)
   exact Nat.lt_of_le_of_lt (Nat.mod_le _ _) this
  refine ⟨dig X k + d * 4294967296,?_,wf_words fun j _ => ?_⟩
  ·rw [show (2 : Int) ^ min (32 * 1) (IntKind.bits .u64) = 4294967296 from rfl,show (d : Int) * 4294967296 = ((d * 4294967296 : Nat) : Int) from by omega,wu (by omega),<- Int.natCast_add,wu (by omega)]
  ·rw [Nat.mul_assoc,Nat.mul_comm 4294967296 d,dig_addk hX1 (by omega)]
theorem HM_BP : HM = BP 15 * 2147483648 := by
 rw [HM_PW,show (15 : Nat) = 2 * 7 + 1 from rfl,BP_odd,Nat.mul_assoc,Nat.mul_comm]
set_option maxRecDepth 100000 in
theorem con_rOut (h : Lg H v z) : Con Tryz.prog 62 [v] H fun u H' => PH.le H H' /\ u = told z := by
 have hHM := M_HM
 have hHP := HM_pos
 have hrq := h.rq
 obtain ⟨w,rfl,l,hd,ht,hv⟩ := h
 refine con_of_tree mixed tr_rOut np_rOut rfl (den_rq hrq (den_make (kl := .i64) (kc := .i64) (m := 16) op_rOut_1_0 rfl rfl (by omega) rfl fun lm H1 hl1 h1 => ?_))
 simp only [cA,nA]
 refine den_set (k := .i64) (j := 15) (d := 2147483648) op_rOut_2_1 op_rOut_2_2 rfl rfl (fun _ => rfl) (fun _ => rfl) hl1 h1 (by simp) (by omega) rfl (fun _ => rfl) rfl fun p2 u2 H2 hl2 h2 _ => ?_
 simp only [cA,nA]
 have hlim : vl ((List.replicate 16 0).set 15 2147483648) = HM := by rw [vl_whole 15,HM_BP]
 have htl : Tm ((List.replicate 16 0).set 15 2147483648) := Tm.of (n := 15) (by simp) (by rw [at_set_self (by simp)]; omega)
 refine den_call (con_rorder (hd.mono hl2) h2.ds ht htl) rfl ?_
 rintro c H3 ⟨rfl,c,rfl,hc1,hc2⟩
 rw [hlim,hv] at hc1 hc2
 refine ⟨fun h => (nomatch h),?_⟩
 simp only [cA,nA]
 refine ⟨fun vs H' => H' = H3 /\ vs = [.bool (decide (¬ (-(HM : Int) <= z /\ z < HM)))],den_rq ⟨_,rfl⟩ (den_br (b := decide (c > 0)) rfl (fun h => ?_) (fun h => ?_)),?_⟩
 ·have h := of_decide_eq_true h
  refine ⟨rfl,?_⟩
  simp only [rxs]
  congr 2
  rw [eq_comm,decide_eq_true_iff]; omega
 ·have h := of_decide_eq_false h
  refine den_br (b := decide (c = 0)) rfl (fun h3 => ?_) (fun h3 => ?_)
  ·have h3 := of_decide_eq_true h3
   refine den_rq ⟨_,rfl⟩ ⟨rfl,?_⟩
   show [Value.bool (!decide (z < 0))] = _
   congr 2
   rw [Bool.eq_iff_iff,Bool.not_eq_true',decide_eq_false_iff_not,decide_eq_true_iff]
   omega
  ·have h3 := of_decide_eq_false h3
   refine ⟨rfl,?_⟩
   simp only [rxs]
   congr 2
   rw [eq_comm,decide_eq_false_iff_not]; omega
 ·rintro vs H4 - ⟨rfl,rfl⟩
  simp only [cA,nA]
  refine den_rq ⟨_,rfl⟩ (den_br rfl (fun h => ?_) (fun h => ?_))
  ·have h := of_decide_eq_true h
   refine den_ret rfl ⟨hl2,?_⟩
   rw [told_big h]
   simp only [rxs,retV,z_wide]
  ·have h : -(HM : Int) <= z /\ z < HM := Decidable.not_not.1 (of_decide_eq_false h)
   refine ⟨fun vs H' => PH.le H H' /\ ∃ (d : List Nat) (u : Value),vs = [u] /\ Ds H' u d /\ d.length <= 16 /\ vl d = rs z,den_rq ⟨_,rfl⟩ (den_br (b := decide (z < 0)) rfl (fun hz => ?_) (fun hz => ?_)),?_⟩
   ·have hz := of_decide_eq_true hz
    refine den_make (kl := .i64) (kc := .i64) (m := 17) op_rOut_8_0 rfl rfl (by omega) rfl fun wh H5 hl5 h5 => ?_
    simp only [cA,nA]
    refine den_set (k := .i64) (j := 16) (d := 1) op_rOut_9_1 op_rOut_9_2 rfl rfl (fun _ => rfl) (fun _ => rfl) hl5 h5 (by simp) (by omega) rfl (fun _ => rfl) rfl fun p6 u6 H6 hl6 h6 _ => ?_
    simp only [cA,nA]
    have hw : vl ((List.replicate 17 0).set 16 1) = M := by rw [vl_whole 16 1,Nat.mul_one,BP_M]
    have hd6 := hd.mono (hl2.trans hl6)
    refine den_call (con_rless h6.ds hd6 (by omega) (ht.len_le h6.2 (by omega)) (by simp)) rfl ?_
    rintro u7 H7 ⟨hl7,l7,hd7,ht7,hv7⟩
    have hrs : rs z = M - z.natAbs := by rw [rs_neg hz (by omega)]; omega
    refine ⟨fun h => (nomatch h),(hl2.trans hl6).trans hl7,l7,u7,rfl,hd7,ht7 16 ?_,?_⟩
    ·rw [BP_M,hv7,hw,hv]; omega
    ·rw [hv7,hw,hv,hrs]
   ·have hz := of_decide_eq_false hz
    have hrs : rs z = z.natAbs := by rw [rs_pos (by omega) (by omega)]; omega
    refine ⟨hl2,l,w,rfl,hd.mono hl2,ht 16 ?_,by rw [hv,hrs]⟩
    rw [BP_M,hv]; omega
   ·rintro vs H5 - ⟨hl5,d,u,rfl,hdd,hdl,hdv⟩
    simp only [cA,nA]
    refine ⟨fun vals H' => ∃ i : Nat,vals = [iv i,wd (vl (d.take i))] /\ H' = H5 /\ i <= d.length,fun vals _ => (d.length - intOf (vals.getD 0 undef)).toNat,⟨0,?_,rfl,by omega⟩,?_⟩
    ·simp only [rxs,z_wide,List.take_zero,vl]; rfl
    rintro vals H6 - ⟨i,rfl,rfl,hi⟩
    simp only [cA,nA]
    refine den_len op_rOut_13_2 rfl hdd rfl (den_rq ⟨_,rfl⟩ (den_rq ⟨_,rfl⟩ (den_br (b := decide ((i : Int) < d.length)) rfl (fun h5 => ?_) (fun h5 => ?_))))
    ·have h5 : i < d.length := by have := of_decide_eq_true h5; omega
     have hdi := hdd.2.at i
     have hX := vl_lt (hdd.2.take i)
     rw [List.length_take,Nat.min_eq_left (by omega)] at hX
     obtain ⟨e,he1,he2⟩ := words_digit hX hdi
     have e1 : IntKind.i64.wrap ((i : Int).tdiv 2) = ((i / 2 : Nat) : Int) := by rw [show (i : Int).tdiv 2 = ((i / 2 : Nat) : Int) from tdivn i 2,wn (by omega)]
     have e2 : IntKind.i64.wrap (32 * (i : Int).tmod 2) = ((32 * (i % 2) : Nat) : Int) := by rw [tmod2,show 32 * ((i % 2 : Nat) : Int) = ((32 * (i % 2) : Nat) : Int) from by omega,wn (by omega)]
     have e3 : IntKind.i64.wrap ((i : Int) + 1) = ((i + 1 : Nat) : Int) := wadd1 (by omega)
     have e4 : IntKind.u64.wrap ((d.getD i 0 : Nat) : Int) = (d.getD i 0 : Nat) := wu (by omega)
     refine den_rq ⟨?_,?_⟩ (den_at (k := .i64) (j := i) op_rOut_15_8 op_rOut_15_9 rfl rfl (fun _ => rfl) hdd h5 rfl (fun _ => rfl) fun p7 => den_rq ⟨_,rfl⟩ (den_rq ?_ (den_rq ⟨(dig (vl (d.take i)) (i / 2) : Nat),?_⟩ ⟨⟨i + 1,?_,rfl,by omega⟩,?_⟩)))
     ·simp only [rxs,iv,e1]; omega
     ·simp only [rxs,iv,e1]; omega
     ·show (0 : Int) <= intOf _
      simp only [rxs,iv,e2]; omega
     ·simp only [rxs,iv,e1,words_get _ (show i / 2 < 8 by omega)]
     ·simp only [rxs,iv,e1,e2,e3,e4,words_get _ (show i / 2 < 8 by omega),he1]
      rw [show (words (vl (d.take i))) = wf (dig (vl (d.take i))) from rfl,wf_spl _ (show i / 2 < 8 by omega),he2,vl_take_next]
      rfl
     ·simp only [rxs,iv,e3]
      omega
    ·have h5 : i = d.length := by have := of_decide_eq_false h5; omega
     refine den_ret rfl ⟨hl5,?_⟩
     rw [told_fits h,h5,List.take_of_length_le (Nat.le_refl _),hdv]
     rfl
end
end Go.Proofs.YtkcjbfoejpfbbaaGreatDoor

/- The reference of chapter 01: Parts, Divisor, and what the chapter says. -/
namespace Go.Proofs.YtkcjbfoejpfbbaaGreatDoor
open Go.RowKit Go.RX Go.WD

open Classical in
section
variable {H : PH} {v x y : Value} {z p q : Int}
end
end Go.Proofs.YtkcjbfoejpfbbaaGreatDoor
namespace Go.Proofs.YtkcjbfoejpfbbaaGreatDoor
open Go.RowKit Go.RX Go.WD

theorem lm_M {z : Int} (h : z.natAbs < M) : Lm z := by
 unfold Lm
 have := BP_le (show 16 <= 10000 by omega)
 rw [BP_M] at this
 omega
theorem lm_toI (a : Nat) : Lm (toI a) := lm_M (toI_abs_lt a)
section
variable {H : PH} {v x y : Value} {z p q : Int}
theorem con_rOf (n : Int) (h0 : -9223372036854775808 <= n) (h1 : n < 9223372036854775808) : Con Tryz.prog 18 [.int .i64 n] H fun u H' => PH.le H H' /\ u = iw n := by
 refine con_of_tree mixed tr_rOf np_rOf rfl (den_call (con_rLong1 n h0 h1) rfl ?_)
 rintro u H1 ⟨hl1,hu⟩
 refine ⟨fun h => (nomatch h),den_call (con_rOut hu) rfl ?_⟩
 rintro u2 H2 ⟨hl2,rfl⟩
 have hb : (9223372036854775808 : Int) <= HM := by
  have := PW_pos 7
  rw [HM_PW]; omega
 rw [told_fits (show -(HM : Int) <= n /\ n < HM by omega)]
 exact ⟨fun h => (nomatch h),den_rq ⟨_,rfl,Nat.zero_lt_succ _⟩ (den_rq ⟨_,rfl,Nat.lt_succ_self _⟩ (den_rq ⟨words_size (rs n),words_one (rs n)⟩ (den_ret rfl ⟨hl1.trans hl2,rfl⟩)))⟩
end
end Go.Proofs.YtkcjbfoejpfbbaaGreatDoor

/- The reference of chapter 01: Pow, Floor, Root, Integer, Int. -/
namespace Go.WD
end Go.WD
namespace Go.Proofs.YtkcjbfoejpfbbaaGreatDoor
open Go.RowKit Go.RX Go.WD

section
variable {H : PH} {v x y : Value} {z p q : Int}
theorem nat_len {H : PH} {v : Value} {n k : Nat} {l : List Nat} (hd : Ds H v l) (ht : Tm l) (hv : vl l = n) : l.length <= k ↔ n < BP k := by
 subst hv
 exact ⟨fun h => Nat.lt_of_lt_of_le (vl_lt hd.2) (BP_le h),ht k⟩
theorem vl_drop_le (l : List Nat) (i : Nat) (h : i <= l.length) : vl (l.drop i) <= vl l := by
 have h1 := vl_split l h
 have h2 := Nat.mul_le_mul_right (vl (l.drop i)) (BP_pos i)
 omega
theorem sgI_lt {p q : Int} : sgI p q < 0 ↔ p < q := by unfold sgI; split <;> (try split) <;> omega
theorem sgI_gt {p q : Int} : 0 < sgI p q ↔ q < p := by unfold sgI; split <;> (try split) <;> omega
set_option maxRecDepth 100000 in
theorem con_rInteger (hx : Lg H x z) (hz : Lm z) : Con Tryz.prog 60 [x] H fun u H' => PH.le H H' /\ u = told64 z := by
 have hrq := hx.rq
 have hx' := hx
 have lm64 : ∀ q : Int,-9223372036854775808 <= q -> q < 9223372036854775808 -> Lm q := fun q h1 h2 => lm_M (by have := M_big; omega)
 obtain ⟨w,rfl,l,hd,ht,hv⟩ := hx
 refine con_of_tree mixed tr_rInteger np_rInteger rfl (den_rq hrq ⟨fun vals H' => vals = [.bool (decide (z < -9223372036854775808 \/ 9223372036854775807 < z))] /\ PH.le H H',?_,?_⟩)
 ·refine den_call (con_rLong1 (-9223372036854775808) (by omega) (by omega)) rfl ?_
  rintro u1 H1 ⟨l1,hu1⟩
  refine ⟨fun _ => l1,den_call (con_rOrder (hx'.mono l1) hu1 hz (lm64 _ (by omega) (by omega))) rfl ?_⟩
  rintro u2 H2 ⟨l2,rfl⟩
  simp only [cA,nA]
  refine ⟨fun _ => l2,den_rq ⟨_,rfl⟩ (den_br (b := decide (sgI z (-9223372036854775808) < 0)) rfl (fun h => ?_) (fun h => ?_))⟩
  ·have h := sgI_lt.1 (of_decide_eq_true h)
   exact ⟨by rw [decide_eq_true (show z < -9223372036854775808 \/ 9223372036854775807 < z by omega)]; rfl,l1.trans l2⟩
  ·have h : ¬ z < -9223372036854775808 := fun e => of_decide_eq_false h (sgI_lt.2 e)
   refine den_call (con_rLong1 9223372036854775807 (by omega) (by omega)) rfl ?_
   rintro u3 H3 ⟨l3,hu3⟩
   have l13 := l1.trans (l2.trans l3)
   refine ⟨fun _ => l3,den_call (con_rOrder (hx'.mono l13) hu3 hz (lm64 _ (by omega) (by omega))) rfl ?_⟩
   rintro u4 H4 ⟨l4,rfl⟩
   simp only [cA,nA]
   refine ⟨fun _ => l4,den_rq ⟨_,rfl⟩ ⟨?_,l13.trans l4⟩⟩
   show [Value.bool (decide (sgI z 9223372036854775807 > 0))] = _
   congr 2
   rw [decide_eq_decide]
   have := sgI_gt (p := z) (q := 9223372036854775807)
   omega
 rintro vals H1 - ⟨rfl,l1⟩
 simp only [cA,nA]
 refine den_rq ⟨_,rfl⟩ (den_br rfl (fun h => ?_) (fun h => ?_))
 ·have h := of_decide_eq_true h
  refine den_ret rfl ⟨l1,?_⟩
  unfold told64; rw [if_neg (by omega)]; rfl
 have h := of_decide_eq_false h
 have hT : told64 z = .tuple #[.int .i64 z,.int .i64 0] := by unfold told64; rw [if_pos (by omega)]
 rw [hT]
 have hN : vl l <= 9223372036854775808 := by omega
 have hlen : l.length <= 10000 := (nat_len hd ht hv).2 hz
 have e1 : IntKind.i64.wrap ((l.length : Int) - 1) = (l.length : Int) - 1 := wfit (by omega) (by omega)
 refine den_len op_rInteger_4_2 rfl (hd.mono l1) rfl (den_rq ⟨_,rfl⟩ ⟨fun vals H' => ∃ i : Nat,vals = [.int .u64 (vl (l.drop i) : Nat),.int .i64 ((i : Int) - 1)] /\ i <= l.length /\ H' = H1,fun vals _ => (intOf (vals.getD 1 undef) + 1).toNat,⟨l.length,?_,Nat.le_refl _,rfl⟩,?_⟩)
 ·rw [List.drop_of_length_le (Nat.le_refl _)]
  simp only [rxs,iv,e1]
  rfl
 rintro vals H2 - ⟨i,rfl,hi,rfl⟩
 simp only [cA,nA]
 refine den_rq ⟨_,rfl⟩ (den_br (b := decide ((i : Int) - 1 ≥ 0)) rfl (fun hi2 => ?_) (fun hi2 => ?_))
 ·have hi2 := of_decide_eq_true hi2
  obtain ⟨j,rfl⟩ : ∃ j,i = j + 1 := ⟨i - 1,by omega⟩
  have ej : ((j + 1 : Nat) : Int) - 1 = (j : Int) := by omega
  rw [ej]
  have e2 : IntKind.i64.wrap ((j : Int) - 1) = (j : Int) - 1 := wfit (by omega) (by omega)
  have hs := vl_drop_at (l := l) (k := j) (by omega)
  have hb := vl_drop_le l j (by omega)
  have e3 : IntKind.u64.wrap (IntKind.u64.wrap (((vl (l.drop (j + 1)) : Nat) : Int) * 4294967296) + IntKind.u64.wrap ((l.getD j 0 : Nat) : Int)) = ((vl (l.drop j) : Nat) : Int) := by
   rw [IntKind.wrap_u64,IntKind.wrap_u64,IntKind.wrap_u64,hs]; omega
  refine den_rq ⟨_,rfl⟩ (den_at (k := .i64) (j := j) op_rInteger_7_5 op_rInteger_7_6 rfl rfl (fun _ => rfl) (hd.mono l1) (by omega) rfl (fun _ => rfl) fun p => den_rq ⟨_,rfl⟩ ⟨⟨j,?_,by omega,rfl⟩,?_⟩)
  ·simp only [rxs,iv,e2,e3]
  ·simp only [rxs,iv,e2]
   omega
 ·have hi2 := of_decide_eq_false hi2
  have hi0 : i = 0 := by omega
  subst hi0
  rw [List.drop_zero,hv]
  refine ⟨fun vals H' => vals = [.int .u64 (z % 18446744073709551616)] /\ H' = H2,?_,?_⟩
  ·refine den_rq ⟨_,rfl⟩ (den_br (b := decide (z < 0)) rfl (fun h3 => ?_) (fun h3 => ?_))
   ·have h3 := of_decide_eq_true h3
    have e4 : IntKind.u64.wrap (0 - ((z.natAbs : Nat) : Int)) = z % 18446744073709551616 := by rw [IntKind.wrap_u64]; omega
    refine den_rq ⟨_,rfl⟩ ⟨?_,rfl⟩
    simp only [rxs,unV,e4]
   ·have h3 := of_decide_eq_false h3
    refine ⟨?_,rfl⟩
    show [Value.int .u64 ((z.natAbs : Nat) : Int)] = _
    congr 2
    omega
  rintro vals H3 - ⟨rfl,rfl⟩
  have e5 : IntKind.i64.wrap (z % 18446744073709551616) = z := by rw [IntKind.wrap_i64]; omega
  refine den_rq ⟨_,rfl⟩ (den_ret ?_ ⟨l1,rfl⟩)
  simp only [List.cons_append,List.nil_append,rxs,retV,e5]
theorem con_rInt (a : Nat) : Con Tryz.prog 16 [wd a] H fun u H' => PH.le H H' /\ u = told64 (toI a) := by
 refine con_of_tree mixed tr_rInt np_rInt rfl (den_rq ⟨words_size a,words_one a⟩ (den_call (con_rIn a) rfl ?_))
 rintro u1 H1 ⟨l1,hu⟩
 refine ⟨fun h => (nomatch h),den_call (con_rInteger hu (lm_toI a)) rfl ?_⟩
 rintro u2 H2 ⟨l2,rfl⟩
 obtain ⟨n,e,ht⟩ : ∃ n e : Int,told64 (toI a) = .tuple #[.int .i64 n,.int .i64 e] := by
  unfold told64; split
  ·exact ⟨_,_,rfl⟩
  ·exact ⟨_,_,rfl⟩
 rw [ht]
 exact ⟨fun h => (nomatch h),den_rq ⟨_,rfl,Nat.zero_lt_succ _⟩ (den_rq ⟨_,rfl,Nat.lt_succ_self _⟩ (den_ret rfl ⟨l1.trans l2,rfl⟩))⟩
end
end Go.Proofs.YtkcjbfoejpfbbaaGreatDoor


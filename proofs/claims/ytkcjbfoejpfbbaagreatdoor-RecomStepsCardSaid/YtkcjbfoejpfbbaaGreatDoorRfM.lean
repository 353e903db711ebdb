/- The reference of chapter 01: numbers with a sign. -/
import Derived.Test.YtkcjbfoejpfbbaaGreatDoorRfF
import Derived.Test.YtkcjbfoejpfbbaaGreatDoorWdR
import Derived.Test.YtkcjbfoejpfbbaaGreatDoorWdT
import Derived.Laws.Small
namespace Go.Proofs.YtkcjbfoejpfbbaaGreatDoor
open Go.Proofs.Tryz
open Go.RowKit Go.RX Go.WD
theorem Lg.rq {H:PH} {v:Value} {z:Int} (h:Lg H v z):v.cells.size=2/\a0J v.cells:=by
 obtain⟨w,rfl,hw⟩:=h
 refine⟨rfl,fun c hc=> ?_⟩
 have h1:=hw.one.2.2
 rw[hw.one.1]at h1
 rw[show(Value.agg #[.bool (decide (z<0)),w]).cells= #[.bool (decide (z<0)),w]from rfl]at hc
 simp only[List.mem_cons,List.not_mem_nil,or_false]at hc
 rcases hc with h2|h2
 ·rw[h2];rfl
 ·rw[h2];exact h1 w (by simp)
def Lm (z:Int):Prop:=z.natAbs<BP 10000
theorem d4u (z:Int):sn (!decide (z<0)) z.natAbs= -z:=by
 unfold sn;by_cases h:z<0<;>simp[h]<;>omega
theorem d1y (z:Int):sn (decide (z<0)) z.natAbs=z:=by
 unfold sn;by_cases h:z<0<;>simp[h]<;>omega
section
variable {H:PH} {v x y:Value} {z p q:Int}
theorem c2b (h:Lg H v z):Con prog 222 [v] H fun u H'=>H'=H/\Lg H u (-z):=by
 have hrq:=h.rq
 obtain⟨w,rfl,l,hd,ht,hv⟩:=h
 refine a0r a0n c6Y (by kernel_rfl) rfl (a0c hrq (a0c ⟨_,rfl⟩ (a0f (a1H (!decide (z<0)) hd) rfl ?_)))
 rintro u H' ⟨rfl,hu⟩
 rw[hv,d4u]at hu
 have hr:=hu.rq
 obtain⟨w',rfl,hw'⟩:=hu
 exact⟨fun h=>(nomatch h),a0c hr (a0b rfl ⟨rfl,w',rfl,hw'⟩)⟩
theorem c7b (h:(decide (p<0)==decide (q<0))=true):sn (decide (p<0)) (p.natAbs+q.natAbs)=p+q:=by
 unfold sn
 by_cases h1:p<0<;>by_cases h2:q<0<;>simp[h1,h2]at h⊢<;>omega
theorem b4U (h:(decide (p<0)==decide (q<0))=false) (hl:q.natAbs<=p.natAbs):sn (decide (p<0)) (p.natAbs-q.natAbs)=p+q:=by
 unfold sn
 by_cases h1:p<0<;>by_cases h2:q<0<;>simp[h1,h2]at h⊢<;>omega
theorem a7m (hx:Lg H x p) (hy:Lg H y q) (hp:Lm p) (hq:Lm q):Con prog 190 [x,y] H fun u H'=>PH.le H H'/\Lg H' u (p+q):=by
 have r1:=hx.rq
 have r2:=hy.rq
 obtain⟨wx,rfl,a,da,ta,va⟩:=hx
 obtain⟨wy,rfl,b,db,tb,vb⟩:=hy
 have la:a.length<=10000:=ta _ (by rw[va];exact hp)
 have lb:b.length<=10000:=tb _ (by rw[vb];exact hq)
 refine a0r a0n c6Z (by kernel_rfl) rfl (a0c r1 (a0c r2 (a0c ⟨_,rfl⟩ (a0c ⟨_,rfl⟩ (a0e (b:=(decide (p<0)==decide (q<0))) ?_ (fun h=> ?_) (fun h=> ?_))))))
 ·show Value.bool (false !=(decide (p<0)==decide (q<0)))=_
  rw[Bool.false_bne]
 ·refine a0f (c1Z da db (by omega) (by omega)) rfl ?_
  rintro u H1 ⟨hl1,l,hd,_,hv⟩
  refine⟨fun _=>hl1,a0f (a1H (decide (p<0)) hd) rfl ?_⟩
  rintro u2 H2 ⟨rfl,hu⟩
  rw[hv,va,vb,c7b h]at hu
  have hr:=hu.rq
  obtain⟨w',rfl,hw'⟩:=hu
  exact⟨fun _=>PH.le.refl _,a0c hr (a0b rfl ⟨hl1,w',rfl,hw'⟩)⟩
 ·refine a0f (a8x da db ta tb) rfl ?_
  rintro c H1 ⟨rfl,c,rfl,hc1,hc2⟩
  rw[va,vb]at hc1 hc2
  refine⟨fun h=>(nomatch h),a0c ⟨_,rfl⟩ (a0e (b:=decide (c≥0)) rfl (fun hc=> ?_) (fun hc=> ?_))⟩
  ·have hc:=of_decide_eq_true hc
   refine a0f (a4T da db (by omega) (Tm.len_le tb da.2 (by omega)) (by omega)) rfl ?_
   rintro u H2 ⟨hl1,l,hd,_,hv⟩
   refine⟨fun _=>hl1,a0f (a1H (decide (p<0)) hd) rfl ?_⟩
   rintro u2 H3 ⟨rfl,hu⟩
   rw[hv,va,vb,b4U h (by omega)]at hu
   have hr:=hu.rq
   obtain⟨w',rfl,hw'⟩:=hu
   exact⟨fun _=>PH.le.refl _,a0c hr (a0b rfl ⟨hl1,w',rfl,hw'⟩)⟩
  ·have hc:=of_decide_eq_false hc
   refine a0f (a4T db da (by omega) (Tm.len_le ta db.2 (by omega)) (by omega)) rfl ?_
   rintro u H2 ⟨hl1,l,hd,_,hv⟩
   refine⟨fun _=>hl1,a0f (a1H (decide (q<0)) hd) rfl ?_⟩
   rintro u2 H3 ⟨rfl,hu⟩
   rw[hv,va,vb,b4U (by rw[<-h];exact Bool.beq_comm) (by omega),Int.add_comm]at hu
   have hr:=hu.rq
   obtain⟨w',rfl,hw'⟩:=hu
   exact⟨fun _=>PH.le.refl _,a0c hr (a0b rfl ⟨hl1,w',rfl,hw'⟩)⟩
theorem a8y (hx:Lg H x p) (hy:Lg H y q) (hp:Lm p) (hq:Lm q):Con prog 182 [x,y] H fun u H'=>PH.le H H'/\Lg H' u (p-q):=by
 have r1:=hx.rq
 have r2:=hy.rq
 have hq':Lm (-q):=by unfold Lm at hq⊢;rw[Int.natAbs_neg];exact hq
 have hx':=hx
 have hy':=hy
 obtain⟨wx,rfl,a,da,ta,va⟩:=hx
 obtain⟨wy,rfl,b,db,tb,vb⟩:=hy
 refine a0r a0n c1T (by kernel_rfl) rfl (a0c r1 (a0c r2 (a0f (c2b hy') rfl ?_)))
 rintro u H1 ⟨rfl,hu⟩
 refine⟨fun _=>PH.le.refl _,a0f (a7m hx' hu hp hq') rfl ?_⟩
 rintro u2 H2 ⟨hl,hu2⟩
 rw[<-Int.sub_eq_add_neg]at hu2
 have hr:=hu2.rq
 obtain⟨w',rfl,hw'⟩:=hu2
 exact⟨fun _=>hl,a0c hr (a0b rfl ⟨hl,w',rfl,hw'⟩)⟩
theorem d4v:sn (true !=(decide (p<0)==decide (q<0))) (p.natAbs*q.natAbs)=p*q:=by
 obtain⟨a,ha⟩:=Int.eq_nat_or_neg p
 obtain⟨b,hb⟩:=Int.eq_nat_or_neg q
 have hab:(((a*b:Nat):Int))=(a:Int)*b:=Int.natCast_mul a b
 have hz:a=0\/b=0->(a:Int)*b=0:=by rintro(h|h)<;>rw[h]<;>simp
 unfold sn
 rcases ha with ha|ha<;>rcases hb with hb|hb<;>subst ha<;>subst hb
 ·simp[show ¬(a:Int)<0 by omega,show ¬(b:Int)<0 by omega]
 ·rw[Int.natAbs_neg,Int.natAbs_natCast,Int.natAbs_natCast,hab,Int.mul_neg]
  by_cases h:b=0
  ·rw[hz (.inr h)];simp
  ·rw[decide_eq_false (show ¬(a:Int)<0 by omega),decide_eq_true (show -(b:Int)<0 by omega)];rfl
 ·rw[Int.natAbs_neg,Int.natAbs_natCast,Int.natAbs_natCast,hab,Int.neg_mul]
  by_cases h:a=0
  ·rw[hz (.inl h)];simp
  ·rw[decide_eq_false (show ¬(b:Int)<0 by omega),decide_eq_true (show -(a:Int)<0 by omega)];rfl
 ·rw[Int.natAbs_neg,Int.natAbs_natCast,Int.natAbs_neg,Int.natAbs_natCast,hab,Int.neg_mul_neg]
  by_cases h:a=0\/b=0
  ·rw[hz h];simp
  ·rw[decide_eq_true (show -(a:Int)<0 by omega),decide_eq_true (show -(b:Int)<0 by omega)];rfl
theorem a8z (hx:Lg H x p) (hy:Lg H y q) (hp:Lm p) (hq:Lm q):Con prog 139 [x,y] H fun u H'=>PH.le H H'/\Lg H' u (p*q):=by
 have r1:=hx.rq
 have r2:=hy.rq
 obtain⟨wx,rfl,a,da,ta,va⟩:=hx
 obtain⟨wy,rfl,b,db,tb,vb⟩:=hy
 have la:a.length<=10000:=ta _ (by rw[va];exact hp)
 have lb:b.length<=10000:=tb _ (by rw[vb];exact hq)
 refine a0r a0n c1U (by kernel_rfl) rfl (a0c r1 (a0c r2 (a0c ⟨_,rfl⟩ (a0c ⟨_,rfl⟩ (a0f (b1J da db (by omega) (by omega)) rfl ?_)))))
 rintro u H1 ⟨hl1,l,hd,_,hv⟩
 refine⟨fun _=>hl1,a0f (a1H (true !=(decide (p<0)==decide (q<0))) hd) rfl ?_⟩
 rintro u2 H2 ⟨rfl,hu⟩
 rw[hv,va,vb,d4v]at hu
 have hr:=hu.rq
 obtain⟨w',rfl,hw'⟩:=hu
 exact⟨fun _=>PH.le.refl _,a0c hr (a0b rfl ⟨hl1,w',rfl,hw'⟩)⟩
theorem b6E (hx:Lg H x p) (hy:Lg H y q) (hp:Lm p) (hq:Lm q):Con prog 119 [x,y] H fun u H'=>PH.le H H'/\u= .int .i64 (sgI p q):=by
 have r1:=hx.rq
 have r2:=hy.rq
 have hx':=hx
 have hy':=hy
 obtain⟨wx,rfl,a,da,ta,va⟩:=hx
 obtain⟨wy,rfl,b,db,tb,vb⟩:=hy
 refine a0r a0n c1W (by kernel_rfl) rfl (a0c r1 (a0c r2 (a0f (a8y hx' hy' hp hq) rfl ?_)))
 rintro u H1 ⟨hl,hu⟩
 have hr:=hu.rq
 obtain⟨w,rfl,l,hd,ht,hv⟩:=hu
 refine⟨fun h=>(nomatch h),a0c hr (a0c ⟨_,rfl⟩ (a0e (b:=decide (p-q<0)) rfl (fun h=> ?_) (fun h=> ?_)))⟩
 ·have h:=of_decide_eq_true h
  refine a0b rfl ⟨hl,?_⟩
  unfold sgI;rw[if_pos (by omega)];rfl
 ·have h:=of_decide_eq_false h
  have hpos:=ht.pos
  rw[hv]at hpos
  refine a1f rfl rfl hd rfl (a0c ⟨_,rfl⟩ (a0e (b:=decide ((l.length:Int)>0)) rfl (fun h2=> ?_) (fun h2=> ?_)))
  ·have h2:=of_decide_eq_true h2
   refine a0b rfl ⟨hl,?_⟩
   unfold sgI;rw[if_neg (by omega),if_neg (by omega)];rfl
  ·have h2:=of_decide_eq_false h2
   refine a0b rfl ⟨hl,?_⟩
   unfold sgI;rw[if_neg (by omega),if_pos (by omega)];rfl
end
open Go.RowKit Go.RX Go.WD
section
variable {H:PH} {v x y:Value} {z p q:Int}
theorem d8y (n:Int) (h0: -9223372036854775808<=n) (h1:n<0):IntKind.u64.wrap (0-IntKind.u64.wrap n)=(n.natAbs:Nat):=by
 rw[IntKind.wrap_u64,IntKind.wrap_u64];omega
theorem d8z (n:Int) (h0:0<=n) (h1:n<9223372036854775808):IntKind.u64.wrap n=(n.natAbs:Nat):=by
 rw[IntKind.wrap_u64];omega
set_option maxRecDepth 100000 in
theorem a2p (n:Int) (h0: -9223372036854775808<=n) (h1:n<9223372036854775808):Con prog 63 [.int .i64 n] H fun u H'=>PH.le H H'/\Lg H' u n:=by
 refine a0r a0n c1P (by kernel_rfl) rfl (a0c ⟨_,rfl⟩ ⟨fun vs H'=>H'=H/\vs=[.int .u64 (n.natAbs:Nat)],a0e (b:=decide (n<0)) rfl (fun h=>⟨rfl,?_⟩) (fun h=>⟨rfl,?_⟩),?_⟩)
 ·have h:=of_decide_eq_true h
  simp only[rxs]
  simp only[unV,d8y n h0 h]
 ·have h:=of_decide_eq_false h
  simp only[rxs]
  rw[d8z n (by omega) h1]
 ·rintro vs H'-⟨rfl,rfl⟩
  simp only[cA,nA]
  have e1:IntKind.i64.wrap ((n.natAbs%4294967296:Nat):Int)=((n.natAbs%4294967296:Nat):Int):=wn (by omega)
  have e2:IntKind.i64.wrap (IntKind.u64.wrap ((n.natAbs/4294967296:Nat):Int))=((n.natAbs/4294967296:Nat):Int):=by rw[wu (by omega),wn (by omega)]
  refine a0c ⟨_,rfl⟩ (a8v (d:=n.natAbs%4294967296) (e:=n.natAbs/4294967296) rfl rfl rfl (by omega) (by omega) (by simp only[rxs,iv,c1X,c1Y,e1,e2]) fun u H1 hl1 hd=>a0f (a1H (decide (n<0)) hd.ds) rfl ?_)
  rintro u2 H2 ⟨rfl,hu⟩
  have e3:vl [n.natAbs%4294967296,n.natAbs/4294967296]=n.natAbs:=by simp only[vl];omega
  rw[e3,d1y]at hu
  have hr:=hu.rq
  obtain⟨w',rfl,hw'⟩:=hu
  exact⟨fun h=>(nomatch h),a0c hr (a0b rfl ⟨hl1,w',rfl,hw'⟩)⟩
theorem c7c (n d:Nat):vl ((List.replicate (n+1) 0).set n d)=BP n*d:=by
 have:=b4Q (l:=List.replicate (n+1) 0) (k:=n) d (by simp)
 rw[a9R,a9P]at this
 omega
set_option maxRecDepth 100000 in
theorem d1z (a:Nat):Con prog 61 [wd a] H fun u H'=>PH.le H H'/\Lg H' u (toI a):=by
 have hM:=Nat.mod_lt a d6r
 have hHM:=d8s
 refine a0r a0n d4n (by kernel_rfl) rfl (a0c ⟨a8j a,b1e a⟩ (a0f (b3h a) rfl ?_))
 rintro u H1 ⟨hl1,l,hd,hll,hv⟩
 refine⟨fun h=>(nomatch h),a0c ⟨(dig a 7:Nat),rfl⟩ (a0e (b:=decide (((dig a 7:Nat):Int)<9223372036854775808)) rfl (fun h=> ?_) (fun h=> ?_))⟩
 ·have h:dig a 7<9223372036854775808:=by have:=of_decide_eq_true h;omega
  rw[b8R]at h
  refine a0f (a1H false hd) rfl ?_
  rintro u2 H2 ⟨rfl,hu⟩
  have e:sn false (vl l)=toI a:=by rw[hv];unfold toI sn;rw[if_pos h];rfl
  rw[e]at hu
  have hr:=hu.rq
  obtain⟨w',rfl,hw'⟩:=hu
  exact⟨fun h=>(nomatch h),a0c hr (a0b rfl ⟨hl1,w',rfl,hw'⟩)⟩
 ·have h:¬dig a 7<9223372036854775808:=by have:=of_decide_eq_false h;omega
  rw[b8R]at h
  simp only[cA,nA]
  refine a9U (kl:= .i64) (kc:= .i64) (m:=17) rfl rfl rfl (by omega) rfl fun wh H2 hl2 h2=> ?_
  refine a9T (k:= .i64) (j:=16) (d:=1) rfl rfl rfl rfl (fun _=>rfl) (fun _=>rfl) hl2 h2 (by simp) (by omega) rfl (fun _=>rfl) rfl fun p3 u3 H3 hl3 h3 _=> ?_
  refine a0f (a3T (hd.mono hl3)) rfl ?_
  rintro u4 H4 ⟨rfl,l4,hd4,ht4,hv4⟩
  refine⟨fun h=>(nomatch h),?_⟩
  have hw:vl ((List.replicate 17 0).set 16 1)=M:=by rw[c7c 16 1,Nat.mul_one,d8x]
  refine a0f (a4T h3.ds hd4 (by omega) (ht4.len_le h3.2 (by omega)) (by simp)) rfl ?_
  rintro u5 H5 ⟨hl5,l5,hd5,ht5,hv5⟩
  refine⟨fun h=>(nomatch h),?_⟩
  refine a0f (a1H true hd5) rfl ?_
  rintro u6 H6 ⟨rfl,hu⟩
  have e:sn true (vl l5)=toI a:=by
   rw[hv5,hw,hv4,hv];unfold toI sn;rw[if_neg h,if_pos rfl];omega
  rw[e]at hu
  have hr:=hu.rq
  obtain⟨w',rfl,hw'⟩:=hu
  exact⟨fun h=>(nomatch h),a0c hr (a0b rfl ⟨hl1.trans (hl3.trans hl5),w',rfl,hw'⟩)⟩
end
end Go.Proofs.YtkcjbfoejpfbbaaGreatDoor
/- The reference of chapter 01: Parts, Divisor, and what the chapter says. -/
namespace Go.Proofs.YtkcjbfoejpfbbaaGreatDoor
open Go.Proofs.Tryz
open Go.RowKit Go.RX Go.WD
theorem d4w:a0O prog 4= .bool false:=by kernel_rfl
open Classical in
section
variable {H:PH} {v x y:Value} {z p q:Int}
theorem d4x {w:Value} {n:Nat} (h:Nu H w n):Lg H (.agg #[.bool false,w]) (n:Int):=
 ⟨w,by rw[decide_eq_false (by omega)],by rw[Int.natAbs_natCast];exact h⟩
theorem d1A {w:Value} {n:Nat} (h:Nu H w n):Value.agg ((Value.bool false).cells++w.cells)= .agg #[.bool false,w]:=by
 rw[h.one.1];rfl
theorem Lm.nat {n:Nat} (h:n<BP 10000):Lm (n:Int):=by unfold Lm;rw[Int.natAbs_natCast];exact h
theorem c9e:Lm 1:=by
 unfold Lm
 have:=BP_lt_iff.2 (show 0<10000 by omega)
 rw[a7i]at this
 exact this
set_option maxRecDepth 100000 in
theorem b6F (hx:Lg H x p) (hy:Lg H y q) (hp:Lm p) (hq:Lm q) (hq0:q≠0):Con prog 137 [x,y] H fun u H'=>PH.le H H'/\∃a b,u= .tuple #[a,b]/\Lg H' a (p/q)/\Lg H' b (p%q):=by
 have r1:=hx.rq
 have r2:=hy.rq
 obtain⟨wx,rfl,a,da,ta,va⟩:=hx
 obtain⟨wy,rfl,b,db,tb,vb⟩:=hy
 unfold Lm at hp hq
 have la:a.length<=10000:=ta _ (by rw[va];exact hp)
 have lb:b.length<=10000:=tb _ (by rw[vb];exact hq)
 have hb0:0<vl b:=by rw[vb];omega
 have hR:p.natAbs%q.natAbs<q.natAbs:=Nat.mod_lt _ (by omega)
 have hQ:p.natAbs/q.natAbs<=p.natAbs:=Nat.div_le_self _ _
 obtain⟨s1,s2⟩:=b8Z p q (p.natAbs/q.natAbs) (p.natAbs%q.natAbs) hq0 hR (by rw[Nat.mul_comm];exact(Nat.div_add_mod _ _).symm)
 generalize hQd:p.natAbs/q.natAbs=Q at*
 generalize hRd:p.natAbs%q.natAbs=R at*
 refine a0r a0n c1V (by kernel_rfl) rfl (a0c r1 (a0c r2 (a0f (b6D da db ta tb hb0 (by omega) (by omega)) rfl ?_)))
 rintro u H1 ⟨hl1,uq,ur,rfl,hq1,hr1⟩
 rw[va,vb,hQd]at hq1
 rw[va,vb,hRd]at hr1
 obtain⟨lq,dq,tq,vq⟩:=hq1
 obtain⟨lr,dr,tr,vr⟩:=hr1
 refine⟨fun h=>(nomatch h),a0c ⟨_,rfl,Nat.zero_lt_succ _⟩ (a0c ⟨_,rfl,Nat.lt_succ_self _⟩ (a0c ⟨_,rfl⟩ (a0c ⟨_,rfl⟩ (a0f (a1H (true !=(decide (p<0)==decide (q<0))) dq) rfl ?_))))⟩
 rintro u3 H2 ⟨rfl,hu3⟩
 rw[vq]at hu3
 refine⟨fun _=>PH.le.refl _,a0f (a1H (decide (p<0)) dr) rfl ?_⟩
 rintro u4 H3 ⟨rfl,hu4⟩
 rw[vr]at hu4
 have hr3:=hu3.rq
 have hr4:=hu4.rq
 have hu3':=hu3
 have hu4':=hu4
 obtain⟨w3,rfl,n3⟩:=hu3
 obtain⟨w4,rfl,n4⟩:=hu4
 refine⟨fun _=>PH.le.refl _,a0c hr3 (a0c hr4 (a0c ⟨_,rfl⟩ (a0e rfl (fun h=> ?_) (fun h=> ?_))))⟩
 ·have h:=of_decide_eq_true h
  have hp0:p<0:=by
   rcases Int.lt_or_le p 0 with h1|h1
   ·exact h1
   ·exfalso;unfold sn at h;rw[decide_eq_false (show ¬p<0 by omega)]at h;simp only[Bool.false_eq_true,if_false]at h;omega
  have hR0:R≠0:=by
   intro h0;rw[h0]at h;unfold sn at h;split at h<;>omega
  have eR:sn (decide (p<0)) R= -(R:Int):=by unfold sn;rw[decide_eq_true hp0];rfl
  simp only[hp0,hR0,decide_true,decide_false,Bool.not_false,Bool.and_true,if_true]at s1 s2
  have nb:Nu H3 wy q.natAbs:=⟨b,db.mono hl1,tb,vb⟩
  have hplus:=a7m hu4' (d4x nb) (by unfold Lm;rw[eR,Int.natAbs_neg,Int.natAbs_natCast];omega) (Lm.nat hq)
  refine a0c nb.one.2 (a0f hplus ?_ ?_)
  ·simp only[List.map_cons,List.map_nil]
   congr 2
   show Value.agg ((a0O prog 4).cells++wy.cells)=_
   rw[d4w];exact d1A nb
  rintro u5 H4 ⟨hl4,hu5⟩
  have e5:sn (decide (p<0)) R+(q.natAbs:Int)=p%q:=by rw[s2,eR];omega
  rw[e5]at hu5
  have hr5:=hu5.rq
  obtain⟨w5,rfl,n5⟩:=hu5
  refine⟨fun h=>(nomatch h),a0c hr5 (a0e rfl (fun h2=> ?_) (fun h2=> ?_))⟩
  ·have h2:=of_decide_eq_true h2
   have eQ:sn (true !=(decide (p<0)==decide (q<0))) Q=(Q:Int):=by unfold sn;rw[decide_eq_true hp0,decide_eq_true h2];rfl
   refine a0f (a2p 1 (by omega) (by omega)) rfl ?_
   rintro u6 H5 ⟨hl5,hu6⟩
   refine⟨fun _=>hl5,a0f (a7m (hu3'.mono (hl4.trans hl5)) hu6 (by rw[eQ];exact Lm.nat (by omega)) c9e) rfl ?_⟩
   rintro u7 H6 ⟨hl6,hu7⟩
   have e7:sn (true !=(decide (p<0)==decide (q<0))) Q+1=p/q:=by
    rw[s1,eQ];simp[h2]
   rw[e7]at hu7
   have hr7:=hu7.rq
   obtain⟨w7,rfl,n7⟩:=hu7
   exact⟨fun _=>hl6,a0c hr7 (a0b rfl ⟨hl1.trans (hl4.trans (hl5.trans hl6)),_,_,rfl,⟨w7,rfl,n7⟩,w5,rfl,n5.mono (hl5.trans hl6)⟩)⟩
  ·have h2:=of_decide_eq_false h2
   have eQ:sn (true !=(decide (p<0)==decide (q<0))) Q= -(Q:Int):=by unfold sn;rw[decide_eq_true hp0,decide_eq_false h2];rfl
   refine a0f (a2p 1 (by omega) (by omega)) rfl ?_
   rintro u6 H5 ⟨hl5,hu6⟩
   refine⟨fun _=>hl5,a0f (a8y (hu3'.mono (hl4.trans hl5)) hu6 (by rw[eQ];unfold Lm;rw[Int.natAbs_neg,Int.natAbs_natCast];omega) c9e) rfl ?_⟩
   rintro u7 H6 ⟨hl6,hu7⟩
   have e7:sn (true !=(decide (p<0)==decide (q<0))) Q-1=p/q:=by
    rw[s1,eQ];simp[h2];omega
   rw[e7]at hu7
   have hr7:=hu7.rq
   obtain⟨w7,rfl,n7⟩:=hu7
   exact⟨fun _=>hl6,a0c hr7 (a0b rfl ⟨hl1.trans (hl4.trans (hl5.trans hl6)),_,_,rfl,⟨w7,rfl,n7⟩,w5,rfl,n5.mono (hl5.trans hl6)⟩)⟩
 ·have h:=of_decide_eq_false h
  have hc:(decide (p<0)&& !decide (R=0))=false:=by
   by_cases h1:p<0
   ·by_cases h2:R=0
    ·simp[h2]
    ·exfalso;apply h;unfold sn;rw[decide_eq_true h1];simp;omega
   ·simp[h1]
  rw[hc]at s1 s2
  simp only[Bool.false_eq_true,if_false]at s1 s2
  have e3:sn (true !=(decide (p<0)==decide (q<0))) Q=p/q:=by
   rw[s1];unfold sn
   by_cases h1:p<0<;>by_cases h2:q<0<;>simp[h1,h2]
  have e4:sn (decide (p<0)) R=p%q:=by
   rw[s2];unfold sn
   by_cases h1:p<0
   ·simp[h1]at hc⊢;omega
   ·simp[h1]
  rw[e3]at n3
  rw[e4]at n4
  refine a0b rfl ⟨hl1,_,_,rfl,⟨w3,?_,n3⟩,w4,?_,n4⟩
  ·rw[<-e3];rfl
  ·rw[<-e4];rfl
end
end Go.Proofs.YtkcjbfoejpfbbaaGreatDoor
/- The reference of chapter 01: powers, drafts. -/
namespace Go.Proofs.YtkcjbfoejpfbbaaGreatDoor
open Go.Proofs.Tryz
open Go.RowKit Go.RX Go.WD
theorem d4y (k:Nat):BP k=2^(32*k):=by unfold BP;rfl
theorem b4V {k:Nat} (h:k<=600):Lm ((2:Int)^k):=by
 unfold Lm
 rw[Int.natAbs_pow]
 show 2^k<BP 10000
 obtain⟨m,hm⟩:∃m,m=20:=⟨20,rfl⟩
 have h1:2^k<=BP m:=by rw[d4y];exact Nat.pow_le_pow_right (by omega) (by omega)
 have:=BP_lt_iff.2 (show m<10000 by omega)
 omega
section
variable {H:PH} {v x y:Value} {z p q:Int}
theorem b3i (n:Nat) (hn:n<=600) (hx:Lg H x 2):Con prog 138 [x,.int .i64 (n:Nat)] H fun u H'=>PH.le H H'/\Lg H' u ((2:Int)^n):=by
 have r1:=hx.rq
 have hx':=hx
 obtain⟨wx,rfl,nx⟩:=hx
 refine a0r a0n b6z (by kernel_rfl) rfl (a0c r1 (a0f (a2p 1 (by omega) (by omega)) rfl ?_))
 rintro u H1 ⟨hl1,hu⟩
 refine⟨fun h=>(nomatch h),a0c hu.rq ⟨fun vals H'=>∃(i:Nat) (o:Value),vals=[iv i,o]/\i<=n/\PH.le H H'/\Lg H' o ((2:Int)^i),fun vals _=>(n-intOf (vals.getD 0 undef)).toNat,⟨0,u,rfl,by omega,hl1,by rw[Int.pow_zero];exact hu⟩,?_⟩⟩
 rintro vals H'-⟨i,o,rfl,hi,hle,ho⟩
 simp only[cA,nA]
 have ho':=ho
 obtain⟨wo,rfl,no⟩:=ho
 refine a0c ⟨_,rfl⟩ (a0c ⟨_,rfl⟩ (a0e (b:=decide ((i:Int)<n)) rfl (fun h=> ?_) (fun h=> ?_)))
 ·have h:i<n:=by have:=of_decide_eq_true h;omega
  have e1:IntKind.i64.wrap ((i:Int)+1)=((i+1:Nat):Int):=b3g (by omega)
  refine a0f (a8z ho' (hx'.mono hle) (b4V (by omega)) (b4V (k:=1) (by omega))) rfl ?_
  rintro u2 H2 ⟨hl2,hu2⟩
  rw[<-Int.pow_succ]at hu2
  refine⟨fun h=>(nomatch h),a0c hu2.rq ⟨⟨i+1,u2,?_,by omega,hle.trans hl2,hu2⟩,?_⟩⟩
  ·simp only[rxs,iv,e1]
  ·simp only[rxs,iv,e1]
   omega
 ·have h:i=n:=by have:=of_decide_eq_false h;omega
  subst h
  exact a0b rfl ⟨hle,wo,rfl,no⟩
end
end Go.Proofs.YtkcjbfoejpfbbaaGreatDoor
/- The reference of chapter 01: Pow, Floor, Root, Integer, Int. -/
namespace Go.Proofs.YtkcjbfoejpfbbaaGreatDoor
open Go.Proofs.Tryz
open Go.RowKit Go.RX Go.WD
section
variable {H:PH} {v x y:Value} {z p q:Int}
theorem d4z {p q:Int}:sgI p q<0↔p<q:=by unfold sgI;split<;>(try split)<;>omega
end
end Go.Proofs.YtkcjbfoejpfbbaaGreatDoor

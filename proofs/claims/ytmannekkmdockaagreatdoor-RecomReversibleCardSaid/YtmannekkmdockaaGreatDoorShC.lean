/- Package share: fractions in memory. -/
import Derived.Test.YtmannekkmdockaaGreatDoorShA
import Derived.Test.YtmannekkmdockaaGreatDoorRfC
namespace Go.Proofs.YtmannekkmdockaaGreatDoor
open Go.Proofs.Tryz
open Go.RowKit Go.RX Go.WD
def shv (n d:Nat):Value:= .agg (words n++words d)
theorem a0E (a b:Nat):(words a++words b).size=16/\a0t (words a++words b):=by
 refine⟨by rw[Array.size_append,words_size,words_size],fun c hc=> ?_⟩
 rw[Array.toList_append,List.mem_append]at hc
 rcases hc with h|h
 ·exact words_one a c h
 ·exact words_one b c h
theorem c9G (a b:Nat):(words a++words b).extract 0 8=words a:=by
 apply Array.ext'
 simp[words_size,List.take_of_length_le]
theorem c9H (a b:Nat):(words a++words b).extract 8 16=words b:=by
 apply Array.ext'
 simp[words_size,List.take_of_length_le]
theorem d7x (a b:Nat):Value.agg ((words a++words b).extract 0 8)=wd a:=by rw[c9G];rfl
theorem d7y (a b:Nat):Value.agg ((words a++words b).extract 8 16)=wd b:=by rw[c9H];rfl
def Lp (H:PH) (v:Value) (p q:Int):Prop:=∃w1 w2,v= .agg #[.bool (decide (p<0)),w1,.bool (decide (q<0)),w2]/\Mu H w1 p.natAbs/\Mu H w2 q.natAbs
theorem Lp.mono {H H':PH} {v:Value} {p q:Int} (h:Lp H v p q) (hl:PH.le H H'):Lp H' v p q:=by
 obtain⟨w1,w2,h1,h2,h3⟩:=h;exact⟨w1,w2,h1,h2.mono hl,h3.mono hl⟩
theorem Lp.rq {H:PH} {v:Value} {p q:Int} (h:Lp H v p q):v.cells.size=4/\a0t v.cells:=by
 obtain⟨w1,w2,rfl,h1,h2⟩:=h;exact d7w h1 h2
theorem Lp.rp {H:PH} {v:Value} {p q:Int} {r:Rat} (h:Lp H v p q) (hp:r.num=p) (hq:(r.den:Int)=q):Rp H v r:=by
 obtain⟨w1,w2,rfl,h1,h2⟩:=h
 refine⟨w1,w2,?_,by rw[hp];exact h1,?_⟩
 ·rw[hp,decide_eq_false (show ¬q<0 by omega)]
 ·rw[show r.den=q.natAbs from by omega];exact h2
def a3x (r:Rat):Value:=if(-(HM:Int)<=r.num/\r.num<HM)/\(r.den:Int)<HM then .tuple #[shv (rs r.num) (rs (r.den:Int)),.int .i64 0]else .tuple #[shv 0 0,.int .i64 6]
theorem a4U:Value.agg ((a0I prog 56).cells++(a0I prog 56).cells)=shv 0 0:=by rw[a6J];rfl
section
variable {H:PH} {x y:Value} {p q:Int} {r s:Rat} {j k:Nat}
set_option maxRecDepth 100000 in
theorem a3h (n d:Nat):Con prog 78 [shv n d] H fun u H'=>PH.le H H'/\Lp H' u (toI n) (toI d):=by
 refine a0b mixed c4Z (by kernel_rfl) rfl (a0a (a0E n d) (a0d (a1W n) (congrArg (fun z=>[z]) (d7x n d)) ?_))
 rintro u1 H1 ⟨l1,hu1⟩
 simp only[cA,nA]
 refine⟨fun _=>l1,a0d (a1W d) (congrArg (fun z=>[z]) (d7y n d)) ?_⟩
 rintro u2 H2 ⟨l2,hu2⟩
 have r1:=hu1.rq
 have r2:=hu2.rq
 obtain⟨w1,rfl,n1⟩:=hu1
 obtain⟨w2,rfl,n2⟩:=hu2
 refine⟨fun _=>l2,a0a r1 (a0a r2 (a0c rfl ⟨l1.trans l2,w1,w2,?_,n1.mono l2,n2⟩))⟩
 show Value.agg (spl ((#[Value.bool (decide (toI n<0)),w1]:Array Value)++(a0I prog 116).cells) 2 [.bool (decide (toI d<0)),w2])=_
 rw[c7K];rfl
theorem a6a (hx:Lw H x p):Con prog 101 [x] H fun u H'=>PH.le H H'/\Rp H' u (p:Rat):=by
 have r0:=hx.rq
 obtain⟨w,rfl,n0⟩:=hx
 refine a0b mixed b9Z (by kernel_rfl) rfl (a0a r0 (a0d (a2c 1 (by omega) (by omega)) rfl ?_))
 rintro u1 H1 ⟨l1,hu1⟩
 have r1:=hu1.rq
 obtain⟨w1,rfl,n1⟩:=hu1
 exact⟨fun _=>l1,a0a r1 (a0c rfl ⟨l1,w,w1,rfl,n0.mono l1,n1⟩)⟩
set_option maxRecDepth 100000 in
theorem a2u (hx:Rp H x r):Con prog 52 [x] H fun u H'=>PH.le H H'/\u=a3x r:=by
 have r0:=hx.rq
 obtain⟨w1,w2,rfl,n1,n2⟩:=hx
 have hL1:Lw H (.agg #[.bool (decide (r.num<0)),w1]) r.num:=⟨w1,rfl,n1⟩
 refine a0b mixed c0a (by kernel_rfl) rfl (a0a r0 (a0d (a5m hL1) rfl ?_))
 rintro u1 H1 ⟨l1,rfl⟩
 have hL2:=Lw.den (n2.mono l1)
 have hd0:0<=(r.den:Int):=by omega
 have hHM:=a9u
 unfold a3x
 by_cases f1: -(HM:Int)<=r.num/\r.num<HM
 ·rw[b2u f1]
  simp only[cA,nA]
  refine⟨fun h=>(nomatch h),a0a ⟨_,rfl,Nat.zero_lt_succ _⟩ (a0a ⟨_,rfl,Nat.lt_succ_self _⟩ (a0a ⟨words_size _,words_one _⟩ (a0d (a5m hL2) rfl ?_)))⟩
  rintro u2 H2 ⟨l2,rfl⟩
  by_cases f2:(r.den:Int)<HM
  ·rw[b2u (show -(HM:Int)<=(r.den:Int)/\(r.den:Int)<HM by omega),if_pos ⟨f1,f2⟩]
   simp only[cA,nA]
   refine⟨fun h=>(nomatch h),a0a ⟨_,rfl,Nat.zero_lt_succ _⟩ (a0a ⟨_,rfl,Nat.lt_succ_self _⟩ (a0a ⟨words_size _,words_one _⟩ ⟨fun vals H'=>vals=[.bool false]/\H'=H2,a0a ⟨_,rfl⟩ (a0j rfl (a0a ⟨_,rfl⟩ ⟨rfl,rfl⟩)),?_⟩))⟩
   rintro vals H3-⟨rfl,rfl⟩
   exact a0a ⟨_,rfl⟩ (a0j rfl (a0c rfl ⟨l1.trans l2,rfl⟩))
  ·rw[b0M (show ¬(-(HM:Int)<=(r.den:Int)/\(r.den:Int)<HM) by omega),if_neg (fun h=>f2 h.2)]
   simp only[cA,nA]
   refine⟨fun h=>(nomatch h),a0a ⟨_,rfl,Nat.zero_lt_succ _⟩ (a0a ⟨_,rfl,Nat.lt_succ_self _⟩ (a0a ⟨words_size _,words_one _⟩ ⟨fun vals H'=>vals=[.bool true]/\H'=H2,a0a ⟨_,rfl⟩ (a0j rfl (a0a ⟨_,rfl⟩ ⟨rfl,rfl⟩)),?_⟩))⟩
   rintro vals H3-⟨rfl,rfl⟩
   exact a0a ⟨_,rfl⟩ (a1p rfl (a0c (congrArg (fun z=>Value.tuple #[z,.int .i64 6]) a4U) ⟨l1.trans l2,rfl⟩))
 ·rw[b0M f1,if_neg (fun h=>f1 h.1)]
  simp only[cA,nA]
  refine⟨fun h=>(nomatch h),a0a ⟨_,rfl,Nat.zero_lt_succ _⟩ (a0a ⟨_,rfl,Nat.lt_succ_self _⟩ (a0a ⟨words_size _,words_one _⟩ (a0d (a5m hL2) rfl ?_)))⟩
  rintro u2 H2 ⟨l2,rfl⟩
  obtain⟨m,e,ht⟩:=a5k (r.den:Int)
  rw[ht]
  simp only[cA,nA]
  refine⟨fun h=>(nomatch h),a0a ⟨_,rfl,Nat.zero_lt_succ _⟩ (a0a ⟨_,rfl,Nat.lt_succ_self _⟩ (a0a ⟨words_size _,words_one _⟩ ⟨fun vals H'=>vals=[.bool true]/\H'=H2,a0a ⟨_,rfl⟩ (a1p rfl ⟨rfl,rfl⟩),?_⟩))⟩
  rintro vals H3-⟨rfl,rfl⟩
  exact a0a ⟨_,rfl⟩ (a1p rfl (a0c (congrArg (fun z=>Value.tuple #[z,.int .i64 6]) a4U) ⟨l1.trans l2,rfl⟩))
theorem Rp.out {v:Value} (h:Rp H v r):∃w1 w2,v= .agg #[.bool (decide (r.num<0)),w1,.bool false,w2]/\Lw H (.agg #[.bool (decide (r.num<0)),w1]) r.num/\Lw H (.agg #[.bool false,w2]) (r.den:Int):=by
 obtain⟨w1,w2,rfl,n1,n2⟩:=h
 exact⟨w1,w2,rfl,⟨w1,rfl,n1⟩,Lw.den n2⟩
theorem d4c (r s:Rat):(r.den:Int)*s.den≠0:=Int.mul_ne_zero (by have:=r.den_nz;omega) (by have:=s.den_nz;omega)
theorem b3t {k:Nat} (h:r.den<2^k):((r.den:Nat):Int).natAbs<2^k:=by rw[a4S];exact h
theorem a9D (hx:Rp H x r) (hy:Rp H y s) (hr:Rb j r) (hs:Rb k s) (hjk:j+k+1<=320000):Con prog 77 [x,y] H fun u H'=>PH.le H H'/\Rp H' u (r+s):=by
 have r1:=hx.rq
 have r2:=hy.rq
 obtain⟨w1,w2,rfl,a1,a2⟩:=hx.out
 obtain⟨w3,w4,rfl,b1,b2⟩:=hy.out
 have m1:=a4T hr.1 (b3t hs.2)
 have m2:=a4T hs.1 (b3t hr.2)
 have m3:=a4T (b3t hr.2) (b3t hs.2)
 rw[Nat.add_comm k j]at m2
 have m4:=Lm.add2 m1 m2 (m:=j+k+1) (Nat.le_refl _) (Nat.le_refl _)
 refine a0b mixed c0b (by kernel_rfl) rfl (a0a r1 (a0a r2 (a0d (a1y a1 b2 (Lm.two hr.1 (by omega)) (Lm.two (b3t hs.2) (by omega))) rfl ?_)))
 rintro u1 H1 ⟨l1,hu1⟩
 simp only[cA,nA]
 refine⟨fun _=>l1,a0d (a1y (b1.mono l1) (a2.mono l1) (Lm.two hs.1 (by omega)) (Lm.two (b3t hr.2) (by omega))) rfl ?_⟩
 rintro u2 H2 ⟨l2,hu2⟩
 simp only[cA,nA]
 refine⟨fun _=>l2,a0d (a3V (hu1.mono l2) hu2 (Lm.two m1 (by omega)) (Lm.two m2 (by omega))) rfl ?_⟩
 rintro u3 H3 ⟨l3,hu3⟩
 simp only[cA,nA]
 refine⟨fun _=>l3,a0d (a1y (a2.mono (l1.trans (l2.trans l3))) (b2.mono (l1.trans (l2.trans l3))) (Lm.two (b3t hr.2) (by omega)) (Lm.two (b3t hs.2) (by omega))) rfl ?_⟩
 rintro u4 H4 ⟨l4,hu4⟩
 simp only[cA,nA]
 refine⟨fun _=>l4,a0d (a3w (hu3.mono l4) hu4 (Lm.two m4 hjk) (Lm.two m3 (by omega)) (d4c r s)) rfl ?_⟩
 rintro u5 H5 ⟨l5,hu5⟩
 rw[c0g]at hu5
 have r5:=hu5.rq
 obtain⟨w5,w6,rfl,n5⟩:=hu5
 exact⟨fun _=>l5,a0a r5 (a0c rfl ⟨l1.trans (l2.trans (l3.trans (l4.trans l5))),w5,w6,rfl,n5⟩)⟩
theorem a4V (hx:Rp H x r) (hy:Rp H y s) (hr:Rb j r) (hs:Rb k s) (hjk:j+k<=320000):Con prog 82 [x,y] H fun u H'=>PH.le H H'/\Rp H' u (r*s):=by
 have r1:=hx.rq
 have r2:=hy.rq
 obtain⟨w1,w2,rfl,a1,a2⟩:=hx.out
 obtain⟨w3,w4,rfl,b1,b2⟩:=hy.out
 have m1:=a4T hr.1 hs.1
 have m3:=a4T (b3t hr.2) (b3t hs.2)
 refine a0b mixed b7M (by kernel_rfl) rfl (a0a r1 (a0a r2 (a0d (a1y a1 b1 (Lm.two hr.1 (by omega)) (Lm.two hs.1 (by omega))) rfl ?_)))
 rintro u1 H1 ⟨l1,hu1⟩
 simp only[cA,nA]
 refine⟨fun _=>l1,a0d (a1y (a2.mono l1) (b2.mono l1) (Lm.two (b3t hr.2) (by omega)) (Lm.two (b3t hs.2) (by omega))) rfl ?_⟩
 rintro u2 H2 ⟨l2,hu2⟩
 simp only[cA,nA]
 refine⟨fun _=>l2,a0d (a3w (hu1.mono l2) hu2 (Lm.two m1 hjk) (Lm.two m3 (by omega)) (d4c r s)) rfl ?_⟩
 rintro u5 H5 ⟨l5,hu5⟩
 rw[c0h]at hu5
 have r5:=hu5.rq
 obtain⟨w5,w6,rfl,n5⟩:=hu5
 exact⟨fun _=>l5,a0a r5 (a0c rfl ⟨l1.trans (l2.trans l5),w5,w6,rfl,n5⟩)⟩
theorem b7O (hx:Rp H x r) (hy:Rp H y s) (hr:Rb j r) (hs:Rb k s) (hjk:j+k<=320000) (h0:s≠0):Con prog 147 [x,y] H fun u H'=>PH.le H H'/\Rp H' u (r/s):=by
 have r1:=hx.rq
 have r2:=hy.rq
 obtain⟨w1,w2,rfl,a1,a2⟩:=hx.out
 obtain⟨w3,w4,rfl,b1,b2⟩:=hy.out
 have m1:=a4T hr.1 (b3t hs.2)
 have m3:=a4T (b3t hr.2) hs.1
 refine a0b mixed c0c (by kernel_rfl) rfl (a0a r1 (a0a r2 (a0d (a1y a1 b2 (Lm.two hr.1 (by omega)) (Lm.two (b3t hs.2) (by omega))) rfl ?_)))
 rintro u1 H1 ⟨l1,hu1⟩
 simp only[cA,nA]
 refine⟨fun _=>l1,a0d (a1y (a2.mono l1) (b1.mono l1) (Lm.two (b3t hr.2) (by omega)) (Lm.two hs.1 (by omega))) rfl ?_⟩
 rintro u2 H2 ⟨l2,hu2⟩
 simp only[cA,nA]
 refine⟨fun _=>l2,a0d (a3w (hu1.mono l2) hu2 (Lm.two m1 hjk) (Lm.two m3 (by omega)) (Int.mul_ne_zero (by have:=r.den_nz;omega) (fun e=>h0 (Rat.num_eq_zero.1 e)))) rfl ?_⟩
 rintro u5 H5 ⟨l5,hu5⟩
 rw[c9D]at hu5
 have r5:=hu5.rq
 obtain⟨w5,w6,rfl,n5⟩:=hu5
 exact⟨fun _=>l5,a0a r5 (a0c rfl ⟨l1.trans (l2.trans l5),w5,w6,rfl,n5⟩)⟩
theorem b2y (hx:Rp H x r):Con prog 148 [x] H fun u H'=>PH.le H H'/\Rp H' u (-r):=by
 have r1:=hx.rq
 obtain⟨w1,w2,rfl,a1,a2⟩:=hx.out
 refine a0b mixed b3Z (by kernel_rfl) rfl (a0a r1 (a0d (a3v a1) rfl ?_))
 rintro u1 H1 ⟨rfl,hu1⟩
 have r5:=hu1.rq
 obtain⟨w5,rfl,n5⟩:=hu1
 obtain⟨w6,e6,n6⟩:=a2
 refine⟨fun _=>PH.le.refl _,a0a r5 (a0c rfl ⟨PH.le.refl _,w5,w2,?_,?_,?_⟩)⟩
 ·show Value.agg (spl ((#[Value.bool (decide (-r.num<0)),w5]:Array Value)++(a0I prog 116).cells) 2 [.bool false,w2])=_
  rw[c7K];rfl
 ·rw[Rat.neg_num];exact n5
 ·rw[Rat.neg_den]
  simp only[Value.agg.injEq,Array.mk.injEq,List.cons.injEq,and_true]at e6
  rw[e6.2]
  exact n6
theorem b4a (hx:Rp H x r) (hy:Rp H y s) (hr:Rb j r) (hs:Rb k s) (hjk:j+k+1<=320000):Con prog 90 [x,y] H fun u H'=>PH.le H H'/\Rp H' u (r-s):=by
 have r1:=hx.rq
 have r2:=hy.rq
 have hx':=hx
 have hy':=hy
 obtain⟨w1,w2,rfl,_⟩:=hx
 obtain⟨w3,w4,rfl,_⟩:=hy
 refine a0b mixed b7L (by kernel_rfl) rfl (a0a r1 (a0a r2 (a0d (b2y hy') rfl ?_)))
 rintro u1 H1 ⟨l1,hu1⟩
 simp only[cA,nA]
 refine⟨fun _=>l1,a0d (a9D (hx'.mono l1) hu1 hr hs.neg hjk) rfl ?_⟩
 rintro u5 H5 ⟨l5,hu5⟩
 rw[<-Rat.sub_eq_add_neg]at hu5
 have r5:=hu5.rq
 obtain⟨w5,w6,rfl,n5⟩:=hu5
 exact⟨fun _=>l5,a0a r5 (a0c rfl ⟨l1.trans l5,w5,w6,rfl,n5⟩)⟩
end
end Go.Proofs.YtmannekkmdockaaGreatDoor
/- Package share: contracts. Printed by mkShC.py. -/
namespace Go.WD
open Go.RX
def okB (n d:Nat):Bool:=decide (0<toI d)&&decide (Nat.gcd (toI n).natAbs (toI d).natAbs=1)
def okP (p:Nat×Nat):Bool:=okB p.1 p.2
def a2T (n d:Nat):Rat:=Rat.divInt (toI n) (toI d)
theorem a3W {n d:Nat} (h:okB n d=true):(a2T n d).num=toI n/\((a2T n d).den:Int)=toI d:=by
 unfold okB at h
 rw[Bool.and_eq_true,decide_eq_true_iff,decide_eq_true_iff]at h
 have h0:toI d≠0:=by omega
 have h1:=b0N (toI n) h0
 have h2:=b0O (toI n) h0
 simp only[h.2,Int.natCast_one,Int.ediv_one]at h1 h2
 rw[if_neg (by omega)]at h1 h2
 exact⟨h1,h2⟩
theorem c0j (z:Int):sgI z 0<=0↔z<=0:=by
 unfold sgI
 by_cases h1:z<0
 ·rw[if_pos h1];omega
 ·rw[if_neg h1]
  by_cases h2:z=0
  ·rw[if_pos h2];omega
  ·rw[if_neg h2];omega
theorem c5e (y z:Int):(sgI y z !=0)= !decide (y=z):=by
 unfold sgI
 by_cases h1:y<z
 ·rw[if_pos h1,decide_eq_false (by omega)];rfl
 ·rw[if_neg h1]
  by_cases h2:y=z
  ·rw[if_pos h2,decide_eq_true h2];rfl
  ·rw[if_neg h2,decide_eq_false h2];rfl
end Go.WD
namespace Go.Proofs.YtmannekkmdockaaGreatDoor
open Go.Proofs.Tryz
open Go.RowKit Go.RX Go.WD
theorem c5f {n d K:Nat} (h:okB n d=true) (hK:K=512):Rb K (a2T n d):=by
 obtain⟨h1,h2⟩:=a3W h
 have e:M=2^K:=by
  rw[a3t,a9x]
  congr 1
  omega
 have a1:=a2t n
 have a2:=a2t d
 unfold Rb
 rw[h1,<-e]
 exact⟨a1,by omega⟩
theorem c9I {b:Bool} (h:(!b)=true):b=false:=by cases b<;>simp_all
theorem c9J {b:Bool} (h:(!b)=false):b=true:=by cases b<;>simp_all
def shf (p:Nat×Nat):List Value:=(words p.1).toList++(words p.2).toList
def shp (p:Nat×Nat):Value:=shv p.1 p.2
theorem a8a (p:Nat×Nat):(shf p).length=16:=rfl
theorem c7L:∀(ps:List (Nat×Nat)) (i:Nat),i<ps.length->((ps.flatMap shf).drop (i*16)).take 16=shf (ps.getD i (0,0))
 |[],i,h=>by simp at h
 |p::ps,0,_=>by
  rw[List.flatMap_cons,Nat.zero_mul,List.drop_zero,List.take_append_of_le_length (by rw[a8a];omega),List.take_of_length_le (by rw[a8a];omega)];rfl
 |p::ps,i+1,h=>by
  have hab:=c7L ps i (by simpa using h)
  rw[List.flatMap_cons,Nat.add_mul,Nat.one_mul,List.drop_append,a8a,List.drop_of_length_le (by rw[a8a];omega),List.nil_append,show i*16+16-16=i*16 from by omega,hab]
  rfl
theorem b0Q:∀(ps:List (Nat×Nat)),(ps.flatMap shf).length=ps.length*16
 |[]=>rfl
 |p::ps=>by rw[List.flatMap_cons,List.length_append,a8a,b0Q ps,List.length_cons];omega
theorem c5g (ps:List (Nat×Nat)):((ps.map shp).flatMap fun v=>v.cells.toList)=ps.flatMap shf:=by
 rw[List.flatMap_map]
 congr 1
def Shs (H:PH) (v:Value) (ps:List (Nat×Nat)):Prop:=Sl H 16 v ps.length (ps.flatMap shf)
theorem Shs.mono {H H':PH} {v:Value} {ps:List (Nat×Nat)} (h:Shs H v ps) (hl:PH.le H H'):Shs H' v ps:=Sl.mono h hl
theorem b7P:∃i z,prog.info? 58=some i/\i.zero=some z/\i.size=16/\z.cells.size=16/\i.bytes=128:=by
 refine⟨(prog.info? 58).getD default,(((prog.info? 58).getD default).zero).getD default,by kernel_rfl,by kernel_rfl,by kernel_rfl,by kernel_rfl,by kernel_rfl⟩
theorem a6b:prog.underlying 49=some (.slice 58):=by kernel_rfl
section
variable {G:Value->PH->Prop} {nx:List (List Value->PH->Prop)} {ρ:List Value} {H H0:PH} {o o1 o2:Oper} {x y x2 y2:Operand} {id i id2 i2:Nat} {args args2:List SV} {t:Tree} {v:Value} {ps:List (Nat×Nat)}
theorem a8b (ho:o.op= .call ⟨.builtin .len,#[x],#[49]⟩) (hx:a0f [x] [v] x=v) (h:Shs H v ps) (ha:args.map (D prog ρ)=[v]) (k:den prog G t nx (ρ++[iv ps.length]) H):den prog G (.prim id i o args t) nx ρ H:=
 a0g ((b9r ho hx a6b h).rds H) ha k
theorem b5C {k:IntKind} {j:Nat} (ho1:o1.op= .indexAddr 49 x y) (ho2:o2.op= .load 58 x2) (hx:a0f [x,y] [v,.int k (j:Nat)] x=v) (hy:a0f [x,y] [v,.int k (j:Nat)] y= .int k (j:Nat)) (hx2:∀p,a0f [x2] [p] x2=p) (h:Shs H v ps) (hj:j<ps.length)
  (ha:args.map (D prog ρ)=[v,.int k (j:Nat)]) (ha2:∀p,args2.map (D prog (ρ++[p]))=[p]) (c:∀p,den prog G t nx (ρ++[p]++[shp (ps.getD j (0,0))]) H):den prog G (.prim id i o1 args (.prim id2 i2 o2 args2 t)) nx ρ H:=by
 obtain⟨b,q,cs,T',fz,h1,h2,h3,h4⟩:=c8P (P:=prog) (e:=58) (sz:=16) ho1 hx hy a6b (by kernel_rfl) (by kernel_rfl) (by omega) h hj
 rw[c7L ps j hj]at h4
 have hl:=b5d (P:=prog) (H:=H) ho2 (hx2 _) h2 (by kernel_rfl) (by kernel_rfl) (by kernel_rfl) h3 h4
 rw[show(shf (ps.getD j (0,0))).toArray=words (ps.getD j (0,0)).1++words (ps.getD j (0,0)).2 from by apply Array.ext';simp[shf]]at hl
 exact a0g (h1.rds H) ha (a0g hl (ha2 _) (c _))
theorem a8c {pb:Bool} {parts:Array (Nat×Operand)} {vs:List Value} (ps:List (Nat×Nat)) (ho:o.op= .buildSlice 49 ps.length parts) (hps:0<ps.length) (hp2:ps.length<=1000) (hpar:(parts.toList.map fun p=>(p.1,a0f (parts.toList.map (·.2)) vs p.2))=(ps.map shp).zipIdx.map fun p=>(p.2,p.1)) (ha:args.map (D prog ρ)=vs)
  (n:∀v H',PH.le H H'->Shs H' v ps->den prog G t nx (ρ++[v]) H'):den prog G (.eff pb id i o args t) nx ρ H:=by
 obtain⟨ti,z,i1,i2,i3,i4,i5⟩:=b7P
 refine a0l (vs:=vs) (b0A (cells:=(ps.flatMap shf).toArray) ho a6b i1 i2 (by rw[i3];omega) (by rw[i3];omega) ?_) ha ?_
 ·rw[i3,hpar]
  have:=Go.Great.fill_whole (s:=16) (by omega) (ps.map shp) (Array.map (fun x=>z.cells[x%z.cells.size]!) (Array.range (ps.length*16))) (fun v hv=>by
   obtain⟨p,_,rfl⟩:=List.mem_map.1 hv
   exact(a0E p.1 p.2).1) (by simp)
  rw[c5g]at this
  exact this
 ·rintro v H' ⟨g,hg,rfl,rfl⟩
  refine⟨fun _=>PH.le_put hg _,n _ _ (PH.le_put hg _) ⟨b0Q ps,_,ps.length,rfl,Nat.le_refl _,by simp only[maxLen];omega,.inr ⟨g,0,_,_,_,rfl,PH.put_self _ _ _,?_⟩⟩⟩
  rw[List.drop_zero,List.toList_toArray,List.take_of_length_le (by rw[b0Q];exact Nat.le_refl _)]
end
section
variable {H:PH} {x y v:Value} {r s:Rat} {n d m e:Nat}
set_option maxRecDepth 100000 in
theorem b7Q (n d:Nat):Con prog 134 [shv n d] H fun u H'=>PH.le H H'/\u= .int .i64 (if okB n d then 0 else 20):=by
 refine a0b mixed c0d (by kernel_rfl) rfl (a0a (a0E n d) (a0d (a2c 1 (by omega) (by omega)) rfl ?_))
 rintro u1 H1 ⟨l1,hu1⟩
 have r1:=hu1.rq
 have hu1':=hu1
 obtain⟨w1,rfl,_⟩:=hu1
 simp only[cA,nA]
 refine⟨fun h=>(nomatch h),a0a r1 (a0d (a3h n d) rfl ?_)⟩
 rintro u2 H2 ⟨l2,hu2⟩
 have r2:=hu2.rq
 obtain⟨w2,w3,rfl,n2,n3⟩:=hu2
 have hL2:Lw H2 (.agg #[.bool (decide (toI n<0)),w2]) (toI n):=⟨w2,rfl,n2⟩
 have hL3:Lw H2 (.agg #[.bool (decide (toI d<0)),w3]) (toI d):=⟨w3,rfl,n3⟩
 have lmn:=b5u n
 have lmd:=b5u d
 simp only[cA,nA]
 refine⟨fun h=>(nomatch h),a0a r2 ⟨fun vals H'=>vals=[.bool (!okB n d)]/\PH.le H2 H',a0d (a3g hL3) rfl ?_,?_⟩⟩
 ·rintro u3 H3 ⟨rfl,rfl⟩
  simp only[cA,nA]
  refine⟨fun _=>PH.le.refl _,a0a ⟨_,rfl⟩ (a0e (b:=decide (sgI (toI d) 0<=0)) rfl (fun h=> ?_) (fun h=> ?_))⟩
  ·have h:=(c0j _).1 (of_decide_eq_true h)
   refine⟨?_,PH.le.refl _⟩
   show[Value.bool true]=_
   unfold okB
   rw[decide_eq_false (show ¬0<toI d by omega)];rfl
  ·have h:¬toI d<=0:=fun e=>of_decide_eq_false h ((c0j _).2 e)
   refine a0d (a7Y hL2 hL3 lmn lmd) rfl ?_
   rintro u4 H4 ⟨l4,hu4⟩
   simp only[cA,nA]
   have hgm:Lm ((Nat.gcd (toI n).natAbs (toI d).natAbs:Nat):Int):=by
    unfold Lm at lmd⊢
    rw[Int.natAbs_natCast]
    exact Nat.lt_of_le_of_lt (Nat.gcd_le_right _ (by omega)) lmd
   refine⟨fun _=>l4,a0d (c4X hu4 (hu1'.mono (l2.trans l4)) hgm b9S) rfl ?_⟩
   rintro u5 H5 ⟨l5,rfl⟩
   simp only[cA,nA]
   refine⟨fun _=>l5,a0a ⟨_,rfl⟩ ⟨?_,l4.trans l5⟩⟩
   show[Value.bool (sgI ((Nat.gcd (toI n).natAbs (toI d).natAbs:Nat):Int) 1 !=0)]=_
   rw[c5e]
   unfold okB
   rw[decide_eq_true (show 0<toI d by omega),Bool.true_and]
   congr 3
   rw[decide_eq_decide];omega
 rintro vals H6-⟨rfl,l6⟩
 simp only[cA,nA]
 refine a0a ⟨_,rfl⟩ (a0e rfl (fun h=> ?_) (fun h=> ?_))
 ·have h:okB n d=false:=by simpa using h
  exact a0c rfl ⟨l1.trans (l2.trans l6),by rw[h];rfl⟩
 ·have h:okB n d=true:=by simpa using h
  exact a0c rfl ⟨l1.trans (l2.trans l6),by rw[h];rfl⟩
theorem b4b (n d:Nat):Con prog 133 [shv n d] H fun u H'=>PH.le H H'/\u= .bool (okB n d):=by
 refine a0b mixed b7N (by kernel_rfl) rfl (a0a (a0E n d) (a0d (b7Q n d) rfl ?_))
 rintro u1 H1 ⟨l1,rfl⟩
 refine⟨fun h=>(nomatch h),a0a ⟨_,rfl⟩ (a0c rfl ⟨l1,?_⟩)⟩
 show Value.bool ((if okB n d then(0:Int)else 20)==0)=_
 cases okB n d<;>rfl
theorem b4c:a4B prog 133=true:=by kernel_rfl
set_option maxRecDepth 100000 in
theorem c5h {ps:List (Nat×Nat)} (h:Shs H v ps):Con prog 135 [.func (.func 133) #[] #[],v] H fun u H'=>PH.le H H'/\u= .bool (ps.all okP):=by
 have hlen:=h.len_le
 simp only[maxLen]at hlen
 refine a0b mixed c9A (by kernel_rfl) rfl (a8b rfl rfl h rfl ⟨fun vals H'=>∃i:Nat,vals=[.bool false,iv i]/\i<=ps.length/\PH.le H H'/\(ps.take i).all okP=true,fun vals _=>(ps.length-intOf (vals.getD 1 undef)).toNat,⟨0,rfl,by omega,PH.le.refl _,rfl⟩,?_⟩)
 rintro vals H1-⟨i,rfl,hi,l1,hall⟩
 simp only[cA,nA]
 refine a0a ⟨_,rfl⟩ (a0a ⟨_,rfl⟩ (a0e (b:=decide ((i:Int)<ps.length)) rfl (fun hb=> ?_) (fun hb=> ?_)))
 ·have hb:i<ps.length:=by have:=of_decide_eq_true hb;omega
  have e1:IntKind.i64.wrap ((i:Int)+1)=((i+1:Nat):Int):=a8Z (by omega)
  refine b5C (k:= .i64) (j:=i) rfl rfl rfl rfl (fun _=>rfl) (h.mono l1) hb rfl (fun _=>rfl) fun p=> ?_
  simp only[cA,nA]
  obtain⟨a,ha⟩:∃a,a=ps.getD i (0,0):=⟨_,rfl⟩
  have hmem:a∈ps:=by rw[ha,List.getD_eq_getElem?_getD,List.getElem?_eq_getElem hb];exact List.getElem_mem hb
  rw[<-ha]
  refine a0a (a0E a.1 a.2) (a0l (a1O (f:=133) (caps:= #[]) (vs:=[shv a.1 a.2]) rfl rfl rfl b4c (b4b a.1 a.2)) rfl ?_)
  rintro u2 H2 ⟨l2,rfl⟩
  simp only[cA,nA]
  refine⟨fun h=>(nomatch h),a0a ⟨_,rfl⟩ (a0e (b:= !okB a.1 a.2) rfl (fun h2=> ?_) (fun h2=> ?_))⟩
  ·have h2:okB a.1 a.2=false:=by simpa using h2
   refine a0c rfl ⟨l1.trans l2,?_⟩
   show Value.bool false=_
   congr 1
   symm
   rw[List.all_eq_false]
   exact⟨a,hmem,by show ¬okB a.1 a.2=true;rw[h2];simp⟩
  ·have h2:okB a.1 a.2=true:=by simpa using h2
   refine⟨⟨i+1,?_,by omega,l1.trans l2,?_⟩,?_⟩
   ·simp only[rxs,iv,e1]
   ·rw[List.take_add_one,List.all_append,hall,List.getElem?_eq_getElem hb]
    have:ps[i]=a:=by rw[ha,List.getD_eq_getElem?_getD,List.getElem?_eq_getElem hb];rfl
    rw[this]
    show(true&&(okB a.1 a.2&&true))=true
    rw[h2];rfl
   ·simp only[rxs,iv,e1]
    omega
 ·have hb:i=ps.length:=by have:=of_decide_eq_false hb;omega
  rw[List.take_of_length_le (by omega)]at hall
  exact a0c rfl ⟨l1,by rw[hall];rfl⟩
theorem a6c {ps:List (Nat×Nat)} (h:Shs H v ps):Con prog 76 [v] H fun u H'=>PH.le H H'/\u= .bool (ps.all okP):=by
 refine a0b mixed c0e (by kernel_rfl) rfl (a0d (c5h h) rfl ?_)
 rintro u1 H1 ⟨l1,rfl⟩
 exact⟨fun h=>(nomatch h),a0c rfl ⟨l1,rfl⟩⟩
theorem d7z (n d m e:Nat):[(n,d),(m,e)].all okP=(okB n d&&okB m e):=by show(okB n d&&(okB m e&&true))=_;rw[Bool.and_true]
theorem z_ratio:(a0I prog 118).cells.size=4/\a0t (a0I prog 118).cells:=by
 have:a0I prog 118= .agg #[.bool false,.slice none 0 0,.bool false,.slice none 0 0]:=by kernel_rfl
 rw[this]
 refine⟨rfl,fun c hc=> ?_⟩
 rw[a1v]at hc
 simp only[List.mem_cons,List.not_mem_nil,or_false]at hc
 rcases hc with h|h|h|h<;>rw[h]<;>rfl
set_option maxRecDepth 100000 in
theorem c0k {f:FuncId} (hent:a4B prog f=true) (n d m e:Nat) (t:Rat) (hf:okB n d=true->okB m e=true->∀H x y,Rp H x (a2T n d)->Rp H y (a2T m e)->Con prog f [x,y] H fun u H'=>PH.le H H'/\Rp H' u t):
  Con prog 81 [shv n d,shv m e,.func (.func f) #[] #[]] H fun u H'=>PH.le H H'/\(((okB n d&&okB m e)=true/\∃v,u= .tuple #[v,.int .i64 0]/\Rp H' v t)\/((okB n d&&okB m e)=false/\∃v,u= .tuple #[v,.int .i64 20]/\v.cells.size=4/\a0t v.cells)):=by
 refine a0b mixed c5b (by kernel_rfl) rfl (a0a (a0E n d) (a0a (a0E m e) (a8c (vs:=[shv n d,shv m e]) [(n,d),(m,e)] rfl (by simp) (by simp) rfl rfl fun v1 H1 l1 hv1=> ?_)))
 simp only[cA,nA]
 refine a0d (a6c hv1) rfl ?_
 rintro u2 H2 ⟨l2,rfl⟩
 rw[d7z]
 simp only[cA,nA]
 refine⟨fun h=>(nomatch h),a0a ⟨_,rfl⟩ (a0e (b:= !(okB n d&&okB m e)) rfl (fun h=> ?_) (fun h=> ?_))⟩
 ·have h:=c9I h
  exact a0c rfl ⟨l1.trans l2,.inr ⟨h,_,rfl,z_ratio.1,z_ratio.2⟩⟩
 ·have h:=c9J h
  have h':=h
  rw[Bool.and_eq_true]at h'
  refine a0d (a3h n d) rfl ?_
  rintro u3 H3 ⟨l3,hu3⟩
  simp only[cA,nA]
  refine⟨fun _=>l3,a0d (a3h m e) rfl ?_⟩
  rintro u4 H4 ⟨l4,hu4⟩
  simp only[cA,nA]
  have hx:=(hu3.mono l4).rp (a3W h'.1).1 (a3W h'.1).2
  have hy:=hu4.rp (a3W h'.2).1 (a3W h'.2).2
  refine⟨fun _=>l4,a0l (a1O (f:=f) (caps:= #[]) (vs:=[u3,u4]) rfl rfl rfl hent (hf h'.1 h'.2 H4 u3 u4 hx hy)) rfl ?_⟩
  rintro u5 H5 ⟨l5,hu5⟩
  have r5:=hu5.rq
  obtain⟨w5,w6,rfl,n5⟩:=hu5
  exact⟨fun _=>l5,a0a r5 (a0c rfl ⟨l1.trans (l2.trans (l3.trans (l4.trans l5))),.inl ⟨h,_,rfl,w5,w6,rfl,n5⟩⟩)⟩
set_option maxRecDepth 100000 in
theorem c0l {f:FuncId} (hent:a4B prog f=true) (n d m e:Nat) (t:Int) (hf:okB n d=true->okB m e=true->∀H x y,Rp H x (a2T n d)->Rp H y (a2T m e)->Con prog f [x,y] H fun u H'=>PH.le H H'/\u= .int .i64 t):
  Con prog 65 [shv n d,shv m e,.func (.func f) #[] #[]] H fun u H'=>PH.le H H'/\(((okB n d&&okB m e)=true/\∃v,u= .tuple #[v,.int .i64 0]/\v= .int .i64 t)\/((okB n d&&okB m e)=false/\∃v,u= .tuple #[v,.int .i64 20]/\v= .int .i64 0)):=by
 refine a0b mixed c5a (by kernel_rfl) rfl (a0a (a0E n d) (a0a (a0E m e) (a8c (vs:=[shv n d,shv m e]) [(n,d),(m,e)] rfl (by simp) (by simp) rfl rfl fun v1 H1 l1 hv1=> ?_)))
 simp only[cA,nA]
 refine a0d (a6c hv1) rfl ?_
 rintro u2 H2 ⟨l2,rfl⟩
 rw[d7z]
 simp only[cA,nA]
 refine⟨fun h=>(nomatch h),a0a ⟨_,rfl⟩ (a0e (b:= !(okB n d&&okB m e)) rfl (fun h=> ?_) (fun h=> ?_))⟩
 ·have h:=c9I h
  exact a0c rfl ⟨l1.trans l2,.inr ⟨h,_,rfl,rfl⟩⟩
 ·have h:=c9J h
  have h':=h
  rw[Bool.and_eq_true]at h'
  refine a0d (a3h n d) rfl ?_
  rintro u3 H3 ⟨l3,hu3⟩
  simp only[cA,nA]
  refine⟨fun _=>l3,a0d (a3h m e) rfl ?_⟩
  rintro u4 H4 ⟨l4,hu4⟩
  simp only[cA,nA]
  have hx:=(hu3.mono l4).rp (a3W h'.1).1 (a3W h'.1).2
  have hy:=hu4.rp (a3W h'.2).1 (a3W h'.2).2
  refine⟨fun _=>l4,a0l (a1O (f:=f) (caps:= #[]) (vs:=[u3,u4]) rfl rfl rfl hent (hf h'.1 h'.2 H4 u3 u4 hx hy)) rfl ?_⟩
  rintro u5 H5 ⟨l5,hu5⟩
  subst hu5
  exact⟨fun _=>l5,a0c rfl ⟨l1.trans (l2.trans (l3.trans (l4.trans l5))),.inl ⟨h,_,rfl,rfl⟩⟩⟩
theorem a3i (r:Rat):∃(n d:Nat) (e:Int),a3x r= .tuple #[shv n d,.int .i64 e]:=by
 unfold a3x;split
 ·exact⟨_,_,0,rfl⟩
 ·exact⟨0,0,6,rfl⟩
def d7A (ok:Bool) (r:Rat):Value:=if ok then a3x r else .tuple #[shv 0 0,.int .i64 20]
theorem b7R (hx:Rp H x r):Con prog 80 [x,.int .i64 0] H fun u H'=>PH.le H H'/\u=a3x r:=by
 have r1:=hx.rq
 have hx':=hx
 obtain⟨w1,w2,rfl,_⟩:=hx
 refine a0b mixed b5A (by kernel_rfl) rfl (a0a r1 (a0a ⟨_,rfl⟩ (a0j rfl (a0d (a2u hx') rfl ?_))))
 rintro u1 H1 ⟨l1,rfl⟩
 obtain⟨n,d,e,ht⟩:=a3i r
 rw[ht]
 exact⟨fun h=>(nomatch h),a0a ⟨_,rfl,Nat.zero_lt_succ _⟩ (a0a ⟨_,rfl,Nat.lt_succ_self _⟩ (a0a (a0E n d) (a0c rfl ⟨l1,rfl⟩)))⟩
theorem b7S (h1:x.cells.size=4) (h2:a0t x.cells):Con prog 80 [x,.int .i64 20] H fun u H'=>PH.le H H'/\u= .tuple #[shv 0 0,.int .i64 20]:=by
 refine a0b mixed b5A (by kernel_rfl) rfl (a0a ⟨h1,h2⟩ (a0a ⟨_,rfl⟩ (a1p rfl (a0c (congrArg (fun z=>Value.tuple #[z,.int .i64 20]) a4U) ⟨PH.le.refl _,rfl⟩))))
theorem c5i:a4B prog 82=true:=by kernel_rfl
theorem c5j (n d m e:Nat):Con prog 34 [shv n d,shv m e] H fun u H'=>PH.le H H'/\u=d7A (okB n d&&okB m e) (a2T n d*a2T m e):=by
 obtain⟨K,hK⟩:∃K,K=512:=⟨_,rfl⟩
 refine a0b mixed c9B (by kernel_rfl) rfl (a0a (a0E n d) (a0a (a0E m e) (a0d (c0k (f:=82) c5i n d m e (a2T n d*a2T m e) (fun h1 h2 H x y hx hy=>a4V hx hy (c5f h1 hK) (c5f h2 hK) (by omega))) rfl ?_)))
 rintro u1 H1 ⟨l1,hu1⟩
 unfold d7A
 rcases hu1 with⟨h,v,rfl,hv⟩|⟨h,v,rfl,h4,h5⟩
 ·rw[h,if_pos rfl]
  simp only[cA,nA]
  refine⟨fun h=>(nomatch h),a0a ⟨_,rfl,Nat.zero_lt_succ _⟩ (a0a ⟨_,rfl,Nat.lt_succ_self _⟩ (a0d (b7R hv) rfl ?_))⟩
  rintro u2 H2 ⟨l2,rfl⟩
  obtain⟨a,b,c,ht⟩:=a3i (a2T n d*a2T m e)
  rw[ht]
  exact⟨fun h=>(nomatch h),a0a ⟨_,rfl,Nat.zero_lt_succ _⟩ (a0a ⟨_,rfl,Nat.lt_succ_self _⟩ (a0a (a0E a b) (a0c rfl ⟨l1.trans l2,rfl⟩)))⟩
 ·rw[h,if_neg (by simp)]
  simp only[cA,nA]
  refine⟨fun h=>(nomatch h),a0a ⟨_,rfl,Nat.zero_lt_succ _⟩ (a0a ⟨_,rfl,Nat.lt_succ_self _⟩ (a0d (b7S h4 h5) rfl ?_))⟩
  rintro u2 H2 ⟨l2,rfl⟩
  exact⟨fun h=>(nomatch h),a0a ⟨_,rfl,Nat.zero_lt_succ _⟩ (a0a ⟨_,rfl,Nat.lt_succ_self _⟩ (a0a (a0E 0 0) (a0c rfl ⟨l1.trans l2,rfl⟩)))⟩
theorem b7T (hx:Rp H x r) (hy:Rp H y s):Con prog 66 [x,y] H fun u H'=>PH.le H H'/\u= .int .i64 (sgI r.num 0):=by
 have r1:=hx.rq
 have r2:=hy.rq
 obtain⟨w1,w2,rfl,a1,a2⟩:=hx.out
 obtain⟨w3,w4,rfl,_⟩:=hy
 refine a0b mixed c0f (by kernel_rfl) rfl (a0a r1 (a0a r2 (a0d (a3g a1) rfl ?_)))
 rintro u1 H1 ⟨rfl,rfl⟩
 exact⟨fun h=>(nomatch h),a0c rfl ⟨PH.le.refl _,rfl⟩⟩
theorem c0m:a4B prog 66=true:=by kernel_rfl
def d7B (ok:Bool) (t:Int):Value:=if ok then .tuple #[.int .i64 t,.int .i64 0]else .tuple #[.int .i64 0,.int .i64 20]
theorem c0n (n d:Nat):Con prog 23 [shv n d] H fun u H'=>PH.le H H'/\u=d7B (okB n d&&okB n d) (sgI (a2T n d).num 0):=by
 refine a0b mixed c5d (by kernel_rfl) rfl (a0a (a0E n d) (a0d (c0l (f:=66) c0m n d n d (sgI (a2T n d).num 0) (fun _ _ H x y hx hy=>b7T hx hy)) rfl ?_))
 rintro u1 H1 ⟨l1,hu1⟩
 unfold d7B
 rcases hu1 with⟨h,v,rfl,rfl⟩|⟨h,v,rfl,rfl⟩
 ·rw[h,if_pos rfl]
  exact⟨fun h=>(nomatch h),a0a ⟨_,rfl,Nat.zero_lt_succ _⟩ (a0a ⟨_,rfl,Nat.lt_succ_self _⟩ (a0c rfl ⟨l1,rfl⟩))⟩
 ·rw[h,if_neg (by simp)]
  exact⟨fun h=>(nomatch h),a0a ⟨_,rfl,Nat.zero_lt_succ _⟩ (a0a ⟨_,rfl,Nat.lt_succ_self _⟩ (a0c rfl ⟨l1,rfl⟩))⟩
def b0R (p q:Int):Value:=if q=0 then .tuple #[shv 0 0,.int .i64 7]else a3x (Rat.divInt p q)
theorem b7U (p q:Int):∃(n d:Nat) (e:Int),b0R p q= .tuple #[shv n d,.int .i64 e]:=by
 unfold b0R;split
 ·exact⟨0,0,7,rfl⟩
 ·exact a3i _
theorem c0o (d:Nat):d%M=0↔toI d=0:=by
 have:=a9u
 have:=c3H
 have:=Nat.mod_lt d b0C
 unfold toI
 split<;>omega
set_option maxRecDepth 100000 in
theorem b2z (n d:Nat):Con prog 30 [wd n,wd d] H fun u H'=>PH.le H H'/\u=b0R (toI n) (toI d):=by
 refine a0b mixed c5c (by kernel_rfl) rfl (a0a ⟨words_size n,words_one n⟩ (a0a ⟨words_size d,words_one d⟩ (a0g ((c9d (a:=d) (b:=0) rfl rfl rfl rfl rfl).rds _) ?_ (a0a ⟨_,rfl⟩ (a0e (b:=decide (d%M=0%M)) rfl (fun h=> ?_) (fun h=> ?_))))))
 ·simp only[rxs,a6J];rfl
 ·have h:=of_decide_eq_true h
  rw[Nat.zero_mod,c0o]at h
  unfold b0R
  rw[if_pos h]
  exact a0c (congrArg (fun z=>Value.tuple #[z,.int .i64 7]) a4U) ⟨PH.le.refl _,rfl⟩
 ·have h:=of_decide_eq_false h
  rw[Nat.zero_mod,c0o]at h
  unfold b0R
  rw[if_neg h]
  refine a0d (a1W n) rfl ?_
  rintro u1 H1 ⟨l1,hu1⟩
  simp only[cA,nA]
  refine⟨fun _=>l1,a0d (a1W d) rfl ?_⟩
  rintro u2 H2 ⟨l2,hu2⟩
  simp only[cA,nA]
  refine⟨fun _=>l2,a0d (a3w (hu1.mono l2) hu2 (b5u n) (b5u d) h) rfl ?_⟩
  rintro u3 H3 ⟨l3,hu3⟩
  simp only[cA,nA]
  refine⟨fun _=>l3,a0d (a2u hu3) rfl ?_⟩
  rintro u4 H4 ⟨l4,rfl⟩
  obtain⟨a,b,c,ht⟩:=a3i (Rat.divInt (toI n) (toI d))
  rw[ht]
  exact⟨fun _=>l4,a0a ⟨_,rfl,Nat.zero_lt_succ _⟩ (a0a ⟨_,rfl,Nat.lt_succ_self _⟩ (a0a (a0E a b) (a0c rfl ⟨l1.trans (l2.trans (l3.trans l4)),rfl⟩)))⟩
theorem c9K (p q:Int) (p0: -9223372036854775808<=p) (p1:p<9223372036854775808) (q0: -9223372036854775808<=q) (q1:q<9223372036854775808):Con prog 79 [.int .i64 p,.int .i64 q] H fun u H'=>PH.le H H'/\u=b0R p q:=by
 refine a0b mixed d3Z (by kernel_rfl) rfl (a0u (a9y p p0 p1) rfl (a0u (a9y q q0 q1) rfl (a0d (b2z (rs p) (rs q)) rfl ?_)))
 rintro u1 H1 ⟨l1,rfl⟩
 rw[toI_rs (a5X p0 p1),toI_rs (a5X q0 q1)]
 obtain⟨a,b,c,ht⟩:=b7U p q
 rw[ht]
 exact⟨fun h=>(nomatch h),a0a ⟨_,rfl,Nat.zero_lt_succ _⟩ (a0a ⟨_,rfl,Nat.lt_succ_self _⟩ (a0a (a0E a b) (a0c rfl ⟨l1,rfl⟩)))⟩
end
end Go.Proofs.YtmannekkmdockaaGreatDoor

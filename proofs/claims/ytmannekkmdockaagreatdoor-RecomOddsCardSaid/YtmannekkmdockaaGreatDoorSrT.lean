/- Trees of functions. -/
import Derived.Test.YtmannekkmdockaaGreatDoorSrG
open Int renaming ediv_neg->pJ
open Nat renaming gcd->fY,gcd_pos_of_pos_right->gX,lt_succ_self->eL,zero_lt_succ->eM
set_option maxRecDepth 100000
namespace Go.Z
open Proofs.Tryz RowKit RX
theorem c0z:tree prog [] [] [] [] 162=some (.cq 2 V0
(.cq 2 V1
(.cf 210 [(.ag V0),(.ag V1)]
(.cq 2 V2
(.rb (.cn V1 0) (.br (.cn V1 0)
(.cf 211 [(.ag V2)]
(.cq 2 V3
(.cf 212 [(.ag V0),(.ag V3)]
(.tq 0 V4
(.tq 1 V4
(.cq 2 (.pj V4 0)
(.cq 2 (.pj V4 1)
(.cf 212 [(.ag V1),(.ag V3)]
(.tq 0 V5
(.tq 1 V5
(.cq 2 (.pj V5 0)
(.cq 2 (.pj V5 1) (.ret [(.cat (.ag (.pj V4 0)) 2 (.ag (.pj V5 0)))])))))))))))))
(.cf 212 [(.ag V0),(.ag V2)]
(.tq 0 V3
(.tq 1 V3
(.cq 2 (.pj V3 0)
(.cq 2 (.pj V3 1)
(.cf 212 [(.ag V1),(.ag V2)]
(.tq 0 V4
(.tq 1 V4
(.cq 2 (.pj V4 0)
(.cq 2 (.pj V4 1) (.ret [(.cat (.ag (.pj V3 0)) 2 (.ag (.pj V4 0)))]))))))))))))))))):=aB
theorem c6s:tree prog [] [] [] [] 98=some (.cf 163 [V0]
(.cf 163 [V1]
(.cf 162 [V2,V3]
(.cq 4 V4
(.ret [(.ag V4)]))))):=aB
theorem d6f:tree prog [] [] [⟨3,3,[25],[]⟩] [] 56=some (.cq 4 V0
(.cf 100 [(.sn V0 0 2)]
(.tq 0 V1
(.tq 1 V1
(.cq 8 (.pj V1 0)
(.cf 100 [(.sn V0 2 2)]
(.tq 0 V2
(.tq 1 V2
(.cq 8 (.pj V2 0) (.join 1
(.rq (.int .i64 (.pj V1 1)) (.br (.io .neq (.pj V1 1) (.ki 0)) (.next 0 [kT]) (.rq (.int .i64 (.pj V2 1)) (.next 0 [(.io .neq (.pj V2 1) (.ki 0))]))))
(.rb V3
(.br V3
(.ret [(.cat (.z 56) 8 (.z 56)),(.ki 6)]) (.ret [(.cat (.ag (.pj V1 0)) 8 (.ag (.pj V2 0))),(.ki 0)]))))))))))))):=aB
theorem d9f:tree prog [] [] [] [] 59=some (.ri V1
(.br (.io .eql V1 (.ki 0)) (.ret [(.cat (.z 56) 8 (.z 56)),(.ki 7)])
(.cf 98 [V0,V1]
(.cf 56 [V2]
(.tq 0 V3
(.tq 1 V3
(.cq 16 (.pj V3 0) (.ret [(.ag (.pj V3 0)),(.pj V3 1)])))))))):=aB
theorem d0p:tree prog [] [] [] [⟨1,[0,1,0,4,15,0,32,0,128,511,1023,0,2048,0,8192,32767,65535,131071],[1,1,1,1,2,1,1,1,1,2,2,1,1,1,1,2,2,6],[0,0,0,0,0,0,0,0,0,0,0,0,0,0,0,0,0,2],[0,1,2,3,5,6,7,8,11,12,13,14,4,9,10,15,16],[17]⟩] 214=some (.cq 4 V0
(.cq 4 V1
(.ct 219 [(.sn V0 0 2),(.sn V1 2 2)]
(.ct 219 [(.sn V1 0 2),(.sn V0 2 2)]
(.ct 243 [V2,V3]
(.ct 219 [(.sn V0 2 2),(.sn V1 2 2)]
(.ct 162 [V4,V5]
(.cq 4 V6
(.ret [(.ag V6)]))))))))):=aB
theorem c6t:tree prog [] [] [] [⟨1,[0,1,0,4,15,0,32,0,128,511,1023,2047],[1,1,1,1,2,1,1,1,1,2,2,6],[0,0,0,0,0,0,0,0,0,0,0,2],[0,1,2,3,5,6,7,8,4,9,10],[11]⟩] 171=some (.cq 4 V0
(.cq 4 V1
(.ct 219 [(.sn V0 0 2),(.sn V1 0 2)]
(.ct 219 [(.sn V0 2 2),(.sn V1 2 2)]
(.ct 162 [V2,V3]
(.cq 4 V4
(.ret [(.ag V4)]))))))):=aB
open Go.RowKit Go.RX Go.WD
def Rr (H:PH) (v:Value) (r:Rat):Prop:=∃w1 w2,v= .agg #[.bool (decide (r.num<0)),w1,.bool false,w2]/\Nu H w1 r.num.natAbs/\Nu H w2 r.den
theorem Rr.mono {H H':PH} {v:Value} {r:Rat} (h:Rr H v r) (hl:Pl H H'):Rr H' v r:=by
 obtain⟨w1,w2,h1,h2,h3⟩:=h;exact⟨w1,w2,h1,h2.mono hl,h3.mono hl⟩
theorem e0E {b c:Bool} {w1 w2:Value} {H:PH} {m n:Nat} (h1:Nu H w1 m) (h2:Nu H w2 n):(Value.agg #[.bool b,w1,.bool c,w2]).cells.size=4/\o0 (Value.agg #[.bool b,w1,.bool c,w2]).cells:=by
 refine⟨rfl,fun x hx=> ?_⟩;have g1:=h1.one.2.2;have g2:=h2.one.2.2;rw[h1.one.1]at g1;rw[h2.one.1]at g2;rw[Fj]at hx;simp only[aP,bP,or_false]at hx;rcases hx with h|h|h|h
 ·rw[h];rfl
 ·rw[h];exact g1 _ aD
 ·rw[h];rfl
 ·rw[h];exact g2 _ aD
theorem Rr.rq {H:PH} {v:Value} {r:Rat} (h:Rr H v r):v.cells.size=4/\o0 v.cells:=by
 obtain⟨w1,w2,rfl,h1,h2⟩:=h;exact e0E h1 h2
theorem Lg.den {H:PH} {w:Value} {n:Nat} (h:Nu H w n):Lg H (.agg #[.bool false,w]) (n:Int):=xi h
section
variable {H:PH} {x y:Value} {p q:Int} {r s:Rat} {i j k:Nat}
theorem d6g (n:Int) {d:Int} {g:Nat} (hd:d<0) (hg:g=fY n.natAbs d.natAbs):(Rat.divInt n d).num=n/ -(g:Int)/\((Rat.divInt n d).den:Int)=d/ -(g:Int):=by
 have rZ:0<g:=by rw[hg];exact gX _ aA
 have h1:=jo n (show d≠0 by omega);have h2:=jq n (show d≠0 by omega);rw[<-hg]at h1 h2;have hc:d/(g:Int)<0:=Int.ediv_neg_of_neg_of_pos hd aA;rw[if_pos hc]at h1 h2;rw[h1,h2,pJ,pJ];exact⟨rfl,rfl⟩
theorem EB (hx:Lg H x p) (hy:Lg H y q) (hp:Lm p) (hq:Lm q) (xM:q≠0):Con prog 162 [x,y] H fun u H'=>Pl H H'/\Rr H' u (Rat.divInt p q):=by
 have r1:=hx.rq;have r2:=hy.rq;have sH:=hx;have tP:=hy;obtain⟨wx,rfl,_⟩:=hx;obtain⟨wy,rfl,_⟩:=hy;obtain⟨g,hg⟩:∃g,g=fY p.natAbs q.natAbs:=⟨_,rfl⟩;have rZ:0<g:=by rw[hg];exact gX _ aA
 have uU:Lm (g:Int):=by
  unfold Lm at hq⊢;rw[dJ,hg];exact aZ (Nat.gcd_le_right _ aA) hq
 have hgn:Lm (-(g:Int)):=by unfold Lm at uU⊢;rw[Int.natAbs_neg];exact uU
 refine s9 mixed c0z aB rfl (d4 r1 (d4 r2 (g9 (R2 sH tP hp hq) rfl ?_)));rintro u1 H1 ⟨l1,sC⟩;rw[<-hg]at sC;have hr1:=sC.rq;have yZ:=sC;obtain⟨w1,rfl,_⟩:=sC;refine⟨fun h=>(nomatch h),d4 hr1 (d4 ⟨_,rfl⟩ (g7 (b:=decide (q<0)) rfl (fun h=> ?_) (fun h=> ?_)))⟩
 ·have h:=oDt h;obtain⟨e1,e2⟩:=d6g p h hg;refine g9 (JP yZ) rfl ?_;rintro u2 H2 ⟨rfl,rQ⟩;have hr2:=rQ.rq;have a3t:=rQ;obtain⟨w2,rfl,_⟩:=rQ;refine⟨fun h=>(nomatch h),d4 hr2 (g9 (jg (sH.mono l1) a3t hp hgn aA) rfl ?_)⟩;rintro u3 H3 ⟨l3,a1,b1,rfl,yH,qX⟩;have ra:=yH.rq;have rb:=qX.rq;obtain⟨w3,rfl,n3⟩:=yH;obtain⟨w4,rfl,_⟩:=qX;refine⟨fun h=>(nomatch h),d4 ⟨_,rfl,eM _⟩ (d4 ⟨_,rfl,eL _⟩ (d4 ra (d4 rb (g9 (jg (tP.mono (l1.trans l3)) (a3t.mono l3) hq hgn aA) rfl ?_))))⟩;rintro u4 H4 ⟨l4,a2,b2,rfl,rI,rE⟩;have rc:=rI.rq;have rd:=rE.rq;obtain⟨w5,rfl,n5⟩:=rI;obtain⟨w6,rfl,_⟩:=rE;refine⟨fun h=>(nomatch h),d4 ⟨_,rfl,eM _⟩ (d4 ⟨_,rfl,eL _⟩ (d4 rc (d4 rd (g6 rfl ⟨l1.trans (l3.trans l4),w3,w5,?_,?_,?_⟩))))⟩
  ·rw[e1];show Value.agg #[.bool (decide (p/ -(g:Int)<0)),w3,.bool (decide (q/ -(g:Int)<0)),w5]=_;rw[decide_eq_false (show ¬q/ -(g:Int)<0 by omega)]
  ·rw[e1];exact n3.mono l4
  ·rw[show(Rat.divInt p q).den=(q/ -(g:Int)).natAbs from aA];exact n5
 ·have h:=oDf h;have e1:=jo p xM;have e2:=jq p xM;rw[<-hg]at e1 e2;have hc:¬q/(g:Int)<0:=by have:=Int.ediv_nonneg (show 0<=q by omega) (show(0:Int)<=g by omega);omega
  rw[if_neg hc]at e1 e2;refine g9 (jg (sH.mono l1) yZ hp uU aA) rfl ?_;rintro u3 H3 ⟨l3,a1,b1,rfl,yH,qX⟩;have ra:=yH.rq;have rb:=qX.rq;obtain⟨w3,rfl,n3⟩:=yH;obtain⟨w4,rfl,_⟩:=qX;refine⟨fun h=>(nomatch h),d4 ⟨_,rfl,eM _⟩ (d4 ⟨_,rfl,eL _⟩ (d4 ra (d4 rb (g9 (jg (tP.mono (l1.trans l3)) (yZ.mono l3) hq uU aA) rfl ?_))))⟩;rintro u4 H4 ⟨l4,a2,b2,rfl,rI,rE⟩;have rc:=rI.rq;have rd:=rE.rq;obtain⟨w5,rfl,n5⟩:=rI;obtain⟨w6,rfl,_⟩:=rE;refine⟨fun h=>(nomatch h),d4 ⟨_,rfl,eM _⟩ (d4 ⟨_,rfl,eL _⟩ (d4 rc (d4 rd (g6 rfl ⟨l1.trans (l3.trans l4),w3,w5,?_,?_,?_⟩))))⟩
  ·rw[e1];show Value.agg #[.bool (decide (p/(g:Int)<0)),w3,.bool (decide (q/(g:Int)<0)),w5]=_;rw[decide_eq_false hc]
  ·rw[e1];exact n3.mono l4
  ·rw[show(Rat.divInt p q).den=(q/(g:Int)).natAbs from aA];exact n5
theorem EC (hx:Rr H x r):Con prog 56 [x] H fun u H'=>Pl H H'/\u=Ee r:=by
 have r0:=hx.rq;obtain⟨w1,w2,rfl,n1,n2⟩:=hx;have hL1:Lg H (.agg #[.bool (decide (r.num<0)),w1]) r.num:=⟨w1,rfl,n1⟩;refine s9 mixed d6f aB rfl (d4 r0 (g9 (xg hL1) rfl ?_));rintro u1 H1 ⟨l1,rfl⟩;have vX:=Lg.den (n2.mono l1);have hd0:0<=(r.den:Int):=aA;have hHM:=Rw;unfold Ee;by_cases f1: -(HM:Int)<=r.num/\r.num<HM
 ·rw[Yp f1];simp only[cA,nA];refine⟨fun h=>(nomatch h),d4 ⟨_,rfl,eM _⟩ (d4 ⟨_,rfl,eL _⟩ (d4 ⟨words_size _,words_one _⟩ (g9 (xg vX) rfl ?_)))⟩;rintro u2 H2 ⟨l2,rfl⟩;by_cases f2:(r.den:Int)<HM
  ·rw[Yp (show -(HM:Int)<=(r.den:Int)/\(r.den:Int)<HM by omega),if_pos ⟨f1,f2⟩];simp only[cA,nA];refine⟨fun h=>(nomatch h),d4 ⟨_,rfl,eM _⟩ (d4 ⟨_,rfl,eL _⟩ (d4 ⟨words_size _,words_one _⟩ ⟨fun vals H'=>vals=[.bool false]/\H'=H2,d4 ⟨_,rfl⟩ (r9 rfl (d4 ⟨_,rfl⟩ ⟨rfl,rfl⟩)),?_⟩))⟩;rintro vals H3-⟨rfl,rfl⟩;exact d4 ⟨_,rfl⟩ (r9 rfl (g6 rfl ⟨l1.trans l2,rfl⟩))
  ·rw[Up (show ¬(-(HM:Int)<=(r.den:Int)/\(r.den:Int)<HM) by omega),if_neg (fun h=>f2 h.2)];simp only[cA,nA];refine⟨fun h=>(nomatch h),d4 ⟨_,rfl,eM _⟩ (d4 ⟨_,rfl,eL _⟩ (d4 ⟨words_size _,words_one _⟩ ⟨fun vals H'=>vals=[.bool true]/\H'=H2,d4 ⟨_,rfl⟩ (r9 rfl (d4 ⟨_,rfl⟩ ⟨rfl,rfl⟩)),?_⟩))⟩;rintro vals H3-⟨rfl,rfl⟩;exact d4 ⟨_,rfl⟩ (Fh rfl (g6 (congrArg (fun z=>Value.tuple #[z,.int .i64 6]) Ph) ⟨l1.trans l2,rfl⟩))
 ·rw[Up f1,if_neg (fun h=>f1 h.1)];simp only[cA,nA];refine⟨fun h=>(nomatch h),d4 ⟨_,rfl,eM _⟩ (d4 ⟨_,rfl,eL _⟩ (d4 ⟨words_size _,words_one _⟩ (g9 (xg vX) rfl ?_)))⟩;rintro u2 H2 ⟨l2,rfl⟩;obtain⟨m,e,ht⟩:=wb (r.den:Int);rw[ht];simp only[cA,nA];refine⟨fun h=>(nomatch h),d4 ⟨_,rfl,eM _⟩ (d4 ⟨_,rfl,eL _⟩ (d4 ⟨words_size _,words_one _⟩ ⟨fun vals H'=>vals=[.bool true]/\H'=H2,d4 ⟨_,rfl⟩ (Fh rfl ⟨rfl,rfl⟩),?_⟩))⟩;rintro vals H3-⟨rfl,rfl⟩;exact d4 ⟨_,rfl⟩ (Fh rfl (g6 (congrArg (fun z=>Value.tuple #[z,.int .i64 6]) Ph) ⟨l1.trans l2,rfl⟩))
theorem Rr.out {v:Value} (h:Rr H v r):∃w1 w2,v= .agg #[.bool (decide (r.num<0)),w1,.bool false,w2]/\Lg H (.agg #[.bool (decide (r.num<0)),w1]) r.num/\Lg H (.agg #[.bool false,w2]) (r.den:Int):=by
 obtain⟨w1,w2,rfl,n1,n2⟩:=h;exact⟨w1,w2,rfl,⟨w1,rfl,n1⟩,Lg.den n2⟩
theorem c6u (hx:Rr H x r) (hy:Rr H y s) (hr:Rb j r) (hs:Rb k s) (xO:j+k+1<=320000):Con prog 214 [x,y] H fun u H'=>Pl H H'/\Rr H' u (r+s):=by
 have r1:=hx.rq;have r2:=hy.rq;obtain⟨w1,w2,rfl,a1,a2⟩:=hx.out;obtain⟨w3,w4,rfl,b1,b2⟩:=hy.out;have m1:=Ip hr.1 (Bw hs.2);have m2:=Ip hs.1 (Bw hr.2);have m3:=Ip (Bw hr.2) (Bw hs.2);rw[Nat.add_comm k j]at m2;have m4:=Lm.add2 m1 m2 (m:=j+k+1) (aS _) (aS _);refine s9 mixed d0p aB rfl (d4 r1 (d4 r2 (g9 (Ys a1 b2 (Lm.two hr.1 aA) (Lm.two (Bw hs.2) aA)) rfl ?_)));rintro u1 H1 ⟨l1,sC⟩;simp only[cA,nA];refine⟨fun _=>l1,g9 (Ys (b1.mono l1) (a2.mono l1) (Lm.two hs.1 aA) (Lm.two (Bw hr.2) aA)) rfl ?_⟩;rintro u2 H2 ⟨l2,rQ⟩;simp only[cA,nA];refine⟨fun _=>l2,g9 (jc (sC.mono l2) rQ (Lm.two m1 aA) (Lm.two m2 aA)) rfl ?_⟩;rintro u3 H3 ⟨l3,uK⟩;simp only[cA,nA];refine⟨fun _=>l3,g9 (Ys (a2.mono (l1.trans (l2.trans l3))) (b2.mono (l1.trans (l2.trans l3))) (Lm.two (Bw hr.2) aA) (Lm.two (Bw hs.2) aA)) rfl ?_⟩;rintro u4 H4 ⟨l4,xA⟩;simp only[cA,nA];refine⟨fun _=>l4,g9 (EB (uK.mono l4) xA (Lm.two m4 xO) (Lm.two m3 aA) (ju r s)) rfl ?_⟩;rintro u5 H5 ⟨l5,sO⟩;rw[KQ]at sO;have r5:=sO.rq;obtain⟨w5,w6,rfl,n5⟩:=sO;exact⟨fun _=>l5,d4 r5 (g6 rfl ⟨l1.trans (l2.trans (l3.trans (l4.trans l5))),w5,w6,rfl,n5⟩)⟩
theorem c0A (hx:Rr H x r) (hy:Rr H y s) (hr:Rb j r) (hs:Rb k s) (xO:j+k<=320000):Con prog 171 [x,y] H fun u H'=>Pl H H'/\Rr H' u (r*s):=by
 have r1:=hx.rq;have r2:=hy.rq;obtain⟨w1,w2,rfl,a1,a2⟩:=hx.out;obtain⟨w3,w4,rfl,b1,b2⟩:=hy.out;have m1:=Ip hr.1 hs.1;have m3:=Ip (Bw hr.2) (Bw hs.2);refine s9 mixed c6t aB rfl (d4 r1 (d4 r2 (g9 (Ys a1 b1 (Lm.two hr.1 aA) (Lm.two hs.1 aA)) rfl ?_)));rintro u1 H1 ⟨l1,sC⟩;simp only[cA,nA];refine⟨fun _=>l1,g9 (Ys (a2.mono l1) (b2.mono l1) (Lm.two (Bw hr.2) aA) (Lm.two (Bw hs.2) aA)) rfl ?_⟩;rintro u2 H2 ⟨l2,rQ⟩;simp only[cA,nA];refine⟨fun _=>l2,g9 (EB (sC.mono l2) rQ (Lm.two m1 xO) (Lm.two m3 aA) (ju r s)) rfl ?_⟩;rintro u5 H5 ⟨l5,sO⟩;rw[xt]at sO;have r5:=sO.rq;obtain⟨w5,w6,rfl,n5⟩:=sO;exact⟨fun _=>l5,d4 r5 (g6 rfl ⟨l1.trans (l2.trans l5),w5,w6,rfl,n5⟩)⟩
theorem cp (p q:Int) (p0: -9223372036854775808<=p) (p1:p<9223372036854775808) (q0: -9223372036854775808<=q) (q1:q<9223372036854775808) (h0:q≠0):Con prog 98 [.int .i64 p,.int .i64 q] H fun u H'=>Pl H H'/\Rr H' u (Rat.divInt p q):=by
 have e64:(9223372036854775808:Nat)=2^63:=rfl;refine s9 mixed c6s aB rfl (g9 (jd p p0 p1) rfl ?_);rintro u1 H1 ⟨l1,sC⟩;simp only[cA,nA];refine⟨fun h=>(nomatch h),g9 (jd q q0 q1) rfl ?_⟩;rintro u2 H2 ⟨l2,rQ⟩;simp only[cA,nA];refine⟨fun h=>(nomatch h),g9 (EB (sC.mono l2) rQ (Lm.two (k:=64) aA aA) (Lm.two (k:=64) aA aA) h0) rfl ?_⟩;rintro u3 H3 ⟨l3,uK⟩;have r5:=uK.rq;obtain⟨w5,w6,rfl,n5⟩:=uK;exact⟨fun h=>(nomatch h),d4 r5 (g6 rfl ⟨l1.trans (l2.trans l3),w5,w6,rfl,n5⟩)⟩
theorem d6h (p q:Int) (p0: -9223372036854775808<=p) (p1:p<9223372036854775808) (q0: -9223372036854775808<=q) (q1:q<9223372036854775808):Con prog 59 [.int .i64 p,.int .i64 q] H fun u H'=>Pl H H'/\u=Hw p q:=by
 refine s9 mixed d9f aB rfl (d4 ⟨_,rfl⟩ (g7 (b:=(q==0)) rfl (fun h=> ?_) (fun h=> ?_)))
 ·have h:=beq_iff_eq.1 h;unfold Hw;rw[if_pos h];exact g6 (congrArg (fun z=>Value.tuple #[z,.int .i64 7]) Ph) ⟨Pl.refl _,rfl⟩
 ·have h:=beq_eq_false_iff_ne.1 h;unfold Hw;rw[if_neg h];refine g9 (cp p q p0 p1 q0 q1 h) rfl ?_;rintro u3 H3 ⟨l3,uK⟩;simp only[cA,nA];refine⟨fun h=>(nomatch h),g9 (EC uK) rfl ?_⟩;rintro u4 H4 ⟨l4,rfl⟩;obtain⟨a,b,c,ht⟩:=xw (Rat.divInt p q);rw[ht];exact⟨fun h=>(nomatch h),d4 ⟨_,rfl,eM _⟩ (d4 ⟨_,rfl,eL _⟩ (d4 (Dx a b) (g6 rfl ⟨l3.trans l4,rfl⟩)))⟩
end
end Go.Z

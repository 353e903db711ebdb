/- Trees of functions. -/
import Derived.Test.YtmannekkmdockaaGreatDoorLgC
import Derived.Lib.Bytealg
import Derived.Laws.StructEq
open Array renaming ext'->nF
open Go.Result renaming andThen_ok->eH
open Go.Sem renaming run_bind->eI
open Int renaming gcd->pW,mul_ediv_cancel_left->gW,mul_ne_zero->lE,natAbs_ediv_le_natAbs->lR,natAbs_mul->iY,natAbs_neg->gC,ofNat_dvd_left->kL
open Nat renaming gcd->fY,gcd_comm->lL,gcd_dvd_right->nV,gcd_pos_of_pos_right->gX,lt_succ_self->eL,zero_lt_succ->eM,zero_mod->pG
set_option maxRecDepth 100000
namespace Go.Z
open Proofs.Tryz RowKit RX
theorem T5:tree prog [] [] [] [⟨5,[0,1,0,7,15,31],[5,2,5,2,6,6],[4,0,6,0,4,6],[0,2,1,3],[4,5]⟩] 74=some (.cq 2 V0
(.cq 2 V1
(.cf 129 [(.ag V0),(.ag V1)]
(.cq 2 V2
(.cf 130 [(.ag V0),(.ag V2)]
(.tq 0 V3
(.tq 1 V3
(.cq 2 (.pj V3 0)
(.cq 2 (.pj V3 1)
(.cf 130 [(.ag V1),(.ag V2)]
(.tq 0 V4
(.tq 1 V4
(.cq 2 (.pj V4 0)
(.cq 2 (.pj V4 1)
(.rb (.cn (.pj V4 0) 0) (.br (.cn (.pj V4 0) 0)
(.ct 131 [(.ag (.pj V3 0))]
(.ct 131 [(.ag (.pj V4 0))]
(.cq 2 V5
(.cq 2 V6
(.ret [(.cat (.ag V5) 2 (.ag V6))]))))) (.ret [(.cat (.ag (.pj V3 0)) 2 (.ag (.pj V4 0)))]))))))))))))))))):=aB
theorem T6:tree prog [] [] [] [⟨1,[0,0,3,7],[5,2,0,6],[0,0,0,1],[0,1,2],[3]⟩] 101=some (.cq 2 V0
(.ct 102 [(.ki 1)]
(.cq 2 V1
(.ret [(.cat (.ag V0) 2 V1)])))):=aB
theorem T7:tree prog [] [] [⟨3,3,[25],[]⟩] [] 52=some (.cq 4 V0
(.cf 72 [(.sn V0 0 2)]
(.tq 0 V1
(.tq 1 V1
(.cq 8 (.pj V1 0)
(.cf 72 [(.sn V0 2 2)]
(.tq 0 V2
(.tq 1 V2
(.cq 8 (.pj V2 0) (.join 1
(.rq (.int .i64 (.pj V1 1)) (.br (.io .neq (.pj V1 1) (.ki 0)) (.next 0 [kT]) (.rq (.int .i64 (.pj V2 1)) (.next 0 [(.io .neq (.pj V2 1) (.ki 0))]))))
(.rb V3
(.br V3
(.ret [(.cat (.z 56) 8 (.z 56)),(.ki 6)]) (.ret [(.cat (.ag (.pj V1 0)) 8 (.ag (.pj V2 0))),(.ki 0)]))))))))))))):=aB
theorem T8:tree prog [] [] [] [⟨1,[0,1,0,4,15,0,32,0,128,511,1023,0,2048,0,8192,32767,65535,131071],[1,1,1,1,2,1,1,1,1,2,2,1,1,1,1,2,2,6],[0,0,0,0,0,0,0,0,0,0,0,0,0,0,0,0,0,2],[0,1,2,3,5,6,7,8,11,12,13,14,4,9,10,15,16],[17]⟩] 77=some (.cq 4 V0
(.cq 4 V1
(.ct 136 [(.sn V0 0 2),(.sn V1 2 2)]
(.ct 136 [(.sn V1 0 2),(.sn V0 2 2)]
(.ct 124 [V2,V3]
(.ct 136 [(.sn V0 2 2),(.sn V1 2 2)]
(.ct 74 [V4,V5]
(.cq 4 V6
(.ret [(.ag V6)]))))))))):=aB
theorem T9:tree prog [] [] [] [⟨1,[0,1,3,0,8,31,63],[1,1,2,1,1,0,6],[0,0,0,0,0,0,1],[0,1,3,4,2,5],[6]⟩] 148=some (.cq 4 V0
(.ct 131 [(.sn V0 0 2)]
(.cq 2 V1
(.ret [(.pn (.cat V1 2 (.z 116)) 2 2 (.sn V0 2 2))])))):=aB
theorem U0:tree prog [] [] [] [⟨1,[0,0,2,7,15],[5,5,2,2,6],[0,1,0,0,2],[0,1,2,3],[4]⟩] 90=some (.cq 4 V0
(.cq 4 V1
(.ct 148 [(.ag V1)]
(.ct 77 [(.ag V0),V2]
(.cq 4 V3
(.ret [(.ag V3)])))))):=aB
theorem U1:tree prog [] [] [] [⟨1,[0,1,0,4,15,0,32,0,128,511,1023,2047],[1,1,1,1,2,1,1,1,1,2,2,6],[0,0,0,0,0,0,0,0,0,0,0,2],[0,1,2,3,5,6,7,8,4,9,10],[11]⟩] 82=some (.cq 4 V0
(.cq 4 V1
(.ct 136 [(.sn V0 0 2),(.sn V1 0 2)]
(.ct 136 [(.sn V0 2 2),(.sn V1 2 2)]
(.ct 74 [V2,V3]
(.cq 4 V4
(.ret [(.ag V4)]))))))):=aB
theorem U2:tree prog [] [] [] [⟨1,[0,1,0,4,15,0,32,0,128,511,1023,2047],[1,1,1,1,2,1,1,1,1,2,2,6],[0,0,0,0,0,0,0,0,0,0,0,2],[0,1,2,3,5,6,7,8,4,9,10],[11]⟩] 147=some (.cq 4 V0
(.cq 4 V1
(.ct 136 [(.sn V0 0 2),(.sn V1 2 2)]
(.ct 136 [(.sn V0 2 2),(.sn V1 0 2)]
(.ct 74 [V2,V3]
(.cq 4 V4
(.ret [(.ag V4)]))))))):=aB
theorem U3:tree prog [] [] [] [⟨3,[0,1,0,7,15,31,63,63,255,511],[5,2,5,2,2,2,0,0,6,0],[0,0,1,0,0,0,0,0,2,0],[0,2,1,3,4,5,6,7],[8,9]⟩] 30=some (.cq 8 V0
(.cq 8 V1
(.pm f30 1 2 [(.ag V1),(.z 56)]
(.rb V2
(.br V2
(.ret [(.cat (.z 56) 8 (.z 56)),(.ki 7)])
(.ct 75 [(.ag V0)]
(.ct 75 [(.ag V1)]
(.ct 74 [V3,V4]
(.ct 52 [V5]
(.tq 0 V6
(.tq 1 V6
(.cq 16 (.pj V6 0) (.ret [(.ag (.pj V6 0)),(.pj V6 1)]))))))))))))):=aB
theorem U4:tree prog [] [] [] [] 79=some (.cf 29 [V0]
(.cf 29 [V1]
(.cf 30 [V2,V3]
(.tq 0 V4
(.tq 1 V4
(.cq 16 (.pj V4 0) (.ret [(.ag (.pj V4 0)),(.pj V4 1)]))))))):=aB
theorem U5:tree prog [] [] [] [] 58=some (.cf 102 [V0]
(.cf 101 [V1]
(.cq 4 V2
(.ret [(.ag V2)])))):=aB
end Go.Z
namespace Go.WD
open RX
def Rb (k:Nat) (r:Rat):Prop:=r.num.natAbs<2^k/\r.den<2^k
theorem xr {a b i j:Nat} (ha:a<2^i) (hb:b<2^j):a*b<2^(i+j):=by
 rw[Nat.pow_add];exact Nat.mul_lt_mul'' ha hb
theorem jo (n:Int) {d:Int} (hd:d≠0):(Rat.divInt n d).num=if d/(fY n.natAbs d.natAbs:Nat)<0 then -(n/(fY n.natAbs d.natAbs:Nat))else n/(fY n.natAbs d.natAbs:Nat):=by
 have hg:0<fY n.natAbs d.natAbs:=gX _ aA;have hgn:((fY n.natAbs d.natAbs:Nat):Int) ∣ n:=kL.2 (Nat.gcd_dvd_left _ _);rw[Rat.num_divInt];have e:(d.gcd n:Nat)=fY n.natAbs d.natAbs:=by unfold pW;exact lL _ _
 rw[e];obtain⟨m,hm⟩:=hgn;have zO:((fY n.natAbs d.natAbs:Nat):Int) ∣ d:=kL.2 (nV _ _);obtain⟨c,hc⟩:=zO;generalize fY n.natAbs d.natAbs=g at hg hm hc;have hg':(g:Int)≠0:=aA;have e1:n/(g:Int)=m:=by rw[hm];exact gW _ hg'
 have e2:d/(g:Int)=c:=by rw[hc];exact gW _ hg'
 rw[e1,e2];rcases Int.lt_or_gt_of_ne hd with h|h
 ·have wN:c<0:=by
   rcases Int.lt_or_le c 0 with h1|h1
   ·exact h1
   ·have:=Int.mul_nonneg (show(0:Int)<=g by omega) h1;omega
  rw[if_pos wN,Int.sign_eq_neg_one_of_neg h,hm,Int.neg_one_mul,<-Int.mul_neg];exact gW _ hg'
 ·have wN:¬c<0:=fun h1=>by
   have:=Int.mul_neg_of_pos_of_neg (show(0:Int)<g by omega) h1;omega
  rw[if_neg wN,Int.sign_eq_one_of_pos h,Int.one_mul,hm];exact gW _ hg'
theorem jq (n:Int) {d:Int} (hd:d≠0):((Rat.divInt n d).den:Int)=if d/(fY n.natAbs d.natAbs:Nat)<0 then -(d/(fY n.natAbs d.natAbs:Nat))else d/(fY n.natAbs d.natAbs:Nat):=by
 have hg:0<fY n.natAbs d.natAbs:=gX _ aA;rw[Rat.den_divInt,if_neg hd];have e:(d.gcd n:Nat)=fY n.natAbs d.natAbs:=by unfold pW;exact lL _ _
 rw[e];have zO:((fY n.natAbs d.natAbs:Nat):Int) ∣ d:=kL.2 (nV _ _);obtain⟨c,hc⟩:=zO;generalize fY n.natAbs d.natAbs=g at hg hc;have e2:d/(g:Int)=c:=by rw[hc];exact gW _ aA
 have e3:d.natAbs/g=c.natAbs:=by rw[hc,iY,dJ];exact Nat.mul_div_cancel_left _ hg
 rw[e2,e3];split<;>omega
theorem KQ (r s:Rat):Rat.divInt (r.num*s.den+s.num*r.den) ((r.den:Int)*s.den)=r+s:=by
 rw[Rat.add_def',<-eG,Rat.divInt_ofNat]
theorem xt (r s:Rat):Rat.divInt (r.num*s.num) ((r.den:Int)*s.den)=r*s:=by
 rw[Rat.mul_def',<-eG,Rat.divInt_ofNat]
theorem U6 (r s:Rat):Rat.divInt (r.num*s.den) ((r.den:Int)*s.num)=r/s:=by
 have h1:=Rat.num_divInt_den r;rw[Rat.div_def,Rat.inv_def]
 conv=>rhs;rw[<-h1]
 rw[Rat.divInt_mul_divInt]
theorem low_bound {n d:Int} {k:Nat} (hd:d≠0) (hn:n.natAbs<2^k) (hdk:d.natAbs<2^k):Rb k (Rat.divInt n d):=by
 have hg:0<fY n.natAbs d.natAbs:=gX _ aA;constructor
 ·have h1:(n/(fY n.natAbs d.natAbs:Nat)).natAbs<=n.natAbs:=lR _ _;rw[jo n hd];split
  ·rw[gC];omega
  ·omega
 ·have h2:=jq n hd;have h3:(d/(fY n.natAbs d.natAbs:Nat)).natAbs<=d.natAbs:=lR _ _;split at h2<;>omega
theorem xu (r:Rat):((r.den:Nat):Int).natAbs=r.den:=dJ _
theorem Rb.mul {j k m:Nat} {r s:Rat} (hr:Rb j r) (hs:Rb k s) (hm:j+k<=m):Rb m (r*s):=by
 have hd:(r.den:Int)*s.den≠0:=lE (by have:=r.den_nz;omega) (by have:=s.den_nz;omega);have h1:=xr hr.1 hs.1;have h3:=xr hr.2 hs.2;have h5:2^(j+k)<=2^m:=aR aA hm;rw[<-xt];refine low_bound hd (by rw[iY];omega) ?_;rw[iY,xu,xu];omega
theorem Rb.neg {k:Nat} {r:Rat} (h:Rb k r):Rb k (-r):=⟨by rw[Rat.neg_num,gC];exact h.1,by rw[Rat.neg_den];exact h.2⟩
theorem U7 (k:Nat):BP k=2^(32*k):=by unfold BP;rfl
end Go.WD
namespace Go.Z
open Proofs.Tryz RowKit RX WD
theorem Lm.two {z:Int} {k:Nat} (h:z.natAbs<2^k) (hk:k<=320000):Lm z:=by
 unfold Lm;obtain⟨K,hK⟩:∃K,K=10000:=⟨_,rfl⟩;rw[<-hK,U7];exact aU h (aR aA aA)
theorem Lm.add2 {y z:Int} {j k:Nat} (hy:y.natAbs<2^j) (hz:z.natAbs<2^k) {m:Nat} (h1:j+1<=m) (h2:k+1<=m):(y+z).natAbs<2^m:=by
 have h3:=Int.natAbs_add_le y z;have h4:2^(j+1)<=2^m:=aR aA h1;have h5:2^(k+1)<=2^m:=aR aA h2;rw[Nat.pow_succ]at h4 h5;omega
theorem Ip {y z:Int} {j k:Nat} (hy:y.natAbs<2^j) (hz:z.natAbs<2^k):(y*z).natAbs<2^(j+k):=by rw[iY];exact xr hy hz
def Rp (H:PH) (v:Value) (r:Rat):Prop:=∃w1 w2,v= .agg #[.bool (decide (r.num<0)),w1,.bool false,w2]/\Mu H w1 r.num.natAbs/\Mu H w2 r.den
theorem Rp.mono {H H':PH} {v:Value} {r:Rat} (h:Rp H v r) (hl:Pl H H'):Rp H' v r:=by
 obtain⟨w1,w2,h1,h2,h3⟩:=h;exact⟨w1,w2,h1,h2.mono hl,h3.mono hl⟩
theorem U8 {b c:Bool} {w1 w2:Value} {H:PH} {m n:Nat} (h1:Mu H w1 m) (h2:Mu H w2 n):(Value.agg #[.bool b,w1,.bool c,w2]).cells.size=4/\o0 (Value.agg #[.bool b,w1,.bool c,w2]).cells:=by
 refine⟨rfl,fun x hx=> ?_⟩;have g1:=h1.one.2.2;have g2:=h2.one.2.2;rw[h1.one.1]at g1;rw[h2.one.1]at g2;rw[Fj]at hx;simp only[aP,bP,or_false]at hx;rcases hx with h|h|h|h
 ·rw[h];rfl
 ·rw[h];exact g1 _ aD
 ·rw[h];rfl
 ·rw[h];exact g2 _ aD
theorem Rp.rq {H:PH} {v:Value} {r:Rat} (h:Rp H v r):v.cells.size=4/\o0 v.cells:=by
 obtain⟨w1,w2,rfl,h1,h2⟩:=h;exact U8 h1 h2
theorem Lw.den {H:PH} {w:Value} {n:Nat} (h:Mu H w n):Lw H (.agg #[.bool false,w]) (n:Int):=xn h
theorem U9:r8 prog 116= .agg #[.bool false,.slice none 0 0]:=aB
section
variable {H:PH} {x y:Value} {p q:Int} {r s:Rat} {i j k:Nat}
theorem jr (hx:Lw H x p) (hy:Lw H y q) (hp:Lm p) (hq:Lm q) (xM:q≠0):Con prog 74 [x,y] H fun u H'=>Pl H H'/\Rp H' u (Rat.divInt p q):=by
 have r1:=hx.rq;have r2:=hy.rq;have sH:=hx;have tP:=hy;obtain⟨wx,rfl,_⟩:=hx;obtain⟨wy,rfl,_⟩:=hy;have hn:=jo p xM;have hd:=jq p xM;obtain⟨g,hg⟩:∃g,g=fY p.natAbs q.natAbs:=⟨_,rfl⟩;have rZ:0<g:=by rw[hg];exact gX _ aA
 have uU:Lm (g:Int):=by
  unfold Lm at hq⊢;rw[dJ,hg];exact aZ (Nat.gcd_le_right _ aA) hq
 rw[<-hg]at hn hd;refine s9 mixed T5 aB rfl (d4 r1 (d4 r2 (g9 (S4 sH tP hp hq) rfl ?_)));rintro u1 H1 ⟨l1,sC⟩;rw[<-hg]at sC;have hr1:=sC.rq;have yZ:=sC;obtain⟨w1,rfl,_⟩:=sC;refine⟨fun h=>(nomatch h),d4 hr1 (g9 (xq (sH.mono l1) yZ hp uU aA) rfl ?_)⟩;rintro u2 H2 ⟨l2,a1,b1,rfl,yH,qX⟩;have ra:=yH.rq;have rb:=qX.rq;have a5e:=yH;obtain⟨w2,rfl,n2⟩:=yH;obtain⟨w3,rfl,_⟩:=qX;refine⟨fun h=>(nomatch h),d4 ⟨_,rfl,eM _⟩ (d4 ⟨_,rfl,eL _⟩ (d4 ra (d4 rb (g9 (xq (tP.mono (l1.trans l2)) (yZ.mono l2) hq uU aA) rfl ?_))))⟩;rintro u3 H3 ⟨l3,a2,b2,rfl,rI,rE⟩;have rc:=rI.rq;have rd:=rE.rq;have a5f:=rI;obtain⟨w4,rfl,n4⟩:=rI;obtain⟨w5,rfl,_⟩:=rE;refine⟨fun h=>(nomatch h),d4 ⟨_,rfl,eM _⟩ (d4 ⟨_,rfl,eL _⟩ (d4 rc (d4 rd (d4 ⟨_,rfl⟩ (g7 (b:=decide (q/(g:Int)<0)) rfl (fun h=> ?_) (fun h=> ?_))))))⟩
 ·have h:=oDt h;rw[if_pos h]at hn hd;refine g9 (jh (a5e.mono l3)) rfl ?_;rintro u4 H4 ⟨rfl,xA⟩;have re:=xA.rq;obtain⟨w6,rfl,n6⟩:=xA;refine⟨fun _=>Pl.refl _,g9 (jh a5f) rfl ?_⟩;rintro u5 H5 ⟨rfl,sO⟩;have rf:=sO.rq;obtain⟨w7,rfl,n7⟩:=sO;refine⟨fun _=>Pl.refl _,d4 re (d4 rf (g6 rfl ⟨l1.trans (l2.trans l3),w6,w7,?_,?_,?_⟩))⟩
  ·rw[hn];show Value.agg #[.bool (decide (-(p/(g:Int))<0)),w6,.bool (decide (-(q/(g:Int))<0)),w7]=_;rw[decide_eq_false (show ¬ -(q/(g:Int))<0 by omega)]
  ·rw[hn];exact n6
  ·rw[show(Rat.divInt p q).den=(-(q/(g:Int))).natAbs from aA];exact n7
 ·have h:=oDf h;rw[if_neg h]at hn hd;refine g6 rfl ⟨l1.trans (l2.trans l3),w2,w4,?_,?_,?_⟩
  ·rw[hn];show Value.agg #[.bool (decide (p/(g:Int)<0)),w2,.bool (decide (q/(g:Int)<0)),w4]=_;rw[decide_eq_false h]
  ·rw[hn];exact n2.mono l3
  ·rw[show(Rat.divInt p q).den=(q/(g:Int)).natAbs from aA];exact n4
end
def shv (n d:Nat):Value:= .agg (words n++words d)
theorem Dx (a b:Nat):(words a++words b).size=16/\o0 (words a++words b):=by
 refine⟨by rw[Array.size_append,words_size,words_size],fun c hc=> ?_⟩;rw[Array.toList_append,aQ]at hc;rcases hc with h|h
 ·exact words_one a c h
 ·exact words_one b c h
theorem W0 (a b:Nat):(words a++words b).extract 0 8=words a:=by
 apply nF;simp[words_size,aF]
theorem W5 (a b:Nat):(words a++words b).extract 8 16=words b:=by
 apply nF;simp[words_size,aF]
theorem W6 (a b:Nat):Value.agg ((words a++words b).extract 0 8)=wd a:=by rw[W0];rfl
theorem W7 (a b:Nat):Value.agg ((words a++words b).extract 8 16)=wd b:=by rw[W5];rfl
def Ee (r:Rat):Value:=if(-(HM:Int)<=r.num/\r.num<HM)/\(r.den:Int)<HM then .tuple #[shv (rs r.num) (rs (r.den:Int)),.int .i64 0]else .tuple #[shv 0 0,.int .i64 6]
theorem Ph:Value.agg ((r8 prog 56).cells++(r8 prog 56).cells)=shv 0 0:=by rw[Lt];rfl
section
variable {H:PH} {x y:Value} {p q:Int} {r s:Rat} {j k:Nat}
theorem KR (hx:Lw H x p):Con prog 101 [x] H fun u H'=>Pl H H'/\Rp H' u (p:Rat):=by
 have r0:=hx.rq;obtain⟨w,rfl,n0⟩:=hx;refine s9 mixed T6 aB rfl (d4 r0 (g9 (Us 1 aA aA) rfl ?_));rintro u1 H1 ⟨l1,sC⟩;have r1:=sC.rq;obtain⟨w1,rfl,n1⟩:=sC;exact⟨fun _=>l1,d4 r1 (g6 rfl ⟨l1,w,w1,rfl,n0.mono l1,n1⟩)⟩
theorem jt (hx:Rp H x r):Con prog 52 [x] H fun u H'=>Pl H H'/\u=Ee r:=by
 have r0:=hx.rq;obtain⟨w1,w2,rfl,n1,n2⟩:=hx;have hL1:Lw H (.agg #[.bool (decide (r.num<0)),w1]) r.num:=⟨w1,rfl,n1⟩;refine s9 mixed T7 aB rfl (d4 r0 (g9 (jm hL1) rfl ?_));rintro u1 H1 ⟨l1,rfl⟩;have vX:=Lw.den (n2.mono l1);have hd0:0<=(r.den:Int):=aA;have hHM:=Rw;unfold Ee;by_cases f1: -(HM:Int)<=r.num/\r.num<HM
 ·rw[Yp f1];simp only[cA,nA];refine⟨fun h=>(nomatch h),d4 ⟨_,rfl,eM _⟩ (d4 ⟨_,rfl,eL _⟩ (d4 ⟨words_size _,words_one _⟩ (g9 (jm vX) rfl ?_)))⟩;rintro u2 H2 ⟨l2,rfl⟩;by_cases f2:(r.den:Int)<HM
  ·rw[Yp (show -(HM:Int)<=(r.den:Int)/\(r.den:Int)<HM by omega),if_pos ⟨f1,f2⟩];simp only[cA,nA];refine⟨fun h=>(nomatch h),d4 ⟨_,rfl,eM _⟩ (d4 ⟨_,rfl,eL _⟩ (d4 ⟨words_size _,words_one _⟩ ⟨fun vals H'=>vals=[.bool false]/\H'=H2,d4 ⟨_,rfl⟩ (r9 rfl (d4 ⟨_,rfl⟩ ⟨rfl,rfl⟩)),?_⟩))⟩;rintro vals H3-⟨rfl,rfl⟩;exact d4 ⟨_,rfl⟩ (r9 rfl (g6 rfl ⟨l1.trans l2,rfl⟩))
  ·rw[Up (show ¬(-(HM:Int)<=(r.den:Int)/\(r.den:Int)<HM) by omega),if_neg (fun h=>f2 h.2)];simp only[cA,nA];refine⟨fun h=>(nomatch h),d4 ⟨_,rfl,eM _⟩ (d4 ⟨_,rfl,eL _⟩ (d4 ⟨words_size _,words_one _⟩ ⟨fun vals H'=>vals=[.bool true]/\H'=H2,d4 ⟨_,rfl⟩ (r9 rfl (d4 ⟨_,rfl⟩ ⟨rfl,rfl⟩)),?_⟩))⟩;rintro vals H3-⟨rfl,rfl⟩;exact d4 ⟨_,rfl⟩ (Fh rfl (g6 (congrArg (fun z=>Value.tuple #[z,.int .i64 6]) Ph) ⟨l1.trans l2,rfl⟩))
 ·rw[Up f1,if_neg (fun h=>f1 h.1)];simp only[cA,nA];refine⟨fun h=>(nomatch h),d4 ⟨_,rfl,eM _⟩ (d4 ⟨_,rfl,eL _⟩ (d4 ⟨words_size _,words_one _⟩ (g9 (jm vX) rfl ?_)))⟩;rintro u2 H2 ⟨l2,rfl⟩;obtain⟨m,e,ht⟩:=wb (r.den:Int);rw[ht];simp only[cA,nA];refine⟨fun h=>(nomatch h),d4 ⟨_,rfl,eM _⟩ (d4 ⟨_,rfl,eL _⟩ (d4 ⟨words_size _,words_one _⟩ ⟨fun vals H'=>vals=[.bool true]/\H'=H2,d4 ⟨_,rfl⟩ (Fh rfl ⟨rfl,rfl⟩),?_⟩))⟩;rintro vals H3-⟨rfl,rfl⟩;exact d4 ⟨_,rfl⟩ (Fh rfl (g6 (congrArg (fun z=>Value.tuple #[z,.int .i64 6]) Ph) ⟨l1.trans l2,rfl⟩))
theorem Rp.out {v:Value} (h:Rp H v r):∃w1 w2,v= .agg #[.bool (decide (r.num<0)),w1,.bool false,w2]/\Lw H (.agg #[.bool (decide (r.num<0)),w1]) r.num/\Lw H (.agg #[.bool false,w2]) (r.den:Int):=by
 obtain⟨w1,w2,rfl,n1,n2⟩:=h;exact⟨w1,w2,rfl,⟨w1,rfl,n1⟩,Lw.den n2⟩
theorem ju (r s:Rat):(r.den:Int)*s.den≠0:=lE (by have:=r.den_nz;omega) (by have:=s.den_nz;omega)
theorem Bw {k:Nat} (h:r.den<2^k):((r.den:Nat):Int).natAbs<2^k:=by rw[xu];exact h
theorem W8 (hx:Rp H x r) (hy:Rp H y s) (hr:Rb j r) (hs:Rb k s) (xO:j+k+1<=320000):Con prog 77 [x,y] H fun u H'=>Pl H H'/\Rp H' u (r+s):=by
 have r1:=hx.rq;have r2:=hy.rq;obtain⟨w1,w2,rfl,a1,a2⟩:=hx.out;obtain⟨w3,w4,rfl,b1,b2⟩:=hy.out;have m1:=Ip hr.1 (Bw hs.2);have m2:=Ip hs.1 (Bw hr.2);have m3:=Ip (Bw hr.2) (Bw hs.2);rw[Nat.add_comm k j]at m2;have m4:=Lm.add2 m1 m2 (m:=j+k+1) (aS _) (aS _);refine s9 mixed T8 aB rfl (d4 r1 (d4 r2 (g9 (Md a1 b2 (Lm.two hr.1 aA) (Lm.two (Bw hs.2) aA)) rfl ?_)));rintro u1 H1 ⟨l1,sC⟩;simp only[cA,nA];refine⟨fun _=>l1,g9 (Md (b1.mono l1) (a2.mono l1) (Lm.two hs.1 aA) (Lm.two (Bw hr.2) aA)) rfl ?_⟩;rintro u2 H2 ⟨l2,rQ⟩;simp only[cA,nA];refine⟨fun _=>l2,g9 (Yw (sC.mono l2) rQ (Lm.two m1 aA) (Lm.two m2 aA)) rfl ?_⟩;rintro u3 H3 ⟨l3,uK⟩;simp only[cA,nA];refine⟨fun _=>l3,g9 (Md (a2.mono (l1.trans (l2.trans l3))) (b2.mono (l1.trans (l2.trans l3))) (Lm.two (Bw hr.2) aA) (Lm.two (Bw hs.2) aA)) rfl ?_⟩;rintro u4 H4 ⟨l4,xA⟩;simp only[cA,nA];refine⟨fun _=>l4,g9 (jr (uK.mono l4) xA (Lm.two m4 xO) (Lm.two m3 aA) (ju r s)) rfl ?_⟩;rintro u5 H5 ⟨l5,sO⟩;rw[KQ]at sO;have r5:=sO.rq;obtain⟨w5,w6,rfl,n5⟩:=sO;exact⟨fun _=>l5,d4 r5 (g6 rfl ⟨l1.trans (l2.trans (l3.trans (l4.trans l5))),w5,w6,rfl,n5⟩)⟩
theorem KT (hx:Rp H x r) (hy:Rp H y s) (hr:Rb j r) (hs:Rb k s) (xO:j+k<=320000):Con prog 82 [x,y] H fun u H'=>Pl H H'/\Rp H' u (r*s):=by
 have r1:=hx.rq;have r2:=hy.rq;obtain⟨w1,w2,rfl,a1,a2⟩:=hx.out;obtain⟨w3,w4,rfl,b1,b2⟩:=hy.out;have m1:=Ip hr.1 hs.1;have m3:=Ip (Bw hr.2) (Bw hs.2);refine s9 mixed U1 aB rfl (d4 r1 (d4 r2 (g9 (Md a1 b1 (Lm.two hr.1 aA) (Lm.two hs.1 aA)) rfl ?_)));rintro u1 H1 ⟨l1,sC⟩;simp only[cA,nA];refine⟨fun _=>l1,g9 (Md (a2.mono l1) (b2.mono l1) (Lm.two (Bw hr.2) aA) (Lm.two (Bw hs.2) aA)) rfl ?_⟩;rintro u2 H2 ⟨l2,rQ⟩;simp only[cA,nA];refine⟨fun _=>l2,g9 (jr (sC.mono l2) rQ (Lm.two m1 xO) (Lm.two m3 aA) (ju r s)) rfl ?_⟩;rintro u5 H5 ⟨l5,sO⟩;rw[xt]at sO;have r5:=sO.rq;obtain⟨w5,w6,rfl,n5⟩:=sO;exact⟨fun _=>l5,d4 r5 (g6 rfl ⟨l1.trans (l2.trans l5),w5,w6,rfl,n5⟩)⟩
theorem W9 (hx:Rp H x r) (hy:Rp H y s) (hr:Rb j r) (hs:Rb k s) (xO:j+k<=320000) (h0:s≠0):Con prog 147 [x,y] H fun u H'=>Pl H H'/\Rp H' u (r/s):=by
 have r1:=hx.rq;have r2:=hy.rq;obtain⟨w1,w2,rfl,a1,a2⟩:=hx.out;obtain⟨w3,w4,rfl,b1,b2⟩:=hy.out;have m1:=Ip hr.1 (Bw hs.2);have m3:=Ip (Bw hr.2) hs.1;refine s9 mixed U2 aB rfl (d4 r1 (d4 r2 (g9 (Md a1 b2 (Lm.two hr.1 aA) (Lm.two (Bw hs.2) aA)) rfl ?_)));rintro u1 H1 ⟨l1,sC⟩;simp only[cA,nA];refine⟨fun _=>l1,g9 (Md (a2.mono l1) (b1.mono l1) (Lm.two (Bw hr.2) aA) (Lm.two hs.1 aA)) rfl ?_⟩;rintro u2 H2 ⟨l2,rQ⟩;simp only[cA,nA];refine⟨fun _=>l2,g9 (jr (sC.mono l2) rQ (Lm.two m1 xO) (Lm.two m3 aA) (lE (by have:=r.den_nz;omega) (fun e=>h0 (Rat.num_eq_zero.1 e)))) rfl ?_⟩;rintro u5 H5 ⟨l5,sO⟩;rw[U6]at sO;have r5:=sO.rq;obtain⟨w5,w6,rfl,n5⟩:=sO;exact⟨fun _=>l5,d4 r5 (g6 rfl ⟨l1.trans (l2.trans l5),w5,w6,rfl,n5⟩)⟩
theorem Y0 (hx:Rp H x r):Con prog 148 [x] H fun u H'=>Pl H H'/\Rp H' u (-r):=by
 have r1:=hx.rq;obtain⟨w1,w2,rfl,a1,a2⟩:=hx.out;refine s9 mixed T9 aB rfl (d4 r1 (g9 (jh a1) rfl ?_));rintro u1 H1 ⟨rfl,sC⟩;have r5:=sC.rq;obtain⟨w5,rfl,n5⟩:=sC;obtain⟨w6,e6,n6⟩:=a2;refine⟨fun _=>Pl.refl _,d4 r5 (g6 rfl ⟨Pl.refl _,w5,w2,?_,?_,?_⟩)⟩
 ·show Value.agg (spl ((#[Value.bool (decide (-r.num<0)),w5]:Array Value)++(r8 prog 116).cells) 2 [.bool false,w2])=_;rw[U9];rfl
 ·rw[Rat.neg_num];exact n5
 ·rw[Rat.neg_den];simp only[Value.agg.injEq,Array.mk.injEq,List.cons.injEq,and_true]at e6;rw[e6.2];exact n6
theorem Y5 (hx:Rp H x r) (hy:Rp H y s) (hr:Rb j r) (hs:Rb k s) (xO:j+k+1<=320000):Con prog 90 [x,y] H fun u H'=>Pl H H'/\Rp H' u (r-s):=by
 have r1:=hx.rq;have r2:=hy.rq;have sH:=hx;have tP:=hy;obtain⟨w1,w2,rfl,_⟩:=hx;obtain⟨w3,w4,rfl,_⟩:=hy;refine s9 mixed U0 aB rfl (d4 r1 (d4 r2 (g9 (Y0 tP) rfl ?_)));rintro u1 H1 ⟨l1,sC⟩;simp only[cA,nA];refine⟨fun _=>l1,g9 (W8 (sH.mono l1) sC hr hs.neg xO) rfl ?_⟩;rintro u5 H5 ⟨l5,sO⟩;rw[<-Rat.sub_eq_add_neg]at sO;have r5:=sO.rq;obtain⟨w5,w6,rfl,n5⟩:=sO;exact⟨fun _=>l5,d4 r5 (g6 rfl ⟨l1.trans l5,w5,w6,rfl,n5⟩)⟩
end
section
variable {H:PH} {x y v:Value} {r s:Rat} {n d m e:Nat}
theorem xw (r:Rat):∃(n d:Nat) (e:Int),Ee r= .tuple #[shv n d,.int .i64 e]:=by
 unfold Ee;split
 ·exact⟨_,_,0,rfl⟩
 ·exact⟨0,0,6,rfl⟩
def Hw (p q:Int):Value:=if q=0 then .tuple #[shv 0 0,.int .i64 7]else Ee (Rat.divInt p q)
theorem Y6 (p q:Int):∃(n d:Nat) (e:Int),Hw p q= .tuple #[shv n d,.int .i64 e]:=by
 unfold Hw;split
 ·exact⟨0,0,7,rfl⟩
 ·exact xw _
theorem KU (d:Nat):d%M=0↔toI d=0:=by
 have:=Rw;have:=Ko;have:=cO d Rt;unfold toI;split<;>omega
theorem Y7 (n d:Nat):Con prog 30 [wd n,wd d] H fun u H'=>Pl H H'/\u=Hw (toI n) (toI d):=by
 refine s9 mixed U3 aB rfl (d4 ⟨words_size n,words_one n⟩ (d4 ⟨words_size d,words_one d⟩ (j7 ((J5 (a:=d) (b:=0) rfl rfl rfl rfl rfl).rds _) ?_ (d4 ⟨_,rfl⟩ (g7 (b:=decide (d%M=0%M)) rfl (fun h=> ?_) (fun h=> ?_))))))
 ·simp only[rxs,Lt];rfl
 ·have h:=oDt h;rw[pG,KU]at h;unfold Hw;rw[if_pos h];exact g6 (congrArg (fun z=>Value.tuple #[z,.int .i64 7]) Ph) ⟨Pl.refl _,rfl⟩
 ·have h:=oDf h;rw[pG,KU]at h;unfold Hw;rw[if_neg h];refine g9 (jl n) rfl ?_;rintro u1 H1 ⟨l1,sC⟩;simp only[cA,nA];refine⟨fun _=>l1,g9 (jl d) rfl ?_⟩;rintro u2 H2 ⟨l2,rQ⟩;simp only[cA,nA];refine⟨fun _=>l2,g9 (jr (sC.mono l2) rQ (JZ n) (JZ d) h) rfl ?_⟩;rintro u3 H3 ⟨l3,uK⟩;simp only[cA,nA];refine⟨fun _=>l3,g9 (jt uK) rfl ?_⟩;rintro u4 H4 ⟨l4,rfl⟩;obtain⟨a,b,c,ht⟩:=xw (Rat.divInt (toI n) (toI d));rw[ht];exact⟨fun _=>l4,d4 ⟨_,rfl,eM _⟩ (d4 ⟨_,rfl,eL _⟩ (d4 (Dx a b) (g6 rfl ⟨l1.trans (l2.trans (l3.trans l4)),rfl⟩)))⟩
theorem Y8 (p q:Int) (p0: -9223372036854775808<=p) (p1:p<9223372036854775808) (q0: -9223372036854775808<=q) (q1:q<9223372036854775808):Con prog 79 [.int .i64 p,.int .i64 q] H fun u H'=>Pl H H'/\u=Hw p q:=by
 refine s9 mixed U4 aB rfl (y8 (wj p p0 p1) rfl (y8 (wj q q0 q1) rfl (g9 (Y7 (rs p) (rs q)) rfl ?_)));rintro u1 H1 ⟨l1,rfl⟩;rw[toI_rs (we p0 p1),toI_rs (we q0 q1)];obtain⟨a,b,c,ht⟩:=Y6 p q;rw[ht];exact⟨fun h=>(nomatch h),d4 ⟨_,rfl,eM _⟩ (d4 ⟨_,rfl,eL _⟩ (d4 (Dx a b) (g6 rfl ⟨l1,rfl⟩)))⟩
end
theorem Y9 {a b:Nat} (d:Nat) (w:World):(Op.equalIn (d+2) 56 (wd a) (wd b)).run prog w= .ok (decide (a%M=b%M)) w:=by
 obtain⟨i,hi⟩:∃i,prog.info? 54=some i:=by
  have h:=Lx;unfold w9 at h;rw[bA,Option.isSome_iff_exists]at h;exact h.1
 show(Op.equalIn (d+1+1) 56 (.agg (wf (dig a))) (.agg (wf (dig b)))).run prog w=_;rw[run_equalIn_array (n:=8) (e:=54) w (d+1) _ _ aB hi,IG Lx Ur JH aB d (dig a) (dig b) w _ (fun i hi=>bR.1 hi)];refine congrArg (fun z=>Result.ok z w) ?_;rw[bC,oDi,oDi];exact IH a b
theorem xx {a b:Nat} (w:World):(Op.equalIn 9999 56 (wd a) (wd b)).run prog w= .ok (decide (a%M=b%M)) w:=Y9 9997 w
noncomputable def fN:Field:=((prog.fieldsOf 58)[0]?).getD default
noncomputable def fD:Field:=((prog.fieldsOf 58)[1]?).getD default
theorem Z0:(prog.fieldsOf 58).toList=[fN,fD]:=aB
theorem Z1:fN.type=56:=aB
theorem Z2:fN.offset=0:=aB
theorem Z3:(fN.name≠ "_")=True:=eq_true (by decide+kernel)
theorem Z4:fD.type=56:=aB
theorem Z5:fD.offset=8:=aB
theorem Z6:(fD.name≠ "_")=True:=eq_true (by decide+kernel)
theorem Ut:prog.cellsOf 56=8:=aB
theorem Z7 (a b:Nat) (w:World):(part 56 (words a++words b) 0).run prog w= .ok (wd a) w:=by
 rw[Xp aB (by rw[Ut,(Dx a b).1];omega) (by rw[Ut];omega) w,Ut,show An prog 56=true from aB,if_pos rfl];rw[W6]
theorem KV (a b:Nat) (w:World):(part 56 (words a++words b) 8).run prog w= .ok (wd b) w:=by
 rw[Xp aB (by rw[Ut,(Dx a b).1];omega) (by rw[Ut];omega) w,Ut,show An prog 56=true from aB,if_pos rfl];rw[W7]
theorem KW (a b c d:Nat) (w:World):(Op.equalIn 10000 58 (shv a b) (shv c d)).run prog w= .ok (decide (a%M=c%M)&&decide (b%M=d%M)) w:=by
 show(Op.equalIn (9999+1) 58 (.agg (words a++words b)) (.agg (words c++words d))).run prog w=_;rw[run_equalIn_struct w 9999 _ _ _ aB aB,Z0];simp only[Op.eqFields,Z3,Z6,Z1,Z2,Z4,Z5,if_true,eI,Z7,eH,xx];by_cases h1:a%M=c%M
 ·by_cases h2:b%M=d%M
  ·simp[h1,h2,KV,xx]
  ·simp[h1,h2,KV,xx]
 ·simp[h1]
section
variable {o:Oper} {x y:Operand} {H:PH} {a b c d:Nat}
theorem Z8 (ho:o.op= .binOp .eql 58 x y 58) (hx:∀u v,g8 [x,y] [u,v] x=u) (hy:∀u v,g8 [x,y] [u,v] y=v):Yld prog o [shv a b,shv c d] (.bool (decide (a%M=c%M)&&decide (b%M=d%M))):=fun w=>by
 have qK:o.op.operands.toList=[x,y]:=by simp[ho,Op.operands]
 rw[qK];have h1:=run_eql_struct (P:=prog) w 58 (words a++words b) (words c++words d);have h2:=run_eqGuard_agg (P:=prog) w .eql 58 x y (words a++words b) (words c++words d) aB;have h3:=KW a b c d w;simp only[shv]at h3;rw[h3]at h1;simp only[execOp,ho,hx,hy,shv,eI,h2,h1,eH];rfl
theorem KX (ho:o.op= .binOp .neq 58 x y 58) (hx:∀u v,g8 [x,y] [u,v] x=u) (hy:∀u v,g8 [x,y] [u,v] y=v):Yld prog o [shv a b,shv c d] (.bool (!(decide (a%M=c%M)&&decide (b%M=d%M)))):=fun w=>by
 have qK:o.op.operands.toList=[x,y]:=by simp[ho,Op.operands]
 rw[qK];have h1:=run_neq_struct (P:=prog) w 58 (words a++words b) (words c++words d);have h2:=run_eqGuard_agg (P:=prog) w .neq 58 x y (words a++words b) (words c++words d) aB;have h3:=KW a b c d w;simp only[shv]at h3;rw[h3]at h1;simp only[execOp,ho,hx,hy,shv,eI,h2,h1,eH];rfl
theorem KY (ho:o.op= .binOp .neq 58 x y 58) (hx:∀u v,g8 [x,y] [u,v] x=u) (hy:∀u v,g8 [x,y] [u,v] y=v):Yld prog o [shv a b,shv a b] (.bool false):=by
 have:=KX (a:=a) (b:=b) (c:=a) (d:=b) ho hx hy
 rwa[oDd rfl,oDd rfl]at this
end
def shR (r:Rat):Value:=shv (rs r.num) (rs (r.den:Int))
theorem KZ {r:Rat} {k:Nat} (h:Rb k r) (hk:k<=511):(-(HM:Int)<=r.num/\r.num<HM)/\(r.den:Int)<HM:=by
 have:=N5 hk;unfold Rb at h;omega
theorem Z9 {r:Rat} {k:Nat} (h:Rb k r) (hk:k<=511):Ee r= .tuple #[shR r,.int .i64 0]:=by
 unfold Ee;rw[if_pos (KZ h hk)];rfl
section
variable {H:PH} {r s t:Rat}
def Rg (r:Rat):Prop:=∃k,k<=511/\Rb k r
theorem xy (h:Rg r):Ee r= .tuple #[shR r,.int .i64 0]:=h.elim fun _ h=>Z9 h.2 h.1
theorem jv {x y:Int} (hx:Je x) (hy:Je y) (h:rs x%M=rs y%M):x=y:=by
 rw[HL,HL]at h;rw[<-toI_rs hx,<-toI_rs hy,h]
theorem Pi (h:Rg r):Je r.num/\Je (r.den:Int):=by
 obtain⟨k,hk,h⟩:=h;have h1:=KZ h hk;exact⟨h1.1,by have:=Rw;omega,h1.2⟩
theorem LA {o:Oper} {x y:Operand} (hr:Rg r) (hs:Rg s) (ho:o.op= .binOp .eql 58 x y 58) (hx:∀u v,g8 [x,y] [u,v] x=u) (hy:∀u v,g8 [x,y] [u,v] y=v):Yld prog o [shR r,shR s] (.bool (decide (r=s))):=by
 have h:=Z8 (a:=rs r.num) (b:=rs (r.den:Int)) (c:=rs s.num) (d:=rs (s.den:Int)) ho hx hy;have e:(decide (rs r.num%M=rs s.num%M)&&decide (rs (r.den:Int)%M=rs (s.den:Int)%M))=decide (r=s):=by
  rw[bC,bA,oDi,oDi,oDi];constructor
  ·rintro⟨h1,h2⟩;have e1:=jv (Pi hr).1 (Pi hs).1 h1;have e2:=jv (Pi hr).2 (Pi hs).2 h2;exact Rat.ext e1 aA
  ·rintro rfl;exact⟨rfl,rfl⟩
 rw[e]at h;exact h
theorem d7k {o:Oper} {x y:Operand} (hr:Rg r) (hs:Rg s) (ho:o.op= .binOp .neq 58 x y 58) (hx:∀u v,g8 [x,y] [u,v] x=u) (hy:∀u v,g8 [x,y] [u,v] y=v):Yld prog o [shR r,shR s] (.bool (!decide (r=s))):=by
 have h:=KX (a:=rs r.num) (b:=rs (r.den:Int)) (c:=rs s.num) (d:=rs (s.den:Int)) ho hx hy;have e:(decide (rs r.num%M=rs s.num%M)&&decide (rs (r.den:Int)%M=rs (s.den:Int)%M))=decide (r=s):=by
  rw[bC,bA,oDi,oDi,oDi];constructor
  ·rintro⟨h1,h2⟩;have e1:=jv (Pi hr).1 (Pi hs).1 h1;have e2:=jv (Pi hr).2 (Pi hs).2 h2;exact Rat.ext e1 aA
  ·rintro rfl;exact⟨rfl,rfl⟩
 rw[e]at h;exact h
end
end Go.Z

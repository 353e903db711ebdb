/- Trees of functions. -/
import Derived.Test.YtlmbepjdokomkaaGreatDoorLwA
import Derived.Lib.Bytealg
import Derived.Laws.StructEq
open Array renaming ext'->gI
open Int renaming gcd->oR,mul_ediv_cancel_left->gG,natAbs_ediv_le_natAbs->kZ,natAbs_mul->lG,natAbs_natCast->fA,ofNat_dvd_left->jV
open List renaming flatMap_cons->fO
open Nat renaming gcd->fS,gcd_comm->mG,gcd_dvd_right->mR,gcd_le_right->mX,gcd_pos_of_pos_right->gY,zero_lt_succ->eP,zero_mod->nZ
set_option linter.all false
set_option maxRecDepth 100000
namespace Go.Z
open Proofs.Tryz RowKit RX
def O8:g6 prog [] [] [] [⟨5,[0,1,0,7,15,31],[5,2,5,2,6,6],[4,0,6,0,4,6],[0,2,1,3],[4,5]⟩] 100=some (.rq (.cells 2 V0) (.rq (.cells 2 V1) (.call false 152 [(.ag V0),(.ag V1)]
(.rq (.cells 2 V2) (.call false 153 [(.ag V0),(.ag V2)]
(.rq (.tup 0 V3) (.rq (.tup 1 V3) (.rq (.cells 2 (.pj V3 0)) (.rq (.cells 2 (.pj V3 1)) (.call false 153 [(.ag V1),(.ag V2)]
(.rq (.tup 0 V4) (.rq (.tup 1 V4) (.rq (.cells 2 (.pj V4 0)) (.rq (.cells 2 (.pj V4 1)) (.rq (.bool (.cell (.pj V4 0) 0 0 noI)) (.br (.cell (.pj V4 0) 0 0 noI) (.call true 154 [(.ag (.pj V3 0))]
(.call true 154 [(.ag (.pj V4 0))]
(.rq (.cells 2 V5) (.rq (.cells 2 V6) (.ret [(.cat (.ag V5) 2 (.ag V6))]))))) (.ret [(.cat (.ag (.pj V3 0)) 2 (.ag (.pj V4 0)))]))))))))))))))))):=aB
def O9:g6 prog [] [] [] [⟨1,[0,1,3,0,8,31,63,127],rDx 8 60211211,rPx 7 0++[1],rDx 7 6524310,[7]⟩] 70=some (.rq (.cells 16 V0) (.call true 84 [(.sub V0 0 8 0 noI)]
(.call true 84 [(.sub V0 8 8 0 noI)]
(.rq (.cells 2 V1) (.rq (.cells 2 V2) (.ret [(.put (.cat V1 2 (.z 142)) 2 2 V2 0 noI)])))))):=aB
def P0:g6 prog [] [] [] [⟨1,[0,0,3,7],[5,2,0,6],[0,0,0,1],[0,1,2],[3]⟩] 113=some (.rq (.cells 2 V0) (.call true 81 [(.ki 1)]
(.rq (.cells 2 V1) (.ret [(.cat (.ag V0) 2 V1)])))):=aB
def P1:g6 prog [] [] [⟨3,3,[25],[]⟩] [] 74=some (.rq (.cells 4 V0) (.call false 85 [(.sub V0 0 2 0 noI)]
(.rq (.tup 0 V1) (.rq (.tup 1 V1) (.rq (.cells 8 (.pj V1 0)) (.call false 85 [(.sub V0 2 2 0 noI)]
(.rq (.tup 0 V2) (.rq (.tup 1 V2) (.rq (.cells 8 (.pj V2 0)) (.join 1
(.rq (.int .i64 (.pj V1 1)) (.br (.io .neq (.pj V1 1) (.ki 0)) (.next 0 [(.k (.bool true))]) (.rq (.int .i64 (.pj V2 1)) (.next 0 [(.io .neq (.pj V2 1) (.ki 0))])))) (.rq (.bool V3) (.br V3
(.ret [(.cat (.z 44) 8 (.z 44)),(.ki 6)]) (.ret [(.cat (.ag (.pj V1 0)) 8 (.ag (.pj V2 0))),(.ki 0)]))))))))))))):=aB
def P2:g6 prog [] [] [] [⟨1,[0,1,0,4,15,0,32,0,128,511,1023,0,2048,0,8192,32767,65535,131071],rDx 18 622111122111121111,rPx 17 0++[2],rDx 8 87653210++rAx 11 4++[4,9,10,15,16],[17]⟩] 72=some (.rq (.cells 4 V0) (.rq (.cells 4 V1) (.call true 83 [(.sub V0 0 2 0 noI),(.sub V1 2 2 0 noI)]
(.call true 83 [(.sub V1 0 2 0 noI),(.sub V0 2 2 0 noI)]
(.call true 115 [V2,V3]
(.call true 83 [(.sub V0 2 2 0 noI),(.sub V1 2 2 0 noI)]
(.call true 100 [V4,V5]
(.rq (.cells 4 V6) (.ret [(.ag V6)]))))))))):=aB
def P3:g6 prog [] [] [] [⟨1,[0,1,0,4,15,0,32,0,128,511,1023,2047],rDx 12 22111121111,rPx 12 0,rDx 9 487653210++rAx 9 3,[]⟩] 71=some (.rq (.cells 4 V0) (.rq (.cells 4 V1) (.call true 83 [(.sub V0 0 2 0 noI),(.sub V1 2 2 0 noI)]
(.call true 83 [(.sub V1 0 2 0 noI),(.sub V0 2 2 0 noI)]
(.call true 114 [V2,V3]
(.ret [V4])))))):=aB
def P4:g6 prog [] [] [⟨3,3,[21],[]⟩] [⟨3,[0,1,3,7,15,31,63,31,159,511,31,2047,4095,8191],rDx 14 252111100211,rDx 9 0++rDx 5 10,rAx 0 9++[10,9,11,12,13],[]⟩] 112=some (.rq (.cells 16 V0) (.call false 81 [(.ki 1)]
(.rq (.cells 2 V1) (.call false 70 [(.ag V0)]
(.rq (.cells 4 V2) (.join 1
(.call true 169 [(.sub V2 2 2 0 noI)]
(.ri V3
(.br (.io .leq V3 (.ki 0)) (.next 0 [(.k (.bool true))]) (.call true 152 [(.sub V2 0 2 0 noI),(.sub V2 2 2 0 noI)]
(.call true 114 [V4,(.ag V1)]
(.ri V5
(.next 0 [(.io .neq V5 (.ki 0))]))))))) (.rq (.bool V3) (.br V3
(.ret [(.ki 20)]) (.ret [(.ki 0)]))))))))):=aB
def P5:g6 prog [] [] [⟨0,2,[],[]⟩] [] 203=some (.pm f203 1 1 [V1]
(.loop [(.k (.bool false)),(.ki 0)]
(.ri V4
(.ri V2
(.br (.io .lss V4 V2)
(.pm f203 3 0 [V1,V4]
(.pm f203 3 1 [V5]
(.rq (.cells 16 V6)
(.ef false f203 4 2 [V0,(.ag V6)]
(.rq (.bool V7) (.br (.nt V7) (.ret [(.k (.bool false))]) (.next 0 [V3,(.io .add V4 (.ki 1))]))))))) (.ret [(.k (.bool true))])))))):=aB
def P6:g6 prog [] [] [] [] 135=some (.call false 203 [(.k (.func (.func 202) #[] #[])),V0]
(.ret [V1])):=aB
def P7:g6 prog [] [] [] [] 202=some (.rq (.cells 16 V0) (.call false 112 [(.ag V0)]
(.ri V1
(.ret [(.io .eql V1 (.ki 0))])))):=aB
def P8:g6 prog [] [] [] [⟨4,[0,0,2,0,14,31,63,127],rDx 8 225250,rDx 8 1000,rDx 8 76542310,[]⟩] 87=some (.rq (.cells 16 V0) (.rq (.cells 16 V1)
(.ef false f87 1 2 [(.ag V0),(.ag V1)]
(.call false 135 [V3]
(.rq (.bool V4) (.br (.nt V4) (.ret [(.ki 0),(.ki 20)]) (.call true 70 [(.ag V0)]
(.call true 70 [(.ag V1)]
(.ef true f87 4 5 [V2,V5,V6]
(.ret [V7,(.ki 0)])))))))))):=aB
def P9:g6 prog [] [] [] [⟨3,[0,1,0,7,15,31,63,63,255,511],rDx 10 600222525,rDx 8 100++[2,0],rDx 8 76543120,[8,9]⟩] 62=some (.rq (.cells 8 V0) (.rq (.cells 8 V1)
(.pm f62 1 2 [(.ag V1),(.z 44)]
(.rq (.bool V2) (.br V2
(.ret [(.cat (.z 44) 8 (.z 44)),(.ki 7)]) (.call true 84 [(.ag V0)]
(.call true 84 [(.ag V1)]
(.call true 100 [V3,V4]
(.call true 74 [V5]
(.rq (.tup 0 V6) (.rq (.tup 1 V6) (.rq (.cells 16 (.pj V6 0)) (.ret [(.ag (.pj V6 0)),(.pj V6 1)]))))))))))))):=aB
def Q0:g6 prog [] [] [] [] 49=some (.call false 26 [V0]
(.call false 26 [V1]
(.call false 62 [V2,V3]
(.rq (.tup 0 V4) (.rq (.tup 1 V4) (.rq (.cells 16 (.pj V4 0)) (.ret [(.ag (.pj V4 0)),(.pj V4 1)]))))))):=aB
def Q1:g6 prog [] [] [] [] 46=some (.rq (.cells 16 V0) (.rq (.cells 16 V1) (.call false 87 [(.ag V0),(.ag V1),(.k (.func (.func 71) #[] #[]))]
(.rq (.tup 0 V2) (.rq (.tup 1 V2) (.ret [(.pj V2 0),(.pj V2 1)])))))):=aB
def Q4:g6 prog [] [] [] [] 69=some (.call false 81 [V0]
(.call false 113 [V1]
(.rq (.cells 4 V2) (.ret [(.ag V2)])))):=aB
end Go.Z
namespace Go.WD
open RX
def Rb (k:Nat) (r:Rat):Prop:=r.num.natAbs<2^k/\r.den<2^k
def Q5 {a b i j:Nat} (ha:a<2^i) (hb:b<2^j):a*b<2^(i+j):=by
 rw[Nat.pow_add];exact Nat.mul_lt_mul'' ha hb
def fg (n:Int) {d:Int} (hd:d≠0):(Rat.divInt n d).num=if d/(fS n.natAbs d.natAbs:Nat)<0 then -(n/(fS n.natAbs d.natAbs:Nat))else n/(fS n.natAbs d.natAbs:Nat):=by
 have hg:0<fS n.natAbs d.natAbs:=gY _ aA;have hgn:((fS n.natAbs d.natAbs:Nat):Int) ∣ n:=jV.2 (Nat.gcd_dvd_left _ _);rw[Rat.num_divInt];have e:(d.gcd n:Nat)=fS n.natAbs d.natAbs:=by unfold oR;exact mG _ _
 rw[e];obtain⟨m,hm⟩:=hgn;have uW:((fS n.natAbs d.natAbs:Nat):Int) ∣ d:=jV.2 (mR _ _);obtain⟨c,hc⟩:=uW;generalize fS n.natAbs d.natAbs=g at hg hm hc;have hg':(g:Int)≠0:=aA;have e1:n/(g:Int)=m:=by rw[hm];exact gG _ hg'
 have e2:d/(g:Int)=c:=by rw[hc];exact gG _ hg'
 rw[e1,e2];rcases Int.lt_or_gt_of_ne hd with h|h
 ·have wL:c<0:=by
   rcases Int.lt_or_le c 0 with h1|h1
   ·exact h1
   ·have:=Int.mul_nonneg (show(0:Int)<=g by omega) h1;omega
  rw[if_pos wL,Int.sign_eq_neg_one_of_neg h,hm,Int.neg_one_mul,<-Int.mul_neg];exact gG _ hg'
 ·have wL:¬c<0:=fun h1=>by
   have:=Int.mul_neg_of_pos_of_neg (show(0:Int)<g by omega) h1;omega
  rw[if_neg wL,Int.sign_eq_one_of_pos h,Int.one_mul,hm];exact gG _ hg'
def um (n:Int) {d:Int} (hd:d≠0):((Rat.divInt n d).den:Int)=if d/(fS n.natAbs d.natAbs:Nat)<0 then -(d/(fS n.natAbs d.natAbs:Nat))else d/(fS n.natAbs d.natAbs:Nat):=by
 have hg:0<fS n.natAbs d.natAbs:=gY _ aA;rw[Rat.den_divInt,if_neg hd];have e:(d.gcd n:Nat)=fS n.natAbs d.natAbs:=by unfold oR;exact mG _ _
 rw[e];have uW:((fS n.natAbs d.natAbs:Nat):Int) ∣ d:=jV.2 (mR _ _);obtain⟨c,hc⟩:=uW;generalize fS n.natAbs d.natAbs=g at hg hc;have e2:d/(g:Int)=c:=by rw[hc];exact gG _ aA
 have e3:d.natAbs/g=c.natAbs:=by rw[hc,lG,fA];exact Nat.mul_div_cancel_left _ hg
 rw[e2,e3];split<;>omega
def Q6 (r s:Rat):Rat.divInt (r.num*s.den+s.num*r.den) ((r.den:Int)*s.den)=r+s:=by
 rw[Rat.add_def',<-Int.natCast_mul,Rat.divInt_ofNat]
def sgR (r s:Rat):Int:=if r<s then -1 else if r=s then 0 else 1
def Q7 (r s:Rat):sgI (r.num*s.den) (s.num*r.den)=sgR r s:=by
 unfold sgI sgR;have h1:=Rat.lt_iff r s;have h2:=Rat.eq_iff_mul_eq_mul (p:=r) (q:=s);by_cases a:r<s
 ·rw[if_pos a,if_pos (h1.1 a)]
 ·rw[if_neg a,if_neg (fun h=>a (h1.2 h))];by_cases b:r=s
  ·rw[if_pos b,if_pos (h2.1 b)]
  ·rw[if_neg b,if_neg (fun h=>b (h2.2 h))]
def Q8 {n d:Int} {k:Nat} (hd:d≠0) (hn:n.natAbs<2^k) (hdk:d.natAbs<2^k):Rb k (Rat.divInt n d):=by
 have hg:0<fS n.natAbs d.natAbs:=gY _ aA;constructor
 ·have h1:(n/(fS n.natAbs d.natAbs:Nat)).natAbs<=n.natAbs:=kZ _ _;rw[fg n hd];split
  ·rw[Int.natAbs_neg];omega
  ·omega
 ·have h2:=um n hd;have h3:(d/(fS n.natAbs d.natAbs:Nat)).natAbs<=d.natAbs:=kZ _ _;split at h2<;>omega
def Q9 (r:Rat):((r.den:Nat):Int).natAbs=r.den:=fA _
def R0 (k:Nat):BP k=2^(32*k):=by unfold BP;rfl
end Go.WD
namespace Go.Z
open Proofs.Tryz RowKit RX WD
def Lm.two {z:Int} {k:Nat} (h:z.natAbs<2^k) (hk:k<=320000):Lm z:=by
 unfold Lm;obtain⟨K,hK⟩:∃K,K=10000:=⟨_,rfl⟩;rw[<-hK,R0];exact aM h (bB aA aA)
def Lm.add2 {y z:Int} {j k:Nat} (hy:y.natAbs<2^j) (hz:z.natAbs<2^k) {m:Nat} (h1:j+1<=m) (h2:k+1<=m):(y+z).natAbs<2^m:=by
 have h3:=Int.natAbs_add_le y z;have h4:2^(j+1)<=2^m:=bB aA h1;have h5:2^(k+1)<=2^m:=bB aA h2;rw[Nat.pow_succ]at h4 h5;omega
def Yb {y z:Int} {j k:Nat} (hy:y.natAbs<2^j) (hz:z.natAbs<2^k):(y*z).natAbs<2^(j+k):=by rw[lG];exact Q5 hy hz
def Rp (H:PH) (v:Value) (r:Rat):Prop:=∃w1 w2,v= .agg #[.bool (decide (r.num<0)),w1,.bool false,w2]/\Mu H w1 r.num.natAbs/\Mu H w2 r.den
def Rp.mono {H H':PH} {v:Value} {r:Rat} (h:Rp H v r) (hl:Pl H H'):Rp H' v r:=by
 obtain⟨w1,w2,h1,h2,h3⟩:=h;exact⟨w1,w2,h1,h2.mono hl,h3.mono hl⟩
def IG {b c:Bool} {w1 w2:Value} {H:PH} {m n:Nat} (h1:Mu H w1 m) (h2:Mu H w2 n):(Value.agg #[.bool b,w1,.bool c,w2]).cells.size=4/\i8 (Value.agg #[.bool b,w1,.bool c,w2]).cells:=by
 refine⟨rfl,fun x hx=> ?_⟩;have g1:=h1.one.2.2;have g2:=h2.one.2.2;rw[h1.one.1]at g1;rw[h2.one.1]at g2;rw[Iw]at hx;simp only[aX,bV,or_false]at hx;rcases hx with h|h|h|h
 ·rw[h];rfl
 ·rw[h];exact g1 _ aD
 ·rw[h];rfl
 ·rw[h];exact g2 _ aD
def Rp.rq {H:PH} {v:Value} {r:Rat} (h:Rp H v r):v.cells.size=4/\i8 v.cells:=by
 obtain⟨w1,w2,rfl,h1,h2⟩:=h;exact IG h1 h2
def Lw.den {H:PH} {w:Value} {n:Nat} (h:Mu H w n):Lw H (.agg #[.bool false,w]) (n:Int):=uh h
def R1:j3 prog 142= .agg #[.bool false,.slice none 0 0]:=aB
section
variable {H:PH} {x y:Value} {p q:Int} {r s:Rat} {i j k:Nat}
def IH (hx:Lw H x p) (hy:Lw H y q) (hp:Lm p) (hq:Lm q) (xI:q≠0):Con prog 100 [x,y] H fun u H'=>Pl H H'/\Rp H' u (Rat.divInt p q):=by
 have r1:=hx.rq;have r2:=hy.rq;have wS:=hx;have wG:=hy;obtain⟨wx,rfl,_⟩:=hx;obtain⟨wy,rfl,_⟩:=hy;have hn:=fg p xI;have hd:=um p xI;obtain⟨g,hg⟩:∃g,g=fS p.natAbs q.natAbs:=⟨_,rfl⟩;have rI:0<g:=by rw[hg];exact gY _ aA
 have uN:Lm (g:Int):=by
  unfold Lm at hq⊢;rw[fA,hg];exact aR (mX _ aA) hq
 rw[<-hg]at hn hd;refine t8 mixed O8 aB rfl (b4 r1 (b4 r2 (g5 (HW wS wG hp hq) rfl ?_)));rintro u1 H1 ⟨l1,rL⟩;rw[<-hg]at rL;have rP:=rL.rq;have yZ:=rL;obtain⟨w1,rfl,_⟩:=rL;simp only[cA,nA];refine⟨fun h=>(nomatch h),b4 rP (g5 (uk (wS.mono l1) yZ hp uN aA) rfl ?_)⟩;rintro u2 H2 ⟨l2,a1,b1,rfl,ha1,pV⟩;have ra:=ha1.rq;have rb:=pV.rq;have a3x:=ha1;obtain⟨w2,rfl,n2⟩:=ha1;obtain⟨w3,rfl,_⟩:=pV;simp only[cA,nA];refine⟨fun h=>(nomatch h),b4 ⟨_,rfl,eP _⟩ (b4 ⟨_,rfl,cY _⟩ (b4 ra (b4 rb (g5 (uk (wG.mono (l1.trans l2)) (yZ.mono l2) hq uN aA) rfl ?_))))⟩;rintro u3 H3 ⟨l3,a2,b2,rfl,rY,pS⟩;have rc:=rY.rq;have rd:=pS.rq;have a3y:=rY;obtain⟨w4,rfl,n4⟩:=rY;obtain⟨w5,rfl,_⟩:=pS;simp only[cA,nA];refine⟨fun h=>(nomatch h),b4 ⟨_,rfl,eP _⟩ (b4 ⟨_,rfl,cY _⟩ (b4 rc (b4 rd (b4 ⟨_,rfl⟩ (g8 (b:=decide (q/(g:Int)<0)) rfl (fun h=> ?_) (fun h=> ?_))))))⟩
 ·have h:=oDt h;rw[if_pos h]at hn hd;refine g5 (uj (a3x.mono l3)) rfl ?_;rintro u4 H4 ⟨rfl,vQ⟩;have re:=vQ.rq;obtain⟨w6,rfl,n6⟩:=vQ;simp only[cA,nA];refine⟨fun _=>Pl.refl _,g5 (uj a3y) rfl ?_⟩;rintro u5 H5 ⟨rfl,wK⟩;have rf:=wK.rq;obtain⟨w7,rfl,n7⟩:=wK;refine⟨fun _=>Pl.refl _,b4 re (b4 rf (c9 rfl ⟨l1.trans (l2.trans l3),w6,w7,?_,?_,?_⟩))⟩
  ·rw[hn];show Value.agg #[.bool (decide (-(p/(g:Int))<0)),w6,.bool (decide (-(q/(g:Int))<0)),w7]=_;rw[decide_eq_false (show ¬ -(q/(g:Int))<0 by omega)]
  ·rw[hn];exact n6
  ·rw[show(Rat.divInt p q).den=(-(q/(g:Int))).natAbs from aA];exact n7
 ·have h:=oDf h;rw[if_neg h]at hn hd;refine c9 rfl ⟨l1.trans (l2.trans l3),w2,w4,?_,?_,?_⟩
  ·rw[hn];show Value.agg #[.bool (decide (p/(g:Int)<0)),w2,.bool (decide (q/(g:Int)<0)),w4]=_;rw[decide_eq_false h]
  ·rw[hn];exact n2.mono l3
  ·rw[show(Rat.divInt p q).den=(q/(g:Int)).natAbs from aA];exact n4
end
def shv (n d:Nat):Value:= .agg (words n++words d)
def r4 (a b:Nat):(words a++words b).size=16/\i8 (words a++words b):=by
 refine⟨by rw[cQ,words_size,words_size],fun c hc=> ?_⟩;rw[eE,bC]at hc;rcases hc with h|h
 ·exact words_one a c h
 ·exact words_one b c h
def II (a b:Nat):(words a++words b).extract 0 8=words a:=by
 apply gI;simp[words_size,aI]
def IJ (a b:Nat):(words a++words b).extract 8 16=words b:=by
 apply gI;simp[words_size,aI]
def IK (a b:Nat):Value.agg ((words a++words b).extract 0 8)=wd a:=by rw[II];rfl
def IL (a b:Nat):Value.agg ((words a++words b).extract 8 16)=wd b:=by rw[IJ];rfl
def Lp (H:PH) (v:Value) (p q:Int):Prop:=∃w1 w2,v= .agg #[.bool (decide (p<0)),w1,.bool (decide (q<0)),w2]/\Mu H w1 p.natAbs/\Mu H w2 q.natAbs
def Lp.mono {H H':PH} {v:Value} {p q:Int} (h:Lp H v p q) (hl:Pl H H'):Lp H' v p q:=by
 obtain⟨w1,w2,h1,h2,h3⟩:=h;exact⟨w1,w2,h1,h2.mono hl,h3.mono hl⟩
def Lp.rq {H:PH} {v:Value} {p q:Int} (h:Lp H v p q):v.cells.size=4/\i8 v.cells:=by
 obtain⟨w1,w2,rfl,h1,h2⟩:=h;exact IG h1 h2
def Lp.rp {H:PH} {v:Value} {p q:Int} {r:Rat} (h:Lp H v p q) (hp:r.num=p) (hq:(r.den:Int)=q):Rp H v r:=by
 obtain⟨w1,w2,rfl,h1,h2⟩:=h;refine⟨w1,w2,?_,by rw[hp];exact h1,?_⟩
 ·rw[hp,decide_eq_false (show ¬q<0 by omega)]
 ·rw[show r.den=q.natAbs from aA];exact h2
def Ny (r:Rat):Value:=if(-(HM:Int)<=r.num/\r.num<HM)/\(r.den:Int)<HM then .tuple #[shv (rs r.num) (rs (r.den:Int)),.int .i64 0]else .tuple #[shv 0 0,.int .i64 6]
def ut:Value.agg ((j3 prog 44).cells++(j3 prog 44).cells)=shv 0 0:=by rw[Jc];rfl
section
variable {H:PH} {x y:Value} {p q:Int} {r s:Rat} {j k:Nat}
def fh (n d:Nat):Con prog 70 [shv n d] H fun u H'=>Pl H H'/\Lp H' u (toI n) (toI d):=by
 refine t8 mixed O9 aB rfl (b4 (r4 n d) (g5 (Uc n) (congrArg (fun z=>[z]) (IK n d)) ?_));rintro u1 H1 ⟨l1,rL⟩;simp only[cA,nA];refine⟨fun _=>l1,g5 (Uc d) (congrArg (fun z=>[z]) (IL n d)) ?_⟩;rintro u2 H2 ⟨l2,qW⟩;have r1:=rL.rq;have r2:=qW.rq;obtain⟨w1,rfl,n1⟩:=rL;obtain⟨w2,rfl,n2⟩:=qW;refine⟨fun _=>l2,b4 r1 (b4 r2 (c9 rfl ⟨l1.trans l2,w1,w2,?_,n1.mono l2,n2⟩))⟩;show Value.agg (spl ((#[Value.bool (decide (toI n<0)),w1]:Array Value)++(j3 prog 142).cells) 2 [.bool (decide (toI d<0)),w2])=_;rw[R1];rfl
def R2 (hx:Lw H x p):Con prog 113 [x] H fun u H'=>Pl H H'/\Rp H' u (p:Rat):=by
 have r0:=hx.rq;obtain⟨w,rfl,n0⟩:=hx;refine t8 mixed P0 aB rfl (b4 r0 (g5 (Nx 1 aA aA) rfl ?_));rintro u1 H1 ⟨l1,rL⟩;have r1:=rL.rq;obtain⟨w1,rfl,n1⟩:=rL;exact⟨fun _=>l1,b4 r1 (c9 rfl ⟨l1,w,w1,rfl,n0.mono l1,n1⟩)⟩
def IM (hx:Rp H x r):Con prog 74 [x] H fun u H'=>Pl H H'/\u=Ny r:=by
 have r0:=hx.rq;obtain⟨w1,w2,rfl,n1,n2⟩:=hx;have hL1:Lw H (.agg #[.bool (decide (r.num<0)),w1]) r.num:=⟨w1,rfl,n1⟩;refine t8 mixed P1 aB rfl (b4 r0 (g5 (Ya hL1) rfl ?_));rintro u1 H1 ⟨l1,rfl⟩;have uA:=Lw.den (n2.mono l1);have hd0:0<=(r.den:Int):=aA;have hHM:=Tn;unfold Ny;by_cases f1: -(HM:Int)<=r.num/\r.num<HM
 ·rw[tu f1];simp only[cA,nA];refine⟨fun h=>(nomatch h),b4 ⟨_,rfl,eP _⟩ (b4 ⟨_,rfl,cY _⟩ (b4 ⟨words_size _,words_one _⟩ (g5 (Ya uA) rfl ?_)))⟩;rintro u2 H2 ⟨l2,rfl⟩;by_cases f2:(r.den:Int)<HM
  ·rw[tu (show -(HM:Int)<=(r.den:Int)/\(r.den:Int)<HM by omega),if_pos ⟨f1,f2⟩];simp only[cA,nA];refine⟨fun h=>(nomatch h),b4 ⟨_,rfl,eP _⟩ (b4 ⟨_,rfl,cY _⟩ (b4 ⟨words_size _,words_one _⟩ ⟨fun vals H'=>vals=[.bool false]/\H'=H2,b4 ⟨_,rfl⟩ (j1 rfl (b4 ⟨_,rfl⟩ ⟨rfl,rfl⟩)),?_⟩))⟩;rintro vals H3-⟨rfl,rfl⟩;exact b4 ⟨_,rfl⟩ (j1 rfl (c9 rfl ⟨l1.trans l2,rfl⟩))
  ·rw[tw (show ¬(-(HM:Int)<=(r.den:Int)/\(r.den:Int)<HM) by omega),if_neg (fun h=>f2 h.2)];simp only[cA,nA];refine⟨fun h=>(nomatch h),b4 ⟨_,rfl,eP _⟩ (b4 ⟨_,rfl,cY _⟩ (b4 ⟨words_size _,words_one _⟩ ⟨fun vals H'=>vals=[.bool true]/\H'=H2,b4 ⟨_,rfl⟩ (j1 rfl (b4 ⟨_,rfl⟩ ⟨rfl,rfl⟩)),?_⟩))⟩;rintro vals H3-⟨rfl,rfl⟩;exact b4 ⟨_,rfl⟩ (Ah rfl (c9 (congrArg (fun z=>Value.tuple #[z,.int .i64 6]) ut) ⟨l1.trans l2,rfl⟩))
 ·rw[tw f1,if_neg (fun h=>f1 h.1)];simp only[cA,nA];refine⟨fun h=>(nomatch h),b4 ⟨_,rfl,eP _⟩ (b4 ⟨_,rfl,cY _⟩ (b4 ⟨words_size _,words_one _⟩ (g5 (Ya uA) rfl ?_)))⟩;rintro u2 H2 ⟨l2,rfl⟩;obtain⟨m,e,ht⟩:=dw (r.den:Int);rw[ht];simp only[cA,nA];refine⟨fun h=>(nomatch h),b4 ⟨_,rfl,eP _⟩ (b4 ⟨_,rfl,cY _⟩ (b4 ⟨words_size _,words_one _⟩ ⟨fun vals H'=>vals=[.bool true]/\H'=H2,b4 ⟨_,rfl⟩ (Ah rfl ⟨rfl,rfl⟩),?_⟩))⟩;rintro vals H3-⟨rfl,rfl⟩;exact b4 ⟨_,rfl⟩ (Ah rfl (c9 (congrArg (fun z=>Value.tuple #[z,.int .i64 6]) ut) ⟨l1.trans l2,rfl⟩))
def Rp.out {v:Value} (h:Rp H v r):∃w1 w2,v= .agg #[.bool (decide (r.num<0)),w1,.bool false,w2]/\Lw H (.agg #[.bool (decide (r.num<0)),w1]) r.num/\Lw H (.agg #[.bool false,w2]) (r.den:Int):=by
 obtain⟨w1,w2,rfl,n1,n2⟩:=h;exact⟨w1,w2,rfl,⟨w1,rfl,n1⟩,Lw.den n2⟩
def R3 (r s:Rat):(r.den:Int)*s.den≠0:=Int.mul_ne_zero (by have:=r.den_nz;omega) (by have:=s.den_nz;omega)
def Gs {k:Nat} (h:r.den<2^k):((r.den:Nat):Int).natAbs<2^k:=by rw[Q9];exact h
def IN (hx:Rp H x r) (hy:Rp H y s) (hr:Rb j r) (hs:Rb k s) (hjk:j+k+1<=320000):Con prog 72 [x,y] H fun u H'=>Pl H H'/\Rp H' u (r+s):=by
 have r1:=hx.rq;have r2:=hy.rq;obtain⟨w1,w2,rfl,a1,a2⟩:=hx.out;obtain⟨w3,w4,rfl,b1,b2⟩:=hy.out;have m1:=Yb hr.1 (Gs hs.2);have m2:=Yb hs.1 (Gs hr.2);have m3:=Yb (Gs hr.2) (Gs hs.2);rw[Nat.add_comm k j]at m2;have m4:=Lm.add2 m1 m2 (m:=j+k+1) (aS _) (aS _);refine t8 mixed P2 aB rfl (b4 r1 (b4 r2 (g5 (Nw a1 b2 (Lm.two hr.1 aA) (Lm.two (Gs hs.2) aA)) rfl ?_)));rintro u1 H1 ⟨l1,rL⟩;simp only[cA,nA];refine⟨fun _=>l1,g5 (Nw (b1.mono l1) (a2.mono l1) (Lm.two hs.1 aA) (Lm.two (Gs hr.2) aA)) rfl ?_⟩;rintro u2 H2 ⟨l2,qW⟩;simp only[cA,nA];refine⟨fun _=>l2,g5 (Xz (rL.mono l2) qW (Lm.two m1 aA) (Lm.two m2 aA)) rfl ?_⟩;rintro u3 H3 ⟨l3,yH⟩;simp only[cA,nA];refine⟨fun _=>l3,g5 (Nw (a2.mono (l1.trans (l2.trans l3))) (b2.mono (l1.trans (l2.trans l3))) (Lm.two (Gs hr.2) aA) (Lm.two (Gs hs.2) aA)) rfl ?_⟩;rintro u4 H4 ⟨l4,vQ⟩;simp only[cA,nA];refine⟨fun _=>l4,g5 (IH (yH.mono l4) vQ (Lm.two m4 hjk) (Lm.two m3 aA) (R3 r s)) rfl ?_⟩;rintro u5 H5 ⟨l5,wK⟩;rw[Q6]at wK;have r5:=wK.rq;obtain⟨w5,w6,rfl,n5⟩:=wK;exact⟨fun _=>l5,b4 r5 (c9 rfl ⟨l1.trans (l2.trans (l3.trans (l4.trans l5))),w5,w6,rfl,n5⟩)⟩
def IP (hx:Rp H x r) (hy:Rp H y s) (hr:Rb j r) (hs:Rb k s) (hjk:j+k<=320000):Con prog 71 [x,y] H fun u H'=>Pl H H'/\u= .int .i64 (sgR r s):=by
 have r1:=hx.rq;have r2:=hy.rq;obtain⟨w1,w2,rfl,a1,a2⟩:=hx.out;obtain⟨w3,w4,rfl,b1,b2⟩:=hy.out;have m1:=Yb hr.1 (Gs hs.2);have m2:=Yb hs.1 (Gs hr.2);refine t8 mixed P3 aB rfl (b4 r1 (b4 r2 (g5 (Nw a1 b2 (Lm.two hr.1 aA) (Lm.two (Gs hs.2) aA)) rfl ?_)));rintro u1 H1 ⟨l1,rL⟩;simp only[cA,nA];refine⟨fun _=>l1,g5 (Nw (b1.mono l1) (a2.mono l1) (Lm.two hs.1 aA) (Lm.two (Gs hr.2) aA)) rfl ?_⟩;rintro u2 H2 ⟨l2,qW⟩;simp only[cA,nA];refine⟨fun _=>l2,g5 (HV (rL.mono l2) qW (Lm.two m1 hjk) (Lm.two m2 aA)) rfl ?_⟩;rintro u3 H3 ⟨l3,rfl⟩;rw[Q7];exact⟨fun _=>l3,c9 rfl ⟨l1.trans (l2.trans l3),rfl⟩⟩
end
end Go.Z
namespace Go.WD
open RX
def okB (n d:Nat):Bool:=decide (0<toI d)&&decide (fS (toI n).natAbs (toI d).natAbs=1)
def okP (p:Nat×Nat):Bool:=okB p.1 p.2
def Fb (n d:Nat):Rat:=Rat.divInt (toI n) (toI d)
def Yc {n d:Nat} (h:okB n d=true):(Fb n d).num=toI n/\((Fb n d).den:Int)=toI d:=by
 unfold okB at h;rw[aT,oDi,oDi]at h;have h0:toI d≠0:=aA;have h1:=fg (toI n) h0;have h2:=um (toI n) h0;simp only[h.2,Int.natCast_one,Int.ediv_one]at h1 h2;rw[if_neg aA]at h1 h2;exact⟨h1,h2⟩
def IQ (z:Int):sgI z 0<=0↔z<=0:=by
 unfold sgI;by_cases h1:z<0
 ·rw[if_pos h1];omega
 ·rw[if_neg h1];by_cases h2:z=0
  ·rw[if_pos h2];omega
  ·rw[if_neg h2];omega
def R4 (y z:Int):(sgI y z !=0)= !decide (y=z):=by
 unfold sgI;by_cases h1:y<z
 ·rw[if_pos h1,decide_eq_false aA];rfl
 ·rw[if_neg h1];by_cases h2:y=z
  ·rw[if_pos h2,oDd h2];rfl
  ·rw[if_neg h2,decide_eq_false h2];rfl
end Go.WD
namespace Go.Z
open Proofs.Tryz RowKit RX WD
def IR {n d K:Nat} (h:okB n d=true) (hK:K=512):Rb K (Fb n d):=by
 obtain⟨h1,h2⟩:=Yc h;have e:M=2^K:=by
  rw[Db,Ua];congr 1;omega
 have a1:=Tv n;have a2:=Tv d;unfold Rb;rw[h1,<-e];exact⟨a1,aA⟩
def R5 {b:Bool} (h:(!b)=true):b=false:=by cases b<;>simp_all
def R6 {b:Bool} (h:(!b)=false):b=true:=by cases b<;>simp_all
def shf (p:Nat×Nat):List Value:=(words p.1).toList++(words p.2).toList
def shp (p:Nat×Nat):Value:=shv p.1 p.2
def Yd (p:Nat×Nat):(shf p).length=16:=rfl
def IS:∀(ps:List (Nat×Nat)) (i:Nat),i<ps.length->((ps.flatMap shf).drop (i*16)).take 16=shf (ps.getD i (0,0))
 |[],i,h=>by simp at h
 |p::ps,0,_=>by
  rw[fO,bY,dS,cG (by rw[Yd];omega),aI (by rw[Yd];omega)];rfl
 |p::ps,i+1,h=>by
  have tY:=IS ps i (by simpa using h);rw[fO,cM,cL,List.drop_append,Yd,List.drop_of_length_le (by rw[Yd];omega),cU,show i*16+16-16=i*16 from aA,tY];rfl
def uu:∀(ps:List (Nat×Nat)),(ps.flatMap shf).length=ps.length*16
 |[]=>rfl
 |p::ps=>by rw[fO,aL,Yd,uu ps,aO];omega
def R7 (ps:List (Nat×Nat)):((ps.map shp).flatMap fun v=>v.cells.toList)=ps.flatMap shf:=by
 rw[List.flatMap_map];congr 1
def Shs (H:PH) (v:Value) (ps:List (Nat×Nat)):Prop:=Sl H 16 v ps.length (ps.flatMap shf)
def Shs.mono {H H':PH} {v:Value} {ps:List (Nat×Nat)} (h:Shs H v ps) (hl:Pl H H'):Shs H' v ps:=Sl.mono h hl
def R8:∃i z,prog.info? 46=some i/\i.zero=some z/\i.size=16/\z.cells.size=16/\i.bytes=128:=by
 refine⟨(prog.info? 46).getD default,(((prog.info? 46).getD default).zero).getD default,aB,aB,aB,aB,aB⟩
def uw:prog.underlying 194=some (.slice 46):=aB
section
variable {G Xp:Value->PH->Prop} {nx:List (List Value->PH->Prop)} {ρ:List Value} {H H0:PH} {o o1 o2:Oper} {x y x2 y2:Operand} {id i id2 i2:Nat} {args args2:List SV} {t:Tree} {v:Value} {ps:List (Nat×Nat)}
def R9 (ho:o.op= .call ⟨.builtin .len,#[x],#[194]⟩) (hx:e8 [x] [v] x=v) (h:Shs H v ps) (ha:args.map (D prog ρ)=[v]) (k:den prog G Xp t nx (ρ++[iv ps.length]) H):den prog G Xp (.prim id i o args t) nx ρ H:=
 j6 ((qz ho hx uw h).rds H) ha k
def S0 {k:IntKind} {j:Nat} (sY:o1.op= .indexAddr 194 x y) (sZ:o2.op= .load 46 x2) (hx:e8 [x,y] [v,.int k (j:Nat)] x=v) (hy:e8 [x,y] [v,.int k (j:Nat)] y= .int k (j:Nat)) (rA:∀p,e8 [x2] [p] x2=p) (h:Shs H v ps) (hj:j<ps.length)
  (ha:args.map (D prog ρ)=[v,.int k (j:Nat)]) (rY:∀p,args2.map (D prog (ρ++[p]))=[p]) (c:∀p,den prog G Xp t nx (ρ++[p]++[shp (ps.getD j (0,0))]) H):den prog G Xp (.prim id i o1 args (.prim id2 i2 o2 args2 t)) nx ρ H:=by
 obtain⟨b,q,cs,T',fz,h1,h2,h3,h4⟩:=rh (P:=prog) (e:=46) (sz:=16) sY hx hy uw aB aB aA h hj;rw[IS ps j hj]at h4;have hl:=FM (P:=prog) (H:=H) sZ (rA _) h2 aB aB aB h3 h4;rw[show(shf (ps.getD j (0,0))).toArray=words (ps.getD j (0,0)).1++words (ps.getD j (0,0)).2 from by apply gI;simp[shf]]at hl;exact j6 (h1.rds H) ha (j6 hl (rY _) (c _))
def S1 {pb:Bool} {parts:Array (Nat×Operand)} {vs:List Value} (ps:List (Nat×Nat)) (ho:o.op= .buildSlice 194 ps.length parts) (tJ:0<ps.length) (qG:ps.length<=1000) (a3z:(parts.toList.map fun p=>(p.1,e8 (parts.toList.map (·.2)) vs p.2))=(ps.map shp).zipIdx.map fun p=>(p.2,p.1)) (ha:args.map (D prog ρ)=vs)
  (n:∀v H',Pl H H'->Shs H' v ps->den prog G Xp t nx (ρ++[v]) H'):den prog G Xp (.eff pb id i o args t) nx ρ H:=by
 obtain⟨ti,z,i1,i2,i3,i4,i5⟩:=R8;refine j4 (vs:=vs) (rl (cells:=(ps.flatMap shf).toArray) ho uw i1 i2 (by rw[i3];omega) (by rw[i3];omega) ?_) ha ?_
 ·rw[i3,a3z];have:=Go.Great.fill_whole (s:=16) aA (ps.map shp) (Array.map (fun x=>z.cells[x%z.cells.size]!) (Array.range (ps.length*16))) (fun v hv=>by
   obtain⟨p,_,rfl⟩:=bK.1 hv;exact(r4 p.1 p.2).1) aD
  rw[R7]at this;exact this
 ·rintro v H' ⟨g,hg,rfl,rfl⟩;refine⟨fun _=>PH.le_put hg _,n _ _ (PH.le_put hg _) ⟨uu ps,_,ps.length,rfl,aS _,by simp only[maxLen];omega,.inr ⟨g,0,_,_,_,rfl,PH.put_self _ _ _,?_⟩⟩⟩;rw[dS,List.toList_toArray,aI (by rw[uu];exact aS _)]
end
section
variable {H:PH} {x y v:Value} {r s:Rat} {n d m e:Nat}
def IU (n d:Nat):Con prog 112 [shv n d] H fun u H'=>Pl H H'/\u= .int .i64 (if okB n d then 0 else 20):=by
 refine t8 mixed P4 aB rfl (b4 (r4 n d) (g5 (Nx 1 aA aA) rfl ?_));rintro u1 H1 ⟨l1,rL⟩;have r1:=rL.rq;have yZ:=rL;obtain⟨w1,rfl,_⟩:=rL;simp only[cA,nA];refine⟨fun h=>(nomatch h),b4 r1 (g5 (fh n d) rfl ?_)⟩;rintro u2 H2 ⟨l2,qW⟩;have r2:=qW.rq;obtain⟨w2,w3,rfl,n2,n3⟩:=qW;have uA:Lw H2 (.agg #[.bool (decide (toI n<0)),w2]) (toI n):=⟨w2,rfl,n2⟩;have hL3:Lw H2 (.agg #[.bool (decide (toI d<0)),w3]) (toI d):=⟨w3,rfl,n3⟩;have lmn:=fb n;have lmd:=fb d;simp only[cA,nA];refine⟨fun h=>(nomatch h),b4 r2 ⟨fun vals H'=>vals=[.bool (!okB n d)]/\Pl H2 H',g5 (fc hL3) rfl ?_,?_⟩⟩
 ·rintro u3 H3 ⟨rfl,rfl⟩;simp only[cA,nA];refine⟨fun _=>Pl.refl _,b4 ⟨_,rfl⟩ (g8 (b:=decide (sgI (toI d) 0<=0)) rfl (fun h=> ?_) (fun h=> ?_))⟩
  ·have h:=(IQ _).1 (oDt h);refine⟨?_,Pl.refl _⟩;show[Value.bool true]=_;unfold okB;rw[decide_eq_false (show ¬0<toI d by omega)];rfl
  ·have h:¬toI d<=0:=fun e=>oDf h ((IQ _).2 e);refine g5 (HW uA hL3 lmn lmd) rfl ?_;rintro u4 H4 ⟨l4,vQ⟩;simp only[cA,nA];have uN:Lm ((fS (toI n).natAbs (toI d).natAbs:Nat):Int):=by
    unfold Lm at lmd⊢;rw[fA];exact aR (mX _ aA) lmd
   refine⟨fun _=>l4,g5 (HV vQ (yZ.mono (l2.trans l4)) uN ud) rfl ?_⟩;rintro u5 H5 ⟨l5,rfl⟩;simp only[cA,nA];refine⟨fun _=>l5,b4 ⟨_,rfl⟩ ⟨?_,l4.trans l5⟩⟩;show[Value.bool (sgI ((fS (toI n).natAbs (toI d).natAbs:Nat):Int) 1 !=0)]=_;rw[R4];unfold okB;rw[oDd (show 0<toI d by omega),Bool.true_and];congr 3;rw[decide_eq_decide];omega
 rintro vals H6-⟨rfl,l6⟩;simp only[cA,nA];refine b4 ⟨_,rfl⟩ (g8 rfl (fun h=> ?_) (fun h=> ?_))
 ·have h:okB n d=false:=by simpa using h
  exact c9 rfl ⟨l1.trans (l2.trans l6),by rw[h];rfl⟩
 ·have h:okB n d=true:=by simpa using h
  exact c9 rfl ⟨l1.trans (l2.trans l6),by rw[h];rfl⟩
def S2 (n d:Nat):Con prog 202 [shv n d] H fun u H'=>Pl H H'/\u= .bool (okB n d):=by
 refine t8 mixed P7 aB rfl (b4 (r4 n d) (g5 (IU n d) rfl ?_));rintro u1 H1 ⟨l1,rfl⟩;refine⟨fun h=>(nomatch h),b4 ⟨_,rfl⟩ (c9 rfl ⟨l1,?_⟩)⟩;show Value.bool ((if okB n d then(0:Int)else 20)==0)=_;cases okB n d<;>rfl
def S3:q8 prog 202=true:=aB
def S4 {ps:List (Nat×Nat)} (h:Shs H v ps):Con prog 203 [.func (.func 202) #[] #[],v] H fun u H'=>Pl H H'/\u= .bool (ps.all okP):=by
 have pB:=h.len_le;simp only[maxLen]at pB;refine t8 mixed P5 aB rfl (R9 rfl rfl h rfl ⟨fun vals H'=>∃i:Nat,vals=[.bool false,iv i]/\i<=ps.length/\Pl H H'/\(ps.take i).all okP=true,fun vals _=>(ps.length-intOf (vals.getD 1 undef)).toNat,⟨0,rfl,aA,Pl.refl _,rfl⟩,?_⟩);rintro vals H1-⟨i,rfl,hi,l1,qM⟩;simp only[cA,nA];refine b4 ⟨_,rfl⟩ (b4 ⟨_,rfl⟩ (g8 (b:=decide ((i:Int)<ps.length)) rfl (fun hb=> ?_) (fun hb=> ?_)))
 ·have hb:i<ps.length:=by have:=oDt hb;omega
  have e1:IntKind.i64.wrap ((i:Int)+1)=((i+1:Nat):Int):=Kq aA;refine S0 (k:= .i64) (j:=i) rfl rfl rfl rfl aF (h.mono l1) hb rfl aF fun p=> ?_;simp only[cA,nA];obtain⟨a,ha⟩:∃a,a=ps.getD i (0,0):=⟨_,rfl⟩;have rD:a∈ps:=by rw[ha,aK,aG hb];exact dW hb
  rw[<-ha];refine b4 (r4 a.1 a.2) (j4 (Bh (f:=202) (caps:= #[]) (vs:=[shv a.1 a.2]) rfl rfl rfl S3 (S2 a.1 a.2)) rfl ?_);rintro u2 H2 ⟨l2,rfl⟩;simp only[cA,nA];refine⟨fun h=>(nomatch h),b4 ⟨_,rfl⟩ (g8 (b:= !okB a.1 a.2) rfl (fun h2=> ?_) (fun h2=> ?_))⟩
  ·have h2:okB a.1 a.2=false:=by simpa using h2
   refine c9 rfl ⟨l1.trans l2,?_⟩;show Value.bool false=_;congr 1
   symm
   rw[List.all_eq_false];exact⟨a,rD,by show ¬okB a.1 a.2=true;rw[h2];simp⟩
  ·have h2:okB a.1 a.2=true:=by simpa using h2
   refine⟨⟨i+1,?_,aA,l1.trans l2,?_⟩,?_⟩
   ·simp only[rxs,iv,e1]
   ·rw[cK,List.all_append,qM,aG hb];have:ps[i]=a:=by rw[ha,aK,aG hb];rfl
    rw[this];show(true&&(okB a.1 a.2&&true))=true;rw[h2];rfl
   ·simp only[rxs,iv,e1];omega
 ·have hb:i=ps.length:=by have:=oDf hb;omega
  rw[aI aA]at qM;exact c9 rfl ⟨l1,by rw[qM];rfl⟩
def S5 {ps:List (Nat×Nat)} (h:Shs H v ps):Con prog 135 [v] H fun u H'=>Pl H H'/\u= .bool (ps.all okP):=by
 refine t8 mixed P6 aB rfl (g5 (S4 h) rfl ?_);rintro u1 H1 ⟨l1,rfl⟩;exact⟨fun h=>(nomatch h),c9 rfl ⟨l1,rfl⟩⟩
def S6 (n d m e:Nat):[(n,d),(m,e)].all okP=(okB n d&&okB m e):=by show(okB n d&&(okB m e&&true))=_;rw[Bool.and_true]
def S7 {f:FuncId} (qZ:q8 prog f=true) (n d m e:Nat) (t:Int) (hf:okB n d=true->okB m e=true->∀H x y,Rp H x (Fb n d)->Rp H y (Fb m e)->Con prog f [x,y] H fun u H'=>Pl H H'/\u= .int .i64 t):
  Con prog 87 [shv n d,shv m e,.func (.func f) #[] #[]] H fun u H'=>Pl H H'/\(((okB n d&&okB m e)=true/\∃v,u= .tuple #[v,.int .i64 0]/\v= .int .i64 t)\/((okB n d&&okB m e)=false/\∃v,u= .tuple #[v,.int .i64 20]/\v= .int .i64 0)):=by
 refine t8 mixed P8 aB rfl (b4 (r4 n d) (b4 (r4 m e) (S1 (vs:=[shv n d,shv m e]) [(n,d),(m,e)] rfl aD aD rfl rfl fun v1 H1 l1 hv1=> ?_)));simp only[cA,nA];refine g5 (S5 hv1) rfl ?_;rintro u2 H2 ⟨l2,rfl⟩;rw[S6];simp only[cA,nA];refine⟨fun h=>(nomatch h),b4 ⟨_,rfl⟩ (g8 (b:= !(okB n d&&okB m e)) rfl (fun h=> ?_) (fun h=> ?_))⟩
 ·have h:=R5 h;exact c9 rfl ⟨l1.trans l2,.inr ⟨h,_,rfl,rfl⟩⟩
 ·have h:=R6 h;have h':=h;rw[aT]at h';refine g5 (fh n d) rfl ?_;rintro u3 H3 ⟨l3,yH⟩;simp only[cA,nA];refine⟨fun _=>l3,g5 (fh m e) rfl ?_⟩;rintro u4 H4 ⟨l4,vQ⟩;simp only[cA,nA];have hx:=(yH.mono l4).rp (Yc h'.1).1 (Yc h'.1).2;have hy:=vQ.rp (Yc h'.2).1 (Yc h'.2).2;refine⟨fun _=>l4,j4 (Bh (f:=f) (caps:= #[]) (vs:=[u3,u4]) rfl rfl rfl qZ (hf h'.1 h'.2 H4 u3 u4 hx hy)) rfl ?_⟩;rintro u5 H5 ⟨l5,wK⟩;subst wK;exact⟨fun _=>l5,c9 rfl ⟨l1.trans (l2.trans (l3.trans (l4.trans l5))),.inl ⟨h,_,rfl,rfl⟩⟩⟩
def IV (r:Rat):∃(n d:Nat) (e:Int),Ny r= .tuple #[shv n d,.int .i64 e]:=by
 unfold Ny;split
 ·exact⟨_,_,0,rfl⟩
 ·exact⟨0,0,6,rfl⟩
def S8:q8 prog 71=true:=aB
def ux (ok:Bool) (t:Int):Value:=if ok then .tuple #[.int .i64 t,.int .i64 0]else .tuple #[.int .i64 0,.int .i64 20]
def S9 (n d m e:Nat):Con prog 46 [shv n d,shv m e] H fun u H'=>Pl H H'/\u=ux (okB n d&&okB m e) (sgR (Fb n d) (Fb m e)):=by
 obtain⟨K,hK⟩:∃K,K=512:=⟨_,rfl⟩;refine t8 mixed Q1 aB rfl (b4 (r4 n d) (b4 (r4 m e) (g5 (S7 (f:=71) S8 n d m e (sgR (Fb n d) (Fb m e)) (fun h1 h2 H x y hx hy=>IP hx hy (IR h1 hK) (IR h2 hK) aA)) rfl ?_)));rintro u1 H1 ⟨l1,rL⟩;unfold ux;rcases rL with⟨h,v,rfl,rfl⟩|⟨h,v,rfl,rfl⟩
 ·rw[h,if_pos rfl];exact⟨fun h=>(nomatch h),b4 ⟨_,rfl,eP _⟩ (b4 ⟨_,rfl,cY _⟩ (c9 rfl ⟨l1,rfl⟩))⟩
 ·rw[h,if_neg aD];exact⟨fun h=>(nomatch h),b4 ⟨_,rfl,eP _⟩ (b4 ⟨_,rfl,cY _⟩ (c9 rfl ⟨l1,rfl⟩))⟩
def Hu (p q:Int):Value:=if q=0 then .tuple #[shv 0 0,.int .i64 7]else Ny (Rat.divInt p q)
def T0 (p q:Int):∃(n d:Nat) (e:Int),Hu p q= .tuple #[shv n d,.int .i64 e]:=by
 unfold Hu;split
 ·exact⟨0,0,7,rfl⟩
 ·exact IV _
def IW (d:Nat):d%M=0↔toI d=0:=by
 have:=Tn;have:=Ja;have:=cO d Np;unfold toI;split<;>omega
def IX (n d:Nat):Con prog 62 [wd n,wd d] H fun u H'=>Pl H H'/\u=Hu (toI n) (toI d):=by
 refine t8 mixed P9 aB rfl (b4 ⟨words_size n,words_one n⟩ (b4 ⟨words_size d,words_one d⟩ (j6 ((D3 (a:=d) (b:=0) rfl rfl rfl rfl rfl).rds _) ?_ (b4 ⟨_,rfl⟩ (g8 (b:=decide (d%M=0%M)) rfl (fun h=> ?_) (fun h=> ?_))))))
 ·simp only[rxs,Jc];rfl
 ·have h:=oDt h;rw[nZ,IW]at h;unfold Hu;rw[if_pos h];exact c9 (congrArg (fun z=>Value.tuple #[z,.int .i64 7]) ut) ⟨Pl.refl _,rfl⟩
 ·have h:=oDf h;rw[nZ,IW]at h;unfold Hu;rw[if_neg h];refine g5 (Uc n) rfl ?_;rintro u1 H1 ⟨l1,rL⟩;simp only[cA,nA];refine⟨fun _=>l1,g5 (Uc d) rfl ?_⟩;rintro u2 H2 ⟨l2,qW⟩;simp only[cA,nA];refine⟨fun _=>l2,g5 (IH (rL.mono l2) qW (fb n) (fb d) h) rfl ?_⟩;rintro u3 H3 ⟨l3,yH⟩;simp only[cA,nA];refine⟨fun _=>l3,g5 (IM yH) rfl ?_⟩;rintro u4 H4 ⟨l4,rfl⟩;obtain⟨a,b,c,ht⟩:=IV (Rat.divInt (toI n) (toI d));rw[ht];exact⟨fun _=>l4,b4 ⟨_,rfl,eP _⟩ (b4 ⟨_,rfl,cY _⟩ (b4 (r4 a b) (c9 rfl ⟨l1.trans (l2.trans (l3.trans l4)),rfl⟩)))⟩
def IY (p q:Int) (p0: -9223372036854775808<=p) (p1:p<9223372036854775808) (q0: -9223372036854775808<=q) (q1:q<9223372036854775808):Con prog 49 [.int .i64 p,.int .i64 q] H fun u H'=>Pl H H'/\u=Hu p q:=by
 refine t8 mixed Q0 aB rfl (Bn (Xs p p0 p1) rfl (Bn (Xs q q0 q1) rfl (g5 (IX (rs p) (rs q)) rfl ?_)));rintro u1 H1 ⟨l1,rfl⟩;rw[Ho (fits_small p0 p1),Ho (fits_small q0 q1)];obtain⟨a,b,c,ht⟩:=T0 p q;rw[ht];exact⟨fun h=>(nomatch h),b4 ⟨_,rfl,eP _⟩ (b4 ⟨_,rfl,cY _⟩ (b4 (r4 a b) (c9 rfl ⟨l1,rfl⟩)))⟩
end
def T4 {a b:Nat} (d:Nat) (w:World):(Op.equalIn (d+2) 44 (wd a) (wd b)).run prog w= .ok (decide (a%M=b%M)) w:=by
 obtain⟨i,hi⟩:∃i,prog.info? 42=some i:=by
  have h:=Ks;unfold r9 at h;rw[aT,eG]at h;exact h.1
 show(Op.equalIn (d+1+1) 44 (.agg (wf (dig a))) (.agg (wf (dig b)))).run prog w=_;rw[run_equalIn_array (n:=8) (e:=42) w (d+1) _ _ aB hi,GB Ks Ub HA aB d (dig a) (dig b) w _ (fun i hi=>bH.1 hi)];refine congrArg (fun z=>Result.ok z w) ?_;rw[bS,oDi,oDi];exact GE a b
noncomputable def fN:Field:=((prog.fieldsOf 46)[0]?).getD default
noncomputable def fD:Field:=((prog.fieldsOf 46)[1]?).getD default
def T5:(prog.fieldsOf 46).toList=[fN,fD]:=aB
def T6:fN.type=44:=aB
def T7:fN.offset=0:=aB
def T8:(fN.name≠ "_")=True:=eq_true (by decide+kernel)
def T9:fD.type=44:=aB
def U0:fD.offset=8:=aB
def U1:(fD.name≠ "_")=True:=eq_true (by decide+kernel)
def Ud:prog.cellsOf 44=8:=aB
def U2 (a b:Nat) (w:World):(part 44 (words a++words b) 0).run prog w= .ok (wd a) w:=by
 rw[Qa aB (by rw[Ud,(r4 a b).1];omega) (by rw[Ud];omega) w,Ud,show p8 prog 44=true from aB,if_pos rfl];rw[IK]
def U3 (a b:Nat) (w:World):(part 44 (words a++words b) 8).run prog w= .ok (wd b) w:=by
 rw[Qa aB (by rw[Ud,(r4 a b).1];omega) (by rw[Ud];omega) w,Ud,show p8 prog 44=true from aB,if_pos rfl];rw[IL]
def shR (r:Rat):Value:=shv (rs r.num) (rs (r.den:Int))
def U4:(9223372036854775808:Int)<HM:=by
 have:=M_big.1;omega
def U5 {r:Rat} (h: -(HM:Int)<=r.num/\r.num<HM) (h2:(r.den:Int)<HM):okB (rs r.num) (rs (r.den:Int))=true/\Fb (rs r.num) (rs (r.den:Int))=r:=by
 have hd:0<(r.den:Int):=by have:=r.den_nz;omega
 have e1:toI (rs r.num)=r.num:=Ho h;have e2:toI (rs (r.den:Int))=(r.den:Int):=Ho (show Jb _ from⟨by have:=Tn;omega,h2⟩);constructor
 ·unfold okB;rw[e1,e2,oDd hd,fA,oDd r.reduced];rfl
 ·unfold Fb;rw[e1,e2,Rat.num_divInt_den]
def fi {r:Rat} {k:Nat} (h:Rb k r) (hk:k<=511):(-(HM:Int)<=r.num/\r.num<HM)/\(r.den:Int)<HM:=by
 have:=O7 hk;unfold Rb at h;omega
def U6 {r:Rat} {k:Nat} (h:Rb k r) (hk:k<=511):Ny r= .tuple #[shR r,.int .i64 0]:=by
 unfold Ny;rw[if_pos (fi h hk)];rfl
def IZ {r:Rat} {k:Nat} (h:Rb k r) (hk:k<=511):okB (rs r.num) (rs (r.den:Int))=true/\Fb (rs r.num) (rs (r.den:Int))=r:=U5 (fi h hk).1 (fi h hk).2
section
variable {H:PH} {r s t:Rat}
def Rg (r:Rat):Prop:=∃k,k<=511/\Rb k r
def U7 {k:Nat} (h:Rb k r) (hk:k<=511):Rg r:=⟨k,hk,h⟩
def uz (h:Rg r):okB (rs r.num) (rs (r.den:Int))=true:=h.elim fun _ h=>(IZ h.2 h.1).1
def fj (h:Rg r):Fb (rs r.num) (rs (r.den:Int))=r:=h.elim fun _ h=>(IZ h.2 h.1).2
def fk (h:Rg r):Ny r= .tuple #[shR r,.int .i64 0]:=h.elim fun _ h=>U6 h.2 h.1
def U8 (h:Rg r):Jb r.num/\Jb (r.den:Int):=by
 obtain⟨k,hk,h⟩:=h;have h1:=fi h hk;exact⟨h1.1,by have:=Tn;omega,h1.2⟩
def JA:Rg 0:=⟨1,aA,aC,aC⟩
def JB:Rg 1:=⟨1,aA,aC,aC⟩
def U9 {z:Int} {k:Nat} (h:z.natAbs<2^k) (h1:1<=k) (hk:k<=511):Rg (z:Rat):=by
 refine⟨k,hk,?_,?_⟩
 ·rw[Rat.num_intCast];exact h
 ·rw[Rat.den_intCast];exact aM (show 1<2^1 by omega) (bB aA h1)
end
end Go.Z

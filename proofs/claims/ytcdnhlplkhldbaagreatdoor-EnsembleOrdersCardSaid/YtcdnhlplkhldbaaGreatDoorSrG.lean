/- Lemmas of the proof. -/
import Derived.Test.YtcdnhlplkhldbaaGreatDoorShT
import Derived.Lib.Bytealg
import Derived.Laws.StructEq
open Array renaming ext'->fZ
open Bool renaming true_and->iV
open Int renaming gcd->pX,mul_ediv_cancel_left->gG,mul_ne_zero->oJ,natAbs_ediv_le_natAbs->lU,natAbs_mul->jQ,natAbs_natCast->eU,ofNat_dvd_left->kN
open List renaming flatMap_cons->fJ
open Nat renaming gcd->fO,gcd_comm->nF,gcd_dvd_right->nS,gcd_le_right->nX,gcd_pos_of_pos_right->iG,zero_lt_succ->eM,zero_mod->mI
set_option linter.all false
set_option maxRecDepth 100000
namespace Go.WD
open RX
def Rb (k:Nat) (r:Rat):Prop:=r.num.natAbs<2^k/\r.den<2^k
def Rb.le {j k:Nat} {r:Rat} (h:Rb j r) (hk:j<=k):Rb k r:=⟨aU h.1 (bQ aA hk),aU h.2 (bQ aA hk)⟩
def c8f {a b i j:Nat} (ha:a<2^i) (hb:b<2^j):a*b<2^(i+j):=by
 rw[Nat.pow_add];exact Nat.mul_lt_mul'' ha hb
def jf (n:Int) {d:Int} (hd:d≠0):(Rat.divInt n d).num=if d/(fO n.natAbs d.natAbs:Nat)<0 then -(n/(fO n.natAbs d.natAbs:Nat))else n/(fO n.natAbs d.natAbs:Nat):=by
 have hg:0<fO n.natAbs d.natAbs:=iG _ aA;have hgn:((fO n.natAbs d.natAbs:Nat):Int) ∣ n:=kN.2 (Nat.gcd_dvd_left _ _);rw[Rat.num_divInt];have e:(d.gcd n:Nat)=fO n.natAbs d.natAbs:=by unfold pX;exact nF _ _
 rw[e];obtain⟨m,hm⟩:=hgn;have wT:((fO n.natAbs d.natAbs:Nat):Int) ∣ d:=kN.2 (nS _ _);obtain⟨c,hc⟩:=wT;generalize fO n.natAbs d.natAbs=g at hg hm hc;have hg':(g:Int)≠0:=aA;have e1:n/(g:Int)=m:=by rw[hm];exact gG _ hg'
 have e2:d/(g:Int)=c:=by rw[hc];exact gG _ hg'
 rw[e1,e2];rcases Int.lt_or_gt_of_ne hd with h|h
 ·have yH:c<0:=by
   rcases Int.lt_or_le c 0 with h1|h1
   ·exact h1
   ·have:=Int.mul_nonneg (show(0:Int)<=g by omega) h1;omega
  rw[if_pos yH,Int.sign_eq_neg_one_of_neg h,hm,Int.neg_one_mul,<-Int.mul_neg];exact gG _ hg'
 ·have yH:¬c<0:=fun h1=>by
   have:=Int.mul_neg_of_pos_of_neg (show(0:Int)<g by omega) h1;omega
  rw[if_neg yH,Int.sign_eq_one_of_pos h,Int.one_mul,hm];exact gG _ hg'
def ye (n:Int) {d:Int} (hd:d≠0):((Rat.divInt n d).den:Int)=if d/(fO n.natAbs d.natAbs:Nat)<0 then -(d/(fO n.natAbs d.natAbs:Nat))else d/(fO n.natAbs d.natAbs:Nat):=by
 have hg:0<fO n.natAbs d.natAbs:=iG _ aA;rw[Rat.den_divInt,if_neg hd];have e:(d.gcd n:Nat)=fO n.natAbs d.natAbs:=by unfold pX;exact nF _ _
 rw[e];have wT:((fO n.natAbs d.natAbs:Nat):Int) ∣ d:=kN.2 (nS _ _);obtain⟨c,hc⟩:=wT;generalize fO n.natAbs d.natAbs=g at hg hc;have e2:d/(g:Int)=c:=by rw[hc];exact gG _ aA
 have e3:d.natAbs/g=c.natAbs:=by rw[hc,jQ,eU];exact Nat.mul_div_cancel_left _ hg
 rw[e2,e3];split<;>omega
def d4a (r s:Rat):Rat.divInt (r.num*s.den+s.num*r.den) ((r.den:Int)*s.den)=r+s:=by
 rw[Rat.add_def',<-eA,Rat.divInt_ofNat]
def LA (r s:Rat):Rat.divInt (r.num*s.den) ((r.den:Int)*s.num)=r/s:=by
 have h1:=Rat.num_divInt_den r;rw[Rat.div_def,Rat.inv_def]
 conv=>rhs;rw[<-h1]
 rw[Rat.divInt_mul_divInt]
def sgR (r s:Rat):Int:=if r<s then -1 else if r=s then 0 else 1
def d9t (r s:Rat):sgI (r.num*s.den) (s.num*r.den)=sgR r s:=by
 unfold sgI sgR;have h1:=Rat.lt_iff r s;have h2:=Rat.eq_iff_mul_eq_mul (p:=r) (q:=s);by_cases a:r<s
 ·rw[if_pos a,if_pos (h1.1 a)]
 ·rw[if_neg a,if_neg (fun h=>a (h1.2 h))];by_cases b:r=s
  ·rw[if_pos b,if_pos (h2.1 b)]
  ·rw[if_neg b,if_neg (fun h=>b (h2.2 h))]
def jg {n d:Int} {k:Nat} (hd:d≠0) (hn:n.natAbs<2^k) (hdk:d.natAbs<2^k):Rb k (Rat.divInt n d):=by
 have hg:0<fO n.natAbs d.natAbs:=iG _ aA;constructor
 ·have h1:(n/(fO n.natAbs d.natAbs:Nat)).natAbs<=n.natAbs:=lU _ _;rw[jf n hd];split
  ·rw[Int.natAbs_neg];omega
  ·omega
 ·have h2:=ye n hd;have h3:(d/(fO n.natAbs d.natAbs:Nat)).natAbs<=d.natAbs:=lU _ _;split at h2<;>omega
def d4b (r:Rat):((r.den:Nat):Int).natAbs=r.den:=eU _
def d9u (k:Nat):BP k=2^(32*k):=by unfold BP;rfl
end Go.WD
namespace Go.Z
open Proofs.Tryz RowKit RX WD
def Lm.two {z:Int} {k:Nat} (h:z.natAbs<2^k) (hk:k<=320000):Lm z:=by
 unfold Lm;obtain⟨K,hK⟩:∃K,K=10000:=⟨_,rfl⟩;rw[<-hK,d9u];exact aU h (bQ aA aA)
def Lm.add2 {y z:Int} {j k:Nat} (hy:y.natAbs<2^j) (hz:z.natAbs<2^k) {m:Nat} (h1:j+1<=m) (h2:k+1<=m):(y+z).natAbs<2^m:=by
 have h3:=Int.natAbs_add_le y z;have h4:2^(j+1)<=2^m:=bQ aA h1;have h5:2^(k+1)<=2^m:=bQ aA h2;rw[Nat.pow_succ]at h4 h5;omega
def Rz {y z:Int} {j k:Nat} (hy:y.natAbs<2^j) (hz:z.natAbs<2^k):(y*z).natAbs<2^(j+k):=by rw[jQ];exact c8f hy hz
def Rp (H:PH) (v:Value) (r:Rat):Prop:=∃w1 w2,v= .agg #[.bool (decide (r.num<0)),w1,.bool false,w2]/\Mu H w1 r.num.natAbs/\Mu H w2 r.den
def Rp.mono {H H':PH} {v:Value} {r:Rat} (h:Rp H v r) (hl:Pl H H'):Rp H' v r:=by
 obtain⟨w1,w2,h1,h2,h3⟩:=h;exact⟨w1,w2,h1,h2.mono hl,h3.mono hl⟩
def LC {b c:Bool} {w1 w2:Value} {H:PH} {m n:Nat} (h1:Mu H w1 m) (h2:Mu H w2 n):(Value.agg #[.bool b,w1,.bool c,w2]).cells.size=4/\j0 (Value.agg #[.bool b,w1,.bool c,w2]).cells:=by
 refine⟨rfl,fun x hx=> ?_⟩;have g1:=h1.one.2.2;have g2:=h2.one.2.2;rw[h1.one.1]at g1;rw[h2.one.1]at g2;rw[Gh]at hx;simp only[bG,cF,or_false]at hx;rcases hx with h|h|h|h
 ·rw[h];rfl
 ·rw[h];exact g1 _ aD
 ·rw[h];rfl
 ·rw[h];exact g2 _ aD
def Rp.rq {H:PH} {v:Value} {r:Rat} (h:Rp H v r):v.cells.size=4/\j0 v.cells:=by
 obtain⟨w1,w2,rfl,h1,h2⟩:=h;exact LC h1 h2
def Lw.den {H:PH} {w:Value} {n:Nat} (h:Mu H w n):Lw H (.agg #[.bool false,w]) (n:Int):=xx h
def d9v:j3 prog 106= .agg #[.bool false,.slice none 0 0]:=aB
section
variable {H:PH} {x y:Value} {p q:Int} {r s:Rat} {i j k:Nat}
def yf (hx:Lw H x p) (hy:Lw H y q) (hp:Lm p) (hq:Lm q) (zG:q≠0):Con prog 109 [x,y] H fun u H'=>Pl H H'/\Rp H' u (Rat.divInt p q):=by
 have r1:=hx.rq;have r2:=hy.rq;have xB:=hx;have yC:=hy;obtain⟨wx,rfl,_⟩:=hx;obtain⟨wy,rfl,_⟩:=hy;have hn:=jf p zG;have hd:=ye p zG;obtain⟨g,hg⟩:∃g,g=fO p.natAbs q.natAbs:=⟨_,rfl⟩;have vX:0<g:=by rw[hg];exact iG _ aA
 have vG:Lm (g:Int):=by
  unfold Lm at hq⊢;rw[eU,hg];exact bO (nX _ aA) hq
 rw[<-hg]at hn hd;refine s7 mixed Y0 aB rfl (b4 r1 (b4 r2 (f0 (KP xB yC hp hq) rfl ?_)));rintro u1 H1 ⟨l1,sJ⟩;rw[<-hg]at sJ;have sX:=sJ.rq;have a0c:=sJ;obtain⟨w1,rfl,_⟩:=sJ;refine⟨fun h=>(nomatch h),b4 sX (f0 (yd (xB.mono l1) a0c hp vG aA) rfl ?_)⟩;rintro u2 H2 ⟨l2,a1,b1,rfl,ha1,qU⟩;have ra:=ha1.rq;have rb:=qU.rq;have a4p:=ha1;obtain⟨w2,rfl,n2⟩:=ha1;obtain⟨w3,rfl,_⟩:=qU;refine⟨fun h=>(nomatch h),b4 ⟨_,rfl,eM _⟩ (b4 ⟨_,rfl,bW _⟩ (b4 ra (b4 rb (f0 (yd (yC.mono (l1.trans l2)) (a0c.mono l2) hq vG aA) rfl ?_))))⟩;rintro u3 H3 ⟨l3,a2,b2,rfl,sV,qZ⟩;have rc:=sV.rq;have rd:=qZ.rq;have a4q:=sV;obtain⟨w4,rfl,n4⟩:=sV;obtain⟨w5,rfl,_⟩:=qZ;refine⟨fun h=>(nomatch h),b4 ⟨_,rfl,eM _⟩ (b4 ⟨_,rfl,bW _⟩ (b4 rc (b4 rd (b4 ⟨_,rfl⟩ (g6 (b:=decide (q/(g:Int)<0)) rfl (fun h=> ?_) (fun h=> ?_))))))⟩
 ·have h:=oDt h;rw[if_pos h]at hn hd;refine f0 (xz (a4p.mono l3)) rfl ?_;rintro u4 H4 ⟨rfl,wC⟩;have re:=wC.rq;obtain⟨w6,rfl,n6⟩:=wC;refine⟨fun _=>Pl.refl _,f0 (xz a4q) rfl ?_⟩;rintro u5 H5 ⟨rfl,uP⟩;have rf:=uP.rq;obtain⟨w7,rfl,n7⟩:=uP;refine⟨fun _=>Pl.refl _,b4 re (b4 rf (d4 rfl ⟨l1.trans (l2.trans l3),w6,w7,?_,?_,?_⟩))⟩
  ·rw[hn];show Value.agg #[.bool (decide (-(p/(g:Int))<0)),w6,.bool (decide (-(q/(g:Int))<0)),w7]=_;rw[decide_eq_false (show ¬ -(q/(g:Int))<0 by omega)]
  ·rw[hn];exact n6
  ·rw[show(Rat.divInt p q).den=(-(q/(g:Int))).natAbs from aA];exact n7
 ·have h:=oDf h;rw[if_neg h]at hn hd;refine d4 rfl ⟨l1.trans (l2.trans l3),w2,w4,?_,?_,?_⟩
  ·rw[hn];show Value.agg #[.bool (decide (p/(g:Int)<0)),w2,.bool (decide (q/(g:Int)<0)),w4]=_;rw[decide_eq_false h]
  ·rw[hn];exact n2.mono l3
  ·rw[show(Rat.divInt p q).den=(q/(g:Int)).natAbs from aA];exact n4
end
def shv (n d:Nat):Value:= .agg (words n++words d)
def j7 (a b:Nat):(words a++words b).size=16/\j0 (words a++words b):=by
 refine⟨by rw[dN,words_size,words_size],fun c hc=> ?_⟩;rw[eG,aV]at hc;rcases hc with h|h
 ·exact words_one a c h
 ·exact words_one b c h
def LD (a b:Nat):(words a++words b).extract 0 8=words a:=by
 apply fZ;simp[words_size,aI]
def LE (a b:Nat):(words a++words b).extract 8 16=words b:=by
 apply fZ;simp[words_size,aI]
def yh (a b:Nat):Value.agg ((words a++words b).extract 0 8)=wd a:=by rw[LD];rfl
def LF (a b:Nat):Value.agg ((words a++words b).extract 8 16)=wd b:=by rw[LE];rfl
def Lp (H:PH) (v:Value) (p q:Int):Prop:=∃w1 w2,v= .agg #[.bool (decide (p<0)),w1,.bool (decide (q<0)),w2]/\Mu H w1 p.natAbs/\Mu H w2 q.natAbs
def Lp.mono {H H':PH} {v:Value} {p q:Int} (h:Lp H v p q) (hl:Pl H H'):Lp H' v p q:=by
 obtain⟨w1,w2,h1,h2,h3⟩:=h;exact⟨w1,w2,h1,h2.mono hl,h3.mono hl⟩
def Lp.rq {H:PH} {v:Value} {p q:Int} (h:Lp H v p q):v.cells.size=4/\j0 v.cells:=by
 obtain⟨w1,w2,rfl,h1,h2⟩:=h;exact LC h1 h2
def Lp.rp {H:PH} {v:Value} {p q:Int} {r:Rat} (h:Lp H v p q) (hp:r.num=p) (hq:(r.den:Int)=q):Rp H v r:=by
 obtain⟨w1,w2,rfl,h1,h2⟩:=h;refine⟨w1,w2,?_,by rw[hp];exact h1,?_⟩
 ·rw[hp,decide_eq_false (show ¬q<0 by omega)]
 ·rw[show r.den=q.natAbs from aA];exact h2
def Jr (r:Rat):Value:=if(-(HM:Int)<=r.num/\r.num<HM)/\(r.den:Int)<HM then .tuple #[shv (rs r.num) (rs (r.den:Int)),.int .i64 0]else .tuple #[shv 0 0,.int .i64 6]
def Zr:Value.agg ((j3 prog 51).cells++(j3 prog 51).cells)=shv 0 0:=by rw[Ij];rfl
section
variable {H:PH} {x y:Value} {p q:Int} {r s:Rat} {j k:Nat}
def Vq (n d:Nat):Con prog 38 [shv n d] H fun u H'=>Pl H H'/\Lp H' u (toI n) (toI d):=by
 refine s7 mixed Y5 aB rfl (b4 (j7 n d) (f0 (Vp n) (congrArg (fun z=>[z]) (yh n d)) ?_));rintro u1 H1 ⟨l1,sJ⟩;simp only[cA,nA];refine⟨fun _=>l1,f0 (Vp d) (congrArg (fun z=>[z]) (LF n d)) ?_⟩;rintro u2 H2 ⟨l2,sB⟩;have r1:=sJ.rq;have r2:=sB.rq;obtain⟨w1,rfl,n1⟩:=sJ;obtain⟨w2,rfl,n2⟩:=sB;refine⟨fun _=>l2,b4 r1 (b4 r2 (d4 rfl ⟨l1.trans l2,w1,w2,?_,n1.mono l2,n2⟩))⟩;show Value.agg (spl ((#[Value.bool (decide (toI n<0)),w1]:Array Value)++(j3 prog 106).cells) 2 [.bool (decide (toI d<0)),w2])=_;rw[d9v];rfl
def b8T (hx:Lw H x p):Con prog 95 [x] H fun u H'=>Pl H H'/\Rp H' u (p:Rat):=by
 have r0:=hx.rq;obtain⟨w,rfl,n0⟩:=hx;refine s7 mixed Y6 aB rfl (b4 r0 (f0 (Oq 1 aA aA) rfl ?_));rintro u1 H1 ⟨l1,sJ⟩;have r1:=sJ.rq;obtain⟨w1,rfl,n1⟩:=sJ;exact⟨fun _=>l1,b4 r1 (d4 rfl ⟨l1,w,w1,rfl,n0.mono l1,n1⟩)⟩
def jh (hx:Rp H x r):Con prog 58 [x] H fun u H'=>Pl H H'/\u=Jr r:=by
 have r0:=hx.rq;obtain⟨w1,w2,rfl,n1,n2⟩:=hx;have hL1:Lw H (.agg #[.bool (decide (r.num<0)),w1]) r.num:=⟨w1,rfl,n1⟩;refine s7 mixed Y7 aB rfl (b4 r0 (f0 (Zq hL1) rfl ?_));rintro u1 H1 ⟨l1,rfl⟩;have hL2:=Lw.den (n2.mono l1);have hd0:0<=(r.den:Int):=aA;have hHM:=Vg;unfold Jr;by_cases f1: -(HM:Int)<=r.num/\r.num<HM
 ·rw[xn f1];simp only[cA,nA];refine⟨fun h=>(nomatch h),b4 ⟨_,rfl,eM _⟩ (b4 ⟨_,rfl,bW _⟩ (b4 ⟨words_size _,words_one _⟩ (f0 (Zq hL2) rfl ?_)))⟩;rintro u2 H2 ⟨l2,rfl⟩;by_cases f2:(r.den:Int)<HM
  ·rw[xn (show -(HM:Int)<=(r.den:Int)/\(r.den:Int)<HM by omega),if_pos ⟨f1,f2⟩];simp only[cA,nA];refine⟨fun h=>(nomatch h),b4 ⟨_,rfl,eM _⟩ (b4 ⟨_,rfl,bW _⟩ (b4 ⟨words_size _,words_one _⟩ ⟨fun vals H'=>vals=[.bool false]/\H'=H2,b4 ⟨_,rfl⟩ (i7 rfl (b4 ⟨_,rfl⟩ ⟨rfl,rfl⟩)),?_⟩))⟩;rintro vals H3-⟨rfl,rfl⟩;exact b4 ⟨_,rfl⟩ (i7 rfl (d4 rfl ⟨l1.trans l2,rfl⟩))
  ·rw[xo (show ¬(-(HM:Int)<=(r.den:Int)/\(r.den:Int)<HM) by omega),if_neg (fun h=>f2 h.2)];simp only[cA,nA];refine⟨fun h=>(nomatch h),b4 ⟨_,rfl,eM _⟩ (b4 ⟨_,rfl,bW _⟩ (b4 ⟨words_size _,words_one _⟩ ⟨fun vals H'=>vals=[.bool true]/\H'=H2,b4 ⟨_,rfl⟩ (i7 rfl (b4 ⟨_,rfl⟩ ⟨rfl,rfl⟩)),?_⟩))⟩;rintro vals H3-⟨rfl,rfl⟩;exact b4 ⟨_,rfl⟩ (Aq rfl (d4 (congrArg (fun z=>Value.tuple #[z,.int .i64 6]) Zr) ⟨l1.trans l2,rfl⟩))
 ·rw[xo f1,if_neg (fun h=>f1 h.1)];simp only[cA,nA];refine⟨fun h=>(nomatch h),b4 ⟨_,rfl,eM _⟩ (b4 ⟨_,rfl,bW _⟩ (b4 ⟨words_size _,words_one _⟩ (f0 (Zq hL2) rfl ?_)))⟩;rintro u2 H2 ⟨l2,rfl⟩;obtain⟨m,e,ht⟩:=il (r.den:Int);rw[ht];simp only[cA,nA];refine⟨fun h=>(nomatch h),b4 ⟨_,rfl,eM _⟩ (b4 ⟨_,rfl,bW _⟩ (b4 ⟨words_size _,words_one _⟩ ⟨fun vals H'=>vals=[.bool true]/\H'=H2,b4 ⟨_,rfl⟩ (Aq rfl ⟨rfl,rfl⟩),?_⟩))⟩;rintro vals H3-⟨rfl,rfl⟩;exact b4 ⟨_,rfl⟩ (Aq rfl (d4 (congrArg (fun z=>Value.tuple #[z,.int .i64 6]) Zr) ⟨l1.trans l2,rfl⟩))
def Rp.out {v:Value} (h:Rp H v r):∃w1 w2,v= .agg #[.bool (decide (r.num<0)),w1,.bool false,w2]/\Lw H (.agg #[.bool (decide (r.num<0)),w1]) r.num/\Lw H (.agg #[.bool false,w2]) (r.den:Int):=by
 obtain⟨w1,w2,rfl,n1,n2⟩:=h;exact⟨w1,w2,rfl,⟨w1,rfl,n1⟩,Lw.den n2⟩
def e2H (r s:Rat):(r.den:Int)*s.den≠0:=oJ (by have:=r.den_nz;omega) (by have:=s.den_nz;omega)
def Ec {k:Nat} (h:r.den<2^k):((r.den:Nat):Int).natAbs<2^k:=by rw[d4b];exact h
def yi (hx:Rp H x r) (hy:Rp H y s) (hr:Rb j r) (hs:Rb k s) (hjk:j+k+1<=320000):Con prog 57 [x,y] H fun u H'=>Pl H H'/\Rp H' u (r+s):=by
 have r1:=hx.rq;have r2:=hy.rq;obtain⟨w1,w2,rfl,a1,a2⟩:=hx.out;obtain⟨w3,w4,rfl,b1,b2⟩:=hy.out;have m1:=Rz hr.1 (Ec hs.2);have m2:=Rz hs.1 (Ec hr.2);have m3:=Rz (Ec hr.2) (Ec hs.2);rw[Nat.add_comm k j]at m2;have m4:=Lm.add2 m1 m2 (m:=j+k+1) (aS _) (aS _);refine s7 mixed Y8 aB rfl (b4 r1 (b4 r2 (f0 (Jq a1 b2 (Lm.two hr.1 aA) (Lm.two (Ec hs.2) aA)) rfl ?_)));rintro u1 H1 ⟨l1,sJ⟩;simp only[cA,nA];refine⟨fun _=>l1,f0 (Jq (b1.mono l1) (a2.mono l1) (Lm.two hs.1 aA) (Lm.two (Ec hr.2) aA)) rfl ?_⟩;rintro u2 H2 ⟨l2,sB⟩;simp only[cA,nA];refine⟨fun _=>l2,f0 (Zp (sJ.mono l2) sB (Lm.two m1 aA) (Lm.two m2 aA)) rfl ?_⟩;rintro u3 H3 ⟨l3,vO⟩;simp only[cA,nA];refine⟨fun _=>l3,f0 (Jq (a2.mono (l1.trans (l2.trans l3))) (b2.mono (l1.trans (l2.trans l3))) (Lm.two (Ec hr.2) aA) (Lm.two (Ec hs.2) aA)) rfl ?_⟩;rintro u4 H4 ⟨l4,wC⟩;simp only[cA,nA];refine⟨fun _=>l4,f0 (yf (vO.mono l4) wC (Lm.two m4 hjk) (Lm.two m3 aA) (e2H r s)) rfl ?_⟩;rintro u5 H5 ⟨l5,uP⟩;rw[d4a]at uP;have r5:=uP.rq;obtain⟨w5,w6,rfl,n5⟩:=uP;exact⟨fun _=>l5,b4 r5 (d4 rfl ⟨l1.trans (l2.trans (l3.trans (l4.trans l5))),w5,w6,rfl,n5⟩)⟩
def LG (hx:Rp H x r) (hy:Rp H y s) (hr:Rb j r) (hs:Rb k s) (hjk:j+k<=320000) (h0:s≠0):Con prog 63 [x,y] H fun u H'=>Pl H H'/\Rp H' u (r/s):=by
 have r1:=hx.rq;have r2:=hy.rq;obtain⟨w1,w2,rfl,a1,a2⟩:=hx.out;obtain⟨w3,w4,rfl,b1,b2⟩:=hy.out;have m1:=Rz hr.1 (Ec hs.2);have m3:=Rz (Ec hr.2) hs.1;refine s7 mixed Y9 aB rfl (b4 r1 (b4 r2 (f0 (Jq a1 b2 (Lm.two hr.1 aA) (Lm.two (Ec hs.2) aA)) rfl ?_)));rintro u1 H1 ⟨l1,sJ⟩;simp only[cA,nA];refine⟨fun _=>l1,f0 (Jq (a2.mono l1) (b1.mono l1) (Lm.two (Ec hr.2) aA) (Lm.two hs.1 aA)) rfl ?_⟩;rintro u2 H2 ⟨l2,sB⟩;simp only[cA,nA];refine⟨fun _=>l2,f0 (yf (sJ.mono l2) sB (Lm.two m1 hjk) (Lm.two m3 aA) (oJ (by have:=r.den_nz;omega) (fun e=>h0 (Rat.num_eq_zero.1 e)))) rfl ?_⟩;rintro u5 H5 ⟨l5,uP⟩;rw[LA]at uP;have r5:=uP.rq;obtain⟨w5,w6,rfl,n5⟩:=uP;exact⟨fun _=>l5,b4 r5 (d4 rfl ⟨l1.trans (l2.trans l5),w5,w6,rfl,n5⟩)⟩
def LH (hx:Rp H x r) (hy:Rp H y s) (hr:Rb j r) (hs:Rb k s) (hjk:j+k<=320000):Con prog 39 [x,y] H fun u H'=>Pl H H'/\u= .int .i64 (sgR r s):=by
 have r1:=hx.rq;have r2:=hy.rq;obtain⟨w1,w2,rfl,a1,a2⟩:=hx.out;obtain⟨w3,w4,rfl,b1,b2⟩:=hy.out;have m1:=Rz hr.1 (Ec hs.2);have m2:=Rz hs.1 (Ec hr.2);refine s7 mixed Z0 aB rfl (b4 r1 (b4 r2 (f0 (Jq a1 b2 (Lm.two hr.1 aA) (Lm.two (Ec hs.2) aA)) rfl ?_)));rintro u1 H1 ⟨l1,sJ⟩;simp only[cA,nA];refine⟨fun _=>l1,f0 (Jq (b1.mono l1) (a2.mono l1) (Lm.two hs.1 aA) (Lm.two (Ec hr.2) aA)) rfl ?_⟩;rintro u2 H2 ⟨l2,sB⟩;simp only[cA,nA];refine⟨fun _=>l2,f0 (KO (sJ.mono l2) sB (Lm.two m1 hjk) (Lm.two m2 aA)) rfl ?_⟩;rintro u3 H3 ⟨l3,rfl⟩;rw[d9t];exact⟨fun _=>l3,d4 rfl ⟨l1.trans (l2.trans l3),rfl⟩⟩
end
end Go.Z
namespace Go.WD
open RX
def okB (n d:Nat):Bool:=decide (0<toI d)&&decide (fO (toI n).natAbs (toI d).natAbs=1)
def okP (p:Nat×Nat):Bool:=okB p.1 p.2
def Bl (n d:Nat):Rat:=Rat.divInt (toI n) (toI d)
def Js {n d:Nat} (h:okB n d=true):(Bl n d).num=toI n/\((Bl n d).den:Int)=toI d:=by
 unfold okB at h;rw[aQ,oDi,oDi]at h;have h0:toI d≠0:=aA;have h1:=jf (toI n) h0;have h2:=ye (toI n) h0;simp only[h.2,Int.natCast_one,Int.ediv_one]at h1 h2;rw[if_neg aA]at h1 h2;exact⟨h1,h2⟩
def LI (z:Int):sgI z 0<=0↔z<=0:=by
 unfold sgI;by_cases h1:z<0
 ·rw[if_pos h1];omega
 ·rw[if_neg h1];by_cases h2:z=0
  ·rw[if_pos h2];omega
  ·rw[if_neg h2];omega
def c8g (y z:Int):(sgI y z !=0)= !decide (y=z):=by
 unfold sgI;by_cases h1:y<z
 ·rw[if_pos h1,decide_eq_false aA];rfl
 ·rw[if_neg h1];by_cases h2:y=z
  ·rw[if_pos h2,oDd h2];rfl
  ·rw[if_neg h2,decide_eq_false h2];rfl
end Go.WD
namespace Go.Z
open Proofs.Tryz RowKit RX WD
def jj {n d K:Nat} (h:okB n d=true) (hK:K=512):Rb K (Bl n d):=by
 obtain⟨h1,h2⟩:=Js h;have e:M=2^K:=by
  rw[Dn,Vn];congr 1;omega
 have a1:=Vk n;have a2:=Vk d;unfold Rb;rw[h1,<-e];exact⟨a1,aA⟩
def LJ {b:Bool} (h:(!b)=true):b=false:=by cases b<;>simp_all
def LK {b:Bool} (h:(!b)=false):b=true:=by cases b<;>simp_all
def shf (p:Nat×Nat):List Value:=(words p.1).toList++(words p.2).toList
def shp (p:Nat×Nat):Value:=shv p.1 p.2
def Zs (p:Nat×Nat):(shf p).length=16:=rfl
def LL:∀(ps:List (Nat×Nat)) (i:Nat),i<ps.length->((ps.flatMap shf).drop (i*16)).take 16=shf (ps.getD i (0,0))
 |[],i,h=>by simp at h
 |p::ps,0,_=>by
  rw[fJ,bV,cS,dG (by rw[Zs];omega),aI (by rw[Zs];omega)];rfl
 |p::ps,i+1,h=>by
  have tP:=LL ps i (by simpa using h);rw[fJ,dC,cQ,List.drop_append,Zs,List.drop_of_length_le (by rw[Zs];omega),dA,show i*16+16-16=i*16 from aA,tP];rfl
def yj:∀(ps:List (Nat×Nat)),(ps.flatMap shf).length=ps.length*16
 |[]=>rfl
 |p::ps=>by rw[fJ,aL,Zs,yj ps,aP];omega
def c8i (ps:List (Nat×Nat)):((ps.map shp).flatMap fun v=>v.cells.toList)=ps.flatMap shf:=by
 rw[List.flatMap_map];congr 1
def Shs (H:PH) (v:Value) (ps:List (Nat×Nat)):Prop:=Sl H 16 v ps.length (ps.flatMap shf)
def Shs.mono {H H':PH} {v:Value} {ps:List (Nat×Nat)} (h:Shs H v ps) (hl:Pl H H'):Shs H' v ps:=Sl.mono h hl
def b8U:∃i z,prog.info? 53=some i/\i.zero=some z/\i.size=16/\z.cells.size=16/\i.bytes=128:=by
 refine⟨(prog.info? 53).getD default,(((prog.info? 53).getD default).zero).getD default,aB,aB,aB,aB,aB⟩
def yk:prog.underlying 70=some (.slice 53):=aB
section
variable {G Xp:Value->PH->Prop} {nx:List (List Value->PH->Prop)} {ρ:List Value} {H H0:PH} {o o1 o2:Oper} {x y x2 y2:Operand} {id i id2 i2:Nat} {args args2:List SV} {t:Tree} {v:Value} {ps:List (Nat×Nat)}
def c1C (ho:o.op= .call ⟨.builtin .len,#[x],#[70]⟩) (hx:e8 [x] [v] x=v) (h:Shs H v ps) (ha:args.map (D prog ρ)=[v]) (k:den prog G Xp t nx (ρ++[iv ps.length]) H):den prog G Xp (.prim id i o args t) nx ρ H:=
 j8 ((vi ho hx yk h).rds H) ha k
def c8j {k:IntKind} {j:Nat} (tU:o1.op= .indexAddr 70 x y) (tV:o2.op= .load 53 x2) (hx:e8 [x,y] [v,.int k (j:Nat)] x=v) (hy:e8 [x,y] [v,.int k (j:Nat)] y= .int k (j:Nat)) (sD:∀p,e8 [x2] [p] x2=p) (h:Shs H v ps) (hj:j<ps.length)
  (ha:args.map (D prog ρ)=[v,.int k (j:Nat)]) (sV:∀p,args2.map (D prog (ρ++[p]))=[p]) (c:∀p,den prog G Xp t nx (ρ++[p]++[shp (ps.getD j (0,0))]) H):den prog G Xp (.prim id i o1 args (.prim id2 i2 o2 args2 t)) nx ρ H:=by
 obtain⟨b,q,cs,T',fz,h1,h2,h3,h4⟩:=vj (P:=prog) (e:=53) (sz:=16) tU hx hy yk aB aB aA h hj;rw[LL ps j hj]at h4;have hl:=IG (P:=prog) (H:=H) tV (sD _) h2 aB aB aB h3 h4;rw[show(shf (ps.getD j (0,0))).toArray=words (ps.getD j (0,0)).1++words (ps.getD j (0,0)).2 from by apply fZ;simp[shf]]at hl;exact j8 (h1.rds H) ha (j8 hl (sV _) (c _))
def ym {pb:Bool} {parts:Array (Nat×Operand)} {vs:List Value} (ps:List (Nat×Nat)) (ho:o.op= .buildSlice 70 ps.length parts) (uH:0<ps.length) (rP:ps.length<=1000) (a4r:(parts.toList.map fun p=>(p.1,e8 (parts.toList.map (·.2)) vs p.2))=(ps.map shp).zipIdx.map fun p=>(p.2,p.1)) (ha:args.map (D prog ρ)=vs)
  (n:∀v H',Pl H H'->Shs H' v ps->den prog G Xp t nx (ρ++[v]) H'):den prog G Xp (.eff pb id i o args t) nx ρ H:=by
 obtain⟨ti,z,i1,i2,i3,i4,i5⟩:=b8U;refine j1 (vs:=vs) (vw (cells:=(ps.flatMap shf).toArray) ho yk i1 i2 (by rw[i3];omega) (by rw[i3];omega) ?_) ha ?_
 ·rw[i3,a4r];have:=Go.Great.fill_whole (s:=16) aA (ps.map shp) (Array.map (fun x=>z.cells[x%z.cells.size]!) (Array.range (ps.length*16))) (fun v hv=>by
   obtain⟨p,_,rfl⟩:=aZ.1 hv;exact(j7 p.1 p.2).1) aD
  rw[c8i]at this;exact this
 ·rintro v H' ⟨g,hg,rfl,rfl⟩;refine⟨fun _=>PH.le_put hg _,n _ _ (PH.le_put hg _) ⟨yj ps,_,ps.length,rfl,aS _,by simp only[maxLen];omega,.inr ⟨g,0,_,_,_,rfl,PH.put_self _ _ _,?_⟩⟩⟩;rw[cS,List.toList_toArray,aI (by rw[yj];exact aS _)]
end
section
variable {H:PH} {x y v:Value} {r s:Rat} {n d m e:Nat}
def LM (n d:Nat):Con prog 35 [shv n d] H fun u H'=>Pl H H'/\u= .int .i64 (if okB n d then 0 else 20):=by
 refine s7 mixed Z1 aB rfl (b4 (j7 n d) (f0 (Oq 1 aA aA) rfl ?_));rintro u1 H1 ⟨l1,sJ⟩;have r1:=sJ.rq;have a0c:=sJ;obtain⟨w1,rfl,_⟩:=sJ;refine⟨fun h=>(nomatch h),b4 r1 (f0 (Vq n d) rfl ?_)⟩;rintro u2 H2 ⟨l2,sB⟩;have r2:=sB.rq;obtain⟨w2,w3,rfl,n2,n3⟩:=sB;have hL2:Lw H2 (.agg #[.bool (decide (toI n<0)),w2]) (toI n):=⟨w2,rfl,n2⟩;have hL3:Lw H2 (.agg #[.bool (decide (toI d<0)),w3]) (toI d):=⟨w3,rfl,n3⟩;have lmn:=jc n;have lmd:=jc d;refine⟨fun h=>(nomatch h),b4 r2 ⟨fun vals H'=>vals=[.bool (!okB n d)]/\Pl H2 H',f0 (jd hL3) rfl ?_,?_⟩⟩
 ·rintro u3 H3 ⟨rfl,rfl⟩;simp only[cA,nA];refine⟨fun _=>Pl.refl _,b4 ⟨_,rfl⟩ (g6 (b:=decide (sgI (toI d) 0<=0)) rfl (fun h=> ?_) (fun h=> ?_))⟩
  ·have h:=(LI _).1 (oDt h);refine⟨?_,Pl.refl _⟩;show[Value.bool true]=_;unfold okB;rw[decide_eq_false (show ¬0<toI d by omega)];rfl
  ·have h:¬toI d<=0:=fun e=>oDf h ((LI _).2 e);refine f0 (KP hL2 hL3 lmn lmd) rfl ?_;rintro u4 H4 ⟨l4,wC⟩;simp only[cA,nA];have vG:Lm ((fO (toI n).natAbs (toI d).natAbs:Nat):Int):=by
    unfold Lm at lmd⊢;rw[eU];exact bO (nX _ aA) lmd
   refine⟨fun _=>l4,f0 (KO wC (a0c.mono (l2.trans l4)) vG xr) rfl ?_⟩;rintro u5 H5 ⟨l5,rfl⟩;simp only[cA,nA];refine⟨fun _=>l5,b4 ⟨_,rfl⟩ ⟨?_,l4.trans l5⟩⟩;show[Value.bool (sgI ((fO (toI n).natAbs (toI d).natAbs:Nat):Int) 1 !=0)]=_;rw[c8g];unfold okB;rw[oDd (show 0<toI d by omega),iV];congr 3;rw[decide_eq_decide];omega
 rintro vals H6-⟨rfl,l6⟩;simp only[cA,nA];refine b4 ⟨_,rfl⟩ (g6 rfl (fun h=> ?_) (fun h=> ?_))
 ·have h:okB n d=false:=by simpa using h
  exact d4 rfl ⟨l1.trans (l2.trans l6),by rw[h];rfl⟩
 ·have h:okB n d=true:=by simpa using h
  exact d4 rfl ⟨l1.trans (l2.trans l6),by rw[h];rfl⟩
def b5l (n d:Nat):Con prog 201 [shv n d] H fun u H'=>Pl H H'/\u= .bool (okB n d):=by
 refine s7 mixed Z4 aB rfl (b4 (j7 n d) (f0 (LM n d) rfl ?_));rintro u1 H1 ⟨l1,rfl⟩;refine⟨fun h=>(nomatch h),b4 ⟨_,rfl⟩ (d4 rfl ⟨l1,?_⟩)⟩;show Value.bool ((if okB n d then(0:Int)else 20)==0)=_;cases okB n d<;>rfl
def b5m:n8 prog 201=true:=aB
def c8k {ps:List (Nat×Nat)} (h:Shs H v ps):Con prog 202 [.func (.func 201) #[] #[],v] H fun u H'=>Pl H H'/\u= .bool (ps.all okP):=by
 have qC:=h.len_le;simp only[maxLen]at qC;refine s7 mixed Z2 aB rfl (c1C rfl rfl h rfl ⟨fun vals H'=>∃i:Nat,vals=[.bool false,iv i]/\i<=ps.length/\Pl H H'/\(ps.take i).all okP=true,fun vals _=>(ps.length-intOf (vals.getD 1 undef)).toNat,⟨0,rfl,aA,Pl.refl _,rfl⟩,?_⟩);rintro vals H1-⟨i,rfl,hi,l1,rK⟩;simp only[cA,nA];refine b4 ⟨_,rfl⟩ (b4 ⟨_,rfl⟩ (g6 (b:=decide ((i:Int)<ps.length)) rfl (fun hb=> ?_) (fun hb=> ?_)))
 ·have hb:i<ps.length:=by have:=oDt hb;omega
  have e1:IntKind.i64.wrap ((i:Int)+1)=((i+1:Nat):Int):=Ll aA;refine c8j (k:= .i64) (j:=i) rfl rfl rfl rfl aF (h.mono l1) hb rfl aF fun p=> ?_;obtain⟨a,ha⟩:∃a,a=ps.getD i (0,0):=⟨_,rfl⟩;have rI:a∈ps:=by rw[ha,aJ,aG hb];exact dL hb
  rw[<-ha];refine b4 (j7 a.1 a.2) (j1 (Aj (f:=201) (caps:= #[]) (vs:=[shv a.1 a.2]) rfl rfl rfl b5m (b5l a.1 a.2)) rfl ?_);rintro u2 H2 ⟨l2,rfl⟩;simp only[cA,nA];refine⟨fun h=>(nomatch h),b4 ⟨_,rfl⟩ (g6 (b:= !okB a.1 a.2) rfl (fun h2=> ?_) (fun h2=> ?_))⟩
  ·have h2:okB a.1 a.2=false:=by simpa using h2
   refine d4 rfl ⟨l1.trans l2,?_⟩;show Value.bool false=_;congr 1
   symm
   rw[List.all_eq_false];exact⟨a,rI,by show ¬okB a.1 a.2=true;rw[h2];simp⟩
  ·have h2:okB a.1 a.2=true:=by simpa using h2
   refine⟨⟨i+1,?_,aA,l1.trans l2,?_⟩,?_⟩
   ·simp only[rxs,iv,e1]
   ·rw[dE,List.all_append,rK,aG hb];have:ps[i]=a:=by rw[ha,aJ,aG hb];rfl
    rw[this];show(true&&(okB a.1 a.2&&true))=true;rw[h2];rfl
   ·simp only[rxs,iv,e1];omega
 ·have hb:i=ps.length:=by have:=oDf hb;omega
  rw[aI aA]at rK;exact d4 rfl ⟨l1,by rw[rK];rfl⟩
def yn {ps:List (Nat×Nat)} (h:Shs H v ps):Con prog 142 [v] H fun u H'=>Pl H H'/\u= .bool (ps.all okP):=by
 refine s7 mixed Z3 aB rfl (f0 (c8k h) rfl ?_);rintro u1 H1 ⟨l1,rfl⟩;exact⟨fun h=>(nomatch h),d4 rfl ⟨l1,rfl⟩⟩
def yo (n d m e:Nat):[(n,d),(m,e)].all okP=(okB n d&&okB m e):=by show(okB n d&&(okB m e&&true))=_;rw[Bool.and_true]
def z_ratio:(j3 prog 108).cells.size=4/\j0 (j3 prog 108).cells:=by
 have:j3 prog 108= .agg #[.bool false,.slice none 0 0,.bool false,.slice none 0 0]:=aB;rw[this];refine⟨rfl,fun c hc=> ?_⟩;rw[Gh]at hc;simp only[bG,cF,or_false]at hc;rcases hc with h|h|h|h<;>rw[h]<;>rfl
def c1D {f:FuncId} (rZ:n8 prog f=true) (n d m e:Nat) (t:Rat) (hf:okB n d=true->okB m e=true->∀H x y,Rp H x (Bl n d)->Rp H y (Bl m e)->Con prog f [x,y] H fun u H'=>Pl H H'/\Rp H' u t):
  Con prog 330 [shv n d,shv m e,.func (.func f) #[] #[]] H fun u H'=>Pl H H'/\(((okB n d&&okB m e)=true/\∃v,u= .tuple #[v,.int .i64 0]/\Rp H' v t)\/((okB n d&&okB m e)=false/\∃v,u= .tuple #[v,.int .i64 20]/\v.cells.size=4/\j0 v.cells)):=by
 refine s7 mixed Z6 aB rfl (b4 (j7 n d) (b4 (j7 m e) (ym (vs:=[shv n d,shv m e]) [(n,d),(m,e)] rfl aD aD rfl rfl fun v1 H1 l1 hv1=> ?_)));refine f0 (yn hv1) rfl ?_;rintro u2 H2 ⟨l2,rfl⟩;rw[yo];simp only[cA,nA];refine⟨fun h=>(nomatch h),b4 ⟨_,rfl⟩ (g6 (b:= !(okB n d&&okB m e)) rfl (fun h=> ?_) (fun h=> ?_))⟩
 ·have h:=LJ h;exact d4 rfl ⟨l1.trans l2,.inr ⟨h,_,rfl,z_ratio.1,z_ratio.2⟩⟩
 ·have h:=LK h;have h':=h;rw[aQ]at h';refine f0 (Vq n d) rfl ?_;rintro u3 H3 ⟨l3,vO⟩;simp only[cA,nA];refine⟨fun _=>l3,f0 (Vq m e) rfl ?_⟩;rintro u4 H4 ⟨l4,wC⟩;simp only[cA,nA];have hx:=(vO.mono l4).rp (Js h'.1).1 (Js h'.1).2;have hy:=wC.rp (Js h'.2).1 (Js h'.2).2;refine⟨fun _=>l4,j1 (Aj (f:=f) (caps:= #[]) (vs:=[u3,u4]) rfl rfl rfl rZ (hf h'.1 h'.2 H4 u3 u4 hx hy)) rfl ?_⟩;rintro u5 H5 ⟨l5,uP⟩;have r5:=uP.rq;obtain⟨w5,w6,rfl,n5⟩:=uP;exact⟨fun _=>l5,b4 r5 (d4 rfl ⟨l1.trans (l2.trans (l3.trans (l4.trans l5))),.inl ⟨h,_,rfl,w5,w6,rfl,n5⟩⟩)⟩
def c1E {f:FuncId} (rZ:n8 prog f=true) (n d m e:Nat) (t:Int) (hf:okB n d=true->okB m e=true->∀H x y,Rp H x (Bl n d)->Rp H y (Bl m e)->Con prog f [x,y] H fun u H'=>Pl H H'/\u= .int .i64 t):
  Con prog 97 [shv n d,shv m e,.func (.func f) #[] #[]] H fun u H'=>Pl H H'/\(((okB n d&&okB m e)=true/\∃v,u= .tuple #[v,.int .i64 0]/\v= .int .i64 t)\/((okB n d&&okB m e)=false/\∃v,u= .tuple #[v,.int .i64 20]/\v= .int .i64 0)):=by
 refine s7 mixed Z5 aB rfl (b4 (j7 n d) (b4 (j7 m e) (ym (vs:=[shv n d,shv m e]) [(n,d),(m,e)] rfl aD aD rfl rfl fun v1 H1 l1 hv1=> ?_)));refine f0 (yn hv1) rfl ?_;rintro u2 H2 ⟨l2,rfl⟩;rw[yo];simp only[cA,nA];refine⟨fun h=>(nomatch h),b4 ⟨_,rfl⟩ (g6 (b:= !(okB n d&&okB m e)) rfl (fun h=> ?_) (fun h=> ?_))⟩
 ·have h:=LJ h;exact d4 rfl ⟨l1.trans l2,.inr ⟨h,_,rfl,rfl⟩⟩
 ·have h:=LK h;have h':=h;rw[aQ]at h';refine f0 (Vq n d) rfl ?_;rintro u3 H3 ⟨l3,vO⟩;simp only[cA,nA];refine⟨fun _=>l3,f0 (Vq m e) rfl ?_⟩;rintro u4 H4 ⟨l4,wC⟩;simp only[cA,nA];have hx:=(vO.mono l4).rp (Js h'.1).1 (Js h'.1).2;have hy:=wC.rp (Js h'.2).1 (Js h'.2).2;refine⟨fun _=>l4,j1 (Aj (f:=f) (caps:= #[]) (vs:=[u3,u4]) rfl rfl rfl rZ (hf h'.1 h'.2 H4 u3 u4 hx hy)) rfl ?_⟩;rintro u5 H5 ⟨l5,uP⟩;subst uP;exact⟨fun _=>l5,d4 rfl ⟨l1.trans (l2.trans (l3.trans (l4.trans l5))),.inl ⟨h,_,rfl,rfl⟩⟩⟩
def jk (r:Rat):∃(n d:Nat) (e:Int),Jr r= .tuple #[shv n d,.int .i64 e]:=by
 unfold Jr;split
 ·exact⟨_,_,0,rfl⟩
 ·exact⟨0,0,6,rfl⟩
def b8V (hx:Rp H x r):Con prog 329 [x,.int .i64 0] H fun u H'=>Pl H H'/\u=Jr r:=by
 have r1:=hx.rq;have xB:=hx;obtain⟨w1,w2,rfl,_⟩:=hx;refine s7 mixed KZ aB rfl (b4 r1 (b4 ⟨_,rfl⟩ (i7 rfl (f0 (jh xB) rfl ?_))));rintro u1 H1 ⟨l1,rfl⟩;obtain⟨n,d,e,ht⟩:=jk r;rw[ht];exact⟨fun h=>(nomatch h),b4 ⟨_,rfl,eM _⟩ (b4 ⟨_,rfl,bW _⟩ (b4 (j7 n d) (d4 rfl ⟨l1,rfl⟩)))⟩
def b8W (h1:x.cells.size=4) (h2:j0 x.cells):Con prog 329 [x,.int .i64 20] H fun u H'=>Pl H H'/\u= .tuple #[shv 0 0,.int .i64 20]:=by
 refine s7 mixed KZ aB rfl (b4 ⟨h1,h2⟩ (b4 ⟨_,rfl⟩ (Aq rfl (d4 (congrArg (fun z=>Value.tuple #[z,.int .i64 20]) Zr) ⟨Pl.refl _,rfl⟩))))
def c8l:n8 prog 39=true:=aB
def yp (ok:Bool) (t:Int):Value:=if ok then .tuple #[.int .i64 t,.int .i64 0]else .tuple #[.int .i64 0,.int .i64 20]
def c8m (n d m e:Nat):Con prog 46 [shv n d,shv m e] H fun u H'=>Pl H H'/\u=yp (okB n d&&okB m e) (sgR (Bl n d) (Bl m e)):=by
 obtain⟨K,hK⟩:∃K,K=512:=⟨_,rfl⟩;refine s7 mixed d3Z aB rfl (b4 (j7 n d) (b4 (j7 m e) (f0 (c1E (f:=39) c8l n d m e (sgR (Bl n d) (Bl m e)) (fun h1 h2 H x y hx hy=>LH hx hy (jj h1 hK) (jj h2 hK) aA)) rfl ?_)));rintro u1 H1 ⟨l1,sJ⟩;unfold yp;rcases sJ with⟨h,v,rfl,rfl⟩|⟨h,v,rfl,rfl⟩
 ·rw[h,if_pos rfl];exact⟨fun h=>(nomatch h),b4 ⟨_,rfl,eM _⟩ (b4 ⟨_,rfl,bW _⟩ (d4 rfl ⟨l1,rfl⟩))⟩
 ·rw[h,if_neg aD];exact⟨fun h=>(nomatch h),b4 ⟨_,rfl,eM _⟩ (b4 ⟨_,rfl,bW _⟩ (d4 rfl ⟨l1,rfl⟩))⟩
def Gi (p q:Int):Value:=if q=0 then .tuple #[shv 0 0,.int .i64 7]else Jr (Rat.divInt p q)
def b8X (p q:Int):∃(n d:Nat) (e:Int),Gi p q= .tuple #[shv n d,.int .i64 e]:=by
 unfold Gi;split
 ·exact⟨0,0,7,rfl⟩
 ·exact jk _
def yr (d:Nat):d%M=0↔toI d=0:=by
 have:=Vg;have:=Jm;have:=cI d Oi;unfold toI;split<;>omega
def LN (n d:Nat):Con prog 87 [wd n,wd d] H fun u H'=>Pl H H'/\u=Gi (toI n) (toI d):=by
 refine s7 mixed Z7 aB rfl (b4 ⟨words_size n,words_one n⟩ (b4 ⟨words_size d,words_one d⟩ (j8 ((JE (a:=d) (b:=0) rfl rfl rfl rfl rfl).rds _) ?_ (b4 ⟨_,rfl⟩ (g6 (b:=decide (d%M=0%M)) rfl (fun h=> ?_) (fun h=> ?_))))))
 ·simp only[rxs,Ij];rfl
 ·have h:=oDt h;rw[mI,yr]at h;unfold Gi;rw[if_pos h];exact d4 (congrArg (fun z=>Value.tuple #[z,.int .i64 7]) Zr) ⟨Pl.refl _,rfl⟩
 ·have h:=oDf h;rw[mI,yr]at h;unfold Gi;rw[if_neg h];refine f0 (Vp n) rfl ?_;rintro u1 H1 ⟨l1,sJ⟩;simp only[cA,nA];refine⟨fun _=>l1,f0 (Vp d) rfl ?_⟩;rintro u2 H2 ⟨l2,sB⟩;simp only[cA,nA];refine⟨fun _=>l2,f0 (yf (sJ.mono l2) sB (jc n) (jc d) h) rfl ?_⟩;rintro u3 H3 ⟨l3,vO⟩;simp only[cA,nA];refine⟨fun _=>l3,f0 (jh vO) rfl ?_⟩;rintro u4 H4 ⟨l4,rfl⟩;obtain⟨a,b,c,ht⟩:=jk (Rat.divInt (toI n) (toI d));rw[ht];exact⟨fun _=>l4,b4 ⟨_,rfl,eM _⟩ (b4 ⟨_,rfl,bW _⟩ (b4 (j7 a b) (d4 rfl ⟨l1.trans (l2.trans (l3.trans l4)),rfl⟩)))⟩
def yt (p q:Int) (p0: -9223372036854775808<=p) (p1:p<9223372036854775808) (q0: -9223372036854775808<=q) (q1:q<9223372036854775808):Con prog 59 [.int .i64 p,.int .i64 q] H fun u H'=>Pl H H'/\u=Gi p q:=by
 refine s7 mixed Z8 aB rfl (Db (iy p p0 p1) rfl (Db (iy q q0 q1) rfl (f0 (LN (rs p) (rs q)) rfl ?_)));rintro u1 H1 ⟨l1,rfl⟩;rw[Ii (fits_small p0 p1),Ii (fits_small q0 q1)];obtain⟨a,b,c,ht⟩:=b8X p q;rw[ht];exact⟨fun h=>(nomatch h),b4 ⟨_,rfl,eM _⟩ (b4 ⟨_,rfl,bW _⟩ (b4 (j7 a b) (d4 rfl ⟨l1,rfl⟩)))⟩
end
def b5p {a b:Nat} (d:Nat) (w:World):(Op.equalIn (d+2) 51 (wd a) (wd b)).run prog w= .ok (decide (a%M=b%M)) w:=by
 obtain⟨i,hi⟩:∃i,prog.info? 49=some i:=by
  have h:=Lo;unfold r9 at h;rw[aQ,Option.isSome_iff_exists]at h;exact h.1
 show(Op.equalIn (d+1+1) 51 (.agg (wf (dig a))) (.agg (wf (dig b)))).run prog w=_;rw[run_equalIn_array (n:=8) (e:=49) w (d+1) _ _ aB hi,JB Lo Vo JU aB d (dig a) (dig b) w _ (fun i hi=>aW.1 hi)];refine congrArg (fun z=>Result.ok z w) ?_;rw[bY,oDi,oDi];exact JC a b
noncomputable def fN:Field:=((prog.fieldsOf 53)[0]?).getD default
noncomputable def fD:Field:=((prog.fieldsOf 53)[1]?).getD default
def d4c:(prog.fieldsOf 53).toList=[fN,fD]:=aB
def e4y:fN.type=51:=aB
def e4z:fN.offset=0:=aB
def e4A:(fN.name≠ "_")=True:=eq_true (by decide+kernel)
def e4B:fD.type=51:=aB
def e4C:fD.offset=8:=aB
def e4D:(fD.name≠ "_")=True:=eq_true (by decide+kernel)
def Vr:prog.cellsOf 51=8:=aB
def d9y (a b:Nat) (w:World):(part 51 (words a++words b) 0).run prog w= .ok (wd a) w:=by
 rw[Rk aB (by rw[Vr,(j7 a b).1];omega) (by rw[Vr];omega) w,Vr,show r8 prog 51=true from aB,if_pos rfl];rw[yh]
def d9z (a b:Nat) (w:World):(part 51 (words a++words b) 8).run prog w= .ok (wd b) w:=by
 rw[Rk aB (by rw[Vr,(j7 a b).1];omega) (by rw[Vr];omega) w,Vr,show r8 prog 51=true from aB,if_pos rfl];rw[LF]
def shR (r:Rat):Value:=shv (rs r.num) (rs (r.den:Int))
def e2K:(9223372036854775808:Int)<HM:=by
 have:=M_big.1;omega
def d9A {r:Rat} (h: -(HM:Int)<=r.num/\r.num<HM) (h2:(r.den:Int)<HM):okB (rs r.num) (rs (r.den:Int))=true/\Bl (rs r.num) (rs (r.den:Int))=r:=by
 have hd:0<(r.den:Int):=by have:=r.den_nz;omega
 have e1:toI (rs r.num)=r.num:=Ii h;have e2:toI (rs (r.den:Int))=(r.den:Int):=Ii (show Jo _ from⟨by have:=Vg;omega,h2⟩);constructor
 ·unfold okB;rw[e1,e2,oDd hd,eU,oDd r.reduced];rfl
 ·unfold Bl;rw[e1,e2,Rat.num_divInt_den]
open Go.RowKit Go.RX Go.WD
section
variable {H:PH}
def yu (ok:Bool) (r s:Rat):Value:=if ok then(if s=0 then .tuple #[shv 0 0,.int .i64 7]else Jr (r/s))else .tuple #[shv 0 0,.int .i64 20]
def c1F:n8 prog 63=true:=aB
def LO {m e:Nat} (h:okB m e=true):toI m=0↔Bl m e=0:=by
 rw[<-(Js h).1];exact Rat.num_eq_zero
def c8n (n d m e:Nat):Con prog 300 [shv n d,shv m e] H fun u H'=>Pl H H'/\u=yu (okB n d&&okB m e) (Bl n d) (Bl m e):=by
 obtain⟨K,hK⟩:∃K,K=512:=⟨_,rfl⟩;refine s7 mixed Z9 aB rfl (b4 (j7 n d) (b4 (j7 m e) ⟨fun vals H'=>vals=[.bool ((okB n d&&okB m e)&&decide (toI m=0))]/\Pl H H',ym (vs:=[shv n d,shv m e]) [(n,d),(m,e)] rfl aD aD rfl rfl fun v1 H1 l1 hv1=> ?_,?_⟩))
 ·simp only[cA,nA];refine f0 (yn hv1) rfl ?_;rintro u2 H2 ⟨l2,rfl⟩;rw[yo];simp only[cA,nA];refine⟨fun h=>(nomatch h),b4 ⟨_,rfl⟩ (g6 rfl (fun h=> ?_) (fun h=> ?_))⟩
  ·rw[h,iV];refine j8 ((JE (a:=m) (b:=0) rfl rfl rfl rfl rfl).rds _) ?_ ⟨?_,l1.trans l2⟩
   ·show[Value.agg ((words m++words e).extract 0 8),j3 prog 51]=[wd m,wd 0];rw[yh,Ij]
   ·show[Value.bool (decide (m%M=0%M))]=_;congr 2;rw[decide_eq_decide,mI,yr]
  ·rw[h,Bool.false_and];exact⟨rfl,l1.trans l2⟩
 rintro vals H3-⟨rfl,l3⟩;simp only[cA,nA];unfold yu;refine b4 ⟨_,rfl⟩ (g6 rfl (fun h=> ?_) (fun h=> ?_))
 ·rw[aQ,oDi]at h;have h1:=h.1;rw[aQ]at h1;rw[h.1,if_pos rfl,if_pos ((LO h1.2).1 h.2)];exact d4 (congrArg (fun z=>Value.tuple #[z,.int .i64 7]) Zr) ⟨l3,rfl⟩
 ·have hs:okB n d=true->okB m e=true->Bl m e≠0:=fun h1 h2 e0=>by
   rw[h1,h2,oDd ((LO h2).2 e0)]at h;cases h
  refine f0 (c1D (f:=63) c1F n d m e (Bl n d/Bl m e) (fun h1 h2 H x y hx hy=>LG hx hy (jj h1 hK) (jj h2 hK) aA (hs h1 h2))) rfl ?_;rintro u1 H1 ⟨l1,sJ⟩;rcases sJ with⟨h,v,rfl,hv⟩|⟨h,v,rfl,h4,h5⟩
  ·have h':=h;rw[aQ]at h';rw[h,if_pos rfl,if_neg (hs h'.1 h'.2)];simp only[cA,nA];refine⟨fun h=>(nomatch h),b4 ⟨_,rfl,eM _⟩ (b4 ⟨_,rfl,bW _⟩ (f0 (b8V hv) rfl ?_))⟩;rintro u2 H2 ⟨l2,rfl⟩;obtain⟨a,b,c,ht⟩:=jk (Bl n d/Bl m e);rw[ht];exact⟨fun h=>(nomatch h),b4 ⟨_,rfl,eM _⟩ (b4 ⟨_,rfl,bW _⟩ (b4 (j7 a b) (d4 rfl ⟨l3.trans (l1.trans l2),rfl⟩)))⟩
  ·rw[h,if_neg aD];simp only[cA,nA];refine⟨fun h=>(nomatch h),b4 ⟨_,rfl,eM _⟩ (b4 ⟨_,rfl,bW _⟩ (f0 (b8W h4 h5) rfl ?_))⟩;rintro u2 H2 ⟨l2,rfl⟩;exact⟨fun h=>(nomatch h),b4 ⟨_,rfl,eM _⟩ (b4 ⟨_,rfl,bW _⟩ (b4 (j7 0 0) (d4 rfl ⟨l3.trans (l1.trans l2),rfl⟩)))⟩
variable {r s t:Rat}
end
def jl {r:Rat} {k:Nat} (h:Rb k r) (hk:k<=511):(-(HM:Int)<=r.num/\r.num<HM)/\(r.den:Int)<HM:=by
 have:=S9 hk;unfold Rb at h;omega
def d4d {r:Rat} {k:Nat} (h:Rb k r) (hk:k<=511):Jr r= .tuple #[shR r,.int .i64 0]:=by
 unfold Jr;rw[if_pos (jl h hk)];rfl
def LP {r:Rat} {k:Nat} (h:Rb k r) (hk:k<=511):okB (rs r.num) (rs (r.den:Int))=true/\Bl (rs r.num) (rs (r.den:Int))=r:=d9A (jl h hk).1 (jl h hk).2
section
variable {H:PH} {r s t:Rat}
def Rg (r:Rat):Prop:=∃k,k<=511/\Rb k r
def Si {k:Nat} (h:Rb k r) (hk:k<=511):Rg r:=⟨k,hk,h⟩
def Zt (h:Rg r):okB (rs r.num) (rs (r.den:Int))=true:=h.elim fun _ h=>(LP h.2 h.1).1
def Vs (h:Rg r):Bl (rs r.num) (rs (r.den:Int))=r:=h.elim fun _ h=>(LP h.2 h.1).2
def Sj (h:Rg r):Jr r= .tuple #[shR r,.int .i64 0]:=h.elim fun _ h=>d4d h.2 h.1
def d4e (h:Rg r):Jo r.num/\Jo (r.den:Int):=by
 obtain⟨k,hk,h⟩:=h;have h1:=jl h hk;exact⟨h1.1,by have:=Vg;omega,h1.2⟩
def LQ:Rg 0:=⟨1,aA,aC,aC⟩
def LR:Rg 1:=⟨1,aA,aC,aC⟩
def d9C {z:Int} {k:Nat} (h:z.natAbs<2^k) (h1:1<=k) (hk:k<=511):Rg (z:Rat):=by
 refine⟨k,hk,?_,?_⟩
 ·rw[Rat.num_intCast];exact h
 ·rw[Rat.den_intCast];exact aU (show 1<2^1 by omega) (bQ aA h1)
end
end Go.Z

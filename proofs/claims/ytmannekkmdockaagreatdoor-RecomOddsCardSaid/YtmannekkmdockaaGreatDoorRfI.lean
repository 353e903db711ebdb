/- Lemmas: chapter 32. -/
import Derived.Test.YtmannekkmdockaaGreatDoorRfF
open Decidable renaming not_not->pS
open Go.Value.int renaming injEq->kS
open Int renaming eq_nat_or_neg->nT,natAbs_neg->gC
open List renaming replicate->eK
open Nat renaming add_mul_div_left->jA,div_add_mod->iP,div_lt_iff_lt_mul->fM,gcd->fY,gcd_comm->lL,lt_succ_self->eL,mul_add->eS,zero_lt_succ->eM
set_option maxRecDepth 100000
open Go.IntKind renaming wrap->wQ
namespace Go.Z
open Proofs.Tryz RowKit RX WD
theorem Lg.rq {H:PH} {v:Value} {z:Int} (h:Lg H v z):v.cells.size=2/\o0 v.cells:=by
 obtain⟨w,rfl,hw⟩:=h;refine⟨rfl,fun c hc=> ?_⟩;have h1:=hw.one.2.2;rw[hw.one.1]at h1;rw[show(Value.agg #[.bool (decide (z<0)),w]).cells= #[.bool (decide (z<0)),w]from rfl]at hc;simp only[aP,bP,or_false]at hc;rcases hc with h2|h2
 ·rw[h2];rfl
 ·rw[h2];exact h1 w aD
def Lm (z:Int):Prop:=z.natAbs<BP 10000
theorem JM (z:Int):sn (!decide (z<0)) z.natAbs= -z:=by
 unfold sn;by_cases h:z<0<;>simp[h]<;>omega
theorem JO (z:Int):sn (decide (z<0)) z.natAbs=z:=by
 unfold sn;by_cases h:z<0<;>simp[h]<;>omega
section
variable {H:PH} {v x y:Value} {z p q:Int}
theorem JP (h:Lg H v z):Con prog 211 [v] H fun u H'=>H'=H/\Lg H u (-z):=by
 have yX:=h.rq;obtain⟨w,rfl,l,hd,ht,hv⟩:=h;refine s9 mixed G8 aB rfl (d4 yX (d4 ⟨_,rfl⟩ (g9 (Oy (!decide (z<0)) hd) rfl ?_)));rintro u H' ⟨rfl,hu⟩;rw[hv,JM]at hu;have hr:=hu.rq;obtain⟨w',rfl,rP⟩:=hu;exact⟨fun h=>(nomatch h),d4 hr (g6 rfl ⟨rfl,w',rfl,rP⟩)⟩
theorem JQ (h:(decide (p<0)==decide (q<0))=true):sn (decide (p<0)) (p.natAbs+q.natAbs)=p+q:=by
 unfold sn;by_cases h1:p<0<;>by_cases h2:q<0<;>simp[h1,h2]at h⊢<;>omega
theorem jb (h:(decide (p<0)==decide (q<0))=false) (hl:q.natAbs<=p.natAbs):sn (decide (p<0)) (p.natAbs-q.natAbs)=p+q:=by
 unfold sn;by_cases h1:p<0<;>by_cases h2:q<0<;>simp[h1,h2]at h⊢<;>omega
theorem jc (hx:Lg H x p) (hy:Lg H y q) (hp:Lm p) (hq:Lm q):Con prog 243 [x,y] H fun u H'=>Pl H H'/\Lg H' u (p+q):=by
 have r1:=hx.rq;have r2:=hy.rq;obtain⟨wx,rfl,a,da,ta,va⟩:=hx;obtain⟨wy,rfl,b,db,tb,vb⟩:=hy;have la:a.length<=10000:=ta _ (by rw[va];exact hp);have lb:b.length<=10000:=tb _ (by rw[vb];exact hq);refine s9 mixed G9 aB rfl (d4 r1 (d4 r2 (d4 ⟨_,rfl⟩ (d4 ⟨_,rfl⟩ (g7 (b:=(decide (p<0)==decide (q<0))) ?_ (fun h=> ?_) (fun h=> ?_))))))
 ·show Value.bool (false !=(decide (p<0)==decide (q<0)))=_;rw[Bool.false_bne]
 ·refine g9 (N8 da db aA aA) rfl ?_;rintro u H1 ⟨qR,l,hd,_,hv⟩;refine⟨fun _=>qR,g9 (Oy (decide (p<0)) hd) rfl ?_⟩;rintro u2 H2 ⟨rfl,hu⟩;rw[hv,va,vb,JQ h]at hu;have hr:=hu.rq;obtain⟨w',rfl,rP⟩:=hu;exact⟨fun _=>Pl.refl _,d4 hr (g6 rfl ⟨qR,w',rfl,rP⟩)⟩
 ·refine g9 (xd da db ta tb) rfl ?_;rintro c H1 ⟨rfl,c,rfl,sL,rY⟩;rw[va,vb]at sL rY;refine⟨fun h=>(nomatch h),d4 ⟨_,rfl⟩ (g7 (b:=decide (c≥0)) rfl (fun hc=> ?_) (fun hc=> ?_))⟩
  ·have hc:=oDt hc;refine g9 (iz da db aA (Tm.len_le tb da.2 aA) aA) rfl ?_;rintro u H2 ⟨qR,l,hd,_,hv⟩;refine⟨fun _=>qR,g9 (Oy (decide (p<0)) hd) rfl ?_⟩;rintro u2 H3 ⟨rfl,hu⟩;rw[hv,va,vb,jb h aA]at hu;have hr:=hu.rq;obtain⟨w',rfl,rP⟩:=hu;exact⟨fun _=>Pl.refl _,d4 hr (g6 rfl ⟨qR,w',rfl,rP⟩)⟩
  ·have hc:=oDf hc;refine g9 (iz db da aA (Tm.len_le ta db.2 aA) aA) rfl ?_;rintro u H2 ⟨qR,l,hd,_,hv⟩;refine⟨fun _=>qR,g9 (Oy (decide (q<0)) hd) rfl ?_⟩;rintro u2 H3 ⟨rfl,hu⟩;rw[hv,va,vb,jb (by rw[<-h];exact Bool.beq_comm) aA,Int.add_comm]at hu;have hr:=hu.rq;obtain⟨w',rfl,rP⟩:=hu;exact⟨fun _=>Pl.refl _,d4 hr (g6 rfl ⟨qR,w',rfl,rP⟩)⟩
theorem Q8 (hx:Lg H x p) (hy:Lg H y q) (hp:Lm p) (hq:Lm q):Con prog 244 [x,y] H fun u H'=>Pl H H'/\Lg H' u (p-q):=by
 have r1:=hx.rq;have r2:=hy.rq;have vU:Lm (-q):=by unfold Lm at hq⊢;rw[gC];exact hq
 have sH:=hx;have tP:=hy;obtain⟨wx,rfl,a,da,ta,va⟩:=hx;obtain⟨wy,rfl,b,db,tb,vb⟩:=hy;refine s9 mixed I0 aB rfl (d4 r1 (d4 r2 (g9 (JP tP) rfl ?_)));rintro u H1 ⟨rfl,hu⟩;refine⟨fun _=>Pl.refl _,g9 (jc sH hu hp vU) rfl ?_⟩;rintro u2 H2 ⟨hl,rQ⟩;rw[<-Int.sub_eq_add_neg]at rQ;have hr:=rQ.rq;obtain⟨w',rfl,rP⟩:=rQ;exact⟨fun _=>hl,d4 hr (g6 rfl ⟨hl,w',rfl,rP⟩)⟩
theorem JR:sn (true !=(decide (p<0)==decide (q<0))) (p.natAbs*q.natAbs)=p*q:=by
 obtain⟨a,ha⟩:=nT p;obtain⟨b,hb⟩:=nT q;have uD:(((a*b:Nat):Int))=(a:Int)*b:=eG a b;have hz:a=0\/b=0->(a:Int)*b=0:=by rintro(h|h)<;>rw[h]<;>simp
 unfold sn;rcases ha with ha|ha<;>rcases hb with hb|hb<;>subst ha<;>subst hb
 ·simp[show ¬(a:Int)<0 by omega,show ¬(b:Int)<0 by omega]
 ·rw[gC,dJ,dJ,uD,Int.mul_neg];by_cases h:b=0
  ·rw[hz (.inr h)];simp
  ·rw[decide_eq_false (show ¬(a:Int)<0 by omega),oDd (show -(b:Int)<0 by omega)];rfl
 ·rw[gC,dJ,dJ,uD,Int.neg_mul];by_cases h:a=0
  ·rw[hz (.inl h)];simp
  ·rw[decide_eq_false (show ¬(b:Int)<0 by omega),oDd (show -(a:Int)<0 by omega)];rfl
 ·rw[gC,dJ,gC,dJ,uD,Int.neg_mul_neg];by_cases h:a=0\/b=0
  ·rw[hz h];simp
  ·rw[oDd (show -(a:Int)<0 by omega),oDd (show -(b:Int)<0 by omega)];rfl
theorem Ys (hx:Lg H x p) (hy:Lg H y q) (hp:Lm p) (hq:Lm q):Con prog 219 [x,y] H fun u H'=>Pl H H'/\Lg H' u (p*q):=by
 have r1:=hx.rq;have r2:=hy.rq;obtain⟨wx,rfl,a,da,ta,va⟩:=hx;obtain⟨wy,rfl,b,db,tb,vb⟩:=hy;have la:a.length<=10000:=ta _ (by rw[va];exact hp);have lb:b.length<=10000:=tb _ (by rw[vb];exact hq);refine s9 mixed I1 aB rfl (d4 r1 (d4 r2 (d4 ⟨_,rfl⟩ (d4 ⟨_,rfl⟩ (g9 (O0 da db aA aA) rfl ?_)))));rintro u H1 ⟨qR,l,hd,_,hv⟩;refine⟨fun _=>qR,g9 (Oy (true !=(decide (p<0)==decide (q<0))) hd) rfl ?_⟩;rintro u2 H2 ⟨rfl,hu⟩;rw[hv,va,vb,JR]at hu;have hr:=hu.rq;obtain⟨w',rfl,rP⟩:=hu;exact⟨fun _=>Pl.refl _,d4 hr (g6 rfl ⟨qR,w',rfl,rP⟩)⟩
end
open Go.RowKit Go.RX Go.WD
section
variable {H:PH} {v x y:Value} {z p q:Int}
theorem Q9 (n:Int) (h0: -9223372036854775808<=n) (h1:n<0):wQ .u64 (0-wQ .u64 n)=(n.natAbs:Nat):=by
 rw[IntKind.wrap_u64,IntKind.wrap_u64];omega
theorem R0 (n:Int) (h0:0<=n) (h1:n<9223372036854775808):wQ .u64 n=(n.natAbs:Nat):=by
 rw[IntKind.wrap_u64];omega
theorem jd (n:Int) (h0: -9223372036854775808<=n) (h1:n<9223372036854775808):Con prog 163 [.int .i64 n] H fun u H'=>Pl H H'/\Lg H' u n:=by
 refine s9 mixed G0 aB rfl (d4 ⟨_,rfl⟩ ⟨fun vs H'=>H'=H/\vs=[.int .u64 (n.natAbs:Nat)],g7 (b:=decide (n<0)) rfl (fun h=>⟨rfl,?_⟩) (fun h=>⟨rfl,?_⟩),?_⟩)
 ·have h:=oDt h;simp only[rxs];simp only[unV,Q9 n h0 h]
 ·have h:=oDf h;simp only[rxs];rw[R0 n aA h1]
 ·rintro vs H'-⟨rfl,rfl⟩;simp only[cA,nA];have e1:wQ .i64 ((n.natAbs%4294967296:Nat):Int)=((n.natAbs%4294967296:Nat):Int):=wn aA;have e2:wQ .i64 (wQ .u64 ((n.natAbs/4294967296:Nat):Int))=((n.natAbs/4294967296:Nat):Int):=by rw[wu aA,wn aA]
  refine d4 ⟨_,rfl⟩ (J0 (d:=n.natAbs%4294967296) (e:=n.natAbs/4294967296) rfl rfl rfl aA aA (by simp only[rxs,iv,iu,iy,e1,e2]) fun u H1 qR hd=>g9 (Oy (decide (n<0)) hd.ds) rfl ?_);rintro u2 H2 ⟨rfl,hu⟩;have e3:vl [n.natAbs%4294967296,n.natAbs/4294967296]=n.natAbs:=by simp only[vl];omega
  rw[e3,JO]at hu;have hr:=hu.rq;obtain⟨w',rfl,rP⟩:=hu;exact⟨fun h=>(nomatch h),d4 hr (g6 rfl ⟨qR,w',rfl,rP⟩)⟩
theorem JS (n d:Nat):vl ((eK (n+1) 0).set n d)=BP n*d:=by
 have:=gu (l:=eK (n+1) 0) (k:=n) d aD;rw[Ov,vi]at this;omega
theorem JU {X k e:Nat} (hX:X<PW (k+1)) (h:dig X k+e<18446744073709551616) (j:Nat):dig (X+PW k*e) j=if j=k then dig X k+e else dig X j:=by
 have hdk:X/PW k=dig X k:=by
  unfold dig;rw[cP];rw[y7]at hX;exact(fM (Cf k)).2 (by rw[cX];exact hX)
 rcases Nat.lt_trichotomy j k with hj|hj|hj
 ·rw[if_neg aA];obtain⟨d,rfl⟩:=Nat.exists_eq_add_of_lt hj;unfold dig;rw[show j+d+1=j+(d+1)from rfl,Rn,cY,jA _ _ (Cf j),y7,Nat.mul_right_comm,eB]
 ·subst hj;rw[if_pos rfl];rw[show dig (X+PW j*e) j=(X+PW j*e)/PW j%18446744073709551616 from rfl,jA _ _ (Cf j),hdk,cP h]
 ·rw[if_neg aA];have h1:X+PW k*e<PW (k+1):=by
   have h2:=iP X (PW k);have h3:=cO X (Cf k);rw[hdk]at h2;have h4:=cE (PW k) (show dig X k+e+1<=18446744073709551616 from h);rw[eS,eS,dN,<-y7]at h4;omega
  have h5:=Lr (show k+1<=j from hj);rw[Ul aA,Ul aA]
theorem JV (k:Nat):BP (2*k+1)=PW k*4294967296:=by rw[BP_succ,gn]
theorem R1 {X i d:Nat} (hX:X<BP i) (hd:d<4294967296):∃e:Nat,wQ .u64 ((dig X (i/2):Nat)+wQ .u64 ((d:Int)*2^min (32*(i%2)) (IntKind.bits .u64)))=(e:Int)/\(wf fun j=>if j=i/2 then e else dig X j)=words (X+BP i*d):=by
 obtain⟨k,hk⟩:∃k,i=2*k\/i=2*k+1:=⟨i/2,aA⟩;rcases hk with rfl|rfl
 ·rw[show 2*k/2=k from aA,show 2*k%2=0 from aA];rw[gn]at hX⊢;have h0:dig X k=0:=Ul hX;have hX1:X<PW (k+1):=aU hX (Lr aA);refine⟨d,?_,gi fun j _=> ?_⟩
  ·rw[h0,show(2:Int)^min (32*0) (IntKind.bits .u64)=1 from rfl,Int.mul_one,wu aA];rw[IntKind.wrap_u64];omega
  ·rw[JU hX1 aA,h0,bK]
 ·rw[show(2*k+1)/2=k from aA,show(2*k+1)%2=1 from aA];rw[JV]at hX⊢;have hX1:X<PW (k+1):=by rw[y7];exact aU hX (cE _ aA)
  have hk:dig X k<4294967296:=by
   have:X/PW k<4294967296:=(fM (Cf k)).2 (by rw[cX];exact hX);exact aZ (Nat.mod_le _ _) this
  refine⟨dig X k+d*4294967296,?_,gi fun j _=> ?_⟩
  ·rw[show(2:Int)^min (32*1) (IntKind.bits .u64)=4294967296 from rfl,show(d:Int)*4294967296=((d*4294967296:Nat):Int)from aA,wu aA,<-Int.natCast_add,wu aA]
  ·rw[cY,cX 4294967296 d,JU hX1 aA]
theorem xf:HM=BP 15*2147483648:=by
 rw[Ru,show(15:Nat)=2*7+1 from rfl,JV,cY,cX]
theorem xg (h:Lg H v z):Con prog 100 [v] H fun u H'=>Pl H H'/\u=told z:=by
 have hHM:=Ko;have hHP:=Rw;have yX:=h.rq;obtain⟨w,rfl,l,hd,ht,hv⟩:=h;refine s9 mixed F9 aB rfl (d4 yX (gz (kl:= .i64) (kc:= .i64) (m:=16) rfl rfl rfl aA rfl fun lm H1 qR h1=> ?_));refine Yi (k:= .i64) (j:=15) (d:=2147483648) rfl rfl rfl rfl aE aE qR h1 aD aA rfl aE rfl fun p2 u2 H2 rN h2 _=> ?_;have a4z:vl ((eK 16 0).set 15 2147483648)=HM:=by rw[JS 15,xf]
 have htl:Tm ((eK 16 0).set 15 2147483648):=Tm.of (n:=15) aD (by rw[Yf aD];omega);refine g9 (xd (hd.mono rN) h2.ds ht htl) rfl ?_;rintro c H3 ⟨rfl,c,rfl,sL,rY⟩;rw[a4z,hv]at sL rY;refine nmI ?_;refine⟨fun vs H'=>H'=H3/\vs=[.bool (decide (¬(-(HM:Int)<=z/\z<HM)))],d4 ⟨_,rfl⟩ (g7 (b:=decide (c>0)) rfl (fun h=> ?_) (fun h=> ?_)),?_⟩
 ·have h:=oDt h;refine⟨rfl,?_⟩;simp only[rxs];congr 2;rw[eq_comm,oDi];omega
 ·have h:=oDf h;refine g7 (b:=decide (c=0)) rfl (fun h3=> ?_) (fun h3=> ?_)
  ·have h3:=oDt h3;refine d4 ⟨_,rfl⟩ ⟨rfl,?_⟩;show[Value.bool (!decide (z<0))]=_;congr 2;rw[bC,Bool.not_eq_true',decide_eq_false_iff_not,oDi];omega
  ·have h3:=oDf h3;refine⟨rfl,?_⟩;simp only[rxs];congr 2;rw[eq_comm,decide_eq_false_iff_not];omega
 ·rintro vs H4-⟨rfl,rfl⟩;simp only[cA,nA];refine d4 ⟨_,rfl⟩ (g7 rfl (fun h=> ?_) (fun h=> ?_))
  ·have h:=oDt h;refine g6 rfl ⟨rN,?_⟩;rw[Up h];simp only[rxs,Am,Lt]
  ·have h: -(HM:Int)<=z/\z<HM:=pS.1 (oDf h);refine⟨fun vs H'=>Pl H H'/\∃(d:List Nat) (u:Value),vs=[u]/\Ds H' u d/\d.length<=16/\vl d=rs z,d4 ⟨_,rfl⟩ (g7 (b:=decide (z<0)) rfl (fun hz=> ?_) (fun hz=> ?_)),?_⟩
   ·have hz:=oDt hz;refine gz (kl:= .i64) (kc:= .i64) (m:=17) rfl rfl rfl aA rfl fun wh H5 vN h5=> ?_;refine Yi (k:= .i64) (j:=16) (d:=1) rfl rfl rfl rfl aE aE vN h5 aD aA rfl aE rfl fun p6 u6 H6 wI h6 _=> ?_;have hw:vl ((eK 17 0).set 16 1)=M:=by rw[JS 16 1,dN,gp]
    have hd6:=hd.mono (rN.trans wI);refine g9 (iz h6.ds hd6 aA (ht.len_le h6.2 aA) aD) rfl ?_;rintro u7 H7 ⟨hl7,l7,hd7,wJ,hv7⟩;have hrs:rs z=M-z.natAbs:=by rw[gm hz aA];omega
    refine⟨fun h=>(nomatch h),(rN.trans wI).trans hl7,l7,u7,rfl,hd7,wJ 16 ?_,?_⟩
    ·rw[gp,hv7,hw,hv];omega
    ·rw[hv7,hw,hv,hrs]
   ·have hz:=oDf hz;have hrs:rs z=z.natAbs:=by rw[gj aA aA];omega
    refine⟨rN,l,w,rfl,hd.mono rN,ht 16 ?_,by rw[hv,hrs]⟩;rw[gp,hv];omega
   ·rintro vs H5-⟨vN,d,u,rfl,hdd,hdl,zO⟩;simp only[cA,nA];refine⟨fun vals H'=>∃i:Nat,vals=[iv i,wd (vl (d.take i))]/\H'=H5/\i<=d.length,fun vals _=>(d.length-intOf (vals.getD 0 undef)).toNat,⟨0,?_,rfl,aA⟩,?_⟩
    ·simp only[rxs,Lt,List.take_zero,vl];rfl
    rintro vals H6-⟨i,rfl,rfl,hi⟩;simp only[cA,nA];refine Ci rfl rfl hdd rfl (d4 ⟨_,rfl⟩ (d4 ⟨_,rfl⟩ (g7 (b:=decide ((i:Int)<d.length)) rfl (fun h5=> ?_) (fun h5=> ?_))))
    ·have h5:i<d.length:=by have:=oDt h5;omega
     have hdi:=hdd.2.at i;have hX:=Ls (hdd.2.take i);rw[bM,bY aA]at hX;obtain⟨e,he1,he2⟩:=R1 hX hdi;have e1:wQ .i64 ((i:Int).tdiv 2)=((i/2:Nat):Int):=by rw[show(i:Int).tdiv 2=((i/2:Nat):Int)from JG i 2,wn aA]
     have e2:wQ .i64 (32*(i:Int).tmod 2)=((32*(i%2):Nat):Int):=by rw[JK,show 32*((i%2:Nat):Int)=((32*(i%2):Nat):Int)from aA,wn aA]
     have e3:wQ .i64 ((i:Int)+1)=((i+1:Nat):Int):=He aA;have e4:wQ .u64 ((d.getD i 0:Nat):Int)=(d.getD i 0:Nat):=wu aA;refine d4 ⟨?_,?_⟩ (Fo (k:= .i64) (j:=i) rfl rfl rfl rfl aE hdd h5 rfl aE fun p7=>d4 ⟨_,rfl⟩ (d4 ?_ (d4 ⟨(dig (vl (d.take i)) (i/2):Nat),?_⟩ ⟨⟨i+1,?_,rfl,aA⟩,?_⟩)))
     ·simp only[rxs,iv,e1];omega
     ·simp only[rxs,iv,e1];omega
     ·show(0:Int)<=intOf _;simp only[rxs,iv,e2];omega
     ·simp only[rxs,iv,e1,Jd _ (show i/2<8 by omega)]
     ·simp only[rxs,iv,e1,e2,e3,e4,Jd _ (show i/2<8 by omega),he1];rw[show(words (vl (d.take i)))=wf (dig (vl (d.take i)))from rfl,Ye _ (show i/2<8 by omega),he2,Oz];rfl
     ·simp only[rxs,iv,e3];omega
    ·have h5:i=d.length:=by have:=oDf h5;omega
     refine g6 rfl ⟨vN,?_⟩;rw[Yp h,h5,aF (aS _),zO];rfl
end
theorem je:r8 prog 4= .bool false:=aB
theorem JW:∀{a b:List Nat},a.map iv=b.map iv->a=b
 |[],[],_=>rfl
 |[],_::_,h=>by simp at h
 |_::_,[],h=>by simp at h
 |x::a,y::b,h=>by
  simp only[aN,List.cons.injEq,iv,kS,true_and]at h;rw[JW h.2];have:=h.1;congr 1;omega
theorem Nu.uniq {H:PH} {v:Value} {m n:Nat} (h:Nu H v m) (k:Nu H v n):m=n:=by
 obtain⟨l,⟨⟨_,a,c,e,_,_,h1⟩,_⟩,_,rfl⟩:=h;obtain⟨l',⟨⟨_,a',c',e',_,_,h2⟩,_⟩,_,rfl⟩:=k;rw[e,Value.slice.injEq]at e';obtain⟨rfl,hl,rfl⟩:=e';congr 1;rcases h1 with h1|⟨b,o,cs,T,fz,h3,h4,h5⟩
 ·rw[aI h1,aI (show l'.length=0 by omega)]
 ·rcases h2 with h2|⟨b',o',cs',T',fz',h3',yY,h5'⟩
  ·rw[aI h2,aI (show l.length=0 by omega)]
  ·rw[h3]at h3';simp only[dM,Addr.mk.injEq,and_true]at h3';obtain⟨rfl,rfl⟩:=h3';rw[h4]at yY;simp only[dM,Obj.cells.injEq]at yY;obtain⟨rfl,rfl,rfl⟩:=yY;rw[hl]at h5;exact JW (h5.symm.trans h5')
open Classical in
noncomputable def Yt (H:PH) (v:Value):Nat:=if h:∃n,Nu H v n then h.choose else 0
theorem JX {H:PH} {v:Value} {n:Nat} (h:Nu H v n):Yt H v=n:=by
 have:∃n,Nu H v n:=⟨n,h⟩;unfold Yt;rw[dif_pos this];exact this.choose_spec.uniq h
section
variable {H:PH} {v x y:Value} {z p q:Int}
theorem xi {w:Value} {n:Nat} (h:Nu H w n):Lg H (.agg #[.bool false,w]) (n:Int):=
 ⟨w,by rw[decide_eq_false aA],by rw[dJ];exact h⟩
theorem JY {w:Value} {n:Nat} (h:Nu H w n):Value.agg ((Value.bool false).cells++w.cells)= .agg #[.bool false,w]:=by
 rw[h.one.1];rfl
theorem Lm.nat {n:Nat} (h:n<BP 10000):Lm (n:Int):=by unfold Lm;rw[dJ];exact h
theorem jf:Lm 1:=by
 unfold Lm;have:=BP_lt_iff.2 (show 0<10000 by omega);rw[BP_zero]at this;exact this
theorem jg (hx:Lg H x p) (hy:Lg H y q) (hp:Lm p) (hq:Lm q) (xM:q≠0):Con prog 212 [x,y] H fun u H'=>Pl H H'/\∃a b,u= .tuple #[a,b]/\Lg H' a (p/q)/\Lg H' b (p%q):=by
 have r1:=hx.rq;have r2:=hy.rq;obtain⟨wx,rfl,a,da,ta,va⟩:=hx;obtain⟨wy,rfl,b,db,tb,vb⟩:=hy;unfold Lm at hp hq;have la:a.length<=10000:=ta _ (by rw[va];exact hp);have lb:b.length<=10000:=tb _ (by rw[vb];exact hq);have sN:0<vl b:=by rw[vb];omega
 have hR:p.natAbs%q.natAbs<q.natAbs:=cO _ aA;have hQ:p.natAbs/q.natAbs<=p.natAbs:=Nat.div_le_self _ _;obtain⟨s1,s2⟩:=JE p q (p.natAbs/q.natAbs) (p.natAbs%q.natAbs) xM hR (by rw[cX];exact(iP _ _).symm);generalize hQd:p.natAbs/q.natAbs=Q at*;generalize hRd:p.natAbs%q.natAbs=R at*;refine s9 mixed I2 aB rfl (d4 r1 (d4 r2 (g9 (JL da db ta tb sN aA aA) rfl ?_)));rintro u H1 ⟨qR,uq,ur,rfl,vB,hr1⟩;rw[va,vb,hQd]at vB;rw[va,vb,hRd]at hr1;obtain⟨lq,dq,tq,vq⟩:=vB;obtain⟨lr,dr,tr,vr⟩:=hr1;refine⟨fun h=>(nomatch h),d4 ⟨_,rfl,eM _⟩ (d4 ⟨_,rfl,eL _⟩ (d4 ⟨_,rfl⟩ (d4 ⟨_,rfl⟩ (g9 (Oy (true !=(decide (p<0)==decide (q<0))) dq) rfl ?_))))⟩;rintro u3 H2 ⟨rfl,uK⟩;rw[vq]at uK;refine⟨fun _=>Pl.refl _,g9 (Oy (decide (p<0)) dr) rfl ?_⟩;rintro u4 H3 ⟨rfl,xA⟩;rw[vr]at xA;have hr3:=uK.rq;have hr4:=xA.rq;have a0u:=uK;have a1n:=xA;obtain⟨w3,rfl,n3⟩:=uK;obtain⟨w4,rfl,n4⟩:=xA;refine⟨fun _=>Pl.refl _,d4 hr3 (d4 hr4 (d4 ⟨_,rfl⟩ (g7 rfl (fun h=> ?_) (fun h=> ?_))))⟩
 ·have h:=oDt h;have vW:p<0:=by
   rcases Int.lt_or_le p 0 with h1|h1
   ·exact h1
   ·exfalso;unfold sn at h;rw[decide_eq_false (show ¬p<0 by omega)]at h;simp only[bZ,if_false]at h;omega
  have hR0:R≠0:=by
   intro h0;rw[h0]at h;unfold sn at h;split at h<;>omega
  have eR:sn (decide (p<0)) R= -(R:Int):=by unfold sn;rw[oDd vW];rfl
  simp only[vW,hR0,decide_true,decide_false,Bool.not_false,Bool.and_true,if_true]at s1 s2;have nb:Nu H3 wy q.natAbs:=⟨b,db.mono qR,tb,vb⟩;have a0g:=jc a1n (xi nb) (by unfold Lm;rw[eR,gC,dJ];omega) (Lm.nat hq);refine d4 nb.one.2 (g9 a0g ?_ ?_)
  ·simp only[aN,bJ];congr 2;show Value.agg ((r8 prog 4).cells++wy.cells)=_;rw[je];exact JY nb
  rintro u5 H4 ⟨hl4,sO⟩;have e5:sn (decide (p<0)) R+(q.natAbs:Int)=p%q:=by rw[s2,eR];omega
  rw[e5]at sO;have hr5:=sO.rq;obtain⟨w5,rfl,n5⟩:=sO;refine⟨fun h=>(nomatch h),d4 hr5 (g7 rfl (fun h2=> ?_) (fun h2=> ?_))⟩
  ·have h2:=oDt h2;have eQ:sn (true !=(decide (p<0)==decide (q<0))) Q=(Q:Int):=by unfold sn;rw[oDd vW,oDd h2];rfl
   refine g9 (jd 1 aA aA) rfl ?_;rintro u6 H5 ⟨vN,hu6⟩;refine⟨fun _=>vN,g9 (jc (a0u.mono (hl4.trans vN)) hu6 (by rw[eQ];exact Lm.nat aA) jf) rfl ?_⟩;rintro u7 H6 ⟨wI,wK⟩;have e7:sn (true !=(decide (p<0)==decide (q<0))) Q+1=p/q:=by
    rw[s1,eQ];simp[h2]
   rw[e7]at wK;have hr7:=wK.rq;obtain⟨w7,rfl,n7⟩:=wK;exact⟨fun _=>wI,d4 hr7 (g6 rfl ⟨qR.trans (hl4.trans (vN.trans wI)),_,_,rfl,⟨w7,rfl,n7⟩,w5,rfl,n5.mono (vN.trans wI)⟩)⟩
  ·have h2:=oDf h2;have eQ:sn (true !=(decide (p<0)==decide (q<0))) Q= -(Q:Int):=by unfold sn;rw[oDd vW,decide_eq_false h2];rfl
   refine g9 (jd 1 aA aA) rfl ?_;rintro u6 H5 ⟨vN,hu6⟩;refine⟨fun _=>vN,g9 (Q8 (a0u.mono (hl4.trans vN)) hu6 (by rw[eQ];unfold Lm;rw[gC,dJ];omega) jf) rfl ?_⟩;rintro u7 H6 ⟨wI,wK⟩;have e7:sn (true !=(decide (p<0)==decide (q<0))) Q-1=p/q:=by
    rw[s1,eQ];simp[h2];omega
   rw[e7]at wK;have hr7:=wK.rq;obtain⟨w7,rfl,n7⟩:=wK;exact⟨fun _=>wI,d4 hr7 (g6 rfl ⟨qR.trans (hl4.trans (vN.trans wI)),_,_,rfl,⟨w7,rfl,n7⟩,w5,rfl,n5.mono (vN.trans wI)⟩)⟩
 ·have h:=oDf h;have hc:(decide (p<0)&& !decide (R=0))=false:=by
   by_cases h1:p<0
   ·by_cases h2:R=0
    ·simp[h2]
    ·exfalso;apply h;unfold sn;rw[oDd h1];simp;omega
   ·simp[h1]
  rw[hc]at s1 s2;simp only[bZ,if_false]at s1 s2;have e3:sn (true !=(decide (p<0)==decide (q<0))) Q=p/q:=by
   rw[s1];unfold sn;by_cases h1:p<0<;>by_cases h2:q<0<;>simp[h1,h2]
  have e4:sn (decide (p<0)) R=p%q:=by
   rw[s2];unfold sn;by_cases h1:p<0
   ·simp[h1]at hc⊢;omega
   ·simp[h1]
  rw[e3]at n3;rw[e4]at n4;refine g6 rfl ⟨qR,_,_,rfl,⟨w3,?_,n3⟩,w4,?_,n4⟩
  ·rw[<-e3];rfl
  ·rw[<-e4];rfl
theorem R2 (hx:Lg H x p) (hy:Lg H y q) (hp:Lm p) (hq:Lm q):Con prog 210 [x,y] H fun u H'=>Pl H H'/\Lg H' u (fY p.natAbs q.natAbs:Nat):=by
 have r1:=hx.rq;have r2:=hy.rq;obtain⟨wx,rfl,nx⟩:=hx;obtain⟨wy,rfl,ny⟩:=hy;unfold Lm at hp hq;refine s9 mixed I3 aB rfl (d4 r1 (d4 r2 ⟨fun vals H'=>∃(m n:Nat) (vm vn:Value),vals=[vm,vn]/\Pl H H'/\Nu H' vm m/\Nu H' vn n/\m<BP 10000/\n<BP 10000/\fY m n=fY p.natAbs q.natAbs,fun vals H'=>Yt H' (vals.getD 1 undef),⟨p.natAbs,q.natAbs,wx,wy,rfl,Pl.refl H,nx,ny,hp,hq,rfl⟩,?_⟩));rintro vals H'-⟨m,n,vm,vn,rfl,pY,hm,hn,lm,ln,hg⟩;simp only[cA,nA];obtain⟨a,da,ta,va⟩:=id hm;obtain⟨b,db,tb,vb⟩:=id hn;have rO:=tb.pos;refine Ci rfl rfl db rfl (d4 ⟨_,rfl⟩ (g7 (b:=decide ((b.length:Int)>0)) rfl (fun h=> ?_) (fun h=> ?_)))
 ·have h:=oDt h;refine g9 (JL da db ta tb aA (bD (ta 10000 aA) aA) (bD (tb 10000 aA) aA)) rfl ?_;rintro u H2 ⟨rN,uq,ur,rfl,_,hr⟩;rw[va,vb]at hr;have pX:m%n<n:=cO _ aA;refine⟨fun h=>(nomatch h),d4 ⟨_,rfl,eM _⟩ (d4 ⟨_,rfl,eL _⟩ ⟨⟨n,m%n,vn,ur,rfl,pY.trans rN,hn.mono rN,hr,ln,aA,?_⟩,?_⟩)⟩
  ·rw[<-hg,lL n,<-Nat.gcd_rec,lL]
  ·show Yt H2 ur<Yt H' vn;rw[JX hr,JX hn];exact pX
 ·have h:=oDf h;have yC:n=0:=aA;subst yC;rw[Nat.gcd_zero_right]at hg;rw[hg]at hm;refine d4 hm.one.2 (g6 rfl ⟨pY,?_⟩);show Lg H' (Value.agg ((r8 prog 4).cells++vm.cells)) _;rw[je,JY hm];exact xi hm
end
open Go.RowKit Go.RX Go.WD
theorem R3 {z:Int} (h:z.natAbs<M):Lm z:=by
 unfold Lm;have:=Bt (show 16<=10000 by omega);rw[gp]at this;omega
theorem JZ (a:Nat):Lm (toI a):=R3 (II a)
end Go.Z

/- Trees of functions. -/
import Derived.WalkKit
import Derived.ProofKit
import Derived.OpenShut
import Derived.ShutString
import Derived.ChangeOld
import Derived.Deep.Slices
import Derived.Deep.Strs
import Derived.Test.YtmannekkmdockaaGreatDoorLgC
open Array renaming ext'->oU
open Int renaming gcd->pM,mul_ediv_cancel_left->eW,mul_ne_zero->kM,natAbs_ediv_le_natAbs->lC,natAbs_mul->iC,natAbs_natCast->cV,natAbs_neg->fW,natCast_mul->jH,ofNat_dvd_left->jT
open List renaming take_of_length_le->aK
open Nat renaming gcd->eJ,gcd_comm->mM,gcd_dvd_right->nG,gcd_pos_of_pos_right->fX,le_refl->aN,lt_succ_self->bQ,pow_le_pow_right->aU,zero_lt_succ->bU
set_option maxRecDepth 100000
namespace Go.Proofs.Z
open Go.Proofs.Tryz
open Go.RowKit Go.RX
theorem L9:tree prog [] [] [] [⟨5,[0,1,0,7,15,31],[5,2,5,2,6,6],[4,0,6,0,4,6],[0,2,1,3],[4,5]⟩] 74=some (.rq (.cells 2 V0) (.rq (.cells 2 V1) (.call false 129 [(.ag V0),(.ag V1)]
(.rq (.cells 2 V2) (.call false 130 [(.ag V0),(.ag V2)]
(.rq (.tup 0 V3) (.rq (.tup 1 V3) (.rq (.cells 2 (.proj V3 0)) (.rq (.cells 2 (.proj V3 1)) (.call false 130 [(.ag V1),(.ag V2)]
(.rq (.tup 0 V4) (.rq (.tup 1 V4) (.rq (.cells 2 (.proj V4 0)) (.rq (.cells 2 (.proj V4 1)) (.rq (.bool (.cell (.proj V4 0) 0 0 noI)) (.br (.cell (.proj V4 0) 0 0 noI) (.call true 131 [(.ag (.proj V3 0))]
(.call true 131 [(.ag (.proj V4 0))]
(.rq (.cells 2 V5) (.rq (.cells 2 V6) (.ret [(.cat (.ag V5) 2 (.ag V6))]))))) (.ret [(.cat (.ag (.proj V3 0)) 2 (.ag (.proj V4 0)))]))))))))))))))))):=by kernel_rfl
theorem M0:tree prog [] [] [] [⟨1,[0,1,3,0,8,31,63,127],[1,1,2,1,1,2,0,6],[0,0,0,0,0,0,0,1],[0,1,3,4,2,5,6],[7]⟩] 78=some (.rq (.cells 16 V0) (.call true 75 [(.sub V0 0 8 0 noI)]
(.call true 75 [(.sub V0 8 8 0 noI)]
(.rq (.cells 2 V1) (.rq (.cells 2 V2) (.ret [(.put (.cat V1 2 (.z 116)) 2 2 V2 0 noI)])))))):=by kernel_rfl
theorem M5:tree prog [] [] [] [⟨1,[0,0,3,7],[5,2,0,6],[0,0,0,1],[0,1,2],[3]⟩] 101=some (.rq (.cells 2 V0) (.call true 102 [(.ki 1)]
(.rq (.cells 2 V1) (.ret [(.cat (.ag V0) 2 V1)])))):=by kernel_rfl
theorem M6:tree prog [] [] [⟨3,3,[25],[]⟩] [] 52=some (.rq (.cells 4 V0) (.call false 72 [(.sub V0 0 2 0 noI)]
(.rq (.tup 0 V1) (.rq (.tup 1 V1) (.rq (.cells 8 (.proj V1 0)) (.call false 72 [(.sub V0 2 2 0 noI)]
(.rq (.tup 0 V2) (.rq (.tup 1 V2) (.rq (.cells 8 (.proj V2 0)) (.join 1
(.rq (.int .i64 (.proj V1 1)) (.br (.io .neq (.proj V1 1) (.ki 0)) (.next 0 [(.k (.bool true))]) (.rq (.int .i64 (.proj V2 1)) (.next 0 [(.io .neq (.proj V2 1) (.ki 0))])))) (.rq (.bool V3) (.br V3
(.ret [(.cat (.z 56) 8 (.z 56)),(.ki 6)]) (.ret [(.cat (.ag (.proj V1 0)) 8 (.ag (.proj V2 0))),(.ki 0)]))))))))))))):=by kernel_rfl
theorem M7:tree prog [] [] [] [⟨1,[0,1,0,4,15,0,32,0,128,511,1023,0,2048,0,8192,32767,65535,131071],[1,1,1,1,2,1,1,1,1,2,2,1,1,1,1,2,2,6],[0,0,0,0,0,0,0,0,0,0,0,0,0,0,0,0,0,2],[0,1,2,3,5,6,7,8,11,12,13,14,4,9,10,15,16],[17]⟩] 77=some (.rq (.cells 4 V0) (.rq (.cells 4 V1) (.call true 136 [(.sub V0 0 2 0 noI),(.sub V1 2 2 0 noI)]
(.call true 136 [(.sub V1 0 2 0 noI),(.sub V0 2 2 0 noI)]
(.call true 124 [V2,V3]
(.call true 136 [(.sub V0 2 2 0 noI),(.sub V1 2 2 0 noI)]
(.call true 74 [V4,V5]
(.rq (.cells 4 V6) (.ret [(.ag V6)]))))))))):=by kernel_rfl
theorem M8:tree prog [] [] [] [⟨1,[0,1,3,0,8,31,63],[1,1,2,1,1,0,6],[0,0,0,0,0,0,1],[0,1,3,4,2,5],[6]⟩] 148=some (.rq (.cells 4 V0) (.call true 131 [(.sub V0 0 2 0 noI)]
(.rq (.cells 2 V1) (.ret [(.put (.cat V1 2 (.z 116)) 2 2 (.sub V0 2 2 0 noI) 0 noI)])))):=by kernel_rfl
theorem M9:tree prog [] [] [] [⟨1,[0,0,2,7,15],[5,5,2,2,6],[0,1,0,0,2],[0,1,2,3],[4]⟩] 90=some (.rq (.cells 4 V0) (.rq (.cells 4 V1) (.call true 148 [(.ag V1)]
(.call true 77 [(.ag V0),V2]
(.rq (.cells 4 V3) (.ret [(.ag V3)])))))):=by kernel_rfl
theorem N0:tree prog [] [] [] [⟨1,[0,1,0,4,15,0,32,0,128,511,1023,2047],[1,1,1,1,2,1,1,1,1,2,2,6],[0,0,0,0,0,0,0,0,0,0,0,2],[0,1,2,3,5,6,7,8,4,9,10],[11]⟩] 82=some (.rq (.cells 4 V0) (.rq (.cells 4 V1) (.call true 136 [(.sub V0 0 2 0 noI),(.sub V1 0 2 0 noI)]
(.call true 136 [(.sub V0 2 2 0 noI),(.sub V1 2 2 0 noI)]
(.call true 74 [V2,V3]
(.rq (.cells 4 V4) (.ret [(.ag V4)]))))))):=by kernel_rfl
theorem N1:tree prog [] [] [] [⟨1,[0,1,0,4,15,0,32,0,128,511,1023,2047],[1,1,1,1,2,1,1,1,1,2,2,6],[0,0,0,0,0,0,0,0,0,0,0,2],[0,1,2,3,5,6,7,8,4,9,10],[11]⟩] 147=some (.rq (.cells 4 V0) (.rq (.cells 4 V1) (.call true 136 [(.sub V0 0 2 0 noI),(.sub V1 2 2 0 noI)]
(.call true 136 [(.sub V0 2 2 0 noI),(.sub V1 0 2 0 noI)]
(.call true 74 [V2,V3]
(.rq (.cells 4 V4) (.ret [(.ag V4)]))))))):=by kernel_rfl
theorem N2:tree prog [] [] [⟨3,3,[21],[]⟩] [⟨3,[0,1,3,7,15,31,63,31,159,511,31,2047,4095,8191],[1,1,2,0,0,1,1,1,1,2,5,2,0,0],[0,0,0,0,0,0,0,0,0,0,1,0,0,0],[0,1,2,3,4,5,6,7,8,10,9,11,12,13],[]⟩] 134=some (.rq (.cells 16 V0) (.call false 102 [(.ki 1)]
(.rq (.cells 2 V1) (.call false 78 [(.ag V0)]
(.rq (.cells 4 V2) (.join 1
(.call true 67 [(.sub V2 2 2 0 noI)]
(.ri V3
(.br (.io .leq V3 (.ki 0)) (.next 0 [(.k (.bool true))]) (.call true 129 [(.sub V2 0 2 0 noI),(.sub V2 2 2 0 noI)]
(.call true 201 [V4,(.ag V1)]
(.ri V5
(.next 0 [(.io .neq V5 (.ki 0))]))))))) (.rq (.bool V3) (.br V3
(.ret [(.ki 20)]) (.ret [(.ki 0)]))))))))):=by kernel_rfl
theorem N3:tree prog [] [] [⟨0,2,[],[]⟩] [] 135=some (.pm f135 1 1 [V1]
(.loop [(.k (.bool false)),(.ki 0)]
(.ri V4
(.ri V2
(.br (.io .lss V4 V2)
(.pm f135 3 0 [V1,V4]
(.pm f135 3 1 [V5]
(.rq (.cells 16 V6)
(.ef false f135 4 2 [V0,(.ag V6)]
(.rq (.bool V7) (.br (.nt V7) (.ret [(.k (.bool false))]) (.next 0 [V3,(.io .add V4 (.ki 1))]))))))) (.ret [(.k (.bool true))])))))):=by kernel_rfl
theorem N4:tree prog [] [] [] [] 76=some (.call false 135 [(.k (.func (.func 133) #[] #[])),V0]
(.ret [V1])):=by kernel_rfl
theorem N5:tree prog [] [] [] [] 133=some (.rq (.cells 16 V0) (.call false 134 [(.ag V0)]
(.ri V1
(.ret [(.io .eql V1 (.ki 0))])))):=by kernel_rfl
theorem N6:tree prog [] [] [] [⟨4,[0,0,2,0,14,31,63,127],[0,5,2,5,2,2,0,0],[0,0,0,1,0,0,0,0],[0,1,3,2,4,5,6,7],[]⟩] 65=some (.rq (.cells 16 V0) (.rq (.cells 16 V1)
(.ef false f65 1 2 [(.ag V0),(.ag V1)]
(.call false 76 [V3]
(.rq (.bool V4) (.br (.nt V4) (.ret [(.ki 0),(.ki 20)]) (.call true 78 [(.ag V0)]
(.call true 78 [(.ag V1)]
(.ef true f65 4 5 [V2,V5,V6]
(.ret [V7,(.ki 0)])))))))))):=by kernel_rfl
theorem N7:tree prog [] [] [] [⟨3,[0,1,0,7,15,31,63,63,255,511],[5,2,5,2,2,2,0,0,6,0],[0,0,1,0,0,0,0,0,2,0],[0,2,1,3,4,5,6,7],[8,9]⟩] 30=some (.rq (.cells 8 V0) (.rq (.cells 8 V1)
(.pm f30 1 2 [(.ag V1),(.z 56)]
(.rq (.bool V2) (.br V2
(.ret [(.cat (.z 56) 8 (.z 56)),(.ki 7)]) (.call true 75 [(.ag V0)]
(.call true 75 [(.ag V1)]
(.call true 74 [V3,V4]
(.call true 52 [V5]
(.rq (.tup 0 V6) (.rq (.tup 1 V6) (.rq (.cells 16 (.proj V6 0)) (.ret [(.ag (.proj V6 0)),(.proj V6 1)]))))))))))))):=by kernel_rfl
theorem N8:tree prog [] [] [] [] 79=some (.call false 29 [V0]
(.call false 29 [V1]
(.call false 30 [V2,V3]
(.rq (.tup 0 V4) (.rq (.tup 1 V4) (.rq (.cells 16 (.proj V4 0)) (.ret [(.ag (.proj V4 0)),(.proj V4 1)]))))))):=by kernel_rfl
theorem N9:tree prog [] [] [] [] 23=some (.rq (.cells 16 V0) (.call false 65 [(.ag V0),(.ag V0),(.k (.func (.func 66) #[] #[]))]
(.rq (.tup 0 V1) (.rq (.tup 1 V1) (.ret [(.proj V1 0),(.proj V1 1)]))))):=by kernel_rfl
theorem O0:tree prog [] [] [] [] 66=some (.rq (.cells 4 V0) (.rq (.cells 4 V1) (.call false 67 [(.sub V0 0 2 0 noI)]
(.ret [V2])))):=by kernel_rfl
theorem O1:tree prog [] [] [] [] 58=some (.call false 102 [V0]
(.call false 101 [V1]
(.rq (.cells 4 V2) (.ret [(.ag V2)])))):=by kernel_rfl
end Go.Proofs.Z
/- Fractions: plain; package share: fractions of integers of any length. -/
namespace Go.WD
open Go.RX
def Rb (k:Nat) (r:Rat):Prop:=r.num.natAbs<2^k/\r.den<2^k
theorem uy {a b i j:Nat} (ha:a<2^i) (hb:b<2^j):a*b<2^(i+j):=by
 rw[Nat.pow_add];exact Nat.mul_lt_mul'' ha hb
theorem uz (n:Int) {d:Int} (hd:d≠0):(Rat.divInt n d).num=if d/(eJ n.natAbs d.natAbs:Nat)<0 then -(n/(eJ n.natAbs d.natAbs:Nat))else n/(eJ n.natAbs d.natAbs:Nat):=by
 have hg:0<eJ n.natAbs d.natAbs:=fX _ (by omega);have hgn:((eJ n.natAbs d.natAbs:Nat):Int) ∣ n:=jT.2 (Nat.gcd_dvd_left _ _);rw[Rat.num_divInt];have e:(d.gcd n:Nat)=eJ n.natAbs d.natAbs:=by unfold pM;exact mM _ _
 rw[e];obtain⟨m,hm⟩:=hgn;have hdv:((eJ n.natAbs d.natAbs:Nat):Int) ∣ d:=jT.2 (nG _ _);obtain⟨c,hc⟩:=hdv;generalize eJ n.natAbs d.natAbs=g at hg hm hc;have hg':(g:Int)≠0:=by omega
 have e1:n/(g:Int)=m:=by rw[hm];exact eW _ hg'
 have e2:d/(g:Int)=c:=by rw[hc];exact eW _ hg'
 rw[e1,e2];rcases Int.lt_or_gt_of_ne hd with h|h
 ·have tA:c<0:=by
   rcases Int.lt_or_le c 0 with h1|h1
   ·exact h1
   ·have:=Int.mul_nonneg (show(0:Int)<=g by omega) h1;omega
  rw[if_pos tA,Int.sign_eq_neg_one_of_neg h,hm,Int.neg_one_mul,<-Int.mul_neg];exact eW _ hg'
 ·have tA:¬c<0:=fun h1=>by
   have:=Int.mul_neg_of_pos_of_neg (show(0:Int)<g by omega) h1;omega
  rw[if_neg tA,Int.sign_eq_one_of_pos h,Int.one_mul,hm];exact eW _ hg'
theorem vc (n:Int) {d:Int} (hd:d≠0):((Rat.divInt n d).den:Int)=if d/(eJ n.natAbs d.natAbs:Nat)<0 then -(d/(eJ n.natAbs d.natAbs:Nat))else d/(eJ n.natAbs d.natAbs:Nat):=by
 have hg:0<eJ n.natAbs d.natAbs:=fX _ (by omega);rw[Rat.den_divInt,if_neg hd];have e:(d.gcd n:Nat)=eJ n.natAbs d.natAbs:=by unfold pM;exact mM _ _
 rw[e];have hdv:((eJ n.natAbs d.natAbs:Nat):Int) ∣ d:=jT.2 (nG _ _);obtain⟨c,hc⟩:=hdv;generalize eJ n.natAbs d.natAbs=g at hg hc;have e2:d/(g:Int)=c:=by rw[hc];exact eW _ (by omega)
 have e3:d.natAbs/g=c.natAbs:=by rw[hc,iC,cV];exact Nat.mul_div_cancel_left _ hg
 rw[e2,e3];split<;>omega
theorem O2 (r s:Rat):Rat.divInt (r.num*s.den+s.num*r.den) ((r.den:Int)*s.den)=r+s:=by
 rw[Rat.add_def',<-jH,Rat.divInt_ofNat]
theorem IP (r s:Rat):Rat.divInt (r.num*s.num) ((r.den:Int)*s.den)=r*s:=by
 rw[Rat.mul_def',<-jH,Rat.divInt_ofNat]
theorem O3 (r s:Rat):Rat.divInt (r.num*s.den) ((r.den:Int)*s.num)=r/s:=by
 have h1:=Rat.num_divInt_den r;rw[Rat.div_def,Rat.inv_def]
 conv=>rhs;rw[<-h1]
 rw[Rat.divInt_mul_divInt]
theorem low_bound {n d:Int} {k:Nat} (hd:d≠0) (hn:n.natAbs<2^k) (hdk:d.natAbs<2^k):Rb k (Rat.divInt n d):=by
 have hg:0<eJ n.natAbs d.natAbs:=fX _ (by omega);constructor
 ·have h1:(n/(eJ n.natAbs d.natAbs:Nat)).natAbs<=n.natAbs:=lC _ _;rw[uz n hd];split
  ·rw[fW];omega
  ·omega
 ·have h2:=vc n hd;have h3:(d/(eJ n.natAbs d.natAbs:Nat)).natAbs<=d.natAbs:=lC _ _;split at h2<;>omega
theorem vd (r:Rat):((r.den:Nat):Int).natAbs=r.den:=cV _
theorem Rb.mul {j k m:Nat} {r s:Rat} (hr:Rb j r) (hs:Rb k s) (hm:j+k<=m):Rb m (r*s):=by
 have hd:(r.den:Int)*s.den≠0:=kM (by have:=r.den_nz;omega) (by have:=s.den_nz;omega);have h1:=uy hr.1 hs.1;have h3:=uy hr.2 hs.2;have h5:2^(j+k)<=2^m:=aU (by omega) hm;rw[<-IP];refine low_bound hd (by rw[iC];omega) ?_;rw[iC,vd,vd];omega
theorem Rb.neg {k:Nat} {r:Rat} (h:Rb k r):Rb k (-r):=⟨by rw[Rat.neg_num,fW];exact h.1,by rw[Rat.neg_den];exact h.2⟩
theorem O4 (k:Nat):BP k=2^(32*k):=by unfold BP;rfl
end Go.WD
namespace Go.Proofs.Z
open Go.Proofs.Tryz
open Go.RowKit Go.RX Go.WD
theorem Lm.two {z:Int} {k:Nat} (h:z.natAbs<2^k) (hk:k<=320000):Lm z:=by
 unfold Lm;obtain⟨K,hK⟩:∃K,K=10000:=⟨_,rfl⟩;rw[<-hK,O4];exact Nat.lt_of_lt_of_le h (aU (by omega) (by omega))
theorem Lm.add2 {y z:Int} {j k:Nat} (hy:y.natAbs<2^j) (hz:z.natAbs<2^k) {m:Nat} (h1:j+1<=m) (h2:k+1<=m):(y+z).natAbs<2^m:=by
 have h3:=Int.natAbs_add_le y z;have h4:2^(j+1)<=2^m:=aU (by omega) h1;have h5:2^(k+1)<=2^m:=aU (by omega) h2;rw[Nat.pow_succ]at h4 h5;omega
theorem Rh {y z:Int} {j k:Nat} (hy:y.natAbs<2^j) (hz:z.natAbs<2^k):(y*z).natAbs<2^(j+k):=by rw[iC];exact uy hy hz
def Rp (H:PH) (v:Value) (r:Rat):Prop:=∃w1 w2,v= .agg #[.bool (decide (r.num<0)),w1,.bool false,w2]/\Mu H w1 r.num.natAbs/\Mu H w2 r.den
theorem Rp.mono {H H':PH} {v:Value} {r:Rat} (h:Rp H v r) (hl:PH.le H H'):Rp H' v r:=by
 obtain⟨w1,w2,h1,h2,h3⟩:=h;exact⟨w1,w2,h1,h2.mono hl,h3.mono hl⟩
theorem IQ {b c:Bool} {w1 w2:Value} {H:PH} {m n:Nat} (h1:Mu H w1 m) (h2:Mu H w2 n):(Value.agg #[.bool b,w1,.bool c,w2]).cells.size=4/\s8 (Value.agg #[.bool b,w1,.bool c,w2]).cells:=by
 refine⟨rfl,fun x hx=> ?_⟩;have g1:=h1.one.2.2;have g2:=h2.one.2.2;rw[h1.one.1]at g1;rw[h2.one.1]at g2;rw[It]at hx;simp only[List.mem_cons,List.not_mem_nil,or_false]at hx;rcases hx with h|h|h|h
 ·rw[h];rfl
 ·rw[h];exact g1 _ (by simp)
 ·rw[h];rfl
 ·rw[h];exact g2 _ (by simp)
theorem Rp.rq {H:PH} {v:Value} {r:Rat} (h:Rp H v r):v.cells.size=4/\s8 v.cells:=by
 obtain⟨w1,w2,rfl,h1,h2⟩:=h;exact IQ h1 h2
theorem Lw.den {H:PH} {w:Value} {n:Nat} (h:Mu H w n):Lw H (.agg #[.bool false,w]) (n:Int):=uu h
theorem IR:s7 prog 116= .agg #[.bool false,.slice none 0 0]:=by kernel_rfl
section
variable {H:PH} {x y:Value} {p q:Int} {r s:Rat} {i j k:Nat}
theorem gg (hx:Lw H x p) (hy:Lw H y q) (hp:Lm p) (hq:Lm q) (hq0:q≠0):Con prog 74 [x,y] H fun u H'=>PH.le H H'/\Rp H' u (Rat.divInt p q):=by
 have r1:=hx.rq;have r2:=hy.rq;have rZ:=hx;have sL:=hy;obtain⟨wx,rfl,_⟩:=hx;obtain⟨wy,rfl,_⟩:=hy;have hn:=uz p hq0;have hd:=vc p hq0;obtain⟨g,hg⟩:∃g,g=eJ p.natAbs q.natAbs:=⟨_,rfl⟩;have sN:0<g:=by rw[hg];exact fX _ (by omega)
 have uL:Lm (g:Int):=by
  unfold Lm at hq⊢;rw[cV,hg];exact Nat.lt_of_le_of_lt (Nat.gcd_le_right _ (by omega)) hq
 rw[<-hg]at hn hd;refine Aa mixed L9 (by kernel_rfl) rfl (d9 r1 (d9 r2 (i6 (IF rZ sL hp hq) rfl ?_)));rintro u1 H1 ⟨l1,rN⟩;rw[<-hg]at rN;have zD:=rN.rq;have a0c:=rN;obtain⟨w1,rfl,_⟩:=rN;refine⟨fun h=>(nomatch h),d9 zD (i6 (ux (rZ.mono l1) a0c hp uL (by omega)) rfl ?_)⟩;rintro u2 H2 ⟨l2,a1,b1,rfl,ha1,qQ⟩;have ra:=ha1.rq;have rb:=qQ.rq;have a5g:=ha1;obtain⟨w2,rfl,n2⟩:=ha1;obtain⟨w3,rfl,_⟩:=qQ;refine⟨fun h=>(nomatch h),d9 ⟨_,rfl,bU _⟩ (d9 ⟨_,rfl,bQ _⟩ (d9 ra (d9 rb (i6 (ux (sL.mono (l1.trans l2)) (a0c.mono l2) hq uL (by omega)) rfl ?_))))⟩;rintro u3 H3 ⟨l3,a2,b2,rfl,rX,qR⟩;have rc:=rX.rq;have rd:=qR.rq;have a5h:=rX;obtain⟨w4,rfl,n4⟩:=rX;obtain⟨w5,rfl,_⟩:=qR;refine⟨fun h=>(nomatch h),d9 ⟨_,rfl,bU _⟩ (d9 ⟨_,rfl,bQ _⟩ (d9 rc (d9 rd (d9 ⟨_,rfl⟩ (i0 (b:=decide (q/(g:Int)<0)) rfl (fun h=> ?_) (fun h=> ?_))))))⟩
 ·have h:=oDt h;rw[if_pos h]at hn hd;refine i6 (gb (a5g.mono l3)) rfl ?_;rintro u4 H4 ⟨rfl,xT⟩;have re:=xT.rq;obtain⟨w6,rfl,n6⟩:=xT;refine⟨fun _=>PH.le.refl _,i6 (gb a5h) rfl ?_⟩;rintro u5 H5 ⟨rfl,tJ⟩;have rf:=tJ.rq;obtain⟨w7,rfl,n7⟩:=tJ;refine⟨fun _=>PH.le.refl _,d9 re (d9 rf (g8 rfl ⟨l1.trans (l2.trans l3),w6,w7,?_,?_,?_⟩))⟩
  ·rw[hn];show Value.agg #[.bool (decide (-(p/(g:Int))<0)),w6,.bool (decide (-(q/(g:Int))<0)),w7]=_;rw[decide_eq_false (show ¬ -(q/(g:Int))<0 by omega)]
  ·rw[hn];exact n6
  ·rw[show(Rat.divInt p q).den=(-(q/(g:Int))).natAbs from by omega];exact n7
 ·have h:=oDf h;rw[if_neg h]at hn hd;refine g8 rfl ⟨l1.trans (l2.trans l3),w2,w4,?_,?_,?_⟩
  ·rw[hn];show Value.agg #[.bool (decide (p/(g:Int)<0)),w2,.bool (decide (q/(g:Int)<0)),w4]=_;rw[decide_eq_false h]
  ·rw[hn];exact n2.mono l3
  ·rw[show(Rat.divInt p q).den=(q/(g:Int)).natAbs from by omega];exact n4
end
end Go.Proofs.Z
/- Package share: fractions in memory. -/
namespace Go.Proofs.Z
open Go.Proofs.Tryz
open Go.RowKit Go.RX Go.WD
def shv (n d:Nat):Value:= .agg (words n++words d)
theorem Dz (a b:Nat):(words a++words b).size=16/\s8 (words a++words b):=by
 refine⟨by rw[Array.size_append,words_size,words_size],fun c hc=> ?_⟩;rw[Array.toList_append,List.mem_append]at hc;rcases hc with h|h
 ·exact words_one a c h
 ·exact words_one b c h
theorem O5 (a b:Nat):(words a++words b).extract 0 8=words a:=by
 apply oU;simp[words_size,aK]
theorem O6 (a b:Nat):(words a++words b).extract 8 16=words b:=by
 apply oU;simp[words_size,aK]
theorem IS (a b:Nat):Value.agg ((words a++words b).extract 0 8)=wd a:=by rw[O5];rfl
theorem IU (a b:Nat):Value.agg ((words a++words b).extract 8 16)=wd b:=by rw[O6];rfl
def Lp (H:PH) (v:Value) (p q:Int):Prop:=∃w1 w2,v= .agg #[.bool (decide (p<0)),w1,.bool (decide (q<0)),w2]/\Mu H w1 p.natAbs/\Mu H w2 q.natAbs
theorem Lp.mono {H H':PH} {v:Value} {p q:Int} (h:Lp H v p q) (hl:PH.le H H'):Lp H' v p q:=by
 obtain⟨w1,w2,h1,h2,h3⟩:=h;exact⟨w1,w2,h1,h2.mono hl,h3.mono hl⟩
theorem Lp.rq {H:PH} {v:Value} {p q:Int} (h:Lp H v p q):v.cells.size=4/\s8 v.cells:=by
 obtain⟨w1,w2,rfl,h1,h2⟩:=h;exact IQ h1 h2
theorem Lp.rp {H:PH} {v:Value} {p q:Int} {r:Rat} (h:Lp H v p q) (hp:r.num=p) (hq:(r.den:Int)=q):Rp H v r:=by
 obtain⟨w1,w2,rfl,h1,h2⟩:=h;refine⟨w1,w2,?_,by rw[hp];exact h1,?_⟩
 ·rw[hp,decide_eq_false (show ¬q<0 by omega)]
 ·rw[show r.den=q.natAbs from by omega];exact h2
def Fz (r:Rat):Value:=if(-(HM:Int)<=r.num/\r.num<HM)/\(r.den:Int)<HM then .tuple #[shv (rs r.num) (rs (r.den:Int)),.int .i64 0]else .tuple #[shv 0 0,.int .i64 6]
theorem gh:Value.agg ((s7 prog 56).cells++(s7 prog 56).cells)=shv 0 0:=by rw[Qy];rfl
section
variable {H:PH} {x y:Value} {p q:Int} {r s:Rat} {j k:Nat}
theorem vf (n d:Nat):Con prog 78 [shv n d] H fun u H'=>PH.le H H'/\Lp H' u (toI n) (toI d):=by
 refine Aa mixed M0 (by kernel_rfl) rfl (d9 (Dz n d) (i6 (Uu n) (congrArg (fun z=>[z]) (IS n d)) ?_));rintro u1 H1 ⟨l1,rN⟩;simp only[cA,nA];refine⟨fun _=>l1,i6 (Uu d) (congrArg (fun z=>[z]) (IU n d)) ?_⟩;rintro u2 H2 ⟨l2,rK⟩;have r1:=rN.rq;have r2:=rK.rq;obtain⟨w1,rfl,n1⟩:=rN;obtain⟨w2,rfl,n2⟩:=rK;refine⟨fun _=>l2,d9 r1 (d9 r2 (g8 rfl ⟨l1.trans l2,w1,w2,?_,n1.mono l2,n2⟩))⟩;show Value.agg (spl ((#[Value.bool (decide (toI n<0)),w1]:Array Value)++(s7 prog 116).cells) 2 [.bool (decide (toI d<0)),w2])=_;rw[IR];rfl
theorem IV (hx:Lw H x p):Con prog 101 [x] H fun u H'=>PH.le H H'/\Rp H' u (p:Rat):=by
 have r0:=hx.rq;obtain⟨w,rfl,n0⟩:=hx;refine Aa mixed M5 (by kernel_rfl) rfl (d9 r0 (i6 (Rf 1 (by omega) (by omega)) rfl ?_));rintro u1 H1 ⟨l1,rN⟩;have r1:=rN.rq;obtain⟨w1,rfl,n1⟩:=rN;exact⟨fun _=>l1,d9 r1 (g8 rfl ⟨l1,w,w1,rfl,n0.mono l1,n1⟩)⟩
theorem gi (hx:Rp H x r):Con prog 52 [x] H fun u H'=>PH.le H H'/\u=Fz r:=by
 have r0:=hx.rq;obtain⟨w1,w2,rfl,n1,n2⟩:=hx;have hL1:Lw H (.agg #[.bool (decide (r.num<0)),w1]) r.num:=⟨w1,rfl,n1⟩;refine Aa mixed M6 (by kernel_rfl) rfl (d9 r0 (i6 (gf hL1) rfl ?_));rintro u1 H1 ⟨l1,rfl⟩;have tK:=Lw.den (n2.mono l1);have hd0:0<=(r.den:Int):=by omega
 have hHM:=Ul;unfold Fz;by_cases f1: -(HM:Int)<=r.num/\r.num<HM
 ·rw[HT f1];simp only[cA,nA];refine⟨fun h=>(nomatch h),d9 ⟨_,rfl,bU _⟩ (d9 ⟨_,rfl,bQ _⟩ (d9 ⟨words_size _,words_one _⟩ (i6 (gf tK) rfl ?_)))⟩;rintro u2 H2 ⟨l2,rfl⟩;by_cases f2:(r.den:Int)<HM
  ·rw[HT (show -(HM:Int)<=(r.den:Int)/\(r.den:Int)<HM by omega),if_pos ⟨f1,f2⟩];simp only[cA,nA];refine⟨fun h=>(nomatch h),d9 ⟨_,rfl,bU _⟩ (d9 ⟨_,rfl,bQ _⟩ (d9 ⟨words_size _,words_one _⟩ ⟨fun vals H'=>vals=[.bool false]/\H'=H2,d9 ⟨_,rfl⟩ (t6 rfl (d9 ⟨_,rfl⟩ ⟨rfl,rfl⟩)),?_⟩))⟩;rintro vals H3-⟨rfl,rfl⟩;exact d9 ⟨_,rfl⟩ (t6 rfl (g8 rfl ⟨l1.trans l2,rfl⟩))
  ·rw[uh (show ¬(-(HM:Int)<=(r.den:Int)/\(r.den:Int)<HM) by omega),if_neg (fun h=>f2 h.2)];simp only[cA,nA];refine⟨fun h=>(nomatch h),d9 ⟨_,rfl,bU _⟩ (d9 ⟨_,rfl,bQ _⟩ (d9 ⟨words_size _,words_one _⟩ ⟨fun vals H'=>vals=[.bool true]/\H'=H2,d9 ⟨_,rfl⟩ (t6 rfl (d9 ⟨_,rfl⟩ ⟨rfl,rfl⟩)),?_⟩))⟩;rintro vals H3-⟨rfl,rfl⟩;exact d9 ⟨_,rfl⟩ (Gn rfl (g8 (congrArg (fun z=>Value.tuple #[z,.int .i64 6]) gh) ⟨l1.trans l2,rfl⟩))
 ·rw[uh f1,if_neg (fun h=>f1 h.1)];simp only[cA,nA];refine⟨fun h=>(nomatch h),d9 ⟨_,rfl,bU _⟩ (d9 ⟨_,rfl,bQ _⟩ (d9 ⟨words_size _,words_one _⟩ (i6 (gf tK) rfl ?_)))⟩;rintro u2 H2 ⟨l2,rfl⟩;obtain⟨m,e,ht⟩:=GP (r.den:Int);rw[ht];simp only[cA,nA];refine⟨fun h=>(nomatch h),d9 ⟨_,rfl,bU _⟩ (d9 ⟨_,rfl,bQ _⟩ (d9 ⟨words_size _,words_one _⟩ ⟨fun vals H'=>vals=[.bool true]/\H'=H2,d9 ⟨_,rfl⟩ (Gn rfl ⟨rfl,rfl⟩),?_⟩))⟩;rintro vals H3-⟨rfl,rfl⟩;exact d9 ⟨_,rfl⟩ (Gn rfl (g8 (congrArg (fun z=>Value.tuple #[z,.int .i64 6]) gh) ⟨l1.trans l2,rfl⟩))
theorem Rp.out {v:Value} (h:Rp H v r):∃w1 w2,v= .agg #[.bool (decide (r.num<0)),w1,.bool false,w2]/\Lw H (.agg #[.bool (decide (r.num<0)),w1]) r.num/\Lw H (.agg #[.bool false,w2]) (r.den:Int):=by
 obtain⟨w1,w2,rfl,n1,n2⟩:=h;exact⟨w1,w2,rfl,⟨w1,rfl,n1⟩,Lw.den n2⟩
theorem IW (r s:Rat):(r.den:Int)*s.den≠0:=kM (by have:=r.den_nz;omega) (by have:=s.den_nz;omega)
theorem Ge {k:Nat} (h:r.den<2^k):((r.den:Nat):Int).natAbs<2^k:=by rw[vd];exact h
theorem O7 (hx:Rp H x r) (hy:Rp H y s) (hr:Rb j r) (hs:Rb k s) (hjk:j+k+1<=320000):Con prog 77 [x,y] H fun u H'=>PH.le H H'/\Rp H' u (r+s):=by
 have r1:=hx.rq;have r2:=hy.rq;obtain⟨w1,w2,rfl,a1,a2⟩:=hx.out;obtain⟨w3,w4,rfl,b1,b2⟩:=hy.out;have m1:=Rh hr.1 (Ge hs.2);have m2:=Rh hs.1 (Ge hr.2);have m3:=Rh (Ge hr.2) (Ge hs.2);rw[Nat.add_comm k j]at m2;have m4:=Lm.add2 m1 m2 (m:=j+k+1) (aN _) (aN _);refine Aa mixed M7 (by kernel_rfl) rfl (d9 r1 (d9 r2 (i6 (Ls a1 b2 (Lm.two hr.1 (by omega)) (Lm.two (Ge hs.2) (by omega))) rfl ?_)));rintro u1 H1 ⟨l1,rN⟩;simp only[cA,nA];refine⟨fun _=>l1,i6 (Ls (b1.mono l1) (a2.mono l1) (Lm.two hs.1 (by omega)) (Lm.two (Ge hr.2) (by omega))) rfl ?_⟩;rintro u2 H2 ⟨l2,rK⟩;simp only[cA,nA];refine⟨fun _=>l2,i6 (Yo (rN.mono l2) rK (Lm.two m1 (by omega)) (Lm.two m2 (by omega))) rfl ?_⟩;rintro u3 H3 ⟨l3,hu3⟩;simp only[cA,nA];refine⟨fun _=>l3,i6 (Ls (a2.mono (l1.trans (l2.trans l3))) (b2.mono (l1.trans (l2.trans l3))) (Lm.two (Ge hr.2) (by omega)) (Lm.two (Ge hs.2) (by omega))) rfl ?_⟩;rintro u4 H4 ⟨l4,xT⟩;simp only[cA,nA];refine⟨fun _=>l4,i6 (gg (hu3.mono l4) xT (Lm.two m4 hjk) (Lm.two m3 (by omega)) (IW r s)) rfl ?_⟩;rintro u5 H5 ⟨l5,tJ⟩;rw[O2]at tJ;have r5:=tJ.rq;obtain⟨w5,w6,rfl,n5⟩:=tJ;exact⟨fun _=>l5,d9 r5 (g8 rfl ⟨l1.trans (l2.trans (l3.trans (l4.trans l5))),w5,w6,rfl,n5⟩)⟩
theorem IX (hx:Rp H x r) (hy:Rp H y s) (hr:Rb j r) (hs:Rb k s) (hjk:j+k<=320000):Con prog 82 [x,y] H fun u H'=>PH.le H H'/\Rp H' u (r*s):=by
 have r1:=hx.rq;have r2:=hy.rq;obtain⟨w1,w2,rfl,a1,a2⟩:=hx.out;obtain⟨w3,w4,rfl,b1,b2⟩:=hy.out;have m1:=Rh hr.1 hs.1;have m3:=Rh (Ge hr.2) (Ge hs.2);refine Aa mixed N0 (by kernel_rfl) rfl (d9 r1 (d9 r2 (i6 (Ls a1 b1 (Lm.two hr.1 (by omega)) (Lm.two hs.1 (by omega))) rfl ?_)));rintro u1 H1 ⟨l1,rN⟩;simp only[cA,nA];refine⟨fun _=>l1,i6 (Ls (a2.mono l1) (b2.mono l1) (Lm.two (Ge hr.2) (by omega)) (Lm.two (Ge hs.2) (by omega))) rfl ?_⟩;rintro u2 H2 ⟨l2,rK⟩;simp only[cA,nA];refine⟨fun _=>l2,i6 (gg (rN.mono l2) rK (Lm.two m1 hjk) (Lm.two m3 (by omega)) (IW r s)) rfl ?_⟩;rintro u5 H5 ⟨l5,tJ⟩;rw[IP]at tJ;have r5:=tJ.rq;obtain⟨w5,w6,rfl,n5⟩:=tJ;exact⟨fun _=>l5,d9 r5 (g8 rfl ⟨l1.trans (l2.trans l5),w5,w6,rfl,n5⟩)⟩
theorem O8 (hx:Rp H x r) (hy:Rp H y s) (hr:Rb j r) (hs:Rb k s) (hjk:j+k<=320000) (h0:s≠0):Con prog 147 [x,y] H fun u H'=>PH.le H H'/\Rp H' u (r/s):=by
 have r1:=hx.rq;have r2:=hy.rq;obtain⟨w1,w2,rfl,a1,a2⟩:=hx.out;obtain⟨w3,w4,rfl,b1,b2⟩:=hy.out;have m1:=Rh hr.1 (Ge hs.2);have m3:=Rh (Ge hr.2) hs.1;refine Aa mixed N1 (by kernel_rfl) rfl (d9 r1 (d9 r2 (i6 (Ls a1 b2 (Lm.two hr.1 (by omega)) (Lm.two (Ge hs.2) (by omega))) rfl ?_)));rintro u1 H1 ⟨l1,rN⟩;simp only[cA,nA];refine⟨fun _=>l1,i6 (Ls (a2.mono l1) (b1.mono l1) (Lm.two (Ge hr.2) (by omega)) (Lm.two hs.1 (by omega))) rfl ?_⟩;rintro u2 H2 ⟨l2,rK⟩;simp only[cA,nA];refine⟨fun _=>l2,i6 (gg (rN.mono l2) rK (Lm.two m1 hjk) (Lm.two m3 (by omega)) (kM (by have:=r.den_nz;omega) (fun e=>h0 (Rat.num_eq_zero.1 e)))) rfl ?_⟩;rintro u5 H5 ⟨l5,tJ⟩;rw[O3]at tJ;have r5:=tJ.rq;obtain⟨w5,w6,rfl,n5⟩:=tJ;exact⟨fun _=>l5,d9 r5 (g8 rfl ⟨l1.trans (l2.trans l5),w5,w6,rfl,n5⟩)⟩
theorem O9 (hx:Rp H x r):Con prog 148 [x] H fun u H'=>PH.le H H'/\Rp H' u (-r):=by
 have r1:=hx.rq;obtain⟨w1,w2,rfl,a1,a2⟩:=hx.out;refine Aa mixed M8 (by kernel_rfl) rfl (d9 r1 (i6 (gb a1) rfl ?_));rintro u1 H1 ⟨rfl,rN⟩;have r5:=rN.rq;obtain⟨w5,rfl,n5⟩:=rN;obtain⟨w6,e6,n6⟩:=a2;refine⟨fun _=>PH.le.refl _,d9 r5 (g8 rfl ⟨PH.le.refl _,w5,w2,?_,?_,?_⟩)⟩
 ·show Value.agg (spl ((#[Value.bool (decide (-r.num<0)),w5]:Array Value)++(s7 prog 116).cells) 2 [.bool false,w2])=_;rw[IR];rfl
 ·rw[Rat.neg_num];exact n5
 ·rw[Rat.neg_den];simp only[Value.agg.injEq,Array.mk.injEq,List.cons.injEq,and_true]at e6;rw[e6.2];exact n6
theorem P0 (hx:Rp H x r) (hy:Rp H y s) (hr:Rb j r) (hs:Rb k s) (hjk:j+k+1<=320000):Con prog 90 [x,y] H fun u H'=>PH.le H H'/\Rp H' u (r-s):=by
 have r1:=hx.rq;have r2:=hy.rq;have rZ:=hx;have sL:=hy;obtain⟨w1,w2,rfl,_⟩:=hx;obtain⟨w3,w4,rfl,_⟩:=hy;refine Aa mixed M9 (by kernel_rfl) rfl (d9 r1 (d9 r2 (i6 (O9 sL) rfl ?_)));rintro u1 H1 ⟨l1,rN⟩;simp only[cA,nA];refine⟨fun _=>l1,i6 (O7 (rZ.mono l1) rN hr hs.neg hjk) rfl ?_⟩;rintro u5 H5 ⟨l5,tJ⟩;rw[<-Rat.sub_eq_add_neg]at tJ;have r5:=tJ.rq;obtain⟨w5,w6,rfl,n5⟩:=tJ;exact⟨fun _=>l5,d9 r5 (g8 rfl ⟨l1.trans l5,w5,w6,rfl,n5⟩)⟩
end
end Go.Proofs.Z
/- Arguments of the laws as values. -/
namespace Go.Proofs.Z
open Go.Proofs.Tryz
open Go.ChangeShapes Go.WideShapes Go.ChangeAt Go.RowKit Go.RX Go.WD
open Go.ChangeMaps (open_string shut_string)
theorem P1 {P:Program} {f:FuncId} {args:List Value} {H:PH} {W:World} (h:Con P f args H fun v H'=>v= .bool true/\PH.le H H') (hW:H.In W):Calls P f args.toArray W fun e W'=>e= .returned (.bool true)/\Below W.heap.size W W':=
 (h W hW).mono fun _ _ ⟨_,_,he,hs,hv,hl⟩=>⟨by rw[he,hv],(hs.toExt hW hl).os,(hs.toExt hW hl).tape,(hs.toExt hW hl).output,(hs.toExt hW hl).size,(hs.toExt hW hl).blk⟩
theorem own:ownKnob prog.godebug=none:=by kernel_rfl
open Go.ChangeShapes Go.WideShapes Go.ChangeAt Go.RowKit Go.RX Go.WD
theorem P2 {w:World} {a:Addr} {v:Value} (h:w.cell? a=some v):∃b q cs T fz,a=⟨b,q,none⟩/\w.heap[b]? =some (.cells cs T fz)/\cs[q]? =some v:=by
 obtain⟨b,q,sp⟩:=a;unfold World.cell? at h;split at h
 ·rename_i c T fz hh;cases sp with
  |some s=>simp at h
  |none=>exact⟨b,q,c,T,fz,rfl,hh,by simpa using h⟩
 ·cases h
theorem P3 {a:Addr} {b q:Nat} (h:a.add 0=⟨b,q,none⟩):a=⟨b,q,none⟩:=by
 obtain⟨b',q',sp⟩:=a;cases sp with
 |none=>rw[Kx]at h;simpa using h
 |some s=>unfold Addr.add at h;split at h<;>simp_all
section
variable {H:Type} {enc:TypeId×Value->H} {W:World} {base:Nat} {spare:Nat->Bool} {sF:Bool} {fuel:Nat}
theorem Iy {t:TypeId} {cs:List Value} {x:DataW H×List MemPlace} {k T o c:Nat} (i:Nat) (ht:prog.underlying t=some (.struct (fieldsOf prog t))) (hk:(fieldsOf prog t).size=k) (hi:i<k) (hT:(fieldAt prog t i).type=T) (ho:(fieldAt prog t i).offset=o) (hc:prog.cellsOf T=c) (h:DataW.trod enc prog W base spare sF fuel t cs=some x):
  ∃y n,DataW.trod enc prog W base spare sF n T ((cs.drop o).take c)=some y:=by
 obtain⟨xs,n,_,rfl,hl,pR,hf⟩:=DataW.trod_struct ht h;have hfi:(fieldsOf prog t)[i]? =some (fieldAt prog t i):=by
  unfold fieldAt;rw[Array.getElem?_eq_getElem (by omega)];rfl
 have:=hf i _ hfi;rw[hT,ho,hc]at this;rw[List.getElem?_eq_getElem (by omega)]at this;exact⟨_,n,this⟩
end
theorem IY {n:Int} (h:(Lit.int .u8 n).wf=true):∃m:Nat,n=(m:Int)/\m<256:=by
 have:=bounds_u8 h;exact⟨n.toNat,by omega,by omega⟩
theorem P4 {n:Int} (h:(Lit.int .u16 n).wf=true):∃m:Nat,n=(m:Int)/\m<65536:=by
 have:=bounds_u16 h;exact⟨n.toNat,by omega,by omega⟩
end Go.Proofs.Z

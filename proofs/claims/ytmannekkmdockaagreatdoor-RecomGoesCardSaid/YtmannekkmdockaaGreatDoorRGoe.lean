/- Chapter 32: the law RecomGoes returns true. -/
import Derived.Test.YtmannekkmdockaaGreatDoorGyM
import Derived.MakeChecks
import Derived.Test.YtmannekkmdockaaGreatDoorCards
import Derived.Test.YtmannekkmdockaaGreatDoorTie
import Derived.Lay
import Derived.LaidOnce
import Derived.SevenTiedAt
import Derived.HandedShaped
open Classical renaming not_not->jB
open Int renaming emod_eq_of_lt->fR,emod_lt_of_pos->nB,emod_nonneg->oD,toNat_natCast->bB
open List renaming cons->lS,drop_succ_cons->jP,drop_zero->dH,getElem?_eq_getElem->aA,getElem?_eq_none->aW,getElem?_map->aO,getElem_mem->eH,length_drop->cX,length_map->aR,mem_cons->aL,mem_map->aH,take_succ_cons->jM,take_zero->kR
open Nat renaming succ_mul->mQ,zero_le->bI,zero_mul->dV
open Option renaming map_some->dK,some->bZ
open Option.some renaming injEq->aD
set_option maxRecDepth 100000
namespace Go.GS
open Go.RX
def Ig (p:List Int) (s k:Nat):List Int:=p.map fun x=>(x+(s:Int))%(k:Int)
theorem Tt (p:List Int) (s k:Nat):(Ig p s k).length=p.length:=aR _
theorem d5K {x y:Int} {s k:Nat} (hx:0<=x/\x<(k:Int)) (hy:0<=y/\y<(k:Int)) (h:(x+(s:Int))%(k:Int)=(y+(s:Int))%(k:Int)):x=y:=by
 have e:((x+s)-(y+s))%(k:Int)=0:=Int.emod_eq_emod_iff_emod_sub_eq_zero.1 h;have e:(x-y)%(k:Int)=0:=by rw[show x-y=(x+s)-(y+s) by omega];exact e
 rcases Int.le_total y x with pP|pP
 ·rw[fR (by omega) (by omega)]at e;omega
 ·have e2:(y-x)%(k:Int)=0:=by
   have:=Int.dvd_of_emod_eq_zero e;exact Int.emod_eq_zero_of_dvd (by rw[show y-x= -(x-y) by omega];exact Int.dvd_neg.2 this)
  rw[fR (by omega) (by omega)]at e2;omega
theorem UX {p:List Int} {s k:Nat} (hL:LabOk p (k:Nat)):SamD p (Ig p s k):=fun i j hi hj=>by
 unfold Ig;rw[aO,aO,aA hi,aA hj];simp only[dK,aD];exact⟨fun h=>by rw[h],fun h=>d5K (hL.1 _ (eH hi)) (hL.1 _ (eH hj)) h⟩
theorem UY {p:List Int} {s k:Nat} (hk:1<=k) (hL:LabOk p (k:Nat)):LabOk (Ig p s k) (k:Nat):=by
 refine⟨fun x hx=> ?_,by rw[Tt];exact hL.2.1,by rw[Tt];exact hL.2.2⟩;obtain⟨y,_,rfl⟩:=aH.1 hx;exact⟨oD _ (by omega),nB _ (by omega)⟩
theorem UZ {p:List Int} {s k:Nat} (hk:1<=k) (hU:Ak p k):Ak (Ig p s k) k:=fun d hd=>by
 rw[mask_mem2];have h0:((k:Nat):Int)≠0:=by omega
 have h1:0<=((d:Int)-s)%(k:Int):=oD _ h0;have h2:((d:Int)-s)%(k:Int)<k:=nB _ (by omega);have hm:=mask_mem2.1 (hU (((d:Int)-s)%(k:Int)).toNat (by omega));refine aH.2 ⟨_,hm,?_⟩;rw[Int.toNat_of_nonneg h1,Int.emod_add_emod,show(d:Int)-s+s=d by omega,fR (by omega) (by omega)]
theorem CU {p:List Int} {k:Nat} (h:LabOk p (k:Nat)) (hk:k<=8):LabOk p 8:=⟨fun x hx=>by have:=h.1 x hx;omega,h.2⟩
end Go.GS
namespace Go.Proofs.YtmannekkmdockaaGreatDoor
open Go.Proofs.Z
open Go.Proofs.Tryz
open Go.RowKit Go.RX Go.GS Go.RZ
open Go.WD (BP Bf wd iw rs toI HM sgI Rb Gy)
section
variable {H:PH} {u v w wts:Value} {p q wl:List Int} {n k:Nat} {es:List (Nat×Nat)} {lo hi:Int}
theorem d5L {s:Nat} (h1:1<=k) (h8:k<=8) (hL:LabOk p (k:Nat)) (hU:Ak p k) (hl:p.length=n) (hf:y8 n es wl lo hi (k:Nat) p=true):y8 n es wl lo hi (k:Nat) (Ig p s k)=true:=by
 refine UW (UY h1 hL) (UZ h1 hU) (by rw[Tt];exact hl) h1 h8 fun m hm=>CQ hf m ?_;exact BI (UY h1 hL) (UZ h1 hU) hL (Tt p s k).symm ((UX hL).symm (Tt p s k)) m hm
theorem VA {c:Nat} (hb:bdE n wl lo hi (k:Nat)=0) (hf:y8 n es wl lo hi (k:Nat) p=true):Xd n es wl lo hi (k:Nat) p c=stI (stP n es wl lo hi k (n8 p) c):=by
 unfold Xd;rw[if_neg (by rw[hb];simp),if_pos hf,bB]
theorem e0t {ρ:List Value} {a b c:SV} {x:Int} {s k:Nat} (ha:D prog ρ a=ii x) (hb:D prog ρ b= .int .u8 (s:Nat)) (hc:D prog ρ c=ii (k:Nat)) (hx:0<=x/\x<8) (hs:s<256):D prog ρ (.op2 .rem .i64 (.op2 .add .i64 a (.cv .i64 b)) c)=ii ((x+(s:Int))%(k:Int)):=by
 show Value.int .i64 ((IntKind.i64.wrap (intOf (D prog ρ a)+IntKind.i64.wrap (intOf (D prog ρ b)))).tmod (intOf (D prog ρ c)))=_;rw[ha,hb,hc];show Value.int .i64 ((IntKind.i64.wrap (x+IntKind.i64.wrap ((s:Nat):Int))).tmod ((k:Nat):Int))=_;have w1:IntKind.i64.wrap ((s:Nat):Int)=((s:Nat):Int):=JO (by omega) (by omega);have w2:IntKind.i64.wrap (x+((s:Nat):Int))=x+((s:Nat):Int):=JO (by omega) (by omega);rw[w1,w2,Int.tmod_eq_emod_of_nonneg (by omega)];rfl
end
theorem d5M {H:PH} {s wv cu:Value} {more:List (Nat×Nat)} {wl0 cuts:List Nat} {da db dc dk s0 s1 tr c sh:Nat} (hT:Tb H) (a4b:Ao prog 7 [] H (.bool true)) (hs:SE H 2 bc s more) (hwv:SE H 1 c8 wv wl0) (hcu:SE H 1 c8 cu cuts) (vI:∀c∈cuts,c<256) (wJ:tr<256) (hc:c<M64) (yB:sh<256):
  Con prog 4 [cv da db dc s wv cu dk s0 s1 tr,chV c,.int .u8 (sh:Nat)] H fun r H'=>PH.le H H'/\r= .bool true:=by
 refine j3 mixed d8O ?_;refine d9 (PR (Af hs) (Af hwv) (Af hcu) _ _ _ _ _ _ _) ?_;refine d9 (Hf c) ?_;refine x9 (a4b) rfl fun H1 l1=> ?_;refine d4 ?_;refine t6 rfl ?_;refine i6 (b5Z (hs.mono l1) (hwv.mono l1) (hcu.mono l1) vI wJ) rfl ?_;rintro v4 H2 ⟨l2,n,w,es,wts,wl,lo,hi,k,u,p,rfl,hw,hg,hn9,hC,qV,tH,xF,hu,uZ,hft⟩;refine nmI ?_;have tW:=hg.n1;have hT2:=hT.mono (l1.trans l2);obtain⟨_,hL,hU,qN⟩:=UH hg hn9 tH xF hft;refine i8 (i8 (i8 ?_));refine d9 (Ap hw) ?_;refine d9 (Gs (Af qV) _ _ _) ?_;refine i6 (PV hu (by omega)) rfl ?_;rintro v5 H3 ⟨l3,o3⟩;refine nmI ?_;refine Om el_plan rfl rfl o3.se rfl ?_;refine s9 (α:=Nat) (fun i=>[ii (i:Nat)]) (fun i=>fun H'=>i<=p.length/\PH.le H2 H'/\OI H2 H' v5 (Ig (p.take i) sh k++p.drop i)) (fun i=>p.length-i) (0) rfl (⟨bI _,l3,o3⟩) fun i H4 ⟨hip,l4,o4⟩=> ?_;refine d4 (d4 ?_);refine i0 (b:=decide (((i:Nat):Int)<(p.length:Nat))) rfl (fun h=> ?_) (fun h=> ?_)
 ·replace h:=oDt h;have pW:i<p.length:=by omega
  obtain⟨x,hx,tB⟩:=t7 pW;have hdl:(Ig (p.take i) sh k).length=i:=by rw[Tt,List.length_take];omega
  have hx4:(Ig (p.take i) sh k++p.drop i)[i]? =some x:=by
   rw[List.getElem?_append_right (by omega),hdl,Nat.sub_self,tB];rfl
  refine Do el_plan rfl rfl rfl rfl (fun _=>rfl) o4.se hx4 rfl (fun _=>rfl) fun _=> ?_;have tV:=hL.at hx;refine d4 (d4 (d4 ?_));refine d9 (by show((k:Nat):Int)≠0;omega) ?_;refine Dp el_plan (a:=((x+(sh:Int))%(k:Int))) rfl rfl rfl rfl (fun _=>rfl) (fun _=>rfl) l4 o4 (by rw[List.length_append,hdl,cX];omega) rfl (fun _=>j4 rfl (e0t (k:=k) rfl rfl rfl (by omega) yB)) rfl fun q u' H5 l5 o5 _=> ?_;rw[tB,AA hdl]at o5;refine⟨i+1,by omega,(z8 (i9 rfl (by omega))),⟨pW,l5,?_⟩⟩;have e:Ig (p.take i) sh k++[(x+(sh:Int))%(k:Int)]=Ig (p.take (i+1)) sh k:=by
   rw[take_snoc hx];unfold Ig;rw[List.map_append];rfl
  rw[<-e];exact o5
 ·replace h:=oDf h;rw[List.take_of_length_le (show p.length<=i by omega),List.drop_eq_nil_of_le (show p.length<=i by omega),List.append_nil]at o4;have hq0:=o4.se;refine s9 (α:=Nat×List Int×List Int×Nat×Value×Value) (fun⟨i,p2,q2,c2,u2,v2⟩=>[.bool false,u2,v2,ii (i:Nat),chV c2]) (fun⟨i,p2,q2,c2,u2,v2⟩=>fun H'=>i<=5/\c2<M64/\PH.le H2 H'/\SI H' u2 p2/\SI H' v2 q2/\y8 n es wl lo hi (k:Nat) p2=true/\y8 n es wl lo hi (k:Nat) q2=true/\n8 q2=n8 p2) (fun⟨i,p2,q2,c2,u2,v2⟩=>5-i) ((0,p,Ig p sh k,c,u,v5)) rfl (⟨bI _,hc,l4,hu.mono l4,hq0,hft,d5L tH (by omega) hL hU qN hft,nk (Tt _ _ _) (UX hL)⟩) fun⟨i,p2,q2,c2,u2,v2⟩ H5 hQ=> ?_;obtain⟨hi5,rD,l5,rK,hv2,hf2,hg2,xN⟩:=hQ;have hT5:=hT2.mono l5;have hw5:=hw.mono l5;have a0i:=qV.mono l5;refine d4 ?_;refine i0 (b:=decide (((i:Nat):Int)<5)) rfl (fun h6i=> ?_) (fun h6i=> ?_)
  ·replace h6i:=oDt h6i;have hR1:=VA (c:=c2) uZ hf2;have hR2:=VA (c:=c2) uZ hg2;rw[xN]at hR2;obtain⟨S,hS⟩:∃S,stP n es wl lo hi k (n8 p2) c2=S:=⟨_,rfl⟩;rw[hS]at hR1 hR2;obtain⟨a0j,tK,hU2,a3e⟩:=UH hg hn9 tH xF hf2;have hmp:∀m∈masks (n8 p2) k,alB es wl lo hi m=true:=fun m hm=>CQ hf2 m ((SB tK hU2 m).1 hm);have hfc:=a0j.fit hmp;refine i6 (UI hT5 hw5 hg a0i rK hn9 rD) rfl ?_;rintro v13 H6 ⟨l6,hS1⟩;refine nmI ?_;rw[hR1]at hS1;obtain⟨a13,rfl,h13,a2c⟩:=SteV.view hS1;refine i8 (i8 (i8 (i8 ?_)));refine d9 (Hf _) ?_;refine i6 (UI (hT5.mono l6) (hw5.mono l6) hg (a0i.mono l6) (hv2.mono l6) hn9 rD) rfl ?_;rintro v14 H7 ⟨l7,hS2⟩;refine nmI ?_;rw[hR2]at hS2;obtain⟨a14,rfl,h14,_⟩:=SteV.view hS2;refine i8 (i8 (i8 (i8 ?_)));refine d9 (Hf _) ?_;refine d4 (d4 ?_);refine t6 (d8a rfl rfl) ?_;refine Aq (AD (h13.mono l7) h14) rfl ?_;simp only[cA,nA];refine d4 ?_;refine t6 (by show Value.bool (!decide True)=_;rfl) ?_;refine d4 (d4 ?_);refine t6 (e0g rfl rfl) ?_;refine r7 (d7j rfl rfl rfl a2c a2c) rfl ?_;simp only[cA,nA];refine d4 ?_;refine t6 (by show Value.bool (!decide True)=_;rfl) ?_;have l57:=l6.trans l7;refine i0 (b:=decide (eOf (stI S)≠0)) (bN _ _) (fun h9=> ?_) (fun h9=> ?_)
   ·replace h9:=oDt h9;refine g8 rfl ⟨l1.trans (l2.trans (l5.trans l57)),?_⟩;have qA:=a0j.stP (wl:=wl) (lo:=lo) (hi:=hi) c2;rw[hS]at qA;cases S with
    |inl e=>
     have e9:e=9:=qA;subst e9;rfl
    |inr x=>exact absurd rfl h9
   ·replace h9:=jB.1 (oDf h9);have qA:=a0j.stP (wl:=wl) (lo:=lo) (hi:=hi) c2;rw[hS]at qA;cases S with
    |inl e=>
     have e9:e=9:=qA;subst e9;cases h9
    |inr x=>
     obtain⟨q,mv,c3⟩:=x;have sU:=a0j.step hfc hS;change SI H6 a13 q at h13;have hq:=h13.mono l7;refine i6 (Wi hq (CU sU.sit.lab (by omega))) rfl ?_;rintro _ H8 ⟨l8,z,rfl,oz⟩;refine nmI ?_;refine i8 (i8 ?_);have hlq:p2.length=q.length:=by rw[a3e,sU.sit.len]
     refine i6 (c9m (hq.mono l8) (rK.mono (l57.trans l8)) (CU sU.sit.lab (by omega)) (CU tK (by omega)) hlq) rfl ?_;rintro _ H9 ⟨l9,b,rfl,hb⟩;refine nmI ?_;refine i8 (i8 ?_);have l59:=l57.trans (l8.trans l9);refine i6 (BN (lo:=lo) (hi:=hi) (ds:=(k:Nat)) (hT5.mono l59) (hw5.mono l59) hg (a0i.mono l59) (rK.mono l59) (hq.mono (l8.trans l9))) rfl ?_;rintro _ H10 ⟨l10,hgv⟩;refine nmI ?_;have hRg:Rg (vO (Ba es wl lo hi n k (n8 p2)) (m7 q)):=⟨256,by decide,sU.rb⟩;have hgo:goR n es wl lo hi (k:Nat) p2 q= .tuple #[shR (vO (Ba es wl lo hi n k (n8 p2)) (m7 q)),ii 0]:=by
      unfold goR
      rw[if_neg (by rw[od uZ (by omega) [p2,q] (fun z hz=>by
       simp only[aL,List.not_mem_nil,or_false]at hz;rcases hz with rfl|rfl
       ·exact hf2
       ·exact sU.fit)];simp),bB]
      unfold goQ;rw[sU.sit.can];exact gn hRg
     rw[hgo]at hgv;subst hgv;refine i8 (i8 ?_);refine d9 (Dz _ _) ?_;refine i6 (T2 hRg) rfl ?_;rintro _ H11 ⟨l11,rfl⟩;refine nmI ?_;refine i8 (i8 (d4 ?_));refine t6 rfl ?_;refine d4 ?_;refine t6 rfl ?_;refine d4 ?_;refine t6 rfl ?_;refine d4 ?_;refine t6 rfl ?_;have l7b:=l8.trans (l9.trans (l10.trans l11));have l5b:=l57.trans l7b;have oz':=oz.se.mono (l9.trans (l10.trans l11));rw[sU.sit.can]at oz';refine Aq (AD oz' (hq.mono l7b)) rfl ?_;simp only[cA,nA];refine d4 ?_;refine t6 (by show Value.bool (!decide True)=_;rfl) ?_;refine d4 ?_;have hbm:(b==mv)=false:=by
      have e:b=decide (q=n8 p2):=by
       rw[Bool.eq_iff_iff,hb,oDi];constructor
       ·intro h;rw[<-sU.sit.can];exact(nk hlq h).symm
       ·intro h;exact b2r hlq (by rw[sU.sit.can,h])
      rw[e,sU.mv];cases decide (q=n8 p2)<;>rfl
     refine t6 (by show Value.bool (false !=(b==mv))=_;rw[hbm];rfl) ?_;have hsg:sgI (vO (Ba es wl lo hi n k (n8 p2)) (m7 q)).num 0=1:=by
      have:=numpos.2 sU.pos;unfold sgI;rw[if_neg (by omega),if_neg (by omega)]
     rw[hsg];refine d4 ?_;refine t6 rfl ?_;refine x9 (UK (lo:=lo) (hi:=hi) (ds:=(k:Nat)) (hT5.mono l5b) (hw5.mono l5b) hg (a0i.mono l5b) (hq.mono l7b) uZ) rfl fun H12 l12=> ?_;rw[sU.fit];refine d4 ?_;refine t6 rfl ?_;have hqe:=hq.mono (l7b.trans l12);exact⟨(i+1,q,q,c3,a13,a13),by show 5-(i+1)<5-i;omega,(ly rfl rfl rfl (i9 rfl (by omega)) rfl),⟨by show i+1<=5;omega,a2c,l5.trans (l5b.trans l12),hqe,hqe,sU.fit,sU.fit,rfl⟩⟩
  ·exact g8 rfl ⟨l1.trans (l2.trans l5),rfl⟩
end Go.Proofs.YtmannekkmdockaaGreatDoor
/- Arguments of laws as values: slices of numbers, and of pairs; a table that is laid. -/
namespace Go.OP
open Go.ChangeShapes Go.WideShapes Go.ChangeAt Go.RowKit Go.RX
theorem d5N {n:Int} (h:(Lit.int .u64 n).wf=true):∃m:Nat,n=(m:Int)/\m<18446744073709551616:=by
 have:=bounds_u64 h;exact⟨n.toNat,by omega,by omega⟩
theorem okWide_struct {P:Program} {w:World} {r:Reach} {base:Nat} {t:TypeId} {fs:Array Field} {v:Value} (ht:P.underlying t=some (.struct fs)) (h:Value.okWide P w r base t v):∃cs,v= .agg cs:=by
 simp only[Value.okWide,ht]at h;obtain⟨cs,h1,_⟩:=h;exact⟨cs,h1⟩
section
variable {Hh:Type} {enc:TypeId×Value->Hh} {W:World} {base:Nat} {spare:Nat->Bool} {sF:Bool} {fuel:Nat} {P:Program}
theorem VB {α:Type} {H:PH} {sz:Nat} {ce:α->List Value} {p:α->Prop} {w:Value}:∀{n:Nat} {xs:List Value},Sl H sz w n xs->(∀i,i<n->∃a,(xs.drop (i*sz)).take sz=ce a/\p a)->∃l:List α,SE H sz ce w l/\∀a∈l,p a:=by
 intro n xs h hc;have key:∀(n:Nat) (xs:List Value),xs.length=n*sz->(∀i,i<n->∃a,(xs.drop (i*sz)).take sz=ce a/\p a)->∃l:List α,l.length=n/\xs=l.flatMap ce/\∀a∈l,p a:=by
  intro n;induction n with
  |zero=>intro xs hl _;exact⟨[],rfl,List.eq_nil_of_length_eq_zero (by simpa using hl),fun a ha=>by cases ha⟩
  |succ n ih=>
   intro xs hl hc;rw[mQ]at hl;obtain⟨a,h1,h2⟩:=hc 0 (by omega);rw[dV,dH]at h1;obtain⟨l,l1,l2,l3⟩:=ih (xs.drop sz) (by rw[cX];omega) fun i hi=>by
    obtain⟨b,g1,g2⟩:=hc (i+1) (by omega);exact⟨b,by rw[List.drop_drop,<-g1];congr 2;rw[mQ];omega,g2⟩
   exact⟨a::l,by simp[l1],by rw[List.flatMap_cons,<-l2,<-h1,List.take_append_drop],fun b hb=>by
    rcases aL.1 hb with rfl|hb
    ·exact h2
    ·exact l3 b hb⟩
 obtain⟨l,l1,l2,l3⟩:=key n xs h.1 hc;subst l1;subst l2;exact⟨l,h,l3⟩
end
open Go.ChangeShapes Go.WideShapes Go.ChangeAt Go.RowKit Go.RX
theorem b4r {H:Type} {enc:TypeId×Value->H} {P:Program} {W:World} {base:Nat} {sp:Nat->Bool} {sF:Bool} {fuel n:Nat} {t e:TypeId} {k:IntKind} {cs:List Value} {vals:List Int} {q:List MemPlace}
  (hu:P.underlying t=some (.array n e)) (he:P.underlying e=some (.int k)) (hc:P.cellsOf e=1) (hct:P.cellsOf t=n) (h:DataW.trod enc P W base sp sF fuel t cs=some (.agg (vals.map fun n=> .lit (.int k n)),q)):cs=vals.map fun n=> .int k n:=by
 obtain⟨xs,m,_,hx,hl,tV,hi⟩:=DataW.trod_array hu h;rw[hct]at hl;rw[hc]at hi;have hx:=congrArg Prod.fst hx;simp only[DataW.agg.injEq]at hx;have hvl:vals.length=n:=by have:=congrArg List.length hx;simp only[aR]at this;omega
 apply List.ext_getElem?;intro i;by_cases h1:i<n
 ·have h2:=hi i h1;rw[Nat.mul_one]at h2;have hxi:i<xs.length:=by omega
  rw[aA hxi]at h2;obtain⟨z,h3,h4,_⟩:=DataW.trod_int he h2;have h5:=congrArg (fun l:List Value=>l[0]?) h3;simp only[List.getElem?_take,List.getElem?_drop,Nat.add_zero,List.getElem?_cons_zero]at h5;have h6:=congrArg (fun l:List (DataW H)=>l[i]?) hx;simp only[aO,aA hxi,dK,h4]at h6;have hvi:i<vals.length:=by omega
  rw[aA hvi]at h6;simp only[dK,aD,DataW.lit.injEq,Lit.int.injEq,true_and]at h6;rw[aO,aA hvi,dK,h6];simpa using h5
 ·rw[aW (by omega),aW (by simp;omega)]
end Go.OP
/- The law RecomGoes of chapter 32 returns true for every argument, and leaves them as they were: its tied card. -/
namespace Go.Proofs.YtmannekkmdockaaGreatDoor
open Go.Proofs.Z
open Go.Proofs.Tryz
open Go.ChangeShapes Go.WideShapes Go.ChangeAt Go.RowKit Go.RX Go.GS Go.OP
theorem c5d:ownKnob prog.godebug=none:=by kernel_rfl
theorem CV:laidOutB prog=true:=by kernel_rfl
theorem b9J {W:World} (h:laidMet prog Rows.recomGoesRow.laid W):Tb (fun b=>W.heap[b]?):=by
 obtain⟨ps,⟨g,t,cs,fuel,p,q,hg,ht,tQ,hd,_,_⟩,_⟩:=h;have sN:prog.globalNamed "math/bits.deBruijn64tab" =some 0:=by kernel_rfl
 obtain rfl:=bZ.inj (sN.symm.trans hg);have ht0:(prog.globals[0]?).map (·.type)=some 274:=by kernel_rfl
 obtain rfl:=bZ.inj (ht0.symm.trans ht);have qI:=b4r (k:= .u8) (e:=5) (n:=64) (vals:=tabL.map fun n:Nat=>(n:Int)) (by kernel_rfl) (by kernel_rfl) (by kernel_rfl) (by kernel_rfl) hd;unfold World.var? at tQ;rw[sN]at tQ;simp only[Option.bind_some]at tQ;split at tQ
 ·rename_i c T fz hh;simp only[aD]at tQ;subst tQ;refine⟨T,fz,?_⟩;show W.heap[0]? =_;rw[hh];congr 2;rw[<-Array.toList_inj,qI,List.map_map];rfl
 ·cases tQ
section
variable {H:Type} {enc:TypeId×Value->H} {W:World} {base:Nat} {spare:Nat->Bool} {sF:Bool} {fuel:Nat}
theorem Tu {cs:List Value} {x:DataW H×List MemPlace} (h:DataW.trod enc prog W base spare sF fuel 5 cs=some x):∃c,cs=c8 c/\c<256:=by
 obtain⟨n,e,_,hw⟩:=DataW.trod_int (k:= .u8) (by kernel_rfl) h;obtain⟨m,rfl,hm⟩:=IY hw;exact⟨m,e,hm⟩
theorem VC {cs:List Value} {x:DataW H×List MemPlace} (h:DataW.trod enc prog W base spare sF fuel 27 cs=some x):∃e:Nat×Nat,cs=bc e/\True:=by
 have hu:prog.underlying 27=some (.array 2 5):=by kernel_rfl
 have hc:prog.cellsOf 5=1:=by kernel_rfl
 have rD:prog.cellsOf 27=2:=by kernel_rfl
 obtain⟨xs,m,_,_,hl,hx,hi⟩:=DataW.trod_array hu h;rw[rD]at hl;rw[hc]at hi
 match cs,hl with
 |[c0,c1],_=>
  have h0:=hi 0 (by omega);have h1:=hi 1 (by omega);rw[aA (by omega)]at h0 h1;obtain⟨a,e0,_⟩:=Tu h0;obtain⟨b,e1,_⟩:=Tu h1;simp only[dV,Nat.one_mul,dH,jP,jM,kR,c8,List.singleton_inj]at e0 e1;subst e0;subst e1;exact⟨(a,b),rfl,trivial⟩
theorem VD {cs:List Value} {x:DataW H×List MemPlace} (h:DataW.trod enc prog W base spare sF fuel 26 cs=some x):∃w l,cs=[w]/\SE (fun b=>W.heap[b]?) 1 c8 w l/\∀c∈l,c<256:=by
 obtain⟨w,n,xs,rfl,hs,hd⟩:=JI (e:=5) (sz:=1) (by kernel_rfl) (by kernel_rfl) (by omega) h;obtain⟨l,hl,hp⟩:=VB (ce:=c8) (p:=fun c=>c<256) hs fun i hi=>by
  obtain⟨y,m,hm⟩:=hd i hi;exact Tu hm
 exact⟨w,l,rfl,hl,hp⟩
theorem d5O {cs:List Value} {x:DataW H×List MemPlace} (h:DataW.trod enc prog W base spare sF fuel 23 cs=some x):∃w l,cs=[w]/\SE (fun b=>W.heap[b]?) 2 bc w l:=by
 obtain⟨w,n,xs,rfl,hs,hd⟩:=JI (e:=27) (sz:=2) (by kernel_rfl) (by kernel_rfl) (by omega) h;obtain⟨l,hl,_⟩:=VB (ce:=bc) (p:=fun _=>True) hs fun i hi=>by
  obtain⟨y,m,hm⟩:=hd i hi;exact VC hm
 exact⟨w,l,rfl,hl⟩
theorem c9o {r:Reach} {b0:Nat} {v:Value} {d:DataW H} {p:List MemPlace} (hv:Value.okWide prog W r b0 29 v) (h:DataW.Trod enc prog W base spare sF 29 v d p):
  ∃da db dc dk s0 s1 tr s wv cu more wl0 cuts,v=cv da db dc s wv cu dk s0 s1 tr/\SE (fun b=>W.heap[b]?) 2 bc s more/\SE (fun b=>W.heap[b]?) 1 c8 wv wl0/\SE (fun b=>W.heap[b]?) 1 c8 cu cuts/\(∀c∈cuts,c<256)/\tr<256:=by
 have ht:prog.underlying 29=some (.struct (fieldsOf prog 29)):=by kernel_rfl
 have hg:prog.underlying 25=some (.struct (fieldsOf prog 25)):=by kernel_rfl
 obtain⟨cs,rfl⟩:=OP.okWide_struct (fs:=fieldsOf prog 29) (by kernel_rfl) hv;obtain⟨m,hm⟩:=h;have hl:(Value.agg cs).cells.toList.length=10:=by
  obtain⟨xs,n,_,_,hl,pR,hf⟩:=DataW.trod_struct ht hm;rw[hl];kernel_rfl
 obtain⟨y0,m0,h0⟩:=Iy (k:=6) (T:=25) (o:=0) (c:=4) 0 ht (by kernel_rfl) (by omega) (by kernel_rfl) (by kernel_rfl) (by kernel_rfl) hm;obtain⟨y1,m1,h1⟩:=Iy (k:=6) (T:=26) (o:=4) (c:=1) 1 ht (by kernel_rfl) (by omega) (by kernel_rfl) (by kernel_rfl) (by kernel_rfl) hm;obtain⟨y2,m2,h2⟩:=Iy (k:=6) (T:=26) (o:=5) (c:=1) 2 ht (by kernel_rfl) (by omega) (by kernel_rfl) (by kernel_rfl) (by kernel_rfl) hm;obtain⟨y3,m3,h3⟩:=Iy (k:=6) (T:=5) (o:=6) (c:=1) 3 ht (by kernel_rfl) (by omega) (by kernel_rfl) (by kernel_rfl) (by kernel_rfl) hm;obtain⟨y4,m4,h4⟩:=Iy (k:=6) (T:=27) (o:=7) (c:=2) 4 ht (by kernel_rfl) (by omega) (by kernel_rfl) (by kernel_rfl) (by kernel_rfl) hm;obtain⟨y5,m5,h5⟩:=Iy (k:=6) (T:=5) (o:=9) (c:=1) 5 ht (by kernel_rfl) (by omega) (by kernel_rfl) (by kernel_rfl) (by kernel_rfl) hm;obtain⟨g0,n0,k0⟩:=Iy (k:=4) (T:=5) (o:=0) (c:=1) 0 hg (by kernel_rfl) (by omega) (by kernel_rfl) (by kernel_rfl) (by kernel_rfl) h0;obtain⟨g1,n1,k1⟩:=Iy (k:=4) (T:=5) (o:=1) (c:=1) 1 hg (by kernel_rfl) (by omega) (by kernel_rfl) (by kernel_rfl) (by kernel_rfl) h0;obtain⟨g2,n2,k2⟩:=Iy (k:=4) (T:=22) (o:=2) (c:=1) 2 hg (by kernel_rfl) (by omega) (by kernel_rfl) (by kernel_rfl) (by kernel_rfl) h0;obtain⟨g3,n3,k3⟩:=Iy (k:=4) (T:=23) (o:=3) (c:=1) 3 hg (by kernel_rfl) (by omega) (by kernel_rfl) (by kernel_rfl) (by kernel_rfl) h0;obtain⟨a0,e0,_⟩:=Tu k0;obtain⟨a1,e1,_⟩:=Tu k1;obtain⟨z2,e2,_,w2⟩:=DataW.trod_int (k:= .u16) (by kernel_rfl) k2;obtain⟨a2,rfl,_⟩:=P4 w2;obtain⟨w3,l3,e3,s3⟩:=d5O k3;obtain⟨w4,l4,e4,s4,_⟩:=VD h1;obtain⟨w5,l5,e5,s5,p5⟩:=VD h2;obtain⟨a6,e6,_⟩:=Tu h3;obtain⟨a7,e7,_⟩:=VC h4;obtain⟨a9,e9,q9⟩:=Tu h5;obtain⟨cs⟩:=cs;change cs.length=10 at hl;simp only[Value.cells]at e0 e1 e2 e3 e4 e5 e6 e7 e9
 match cs,hl with
 |[c0,c1,c2,c3,c4,c5,c6,c7,c8',c9],_=>
  simp only[dH,jP,jM,kR,c8,bc,lS.injEq,and_true]at e0 e1 e2 e3 e4 e5 e6 e7 e9;obtain⟨e7,e8⟩:=e7;subst e0 e1 e2 e3 e4 e5 e6 e7 e8 e9;exact⟨a0,a1,a2,a6,a7.1,a7.2,a9,_,_,_,l3,l4,l5,rfl,s3,s4,s5,p5,q9⟩
theorem c9p {r:Reach} {b0:Nat} {v:Value} {d:DataW H} {p:List MemPlace} (hv:Value.okWide prog W r b0 63 v) (h:DataW.Trod enc prog W base spare sF 63 v d p):∃c,v=chV c/\c<M64:=by
 have ht:prog.underlying 63=some (.struct (fieldsOf prog 63)):=by kernel_rfl
 obtain⟨cs,rfl⟩:=OP.okWide_struct (fs:=fieldsOf prog 63) (by kernel_rfl) hv;obtain⟨m,hm⟩:=h;have hl:(Value.agg cs).cells.toList.length=1:=by
  obtain⟨xs,n,_,_,hl,pR,hf⟩:=DataW.trod_struct ht hm;rw[hl];kernel_rfl
 obtain⟨y0,m0,h0⟩:=Iy (k:=1) (T:=54) (o:=0) (c:=1) 0 ht (by kernel_rfl) (by omega) (by kernel_rfl) (by kernel_rfl) (by kernel_rfl) hm;obtain⟨z0,e0,_,w0⟩:=DataW.trod_int (k:= .u64) (by kernel_rfl) h0;obtain⟨a0,rfl,q0⟩:=d5N w0;obtain⟨cs⟩:=cs;change cs.length=1 at hl;simp only[Value.cells]at e0
 match cs,hl with
 |[c0],_=>
  simp only[dH,jM,kR,lS.injEq,and_true]at e0;subst e0;exact⟨a0,rfl,q0⟩
end
theorem a2Q {H:Type} {enc:TypeId×Value->H} {a:Assume} {C:Checked} {os:Os} {f:FuncId} {fn:Func} {s:ChangeSpec} {conds:List PathCond} {apart fresh wZ again:Bool} {X:World->Array Value->Prop}
  (hX:∀(w w':World) (args:Array Value),w.heap=w'.heap->X w args->X w' args)
  (own:ownKnob C.prog.godebug=none) (started:os.Started) (noInit:C.prog.inits.idxOf? f=none) (hfn:C.prog.funcs[f]? =some fn)
  (witness:∃(w:World) (tape:Tape) (i:Input),w.os=os/\(w.forCall tape i).Shaped C.prog/\i.vars=[]/\Input.okWide C.prog (w.forCall tape i) .any w.heap.size f i/\
   ((s.pre enc C.prog fn conds apart (w.forCall tape i).memory i.args/\X (w.forCall tape i).memory i.args)/\sizedMet enc C.prog fn (OpenSpec.ofChange s) apart (w.forCall tape i).memory i.args)/\a.holds C.prog (lone (Frame.enter C.prog f i.args .normal) [] (w.forCall tape i)))
  (contract:∀(W:World) (base:Nat) (args:Array Value) (ds gs:List (DataW H)) (before:List MemPlace),
   (∀(j:Nat) t v,fn.params[j]? =some t->args[j]? =some v->Value.okWide C.prog W .any base t v)->
   DataW.Whole enc C.prog fn.params.toList s.vars apart W args.toList ds gs before->
   X W args->W.ShapedOpen C.prog->
   Calls C.prog f args W fun e W'=>∃v,e= .returned v/\s.post enc C.prog fn apart fresh wZ again W args v W'):
  ReturnsInHanded a C os f .any (fun w args=>(s.pre enc C.prog fn conds apart w args/\X w args)/\sizedMet enc C.prog fn (OpenSpec.ofChange s) apart w args) (s.post enc C.prog fn apart fresh wZ again):=by
 refine returnsInHanded_of_calls own started noInit witness ?_;intro w tape i _ yB _ pS pV _;obtain⟨_,_,_,fn',a7b,_,_,_,_,sK⟩:=pS;have e:fn'=fn:=bZ.inj (a7b.symm.trans hfn);subst e;obtain⟨⟨⟨ds,gs,before,hw,_⟩,hx⟩,_⟩:=pV;have sW:=DataW.Whole.of_heap (w':=w.forCall tape i) (by rfl) hw;refine(contract (w.forCall tape i) w.heap.size i.args ds gs before sK sW (hX _ _ _ (by rfl) hx) yB).mono fun e W' ⟨v,he,hp⟩=> ?_;subst he;exact ChangeSpec.post_blind hp
theorem a7m (os:Os) (started:os.Started) (H:Type) (enc:TypeId×Value->H):
  ReturnsInHanded {} Tryz.checked os 4 .any (fun w args=>(Rows.recomGoesSpec.pre enc prog f4 [] false w args/\laidMetH prog Rows.recomGoesRow.laid w)/\sizedMet enc prog f4 (OpenSpec.ofChange Rows.recomGoesSpec) false w args)
   (Rows.recomGoesSpec.post enc prog f4 false true false false):=by
 refine a2Q (C:=Tryz.checked) (X:=fun w _=>laidMetH prog Rows.recomGoesRow.laid w) (fun _ _ _ hh h=>h.of_heap hh) c5d started (by kernel_rfl) Tryz.func4
  (ChangeSpec.witness_shaped (enc:=enc) (C:=Tryz.checked) (os:=os) (X:=fun w _=>laidMetH prog Rows.recomGoesRow.laid w) false (World.laidAll prog os Rows.recomGoesRow.laid) #[.agg #[.int .u8 0,.int .u8 0,.int .u16 0,.slice none 0 0,.slice none 0 0,.slice none 0 0,.int .u8 0,.int .u8 0,.int .u8 0,.int .u8 0],.agg #[.int .u64 0],.int .u8 0] 8 (World.laidAll_os _ _ _)
   (World.shaped_of_ZipB (by kernel_rfl) (by kernel_rfl)) (by kernel_rfl) (by kernel_rfl) (by kernel_rfl)
   (by rw[MakeChecks.laidMetH_plain _ _ _ (by kernel_rfl)];exact laidMet_laidAll _ (by kernel_rfl) (by kernel_rfl))) ?_
 intro W base args ds gs before a0t hW hX hSh;have sK:∀(j:Nat) t v,f4.params[j]? =some t->args[j]? =some v->Value.okWide prog W .any base t v:=a0t;have hTb:=b9J (W:=W) (by rw[<-MakeChecks.laidMetH_plain _ _ _ (by kernel_rfl)];exact hX);have hW':=hW;obtain⟨p,q,hA0,hV,rfl,hfz,sJ⟩:=hW;have hA:DataW.TrodAll enc prog W 0 (fun _=>true) true f4.params.toList args.toList ds p:=hA0;rw[Tryz.params4]at hA sK;obtain⟨v0,vs0,d0,ds0,p0,q0,qU,rfl,rfl,h0,r0⟩:=trodAll_cons hA;obtain⟨v1,vs1,d1,ds1,p1,q1,rfl,rfl,rfl,h1,r1⟩:=trodAll_cons r0;obtain⟨v2,vs2,d2,ds2,p2,q2,rfl,rfl,rfl,h2,r2⟩:=trodAll_cons r1;obtain⟨rfl,rfl,rfl⟩:=trodAll_nil r2;obtain rfl:args= #[v0,v1,v2]:=by cases args;simp_all
 obtain⟨rfl,rfl⟩:=trodVars_none hV;have lt0:∀x∈p0,x.block<W.heap.size:=by obtain⟨m,hm⟩:=h0;exact DataW.trod_lt m _ _ _ hm
 have lt1:∀x∈p1,x.block<W.heap.size:=by obtain⟨m,hm⟩:=h1;exact DataW.trod_lt m _ _ _ hm
 have lt2:∀x∈p2,x.block<W.heap.size:=by obtain⟨m,hm⟩:=h2;exact DataW.trod_lt m _ _ _ hm
 obtain⟨da,db,dc,dk,s0,s1,tr,s,wv,cu,more,wl0,cuts,rfl,hs,hwv,hcu,vI,wJ⟩:=c9o (sK 0 _ v0 rfl rfl) h0;obtain⟨c1,rfl,sG⟩:=c9p (sK 1 _ v1 rfl rfl) h1;obtain⟨m2,rfl,-,-,wf2⟩:=open_int (k:= .u8) (by kernel_rfl) (sK 2 _ v2 rfl rfl) h2;obtain⟨n2,rfl,uG⟩:=IY wf2;clear hA0 a0t;have vD:Con prog 4 [cv da db dc s wv cu dk s0 s1 tr,chV c1,.int .u8 (n2:Nat)] (fun b=>W.heap[b]?) fun v H'=>v= .bool true/\PH.le (fun b=>W.heap[b]?) H':=(d5M (dk:=dk) (s0:=s0) (s1:=s1) (da:=da) (db:=db) (dc:=dc) hTb (c4X hTb) hs hwv hcu vI wJ sG uG).mono fun u H' ⟨g1,g2⟩=>⟨g2,g1⟩;refine(P1 vD (W:=W) (H:=fun b=>W.heap[b]?) (fun b o hb=>hb)).mono fun e W' ⟨he,bel⟩=> ?_;subst he;exact⟨_,rfl,_,_,_,[],_,[],hW',trodAll_mk1 (shut_bool (by kernel_rfl) _),(trodAll_cons_mk (Below.trod CV (by kernel_rfl) (oDt (by kernel_rfl)) h0 bel lt0) (trodAll_cons_mk (Below.trod CV (by kernel_rfl) (oDt (by kernel_rfl)) h1 bel lt1) (trodAll_cons_mk (Below.trod CV (by kernel_rfl) (oDt (by kernel_rfl)) h2 bel lt2) trodAll_mk0))),rfl,bel.frame _,fun h=>by cases h⟩
theorem a9z:Rows.recomGoesRow.holds Tryz.pinned (OpenSpec.ofChange Rows.recomGoesSpec):=
 OpenClaim.holds_of_wide 4 f4 rfl rfl rfl rfl rfl rfl rfl ⟨rfl,rfl,rfl,rfl,rfl⟩ rfl rfl rfl rfl rfl (by kernel_rfl) Tryz.func4 (by kernel_rfl)
  (oDt (by kernel_rfl)) (by unfold Func.isWrapper;first|(rw[if_pos (by decide+kernel)];kernel_rfl)|(rw[if_neg (by decide+kernel)];exact⟨rfl,rfl⟩))
  (fun os started H enc _=>a7m os started H enc)
theorem recomGoes_card:Rows.RecomGoesCardSaid:=
 Claim7.holds_tied_plain_at .later [] [.data] true (true, "35a9207884f540d2c801eb13bce3493b5ae7cf7b1170880cd0022f19ffa927af") false a9z (fun _ h=>by cases h) (by kernel_rfl) (fun _ h=>by cases h) recomGoes_row_tie rfl ⟨rfl,rfl⟩ (by kernel_rfl) rfl
  (fun f fn hf hfn=>by
   obtain rfl:f=4:=bZ.inj ((show prog.funcNamed "wardmote/wardmotelaw32.RecomGoes" =some 4 by kernel_rfl).symm.trans hf)|>.symm;obtain rfl:fn=f4:=(bZ.inj (Tryz.func4.symm.trans hfn)).symm;exact⟨by kernel_rfl,fun j t ht=>by
    have hm:t∈f4.params.toList:=Array.mem_toList_iff.2 (Array.mem_of_getElem? ht);have qG:(f4.params.toList.all fun u=> !prog.wantsStandIn u)=true:=by kernel_rfl
    exact(show prog.wantsStandIn t=false by simpa using List.all_eq_true.1 qG t hm)⟩)
  (by kernel_rfl)
#print axioms recomGoes_card
end Go.Proofs.YtmannekkmdockaaGreatDoor

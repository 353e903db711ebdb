/- Lemmas: chapter 32. -/
import Derived.Test.YtmannekkmdockaaGreatDoorGtG
open Classical renaming byContradiction->aP
open Go.Result renaming andThen_ok->aE
open Go.Sem renaming run_bind->aG,run_pure->aT
open List renaming ext_getElem?->cU,getElem?_eq_some_iff->aC,getElem?_inj->gZ,getElem?_map->aO,getElem?_set->bS,length_map->aR,map_append->aX,map_cons->aM,map_map->cC,map_nil->cL,mem_cons->aL,mem_map->aH,mem_of_getElem?->aI,mem_singleton->aQ,nodup_append->eO,nodup_nil->dO,not_mem_nil->cF,replicate->bC,take_of_length_le->aK
open List.Pairwise renaming nil->iF
open Nat renaming zero_le->bI
open Option.some renaming injEq->aD
set_option maxRecDepth 100000
namespace Go.GS
def stI {α:Type}:Nat ⊕ α->Int ⊕ α
 | .inl e=> .inl (e:Int)
 | .inr x=> .inr x
noncomputable def Xd (n:Nat) (es:List (Nat×Nat)) (wl:List Int) (lo hi ds:Int) (p:List Int) (c:Nat):Int ⊕ (List Int×Bool×Nat):=
 if bdE n wl lo hi ds≠0 then .inl (bdE n wl lo hi ds)else if y8 n es wl lo hi ds p=true then stI (stP n es wl lo hi ds.toNat (n8 p) c)else .inl 8
theorem d5I {n:Nat} {es:List (Nat×Nat)} {wl:List Int} {lo hi ds:Int} {p:List Int} (h:y8 n es wl lo hi ds p=true):1<=ds/\ds<=8/\p.length=n/\LabOk p ds/\Ak p ds.toNat:=by
 unfold y8 at h;rw[Bool.and_eq_true]at h;exact xy (oDt h.1)
end Go.GS
namespace Go.Proofs.Z
open Go.Proofs.Tryz
open Go.RowKit Go.RX Go.GS
section
variable {H H0:PH} {u v w wts:Value} {p q wl t l:List Int} {n c e m bw:Nat} {es:List (Nat×Nat)} {lo hi ds:Int} {set x:Nat}
def SteV (H':PH) (r:Value):Int ⊕ (List Int×Bool×Nat)->Prop
 | .inl e=>e≠0/\r= .tuple #[.slice none 0 0,.bool false,chV 0,ii e]
 | .inr (q,mv,c)=>c<M64/\∃v,r= .tuple #[v,.bool mv,chV c,ii 0]/\SI H' v q
theorem UI (hT:Tb H) (hw:SG H w es) (hg:GV n es) (qV:SI H wts wl) (hu:SI H u p) (hn:n<=9) (hc:c<M64):Con prog 19 [gv n w,bv wts lo hi ds,u,chV c] H fun r H'=>PH.le H H'/\SteV H' r (Xd n es wl lo hi ds p c):=by
 refine j3 mixed LG ?_;refine d9 (Ap hw) ?_;refine d9 (Gs (Af qV) _ _ _) ?_;refine d9 (Hf c) ?_;refine x9 (Zn hw hg qV) rfl fun H1 l1=> ?_;simp only[cA,nA];refine d4 ?_;refine r9 (p:=(bdE n wl lo hi ds≠0)) (bN _ _) (fun h=> ?_) fun h=> ?_
 ·exact g8 (by show Value.tuple #[.slice none 0 0,.bool false,s7 prog _,ii (bdE n wl lo hi ds)]=_;rw[Mc]) ⟨l1,by unfold Xd;rw[if_pos h];exact⟨h,rfl⟩⟩
 ·have sH:bdE n wl lo hi ds=0:=aP h;have uZ:=Rx sH;have hF0:Xd n es wl lo hi ds p c=if y8 n es wl lo hi ds p=true then stI (stP n es wl lo hi ds.toNat (n8 p) c)else .inl 8:=by unfold Xd;rw[if_neg h]
  refine Ee (cs:=rwc wts lo hi ds n w c 0) (by show(Value.agg ((Value.agg ((bv wts lo hi ds).cells++(gv n w).cells)).cells++(Value.agg ((chV c).cells++(s7 prog 43).cells)).cells)).cells=_;rw[xt];rfl) fun bw uV=> ?_;simp only[cA,nA];have hB:∃B:PH,H1.put bw (RwO wts lo hi ds n w c 0)=B/\B bw=some (RwO wts lo hi ds n w c 0)/\PH.le H1 (j1 B bw):=⟨_,rfl,PH.put_self _ _ _,fun k o hk=>by
   unfold j1;have e:k≠bw:=fun e=>by subst e;rw[uV]at hk;cases hk
   rw[if_neg e,PH.put_ne _ _ e];exact hk⟩
  obtain⟨B,hBe,wO,hBc⟩:=hB;show den prog _ _ _ _ (H1.put bw (RwO wts lo hi ds n w c 0));rw[hBe];have l1c:=l1.trans hBc;have l1B:=l1c.trans (Jb B bw);have a1y:Chn B n w wts es wl:=⟨hT.mono l1B,hw.mono l1B,hg,qV.mono l1B,uZ.1,uZ.2.2.2.2.2⟩;refine As ?_;simp only[cA,nA];refine s6 Jk ?_;simp only[cA,nA];refine Fj (vs:=[wts,ii lo,ii hi,ii ds,ii n,w]) Zm rfl rfl wO rfl (show 0+0+6<=8 by omega) rfl ?_;simp only[cA,nA];refine x9 (jf (lo:=lo) (hi:=hi) (ds:=ds) a1y (hu.mono l1B)) rfl fun H2 l2=> ?_;simp only[cA,nA];refine d4 ?_;refine i0 (b:= !y8 n es wl lo hi ds p) rfl (fun g1=> ?_) (fun g1=> ?_)
  ·skip
   exact g8 (by show Value.tuple #[.slice none 0 0,.bool false,s7 prog _,ii 8]=_;rw[Mc]) ⟨l1B.trans l2,by rw[hF0,if_neg (by simpa using g1)];exact⟨by decide,rfl⟩⟩
  ·skip
   have tY:y8 n es wl lo hi ds p=true:=by simpa using g1
   rw[if_pos tY]at hF0;obtain⟨f1,f2,f3,f4,f5⟩:=d5I tY;obtain⟨k,rfl⟩:∃k:Nat,ds=(k:Int):=⟨ds.toNat,by omega⟩;rw[Int.toNat_natCast]at f5 hF0;have hL8:LabOk p 8:=⟨fun x hx=>by have:=f4.1 x hx;omega,f4.2⟩;refine i6 (Wi (hu.mono (l1B.trans l2)) hL8) rfl ?_;rintro r10 H3 ⟨l3,z,rfl,hz⟩;refine nmI ?_;simp only[cA,nA];have qR:=l2 _ _ wO;have uC:=l3 _ _ qR;have hzc:=SO.cut (b:=bw) hz (by rw[qR];exact fun h=>nomatch h);have vN:PH.le H (j1 H3 bw):=fun j o hj=>by
    have h1:=l1c _ _ hj;have e:j≠bw:=fun e=>by subst e;unfold j1 at h1;rw[if_pos rfl]at h1;cases h1
    unfold j1 at h1⊢;rw[if_neg e]at h1⊢;exact l3 _ _ (l2 _ _ h1)
   refine i8 (i8 ?_);refine i6 (c8G uC ⟨hT.mono vN,hw.mono vN,hg,qV.mono vN,uZ.1,uZ.2.2.2.2.2⟩ hzc hn (by rw[Ft];exact f3) (by omega) (by omega) (Sz f4 f5) (Wg f4 f5) hc) rfl ?_;rintro v11 H5 ⟨l5,c',e',vE,rT⟩;refine nmI ?_;simp only[cA,nA];refine As ?_;simp only[cA,nA];refine s6 Td ?_;simp only[cA,nA];refine w9 Tc rfl rfl vE rfl rfl ?_;simp only[cA,nA];refine d4 ?_;refine r9 (p:=(e'≠0)) (bN0 e') (fun g2=> ?_) fun g2=> ?_
   ·refine As ?_;simp only[cA,nA];refine s6 Td ?_;simp only[cA,nA];refine w9 Tc rfl rfl vE rfl rfl ?_;simp only[cA,nA];have hR:=(rT.resolve_right (fun h=>g2 h.1)).2;exact g8 (by show Value.tuple #[.slice none 0 0,.bool false,s7 prog _,ii (e':Nat)]=_;rw[Mc]) ⟨vN.trans l5,by rw[hF0,hR];exact⟨by omega,rfl⟩⟩
   ·obtain⟨-,hc',q',mv,hR,vM,yF⟩:=rT.resolve_left (fun h=>h.1 (by omega));refine As ?_;simp only[cA,nA];refine s6 al ?_;simp only[cA,nA];refine Fj (vs:=[uv c']) Md rfl rfl vE rfl (show 0+6+1<=8 by omega) rfl ?_;simp only[cA,nA];refine Aq (AD (hzc.mono l5) vM) rfl ?_;simp only[cA,nA];refine d4 ?_;refine d9 (Hf c') ?_;exact g8 rfl ⟨vN.trans l5,by rw[hF0,hR];exact⟨hc',v11,by rw[yF];rfl,vM⟩⟩
end
end Go.Proofs.Z
/- Chapter 32: the examples are answered as they should be. -/
namespace Go.Proofs.Z
open Go.Proofs.Tryz
open Go.RowKit Go.RX Go.GS Go.RZ
open Go.WD (BP Bf wd iw rs toI HM sgI Rb Gy)
section
variable {H:PH} {u v w wts:Value} {p wl:List Int} {n k:Nat} {es:List (Nat×Nat)} {lo hi ds:Int}
theorem b9H {l m:List Slc} {cont cont2:Slc->List Int} (hu:SE H 1 (fun s:Slc=>[vs s]) u l) (hv:SE H 1 (fun s:Slc=>[vs s]) v m) (hl:∀s∈l,SI H (vs s) (cont s)) (hm:∀s∈m,SI H (vs s) (cont2 s)):Asks prog 14 [u,v] H (.bool (decide (l.map cont=m.map cont2))):=by
 refine j3 mixed c3c ?_;have h1:=hu.len;have h2:=hv.len;refine j7 Hl hu ?_;refine j7 Hl hv ?_;refine d4 (d4 ?_);refine r9 (p:=(l.length≠m.length)) (by show Value.bool (((l.length:Nat):Int) !=((m.length:Nat):Int))=_;rw[bN];congr 1;apply decide_eq_decide.2;omega) (fun pT=> ?_) fun pT=> ?_
 ·exact g8 rfl ⟨rfl,by rw[decide_eq_false (fun e=>pT (by simpa using congrArg List.length e))];rfl⟩
 ·have hlm:l.length=m.length:=aP pT;refine Dq (α:=Nat) (fun i=>[.bool false,ii (i:Nat)]) (fun i=>i<=l.length/\(l.take i).map cont=(m.take i).map cont2) (fun i=>l.length-i) (0) rfl (⟨bI _,rfl⟩) fun i hQ=> ?_;obtain⟨hi,hq⟩:=hQ;refine j7 Hl hu ?_;refine d4 (d4 ?_);refine i0 (b:=decide (((i:Nat):Int)<(l.length:Nat))) rfl (fun h=> ?_) (fun h=> ?_)
  ·replace h:=oDt h;have pW:i<l.length:=by omega
   obtain⟨x,hx,_⟩:=t7 pW;obtain⟨y,hy,_⟩:=t7 (show i<m.length by omega);refine j8 Hl hu hx fun _=> ?_;refine j8 Hl hv hy fun _=> ?_;refine Aq (b9y (hl x (aI hx)) (hm y (aI hy))) rfl ?_;refine d4 ?_;refine i0 (b:= !decide (cont x=cont2 y)) rfl (fun tC=> ?_) (fun tC=> ?_)
   ·skip
    have uU:¬l.map cont=m.map cont2:=fun e=>by
     have e2:=congrArg (fun z=>z[i]?) e;simp only[aO,hx,hy,Option.map_some,aD]at e2;simp[e2]at tC
    exact g8 rfl ⟨rfl,by rw[decide_eq_false uU];rfl⟩
   ·skip
    exact⟨i+1,by omega,(j4 rfl (i9 rfl (by omega))),⟨⟨pW,by rw[take_snoc hx,take_snoc hy,aX,aX,hq];simp at tC;simp[tC]⟩,rfl⟩⟩
  ·replace h:=oDf h;rw[aK (by omega),aK (by omega)]at hq;exact g8 rfl ⟨rfl,by rw[oDd hq];rfl⟩
theorem c9k {l m:List Rat} (hu:SE H 16 shc u (l.map tpr)) (hv:SE H 16 shc v (m.map tpr)) (hl:∀r∈l,Rg r) (hm:∀r∈m,Rg r):Asks prog 15 [u,v] H (.bool (decide (l=m))):=by
 refine j3 mixed d3g ?_;have h1:=hu.len;have h2:=hv.len;have e1:(l.map tpr).length=l.length:=aR _;have e2:(m.map tpr).length=m.length:=aR _;rw[e1]at h1;rw[e2]at h2;refine j7 Py hu ?_;refine j7 Py hv ?_;refine d4 (d4 ?_);refine r9 (p:=(l.length≠m.length)) (by rw[e1,e2];show Value.bool (((l.length:Nat):Int) !=((m.length:Nat):Int))=_;rw[bN];congr 1;apply decide_eq_decide.2;omega) (fun pT=> ?_) fun pT=> ?_
 ·exact g8 rfl ⟨rfl,by rw[decide_eq_false (fun e=>pT (by rw[e]))];rfl⟩
 ·have hlm:l.length=m.length:=aP pT;refine j7 Py hu ?_;refine Dq (α:=Nat) (fun i=>[.bool false,ii (i:Nat)]) (fun i=>i<=l.length/\l.take i=m.take i) (fun i=>l.length-i) (0) rfl (⟨bI _,rfl⟩) fun i hQ=> ?_;obtain⟨hi,hq⟩:=hQ;refine d4 (d4 ?_);refine r9 (p:=(((i:Nat):Int)<(l.length:Nat))) (by rw[e1];rfl) (fun h=> ?_) fun h=> ?_
  ·have pW:i<l.length:=by omega
   obtain⟨x,hx,_⟩:=t7 pW;obtain⟨y,hy,_⟩:=t7 (show i<m.length by omega);refine j8 Py hu (show(l.map tpr)[i]? =some (tpr x)from by rw[aO,hx];rfl) fun _=> ?_;refine j8 Py hv (show(m.map tpr)[i]? =some (tpr y)from by rw[aO,hy];rfl) fun _=> ?_;refine r7 ((T1 (hl x (aI hx)) (hm y (aI hy)) rfl (fun _ _=>rfl) (fun _ _=>rfl)).rds _) rfl ?_;refine d4 ?_;refine i0 (b:= !decide (x=y)) rfl (fun tC=> ?_) (fun tC=> ?_)
   ·skip
    have uU:¬l=m:=fun e=>by
     subst e;rw[hx]at hy
     injection hy with hy
     simp[hy]at tC
    exact g8 rfl ⟨rfl,by rw[decide_eq_false uU];rfl⟩
   ·skip
    exact⟨i+1,by omega,(j4 rfl (i9 rfl (by omega))),⟨⟨pW,by rw[take_snoc hx,take_snoc hy,hq];simp at tC;rw[tC]⟩,rfl⟩⟩
  ·rw[aK (by omega),aK (by omega)]at hq;exact g8 rfl ⟨rfl,by rw[oDd hq];rfl⟩
theorem UJ {a b:Int} {t:Rat} (p0: -9223372036854775808<=a) (p1:a<9223372036854775808) (q0: -9223372036854775808<=b) (q1:b<9223372036854775808) (hb:b≠0) (ht:Rat.divInt a b=t) (hT:Rg t):Ao prog 32 [.int .i64 a,.int .i64 b] H (shR t):=by
 refine j3 mixed d9Z ?_;refine i6 (R5 a b p0 p1 q0 q1) rfl ?_;rintro _ H1 ⟨l1,rfl⟩;refine nmI ?_;rw[show Oj a b= .tuple #[shR t,ii 0]from by unfold Oj;rw[if_neg hb,ht];exact gn hT];refine i8 (i8 ?_);refine d9 (Dz _ _) ?_;exact g8 rfl ⟨l1,rfl⟩
theorem UK (hT:Tb H) (hw:SG H w es) (hg:GV n es) (qV:SI H wts wl) (hu:SI H u p) (hb:bdE n wl lo hi ds=0):Ao prog 24 [gv n w,bv wts lo hi ds,u] H (.bool (y8 n es wl lo hi ds p)):=by
 refine j3 mixed d3X ?_;refine d9 (Ap hw) ?_;refine d9 (Gs (Af qV) _ _ _) ?_;refine x9 (yc (lo:=lo) (hi:=hi) (ds:=ds) hT hw hg qV hu) rfl fun H1 l1=> ?_;rw[hb];refine i8 (i8 (d4 ?_));refine i0 (b:=decide ((0:Int)=0)&&y8 n es wl lo hi ds p) rfl (fun hf=> ?_) (fun hf=> ?_)
 ·skip
  have hf:y8 n es wl lo hi ds p=true:=by simpa using hf
  refine d4 ?_;exact g8 rfl ⟨l1,by rw[hf];rfl⟩
 ·skip
  have hf:y8 n es wl lo hi ds p=false:=by simpa using hf
  exact g8 rfl ⟨l1,by rw[hf];rfl⟩
theorem c4U {c:Nat} (hT:Tb H) (hw:SG H w es) (hg:GV n es) (qV:SI H wts wl) (hu:SI H u p) (hb:bdE n wl lo hi ds=0) (hf:y8 n es wl lo hi ds p=false):Ao prog 19 [gv n w,bv wts lo hi ds,u,chV c] H (.tuple #[.slice none 0 0,.bool false,chV 0,ii 8]):=by
 refine j3 mixed LG ?_;have uZ:=Rx hb;refine d9 (Ap hw) ?_;refine d9 (Gs (Af qV) _ _ _) ?_;refine d9 (Hf c) ?_;refine x9 (Zn hw hg qV) rfl fun H1 l1=> ?_;refine d4 ?_;refine t6 (by show Value.bool (bdE n wl lo hi ds !=0)=_;rw[hb];rfl) ?_;refine Ee (cs:=rwc wts lo hi ds n w c 0) (by show(Value.agg ((Value.agg ((bv wts lo hi ds).cells++(gv n w).cells)).cells++(Value.agg ((chV c).cells++(s7 prog 43).cells)).cells)).cells=_;rw[xt];rfl) fun bw uV=> ?_;have l1B:=l1.trans (PH.le_put uV (RwO wts lo hi ds n w c 0));have wO:(H1.put bw (RwO wts lo hi ds n w c 0)) bw=some (RwO wts lo hi ds n w c 0):=PH.put_self _ _ _;have a1y:Chn (H1.put bw (RwO wts lo hi ds n w c 0)) n w wts es wl:=⟨hT.mono l1B,hw.mono l1B,hg,qV.mono l1B,uZ.1,uZ.2.2.2.2.2⟩;refine As ?_;refine s6 Jk ?_;refine Fj (vs:=[wts,ii lo,ii hi,ii ds,ii n,w]) Zm rfl rfl wO rfl (show 0+0+6<=8 by omega) rfl ?_;refine x9 (jf (lo:=lo) (hi:=hi) (ds:=ds) a1y (hu.mono l1B)) rfl fun H2 l2=> ?_;rw[hf];refine d4 ?_;refine Gn rfl ?_;exact g8 (by show Value.tuple #[.slice none 0 0,.bool false,s7 prog _,ii 8]=_;rw[Mc]) ⟨l1B.trans l2,rfl⟩
theorem CJ {ρ:List Value} {x y:SV} {o m:Nat} {a:Array Value} {b:Value} (hx:D prog ρ x= .agg a) (hy:D prog ρ y=b):D prog ρ (.put x o m y 0 noI)= .agg (spl a o b.cells.toList):=by
 show Value.agg (spl (D prog ρ x).cells (o+0*z6 (D prog ρ noI)) (D prog ρ y).cells.toList)=_;rw[hx,hy,Nat.zero_mul];rfl
theorem UL {ρ:List Value} {x:SV} {s:Slc} (hx:D prog ρ x=vs s):D prog ρ (.cat x 1 (.cat (.z 3) 1 (.cat (.z 3) 1 (.z 3))))=bv (vs s) 0 0 0:=by
 have hz:D prog ρ (.z 3)=ii 0:=Rr;rw[Wj hx (Wj hz (Wj hz hz))];rfl
theorem UM {ρ:List Value} {x y:SV} {s:Slc} {low:Int} (hx:D prog ρ x=vs s) (hy:D prog ρ y=ii low):
  D prog ρ (.put (.cat (.sub (.put (.cat x 1 (.cat (.z 3) 1 (.cat (.z 3) 1 (.z 3)))) 1 1 y 0 noI) 0 2 0 noI) 2 (.cat (.k (.int .i64 3)) 1 (.sub (.put (.cat x 1 (.cat (.z 3) 1 (.cat (.z 3) 1 (.z 3)))) 1 1 y 0 noI) 3 1 0 noI))) 3 1 (.k (.int .i64 2)) 0 noI)=bv (vs s) low 3 2:=by
 have h1:D prog ρ (.put (.cat x 1 (.cat (.z 3) 1 (.cat (.z 3) 1 (.z 3)))) 1 1 y 0 noI)=bv (vs s) low 0 0:=by
  rw[CJ (UL hx) hy];rfl
 have h2:D prog ρ (.cat (.sub (.put (.cat x 1 (.cat (.z 3) 1 (.cat (.z 3) 1 (.z 3)))) 1 1 y 0 noI) 0 2 0 noI) 2 (.cat (.k (.int .i64 3)) 1 (.sub (.put (.cat x 1 (.cat (.z 3) 1 (.cat (.z 3) 1 (.z 3)))) 1 1 y 0 noI) 3 1 0 noI)))=bv (vs s) low 3 0:=by
  rw[Wj (PQ h1) (Wj (show D prog ρ (.k (.int .i64 3))=ii 3 from rfl) (PQ h1))];rfl
 rw[CJ h2 (show D prog ρ (.k (.int .i64 2))=ii 2 from rfl)];rfl
theorem UN (low:Int):Con prog 35 [ii low] H fun r H'=>PH.le H H'/\∃w wts,r= .tuple #[gv 4 w,bv wts low 3 2]/\SG H' w es3/\SI H' wts wl1:=by
 refine j3 mixed d3W ?_;refine Hu el_edge (l:=es3) (vs:=[ev2 (0,1),ev2 (1,2),ev2 (2,3)]) rfl (by decide) (by decide) rfl rfl (Cc (Kq (a:=0) (b:=1) rfl rfl) (Kq (a:=1) (b:=2) rfl rfl) (Kq (a:=2) (b:=3) rfl rfl)) fun v H1 l1 o1 _=> ?_;obtain⟨sa,rfl⟩:=Jg o1.se;refine d9 o1.se.one ?_;refine Hu el_int (l:=wl1) (vs:=[ii 1,ii 1,ii 1,ii 1]) rfl (by decide) (by decide) rfl rfl rfl fun v2 H2 l2 o2 _=> ?_;obtain⟨sb,rfl⟩:=Jg o2.se;refine d9 o2.se.one ?_;refine d9 (aj low) ?_;refine d9 (by show(D prog _ (.put _ 3 1 _ 0 noI)).cells.size=4/\_;rw[UM (s:=sb) (low:=low) rfl rfl];exact Gs (Af o2.se) _ _ _) ?_;exact g8 (by show Value.tuple #[_,D prog _ (.put _ 3 1 _ 0 noI)]=_;rw[UM (s:=sb) (low:=low) rfl rfl];rfl) ⟨l1.trans l2,_,_,rfl,o1.se.mono l2,o2.se⟩
end
end Go.Proofs.Z
/- Chapter 32: works returns true. -/
namespace Go.Proofs.Z
open Go.Proofs.Tryz
open Go.RowKit Go.RX Go.GS Go.RZ
open Go.WD (BP Bf wd iw rs toI HM sgI Rb Gy)
theorem e0q {ρ:List Value}:D prog ρ (.cat (.k (.int .i64 13)) 1 (.z 35))=gv 13 (.slice none 0 0):=by
 have hz:D prog ρ (.z 35)= .slice none 0 0:=PM;rw[Wj (show D prog ρ (.k (.int .i64 13))=ii 13 from rfl) hz];rfl
theorem e0r {ρ:List Value} {x:SV} {s:Slc} (hx:D prog ρ x=vs s):D prog ρ (.put (.cat x 1 (.cat (.z 3) 1 (.cat (.z 3) 1 (.z 3)))) 3 1 (.k (.int .i64 1)) 0 noI)=bv (vs s) 0 0 1:=by
 rw[CJ (UL hx) (show D prog ρ (.k (.int .i64 1))=ii 1 from rfl)];rfl
theorem e1m:GV 13 []:=⟨by decide,by decide,by decide,by simp,iF⟩
theorem e1n:smE 13 [] (bC 13 0) 0 0 1 [[]]=3:=by
 have hb:bdE 13 (bC 13 0) 0 0 1=0:=by decide
 unfold smE;rw[if_neg (by rw[hb];simp),if_pos (by decide)]
theorem UO (H:PH) {α:Type} (sz:Nat) (ce:α->List Value):SE H sz ce (.slice none 0 0) ([]:List α):=(SO.nil H H 0 sz ce).se
theorem rg3:Rg (1/3)/\Rg 1:=⟨⟨256,by decide,rb3.1⟩,⟨256,by decide,rb3.2⟩⟩
theorem tell3:Fz (1/3)= .tuple #[shR (1/3),ii 0]/\Fz 1= .tuple #[shR 1,ii 0]:=⟨gn rg3.1,gn rg3.2⟩
theorem div3:Rat.divInt 1 3=1/3/\Rat.divInt 1 1=1:=by decide+kernel
theorem goR3:goR 4 es3 wl1 1 3 2 [0,0,1,1] [1,1,1,0]= .tuple #[shR (1/3),ii 0]/\goR 4 es3 wl1 2 3 2 [0,0,1,1] [0,0,1,1]= .tuple #[shR 1,ii 0]:=by
 obtain⟨f1,f2,f3,f4,f5⟩:=CC;have s1:=od (k:=2) bd3.1 (by decide) [[0,0,1,1],[1,1,1,0]] (fun p hp=>by
  simp only[aL,cF,or_false]at hp;rcases hp with rfl|rfl
  ·exact f3
  ·exact f5)
 have s2:=od (k:=2) bd3.2 (by decide) [[0,0,1,1],[0,0,1,1]] (fun p hp=>by
  simp only[aL,cF,or_false,or_self]at hp;subst hp;exact f4)
 unfold goR;have s1':smE 4 es3 wl1 1 3 2 [[0,0,1,1],[1,1,1,0]]=0:=s1;have s2':smE 4 es3 wl1 2 3 2 [[0,0,1,1],[0,0,1,1]]=0:=s2;rw[if_neg (by rw[s1'];simp),if_neg (by rw[s2'];simp)];exact⟨by rw[show((2:Int)).toNat=2 from rfl,go3.1];exact tell3.1,by rw[show((2:Int)).toNat=2 from rfl,go3.2];exact tell3.2⟩
theorem e1o {H:PH} {r:Value} (h:bj H 4 es3 wl1 1 3 2 [0,0,1,1] r):∃(pv ov:Value) (m:List Slc) (cont:Slc->List Int),r= .tuple #[pv,ov,ii 0]/\SE H 1 (fun s:Slc=>[vs s]) pv m/\m.map cont=[[0,0,0,1],[0,0,1,1],[0,1,1,1]]/\(∀s∈m,SI H (vs s) (cont s))/\SE H 16 shc ov ([1/3,1/3,1/3].map tpr):=by
 obtain⟨f1,f2,f3,f4,f5⟩:=CC;have s1:=od (k:=2) bd3.1 (by decide) [[0,0,1,1]] (fun p hp=>by rw[aQ.1 hp];exact f3);have hc:n8 [0,0,1,1]=[0,0,1,1]:=by decide
 unfold bj at h;rw[show((2:Int)).toNat=2 from rfl,hc]at h;rcases h with⟨h1,_⟩|⟨_,ps,h2,h3,h4⟩
 ·exact absurd s1 h1
 ·have sO:=e1l h2 h3;have hv:∀q∈ps,vO (Ba es3 wl1 1 3 4 2 [0,0,1,1]) (m7 q)=1/3:=fun q hq=>e0n (sO ▸ hq);rcases h4 with⟨_,pv,ov,m,cont,a1,a2,a3,a4,a5⟩|⟨⟨q,hq,h5⟩,_⟩
  ·refine⟨pv,ov,m,cont,a1,a2,a3.trans sO,a4,?_⟩;have e:(ps.map fun q=>tpr (vO (Ba es3 wl1 1 3 4 2 [0,0,1,1]) (m7 q)))=[1/3,1/3,1/3].map tpr:=by
    rw[List.map_congr_left (g:=fun _=>tpr (1/3)) (fun q hq=>by rw[hv q hq]),sO];rfl
   rw[<-e];exact a5
  ·rw[hv q hq,d8J rb3.1]at h5;cases h5
theorem c4X {H:PH} (hT:Tb H):Ao prog 7 [] H (.bool true):=by
 refine j3 mixed d3Y ?_;obtain⟨f1,f2,f3,f4,f5⟩:=CC;refine i6 (UN 1) rfl ?_;rintro _ H1 ⟨l1,w,wts,rfl,hw,qV⟩;refine nmI ?_;refine i8 (i8 ?_);refine d9 (Ap hw) ?_;refine d9 (Gs (Af qV) _ _ _) ?_;refine i6 (UN 2) rfl ?_;rintro _ H2 ⟨l2,w2,wts2,rfl,hw2,a1z⟩;refine nmI ?_;refine i8 (i8 ?_);refine d9 (Ap hw2) ?_;refine d9 (Gs (Af a1z) _ _ _) ?_;refine Hu el_plan (l:=[0,0,1,1]) rfl (by decide) (by decide) rfl rfl rfl fun v2 H3 l3 o3 _=> ?_;refine Hu el_plan (l:=[0,1,0,1]) rfl (by decide) (by decide) rfl rfl rfl fun v3 H4 l4 o4 _=> ?_;have l14:=l2.trans (l3.trans l4);refine x9 (yc (lo:=1) (hi:=3) (ds:=2) (hT.mono (l1.trans l14)) (hw.mono l14) gv3 (qV.mono l14) o4.se) rfl fun H5 l5=> ?_;rw[bd3.1,f1];refine i8 (i8 ?_);simp only[cA,nA];refine Hu el_plan (l:=[0,0,0,0]) rfl (by decide) (by decide) rfl rfl rfl fun v5 H6 l6 o6 _=> ?_;have l16:=l14.trans (l5.trans l6);refine x9 (yc (lo:=1) (hi:=3) (ds:=2) (hT.mono (l1.trans l16)) (hw.mono l16) gv3 (qV.mono l16) o6.se) rfl fun H7 l7=> ?_;rw[bd3.1,f2];refine i8 (i8 ?_);refine Hu el_int (l:=[0,1,2]) rfl (by decide) (by decide) rfl rfl rfl fun v7 H8 l8 o8 _=> ?_;have l18:=l16.trans (l7.trans l8);refine i6 (MM (lo:=1) (hi:=3) (ds:=2) (set:=15) (hT.mono (l1.trans l18)) (hw.mono l18) gv3 (qV.mono l18) o8.se (by decide)) rfl ?_;rintro _ H9 ⟨l9,v8,lb,e8,rfl,h8,he8,hl8⟩;refine nmI ?_;rw[bd3.1,if_neg (by decide),jm (by decide) CE]at he8;subst he8;rw[if_neg (by decide),bal3.1]at hl8;subst hl8;refine i8 (i8 ?_);refine Hu el_int (l:=[0,1,2]) rfl (by decide) (by decide) rfl rfl rfl fun v9 H10 l10 o10 _=> ?_;have la:=l18.trans (l9.trans l10);have l2a:PH.le H2 H10:=(l3.trans l4).trans ((l5.trans l6).trans ((l7.trans l8).trans (l9.trans l10)));refine i6 (MM (lo:=2) (hi:=3) (ds:=2) (set:=15) (hT.mono (l1.trans la)) (hw.mono la) gv3 (a1z.mono l2a) o10.se (by decide)) rfl ?_;rintro _ H11 ⟨l11,v10,lc,e10,rfl,vL,a3x,a3y⟩;refine nmI ?_;rw[bd3.2,if_neg (by decide),jm (by decide) CE]at a3x;subst a3x;rw[if_neg (by decide),bal3.2]at a3y;subst a3y;have lb:=la.trans l11;have l3b:PH.le H3 H11:=l4.trans ((l5.trans l6).trans ((l7.trans l8).trans ((l9.trans l10).trans l11)));refine i8 (i8 ?_);refine x9 (UK (lo:=1) (hi:=3) (ds:=2) (hT.mono (l1.trans lb)) (hw.mono lb) gv3 (qV.mono lb) (o3.se.mono l3b) bd3.1) rfl fun H12 l12=> ?_;rw[f3];refine d4 ?_;refine t6 rfl ?_;refine d4 ?_;refine t6 rfl ?_;refine d4 ?_;refine t6 rfl ?_;refine d4 ?_;refine t6 rfl ?_;refine d4 ?_;refine t6 rfl ?_;refine Hu el_int (l:=[0,1,2]) rfl (by decide) (by decide) rfl rfl rfl fun v12 H13 l13 o13 _=> ?_;have l9d:=((l10.trans l11).trans l12).trans l13;refine Aq (LD (h8.mono l9d) o13.se) rfl ?_;refine d4 ?_;refine t6 rfl ?_;refine d4 ?_;refine t6 rfl ?_;simp only[cA,nA];refine On el_int (a:=1) rfl rfl rfl fun v14 H14 l14' o14 _=> ?_;refine Aq (LD (vL.mono ((l12.trans l13).trans l14')) o14.se) rfl ?_;refine d4 ?_;refine t6 rfl ?_;refine d4 ?_;refine t6 rfl ?_;have le:=lb.trans ((l12.trans l13).trans l14');have l3e:=l3b.trans ((l12.trans l13).trans l14');refine i6 (TU (lo:=1) (hi:=3) (ds:=2) (hT.mono (l1.trans le)) (hw.mono le) gv3 (qV.mono le) (o3.se.mono l3e)) rfl ?_;rintro v16 H15 ⟨l15,hO⟩;refine nmI ?_;obtain⟨pv,ov,m,cont,rfl,hpv,hmc,hmS,hov⟩:=e1o hO;refine i8 (i8 (i8 ?_));simp only[cA,nA];refine x9 (UJ (by decide) (by decide) (by decide) (by decide) (by decide) div3.1 rg3.1) rfl fun H16 l16'=> ?_;refine d9 (Dz _ _) ?_;refine Hu el_plan (l:=[1,1,1,0]) rfl (by decide) (by decide) rfl rfl rfl fun v18 H17 l17 o17 _=> ?_;have lf:=le.trans (l15.trans (l16'.trans l17));have l3f:=l3e.trans (l15.trans (l16'.trans l17));refine i6 (BN (lo:=1) (hi:=3) (ds:=2) (hT.mono (l1.trans lf)) (hw.mono lf) gv3 (qV.mono lf) (o3.se.mono l3f) o17.se) rfl ?_;rintro v19 H18 ⟨l18',a3z⟩;refine nmI ?_;rw[goR3.1]at a3z;subst a3z;refine i8 (i8 ?_);refine d9 (Dz _ _) ?_;have lg:=lf.trans l18';have l3g:=l3f.trans l18';have l2g:=l3.trans l3g;refine i6 (BN (lo:=2) (hi:=3) (ds:=2) (hT.mono (l1.trans lg)) (hw.mono lg) gv3 (a1z.mono l2g) (o3.se.mono l3g) (o3.se.mono l3g)) rfl ?_;rintro v20 H19 ⟨l19,a4a⟩;refine nmI ?_;rw[goR3.2]at a4a;subst a4a;refine i8 (i8 ?_);refine d9 (Dz _ _) ?_;refine Hu el_plan (l:=[0,1,0,1]) rfl (by decide) (by decide) rfl rfl rfl fun v21 H20 l20 o20 _=> ?_;have lh:=lg.trans (l19.trans l20);simp only[cA,nA];refine x9 (c4U (lo:=1) (hi:=3) (ds:=2) (c:=0) (hT.mono (l1.trans lh)) (hw.mono lh) gv3 (qV.mono lh) o20.se bd3.1 f1) (Ot rfl rfl rfl Mc) fun H21 l21=> ?_;refine i8 (i8 (i8 (i8 ?_)));refine Ux el_int (z:=(0:Int)) Rr rfl rfl rfl (by decide) rfl fun v23 H22 l22 o22 _=> ?_;obtain⟨s23,rfl⟩:=Jg o22.se;refine d9 o22.se.one ?_;have li:=lh.trans (l21.trans l22);refine i6 (TU (n:=13) (w:= .slice none 0 0) (es:=[]) (wts:=vs s23) (wl:=bC 13 0) (lo:=0) (hi:=0) (ds:=1) (u:= .slice none 0 0) (p:=[]) (hT.mono (l1.trans li)) (UO _ _ _) e1m o22.se (UO _ _ _)) (Cc e0q (e0r rfl) rfl) ?_;rintro v24 H23 ⟨l23,hO2⟩;refine nmI ?_;unfold bj at hO2;rw[e1n]at hO2;obtain⟨_,rfl⟩:=hO2.resolve_right (fun h=>absurd h.1 (by decide));refine i8 (i8 (i8 (d4 ?_)));refine Gn rfl ?_;have ln:=(l16'.trans l17).trans ((l18'.trans l19).trans ((l20.trans l21).trans (l22.trans l23)));simp only[cA,nA];refine ak el_plan (l:=[0,0,0,1]) rfl (by decide) (by decide) rfl rfl rfl fun v25 K1 k1 q1=> ?_;refine ak el_plan (l:=[0,0,1,1]) rfl (by decide) (by decide) rfl rfl rfl fun v26 K2 k2 q2=> ?_;refine ak el_plan (l:=[0,1,1,1]) rfl (by decide) (by decide) rfl rfl rfl fun v27 K3 k3 q3=> ?_;obtain⟨sa,rfl⟩:=Jg q1.se;obtain⟨sb,rfl⟩:=Jg q2.se;obtain⟨sc,rfl⟩:=Jg q3.se;refine ak Hl (l:=[sa,sb,sc]) rfl (by simp) (by simp) rfl rfl rfl fun v28 K4 k4 q4=> ?_;have kk:=ln.trans (((k1.trans k2).trans k3).trans k4);have qI:∀s∈[sa,sb,sc],SI K4 (vs s) (Ff K4 s):=fun s hs=>by
  simp only[aL,cF,or_false]at hs;rcases hs with rfl|rfl|rfl
  ·have h:=q1.se.mono ((k2.trans k3).trans k4);rw[Nl h];exact h
  ·have h:=q2.se.mono (k3.trans k4);rw[Nl h];exact h
  ·have h:=q3.se.mono k4;rw[Nl h];exact h
 have uW:[sa,sb,sc].map (Ff K4)=[[0,0,0,1],[0,0,1,1],[0,1,1,1]]:=by
  simp only[aM,cL];rw[Nl (q1.se.mono ((k2.trans k3).trans k4)),Nl (q2.se.mono (k3.trans k4)),Nl (q3.se.mono k4)]
 simp only[cA,nA];refine Aq (b9H (hpv.mono kk) q4.se (fun s hs=>(hmS s hs).mono kk) qI) rfl ?_;refine d4 ?_;refine Gn (by show Value.bool (decide (m.map cont=[sa,sb,sc].map (Ff K4)))=_;rw[hmc,uW,oDd rfl]) ?_;refine ak Py (l:=[tpr (1/3),tpr (1/3),tpr (1/3)]) rfl (by decide) (by decide) rfl rfl rfl fun v30 K5 k5 q5=> ?_;refine Aq (c9k (l:=[1/3,1/3,1/3]) (m:=[1/3,1/3,1/3]) (hov.mono (kk.trans k5)) q5.se (fun r hr=>by simp only[aL,cF,or_false,or_self]at hr;subst hr;exact rg3.1) (fun r hr=>by simp only[aL,cF,or_false,or_self]at hr;subst hr;exact rg3.1)) rfl ?_;simp only[cA,nA];refine d4 ?_;refine Gn rfl ?_;refine r7 ((JH rg3.1 rg3.1 rfl (fun _ _=>rfl) (fun _ _=>rfl)).rds _) rfl ?_;simp only[cA,nA];refine d4 ?_;refine Gn rfl ?_;refine d4 ?_;refine Gn rfl ?_;refine x9 (UJ (by decide) (by decide) (by decide) (by decide) (by decide) div3.2 rg3.2) rfl fun K6 k6=> ?_;refine r7 ((JH rg3.2 rg3.2 rfl (fun _ _=>rfl) (fun _ _=>rfl)).rds _) rfl ?_;simp only[cA,nA];refine d4 ?_;refine Gn rfl ?_;refine d4 ?_;refine Gn rfl ?_;refine d4 ?_;refine Gn rfl ?_;refine d4 ?_;exact g8 rfl ⟨l1.trans (le.trans (l15.trans (kk.trans (k5.trans k6)))),rfl⟩
end Go.Proofs.Z
/- Maps whose entries have stamps: mapEntry and entryStore. -/
namespace Go.RX
open Go.RowKit Go.RZ
def StE (es:List (Int×Int×Nat)) (clock:Nat):Prop:=(es.map (·.1)).Nodup/\(es.map (·.2.2)).Nodup/\∀e∈es,e.2.2<clock
def MS (H:PH) (r:Nat) (L:List (Int×Int)):Prop:=∃es clock,H r=some (.map (mE es).toArray clock)/\kv es=L/\StE es clock
def MW (H:PH) (r:Nat) (L:List (Int×Int)) (k:Int) (st:Nat):Prop:=∃es clock j p,H r=some (.map (mE es).toArray clock)/\StE es clock/\es[j]? =some p/\p.2.2=st/\∀v,kv (es.set j (p.1,v,p.2.2))=Dw L k v
theorem MS.mi {H:PH} {r:Nat} {L:List (Int×Int)} (h:MS H r L):MI H (.map (some r)) L:=by
 obtain⟨es,c,h1,h2,h3⟩:=h;refine⟨?_,r,es,c,rfl,h1,h2⟩;have:=h3.1;rw[<-h2];unfold kv;rw[cC];exact this
theorem MS.put {H:PH} {r r':Nat} {L:List (Int×Int)} {ob:Obj} (h:MS H r L) (hr:r≠r'):MS (H.put r' ob) r L:=by
 obtain⟨es,c,h1,h2⟩:=h;exact⟨es,c,by rw[PH.put_ne _ _ hr];exact h1,h2⟩
theorem MS.eq {H:PH} {r:Nat} {L:List (Int×Int)} (h:MS H r L):∃E c,H r=some (.map E c):=by
 obtain⟨es,c,h1,_⟩:=h;exact⟨_,c,h1⟩
section
variable {P:Program} {H:PH} {o:Oper} {x y z:Operand} {T kt et:TypeId}
theorem d8Q {es:List (Int×Int×Nat)} {L:List (Int×Int)} {j:Nat} {p:Int×Int×Nat} (hn:(es.map (·.1)).Nodup) (rO:kv es=L) (hj:es[j]? =some p) (v:Int):kv (es.set j (p.1,v,p.2.2))=Dw L p.1 v:=by
 have qS:p.1∈L.map (·.1):=by
  rw[<-rO];unfold kv;rw[cC];exact aH.2 ⟨p,aI hj,rfl⟩
 unfold Dw;rw[if_pos qS,<-rO];unfold kv;rw[cC];apply cU;intro i;simp only[aO,bS,Function.comp];by_cases e:j=i
 ·subst e;obtain⟨sY,h5⟩:=aC.1 hj;simp[sY,h5]
 ·rw[if_neg e];cases hi:es[i]? with
  |none=>rfl
  |some q=>
   have pT:q.1≠p.1:=fun e2=>e (by
    have l1:=(aC.1 hj).1;refine(gZ (by simpa using l1) hn).1 ?_;rw[aO,aO,hj,hi];simp[e2])
   simp[pT]
theorem UP {es:List (Int×Int×Nat)} {j:Nat} {p:Int×Int×Nat} (hj:es[j]? =some p) (f:MapEntry->MapEntry) (q:Int×Int×Nat) (hf:f ⟨.int .i64 p.1,.int .i64 p.2.1,p.2.2⟩=⟨.int .i64 q.1,.int .i64 q.2.1,q.2.2⟩):(mE es).toArray.modify j f=(mE (es.set j q)).toArray:=by
 rw[<-Array.toList_inj];simp only[Array.toList_modify];apply cU;intro i;simp only[List.getElem?_modify,mE,aO,bS];by_cases e:j=i
 ·subst e;obtain⟨sY,h5⟩:=aC.1 hj;simp[sY,h5,hf]
 ·simp[e]
theorem StE.set {es:List (Int×Int×Nat)} {c j:Nat} {p:Int×Int×Nat} (h:StE es c) (hj:es[j]? =some p) (v:Int):StE (es.set j (p.1,v,p.2.2)) c:=by
 have h1:(es.set j (p.1,v,p.2.2)).map (·.1)=es.map (·.1):=by
  apply cU;intro i;simp only[aO,bS];by_cases e:j=i
  ·subst e;obtain⟨sY,h5⟩:=aC.1 hj;simp[sY,h5]
  ·simp[e]
 have h2:(es.set j (p.1,v,p.2.2)).map (·.2.2)=es.map (·.2.2):=by
  apply cU;intro i;simp only[aO,bS];by_cases e:j=i
  ·subst e;obtain⟨sY,h5⟩:=aC.1 hj;simp[sY,h5]
  ·simp[e]
 refine⟨by rw[h1];exact h.1,by rw[h2];exact h.2.1,fun e he=> ?_⟩;rcases List.mem_or_eq_of_mem_set he with h3|rfl
 ·exact h.2.2 _ h3
 ·exact h.2.2 p (aI hj)
theorem og {vs:List Value} {r:Nat} {L:List (Int×Int)} {k:Int} (ho:o.op= .mapEntry T x y) (hx:g9 [x,y] vs x= .map (some r)) (hy:g9 [x,y] vs y= .int .i64 k) (hu:P.underlying T=some (.map kt et)) (hk:P.underlying kt=some (.int .i64)) (hz:∀w,(zeroValue et).run P w= .ok (.int .i64 0) w)
  (h:MS H r L):Opn P o vs H fun u H'=>∃(old:Int) (st:Nat) (ob:Obj),u= .tuple #[.int .i64 old,.int .i64 st]/\H'=H.put r ob/\MW H' r L k st:=fun w hw=>by
 obtain⟨es,clock,hH,rO,hS⟩:=h;have pZ:o.op.operands.toList=[x,y]:=by simp[ho,Op.operands]
 have hb:=hw _ _ hH;unfold Stp;rw[pZ];simp only[execOp,ho,hx,hy,aG,Instr.mapEntry,run_underlying hu,aE,Iu hb,Ui hk,Instr.findKey,run_underlying hk];rcases yt rO k with⟨h1,h2⟩|⟨j,p,h1,h2,h3⟩
 ·rw[h1];simp only[aE,aT,aG,hz,Qu _ hb];refine⟨_,Step.setB hw hH _,0,clock,_,rfl,rfl,es++[(k,0,clock)],clock+1,es.length,(k,0,clock),?_,⟨?_,?_,?_⟩,by simp,rfl,fun v=> ?_⟩
  ·rw[PH.put_self];simp[mE]
  ·rw[aX,eO];refine⟨hS.1,by simp,fun a ha b hb=> ?_⟩;simp only[aM,cL,aQ]at hb;subst hb;intro e;subst e;refine h2 ?_;rw[<-rO];unfold kv;rw[cC];exact ha
  ·rw[aX,eO];refine⟨hS.2.1,by simp,fun a ha b hb=> ?_⟩;simp only[aM,cL,aQ]at hb;subst hb;intro e;subst e;obtain⟨q,hq,e⟩:=aH.1 ha;have:=hS.2.2 q hq;omega
  ·intro e he;rcases List.mem_append.1 he with he|he
   ·have:=hS.2.2 _ he;omega
   ·simp only[aQ]at he;subst he;simp
  ·rw[List.set_append_right _ _ (Nat.le_refl _)];unfold Dw;rw[if_neg h2,<-rO];simp[kv]
 ·rw[h1];have qA:∀w:World,(Instr.keyThatStays (.int .i64 k) (.int .i64 k)).run P w= .ok (.int .i64 k) w:=fun w=>by simp[Instr.keyThatStays,Instr.sameBits]
  have vT:((mE es).toArray[j]?.map (·.key)).getD (.int .i64 k)= .int .i64 k:=by
   simp[mE,h2,h3]
  have hjb:(((mE es).toArray[j]?.map fun e=>(e.born:Int))).getD 0=(p.2.2:Int):=by
   simp[mE,h2]
  simp only[aE,aT,vT,hjb,aG,qA,Qu _ hb];refine⟨_,Step.setB hw hH _,p.2.1,p.2.2,_,by first|rfl|simp[goInt,mE,h2],rfl,es,clock,j,p,?_,hS,h2,rfl,fun v=> ?_⟩
  ·have hse:es.set j p=es:=by
    apply cU;intro i;rw[bS];split
    ·rename_i e;subst e;rw[if_pos (aC.1 h2).1,h2]
    ·rfl
   rw[PH.put_self,UP h2 _ p (by rw[h3]),hse]
  ·rw[<-h3];exact d8Q hS.1 rO h2 v
theorem oh {vs:List Value} {r st:Nat} {L:List (Int×Int)} {k v:Int} (ho:o.op= .entryStore T x y z) (hx:g9 [x,y,z] vs x= .map (some r)) (hy:g9 [x,y,z] vs y= .int .i64 st) (hz:g9 [x,y,z] vs z= .int .i64 v)
  (h:MW H r L k st):Opn P o vs H fun _ H'=>∃ob,H'=H.put r ob/\MS H' r (Dw L k v):=fun w hw=>by
 obtain⟨es,clock,j,p,hH,hS,hj,hp,hv⟩:=h;have pZ:o.op.operands.toList=[x,y,z]:=by simp[ho,Op.operands]
 have hb:=hw _ _ hH;have hf:(mE es).toArray.findIdx? (fun e=>(e.born:Int)==(st:Int))=some j:=by
  rw[List.findIdx?_toArray,List.findIdx?_eq_some_iff_getElem];obtain⟨pO,h5⟩:=aC.1 hj;refine⟨by simpa[mE]using pO,by simp[mE,h5,hp],fun i hi=> ?_⟩;simp only[mE,List.getElem_map,beq_iff_eq,Bool.not_eq_true];intro e;have e:es[i].2.2=st:=by omega
  have l1:i<es.length:=by omega
  have:=(gZ (i:=i) (j:=j) (by simpa using l1) hS.2.1).1 (by
   rw[aO,aO,hj,List.getElem?_eq_getElem l1];simp[e,hp])
  omega
 unfold Stp;rw[pZ];simp only[execOp,ho,hx,hy,hz,aG,Instr.entryStore,aE,Iu hb,asInt,asIntOf,aT];rw[hf];simp only[aE,aT,aG,Qu _ hb];refine⟨_,Step.setB hw hH _,_,rfl,es.set j (p.1,v,p.2.2),clock,?_,hv v,hS.set hj v⟩;rw[PH.put_self,UP hj _ (p.1,v,p.2.2) rfl]
theorem UQ (ho:o.op= .makeMap T none):Opn P o [] H fun v H'=>∃r,v= .map (some r)/\H r=none/\PH.le H H'/\(∃ob,H'=H.put r ob)/\MS H' r []:=fun w hw=>by
 refine(fi (P:=P) (H:=H) ho w hw).mono ?_;rintro u w' ⟨H',hs,r,hr,rfl,rfl⟩;exact⟨_,hs,r,rfl,hr,PH.le_put hr _,⟨_,rfl⟩,[],0,by rw[PH.put_self];rfl,rfl,dO,dO,by simp⟩
end
end Go.RX

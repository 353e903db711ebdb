/- Lemmas: chapter 32. -/
import Derived.Test.YtmannekkmdockaaGreatDoorGvL
import Derived.WalkKit
import Derived.ProofKit
import Derived.OpenShut
import Derived.ShutString
import Derived.ChangeOld
import Derived.MakeChecks
import Derived.Deep.Slices
import Derived.Deep.Strs
open List renaming getElem?_take->fF,length_drop->eU,size_toArray->iR
open List.Pairwise renaming imp_of_mem->jK
open Nat renaming not_lt_zero->lS,succ_mul->lD
set_option maxRecDepth 100000
namespace Go.Z
open Proofs.Tryz RowKit RX GS RZ
open WD (BP Bt wd rs toI HM sgI Rb)
theorem qq {H0 H H':PH} {α:Type} {e e':TypeId} {sz:Nat} {ce:α->List Value} {v:Value} {l:List α} (qC:e≠e') (h:SO H0 H e sz ce v l) (hp:H'=H\/∃g ob,H0 g=none/\H'=H.put g ob/\(H g=none\/∃cs,H g=some (.cells cs e' (0,0)))):SO H0 H' e sz ce v l:=by
 rcases hp with rfl|⟨g,ob,_,rfl,hg⟩
 ·exact h
 ·obtain⟨h1,h2|⟨g',cap,cur,h2,h3,h4,h5⟩⟩:=h
  ·exact⟨h1,.inl h2⟩
  ·refine⟨h1,.inr ⟨g',cap,cur,h2,h3,?_,h5⟩⟩;rw[PH.put_ne _ _ (fun e=> ?_)]
   ·exact h4
   ·subst e;rcases hg with hg|⟨cs,hg⟩
    ·rw[hg]at h4;cases h4
    ·rw[hg]at h4
     injection h4 with h4
     injection h4 with _ h4 _
     exact qC h4.symm
theorem c6C {H0 H H':PH} {e e':TypeId} {b:Nat} {cs:Array Value} (qC:e≠e') (h:H b=some (.cells cs e (0,0))) (hp:H'=H\/∃g ob,H0 g=none/\H'=H.put g ob/\(H g=none\/∃cs,H g=some (.cells cs e' (0,0)))):H' b=some (.cells cs e (0,0)):=by
 rcases hp with rfl|⟨g,ob,_,rfl,hg⟩
 ·exact h
 ·rw[PH.put_ne _ _ (fun e=> ?_)]
  ·exact h
  ·subst e;rcases hg with hg|⟨cs,hg⟩
   ·rw[hg]at h;cases h
   ·rw[hg]at h
    injection h with h
    injection h with _ h _
    exact qC h.symm
theorem Zp.mapl {α β γ:Type} {R:α->β->Prop} {R':γ->β->Prop} {m:List α} {L:List β} {f:α->γ} (h:Zp R m L) (hR:∀x y,R x y->R' (f x) y):Zp R' (m.map f) L:=by
 refine⟨by rw[aX];exact h.1,fun i s y hs hy=> ?_⟩;rw[bO]at hs;cases e:m[i]? with
 |none=>rw[e]at hs;cases hs
 |some c=>rw[e]at hs;injection hs with hs;subst hs;exact hR _ _ (h.2 i c y e hy)
theorem WM {ρ:List Value} {a b c d e f:SV} {x y z u v w:Value} (h:D prog ρ a=x) (h2:D prog ρ b=y) (h3:D prog ρ c=z) (h4:D prog ρ d=u) (h5:D prog ρ e=v) (h6:D prog ρ f=w):[a,b,c,d,e,f].map (D prog ρ)=[x,y,z,u,v,w]:=by rw[aN,h,BH h2 h3 h4 h5 h6]
def qs (H':PH) (n:Nat) (es:List (Nat×Nat)) (wl:List Int) (lo hi ds:Int) (p:List Int) (r:Value):Prop:=
 (smE n es wl lo hi ds [p]≠0/\r= .tuple #[.slice none 0 0,.slice none 0 0,ii (smE n es wl lo hi ds [p])])\/
 (smE n es wl lo hi ds [p]=0/\∃L:List (List Int×Rat),SitK es n ds.toNat (j6 p)/\To es wl lo hi n ds.toNat (j6 p) L/\
  (((∀y∈L,tok y.2=true)/\∃(pv ov:Value) (m:List Slc),r= .tuple #[pv,ov,ii 0]/\SE H' 1 (fun s:Slc=>[vs s]) pv m/\Zp (fun s y=>SI H' (vs s) y.1) m L/\SE H' 16 shc ov (L.map fun y=>tpr y.2))\/
   ((∃y∈L,tok y.2=false)/\r= .tuple #[.slice none 0 0,.slice none 0 0,ii 6])))
section
variable {H:PH} {u v w wts:Value} {p q wl:List Int} {n:Nat} {es:List (Nat×Nat)} {lo hi ds:Int}
set_option maxHeartbeats 1000000 in
theorem c0D (hT:Tb H) (hw:SG H w es) (hg:GV n es) (hn9:n<=9) (qO:SI H wts wl) (hu:SI H u p):Con prog 13 [gv n w,bv wts lo hi ds,u] H fun r H'=>Pl H H'/\qs H' n es wl lo hi ds p r:=by
 refine i9 mixed c6l ?_;obtain⟨s1,rfl⟩:=Ec hu;unfold qs;refine d4 (t8 hw) ?_;refine d4 (Cj (u0 qO) _ _ _) ?_;refine Me Ba (a:=s1) rfl rfl rfl fun v3 H1 l1 o1 _=> ?_;refine y9 (WI (cont:=Dh H) (hw.mono l1) hg (qO.mono l1) o1.se (fun s hs=>by rw[aL.1 hs];exact(qp hu).mono l1)) rfl fun H2 l2=> ?_;rw[show[s1].map (Dh H)=[p]from by rw[aN,Hn hu];rfl];refine d9 ?_;refine j8 (p:=(smE n es wl lo hi ds [p]≠0)) (bN _ _) (fun h0=> ?_) fun h0=> ?_
 ·exact g6 rfl ⟨l1.trans l2,.inl ⟨h0,rfl⟩⟩
 ·have h0:=bB h0;obtain⟨sN,vQ,hft⟩:=pz h0;have hb:=Ni sN;obtain⟨k,rfl,vM,uM,qS,hL,hU,rX⟩:=Ws (hft p (.head _));have hS:=WJ hg hn9 vM uM qS hL hU;simp only[aV];refine g9 (oy (hu.mono (l1.trans l2)) ⟨fun x hx=>by have:=hL.1 x hx;omega,hL.2⟩) rfl ?_;rintro _ H3 ⟨l3,z,rfl,hz⟩;refine nmI ?_;have l03:=(l1.trans l2).trans l3;refine i8 (i8 ?_);refine g9 (WH (lo:=lo) (hi:=hi) ⟨hT.mono l03,hw.mono l03,hg,qO.mono l03,hb.1,hb.2.2.2.2.2⟩ hz hS) rfl ?_;rintro v6 H5 ⟨l5,L,vC,⟨m,hm,hzp⟩,hLl⟩;refine nmI ?_;have hml:=hzp.1;have l05:=l03.trans l5;refine s8 (α:=Value×Value×Nat) (fun⟨v10,v11,i⟩=>[.slice none 0 0,.slice none 0 0,ii 0,v10,v11,ii (i:Nat)]) (fun⟨v10,v11,i⟩=>fun H'=>i<=m.length/\Pl H5 H'/\SO H5 H' 33 1 (fun s:Slc=>[vs s]) v10 ((m.take i).map (·.1))/\SO H5 H' 58 16 shc v11 ((L.take i).map fun y=>tpr y.2)/\∀y∈L.take i,tok y.2=true) (fun⟨v10,v11,i⟩=>m.length-i) ((.slice none 0 0,.slice none 0 0,0)) rfl (⟨bI _,Pl.refl _,SO.nil _ _ _ _ _,SO.nil _ _ _ _ _,fun y hy=>by cases hy⟩) fun⟨v10,v11,i⟩ H' hQ=> ?_;obtain⟨xB,l6,o10,o11,vA⟩:=hQ;refine j1 Ea (hm.mono l6) ?_;refine d9 (d9 ?_);refine g7 (b:=decide (((i:Nat):Int)<(m.length:Nat))) rfl (fun pX=> ?_) (fun pX=> ?_)
  ·replace pX:=oDt pX;obtain⟨c,hc,_⟩:=m7 (l:=m) (i:=i) aA;obtain⟨y,hy,_⟩:=m7 (l:=L) (i:=i) aA;obtain⟨xX,sF⟩:=hzp.2 i c y hc hy;have hyL:=aG hy;have hlm:(m.take i).length<=65536:=by rw[bM];omega
   have hlL:(L.take i).length<=65536:=by rw[bM];omega
   simp only[cA,nA];refine EA Ea (ws:=[.bool c.2.1,vs c.2.2.1,.bool false,vs c.2.2.2]) ED EE rfl aD rfl rfl rfl rfl rfl aE aE (hm.mono l6) hc rfl aE (fun _ _=>rfl) fun _ _=> ?_;refine g9 (EC (sF.mono l6)) rfl ?_;rintro u17 H7 ⟨l7,a3u⟩;refine nmI ?_;obtain⟨a7,d7,e7,wJ,ht8⟩:=UR y.2;rw[wJ]at a3u;subst a3u;refine i8 (i8 ?_);refine d4 (Dx a7 d7) ?_;refine d9 ?_;refine j8 (p:=(e7≠0)) (bN _ _) (fun he7=> ?_) fun he7=> ?_
   ·have htf:tok y.2=false/\e7=6:=by
     rcases ht8 with⟨_,h,_⟩|h
     ·exact absurd h he7
     ·exact h
    exact g6 rfl ⟨(l05.trans l6).trans l7,.inr ⟨h0,L,hS,vC,.inr ⟨⟨y,hyL,htf.1⟩,by rw[htf.2];rfl⟩⟩⟩
   ·have he7:=bB he7;obtain⟨xW,htp⟩:tok y.2=true/\(a7,d7)=tpr y.2:=by
     rcases ht8 with⟨h,_,h2⟩|⟨_,h⟩
     ·exact⟨h,h2⟩
     ·omega
    have l67:=l6.trans l7;have uY:(m.take (i+1)).map (·.1)=(m.take i).map (·.1)++[c.1]/\((L.take (i+1)).map fun y=>tpr y.2)=((L.take i).map fun y=>tpr y.2)++[(a7,d7)]/\∀z∈L.take (i+1),tok z.2=true:=by
     rw[take_snoc hc,take_snoc hy,aT,aT,htp];refine⟨rfl,rfl,fun z hz=> ?_⟩;rcases aQ.1 hz with hz|hz
     ·exact vA z hz
     ·rw[aL.1 hz];exact xW
    refine⟨?_,?_⟩
    ·simp only[cA,nA];refine Iy Ea cw Tt rfl rfl rfl rfl rfl rfl aE aE (hm.mono l67) hc rfl aE (fun _ _=>rfl) fun _ _=> ?_;refine Ve Ba (a:=c.1) rfl rfl rfl fun b1 qX=> ?_;refine Pj Ba rfl rfl rfl (l67.trans (PH.le_put qX _)) (o10.mono (l7.trans (PH.le_put qX _))) (Pm (l:=[c.1]) (PH.put_self _ _ _) rfl rfl (show 1<=maxLen by decide)) (by rw[aX];show _+1<=_;omega) rfl rfl fun v22 H8 l8 o22 hp8=> ?_;have o11a:=qq aC (o11.mono (l7.trans (PH.le_put qX _))) hp8;refine Ve el_sha (a:=(a7,d7)) rfl rfl rfl fun b2 rE=> ?_;simp only[cA,nA];refine Pj el_sha rfl rfl rfl (l8.trans (PH.le_put rE _)) (o11a.mono (PH.le_put rE _)) (Pm (l:=[(a7,d7)]) (PH.put_self _ _ _) (show(shc (a7,d7)).toArray.toList=_ from aD) (by show(shc (a7,d7)).toArray.size=_;rw[iR,el_sha.len];rfl) (show 1<=maxLen by decide)) (by rw[aX];show _+1<=_;omega) rfl rfl fun v24 H9 l9 o24 hp9=> ?_;exact⟨(v22,v24,i+1),Cg,(WM rfl rfl rfl rfl rfl (i6 rfl aA)),⟨(by show i+1<=_;omega),l9,by show SO H5 H9 _ _ _ v22 ((m.take (i+1)).map (·.1));rw[uY.1];exact qq aC (o22.mono (PH.le_put rE _)) hp9,by show SO H5 H9 _ _ _ v24 ((L.take (i+1)).map _);rw[uY.2.1];exact o24,uY.2.2⟩⟩
    ·simp only[cA,nA];refine Iy Ea cw Tt rfl rfl rfl rfl rfl rfl aE aE (hm.mono l67) hc rfl aE (fun _ _=>rfl) fun _ _=> ?_;refine Ve Ba (a:=c.1) rfl rfl rfl fun b1 qX=> ?_;refine Ve el_sha (a:=(a7,d7)) rfl rfl rfl fun b2 rE=> ?_;have lb:Pl H7 ((H7.put b1 (.cells #[vs c.1] 33 (0,0))).put b2 (.cells (shc (a7,d7)).toArray 58 (0,0))):=(PH.le_put qX _).trans (PH.le_put rE _);refine Pj Ba rfl rfl rfl (l67.trans lb) (o10.mono (l7.trans lb)) ((Pm (l:=[c.1]) (PH.put_self _ _ _) rfl rfl (show 1<=maxLen by decide)).mono (PH.le_put rE _)) (by rw[aX];show _+1<=_;omega) rfl rfl fun v23 H8 l8 o22 hp8=> ?_;have o11a:=qq aC (o11.mono (l7.trans lb)) hp8;have hb8:H8 b2=some (.cells (shc (a7,d7)).toArray 58 (0,0)):=c6C aC (PH.put_self _ _ _) hp8;have ob8:=Pm (sz:=16) (ce:=shc) (l:=[(a7,d7)]) hb8 (show(shc (a7,d7)).toArray.toList=_ from aD) (by show(shc (a7,d7)).toArray.size=_;rw[iR,el_sha.len];rfl) (show 1<=maxLen by decide);simp only[cA,nA];refine Pj el_sha rfl rfl rfl l8 o11a ob8 (by rw[aX];show _+1<=_;omega) rfl rfl fun v24 H9 l9 o24 hp9=> ?_;exact⟨(v23,v24,i+1),Cg,(WM rfl rfl rfl rfl rfl (i6 rfl aA)),⟨(by show i+1<=_;omega),l9,by show SO H5 H9 _ _ _ v23 ((m.take (i+1)).map (·.1));rw[uY.1];exact qq aC o22 hp9,by show SO H5 H9 _ _ _ v24 ((L.take (i+1)).map _);rw[uY.2.1];exact o24,uY.2.2⟩⟩
  ·replace pX:=oDf pX;rw[aF aA]at o10 o11 vA;exact g6 rfl ⟨l05.trans l6,.inr ⟨h0,L,hS,vC,.inl ⟨vA,v10,v11,m.map (·.1),rfl,o10.se,hzp.mapl fun _ _ h=>h.1.mono l6,o11.se⟩⟩⟩
end
theorem d6k {α:Type} {H:PH} {m:List Slc} {L:List (List Int×α)} (h:Zp (fun s y=>SI H (vs s) y.1) m L):m.map (Dh H)=L.map (·.1):=by
 apply bG;intro i;rw[bO,bO];have h1:=h.1;by_cases hi:i<m.length
 ·have a:=aJ hi;have b:=aJ (l:=L) (i:=i) aA;rw[a,b];exact congrArg some (Hn (h.2 i _ _ a b))
 ·rw[aW aA,aW aA];rfl
theorem d9o {r:Rat} (h:tok r=true) (h0:0<r):Rg r:=by
 obtain⟨⟨h1,h2⟩,h3⟩:=oDt h;have hn:=numpos.2 h0;obtain⟨k,hk⟩:∃k,k=511:=⟨_,rfl⟩;have e:HM=2^k:=Go.WD.pow_HM hk;exact⟨k,aA,by rw[<-e];omega,by rw[<-e];omega⟩
theorem WN (n:Nat) (es:List (Nat×Nat)) (wl:List Int) (lo hi ds:Int) (p q:List Int):∃(a b:Nat) (e:Int),goR n es wl lo hi ds p q= .tuple #[shv a b,ii e]:=by
 unfold goR;split
 ·exact⟨_,_,_,rfl⟩
 ·exact bj _
structure e1E (H1 H2:PH) (r r2:Value):Prop where
 ex:∃(pv ov pv2 ov2:Value) (e:Int) (m m2:List Slc) (cont cont2:Slc->List Int) (l:List Rat),r= .tuple #[pv,ov,ii e]/\r2= .tuple #[pv2,ov2,ii e]/\SE H1 1 (fun s:Slc=>[vs s]) pv m/\SE H2 1 (fun s:Slc=>[vs s]) pv2 m2/\
  (∀s∈m,SI H1 (vs s) (cont s))/\(∀s∈m2,SI H2 (vs s) (cont2 s))/\m.map cont=m2.map cont2/\SE H1 16 shc ov (l.map tpr)/\SE H2 16 shc ov2 (l.map tpr)/\∀r∈l,Rg r
theorem d0t {H1 H2:PH} {n:Nat} {es:List (Nat×Nat)} {wl:List Int} {lo hi ds:Int} {p:List Int} {r r2:Value} (h1:Tj H1 n es wl lo hi ds p r) (h2:qs H2 n es wl lo hi ds p r2):e1E H1 H2 r r2:=by
 rcases h1 with⟨h0,rfl⟩|⟨h0,ps,hp,tH,h1⟩
 ·rcases h2 with⟨_,rfl⟩|⟨h0',_⟩
  ·exact⟨_,_,_,_,_,[],[],(fun _=>[]),(fun _=>[]),[],rfl,rfl,SE.nil _ _ _,SE.nil _ _ _,(fun s h=>by cases h),(fun s h=>by cases h),rfl,SE.nil _ _ _,SE.nil _ _ _,fun r h=>by cases h⟩
  ·exact absurd h0' h0
 ·rcases h2 with⟨h0',_⟩|⟨_,L,hS,hL,h2⟩
  ·exact absurd h0 h0'
  ·have a3v:(L.map (·.1)).Pairwise (fun a b=>¬s7 b a<0):=jK (fun{a b} ha hb pX=>by
    obtain⟨y,hy,rfl⟩:=aY.1 ha;obtain⟨z,hz,rfl⟩:=aY.1 hb;have hl:y.1.length=z.1.length:=by rw[hL.lns.len y hy,hL.lns.len z hz]
    have h3:=(Qj hl).1 pX;have h4:=qf y.1 z.1;omega) hL.lns.srt
   have hpe:ps=L.map (·.1):=d0g tH a3v (hp.trans (hS.perm hL));have rH:∀y∈L,vO (Ap es wl lo hi n ds.toNat (j6 p)) (j5 y.1)=y.2:=fun y hy=>by
    rw[hS.val hL (hL.lns.len y hy)];exact Jr hL.lns.nd (show(y.1,y.2)∈L from hy)
   have a1z:(ps.map fun q=>tpr (vO (Ap es wl lo hi n ds.toNat (j6 p)) (j5 q)))=(L.map (·.2)).map tpr:=by
    rw[hpe,cZ,cZ];exact bW fun y hy=>by show tpr (vO _ (j5 y.1))=tpr y.2;rw[rH y hy]
   rcases h1 with⟨ht,pv,ov,m,cont,rfl,a1,a2,a3,a4⟩|⟨⟨q,hq,htf⟩,rfl⟩
   ·rcases h2 with⟨_,pv2,ov2,m2,rfl,b1,b2,b3⟩|⟨⟨y,hy,htf⟩,_⟩
    ·refine⟨pv,ov,pv2,ov2,0,m,m2,cont,Dh H2,L.map (·.2),rfl,rfl,a1,b1,a3,fun s hs=> ?_,by rw[a2,hpe,d6k b2],by rw[<-a1z];exact a4,by rw[cZ];exact b3,fun x hx=> ?_⟩
     ·obtain⟨i,hi⟩:=cN.1 hs;have pX:=(aH.1 hi).1;have:=b2.2 i s _ hi (aJ (l:=L) (i:=i) (by have:=b2.1;omega));exact qp this
     ·obtain⟨y,hy,rfl⟩:=aY.1 hx;have:=ht y.1 (by rw[hpe];exact aY.2 ⟨y,hy,rfl⟩);rw[rH y hy]at this;exact d9o this (hL.lns.pos y hy)
    ·have:=ht y.1 (by rw[hpe];exact aY.2 ⟨y,hy,rfl⟩);rw[rH y hy,htf]at this;cases this
   ·rcases h2 with⟨ht,_⟩|⟨_,rfl⟩
    ·rw[hpe]at hq;obtain⟨y,hy,rfl⟩:=aY.1 hq;rw[rH y hy,ht y hy]at htf;cases htf
    ·exact⟨_,_,_,_,_,[],[],(fun _=>[]),(fun _=>[]),[],rfl,rfl,SE.nil _ _ _,SE.nil _ _ _,(fun s h=>by cases h),(fun s h=>by cases h),rfl,SE.nil _ _ _,SE.nil _ _ _,fun r h=>by cases h⟩
theorem d0u {H:PH} {n:Nat} {es:List (Nat×Nat)} {wl:List Int} {lo hi ds:Int} {p:List Int} {r:Value} (h:Tj H n es wl lo hi ds p r):∃(a b:Value) (e:Int),r= .tuple #[a,b,ii e]:=by
 rcases h with⟨_,rfl⟩|⟨_,_,_,_,⟨_,_,_,_,_,rfl,_⟩|⟨_,rfl⟩⟩
 ·exact⟨_,_,_,rfl⟩
 ·exact⟨_,_,_,rfl⟩
 ·exact⟨_,_,_,rfl⟩
theorem d0v {H:PH} {n:Nat} {es:List (Nat×Nat)} {wl:List Int} {lo hi ds:Int} {p:List Int} {r:Value} (h:qs H n es wl lo hi ds p r):∃(a b:Value) (e:Int),r= .tuple #[a,b,ii e]:=by
 rcases h with⟨_,rfl⟩|⟨_,_,_,_,⟨_,_,_,_,rfl,_⟩|⟨_,rfl⟩⟩
 ·exact⟨_,_,_,rfl⟩
 ·exact⟨_,_,_,rfl⟩
 ·exact⟨_,_,_,rfl⟩
theorem WO {a b c d:Value} {x y:Int} (h:Value.tuple #[a,b,ii x]= .tuple #[c,d,ii y]):a=c/\b=d/\x=y:=by simpa[ii]using h
abbrev yP (x:Nat):SV:= .cat (.ag (.pj (.v x) 0)) 2 (.cat (.ag (.pj (.v x) 1)) 4 (.pj (.v x) 2))
abbrev yS:SV:= .sub (.put (.put (.z 47) 0 7 (yP 5) 0 noI) 7 7 (yP 6) 0 noI) 0 7 7 (.v 10)
theorem e1F:(r8 prog 47).cells.size=14:=aB
theorem WP {ρ:List Value} {A B I:SV} {n n':Nat} {w wts s w' wts' s':Value} {lo hi k lo' qB k':Int} {i:Nat} (hA:D prog ρ A=yv n w wts lo hi k s) (hB:D prog ρ B=yv n' w' wts' lo' qB k' s') (hI:D prog ρ I=ii (i:Nat)) (tA:i<2):
  D prog ρ (.sub (.put (.put (.z 47) 0 7 A 0 noI) 7 7 B 0 noI) 0 7 7 I)=if i=0 then yv n w wts lo hi k s else yv n' w' wts' lo' qB k' s':=by
 show Value.agg ((Value.agg (spl (Value.agg (spl (r8 prog 47).cells (0+0*t6 (D prog ρ noI)) (D prog ρ A).cells.toList)).cells (7+0*t6 (D prog ρ noI)) (D prog ρ B).cells.toList)).cells.extract (0+7*t6 (D prog ρ I)) (0+7*t6 (D prog ρ I)+7))=_;rw[hA,hB,hI,cD,eF,eF,bK,show t6 (ii (i:Nat))=i from aV i,Fj,Fj];have hz:=e1F;generalize (r8 prog 47).cells=Z at hz;have e0:(yv n w wts lo hi k s).cells.toList.length=7:=rfl;have e1:(yv n' w' wts' lo' qB k' s').cells.toList.length=7:=rfl;rcases(show i=0\/i=1 by omega)with rfl|rfl
 ·rw[if_pos rfl,Nat.mul_zero];have:(spl (spl Z 0 (yv n w wts lo hi k s).cells.toList) 7 (yv n' w' wts' lo' qB k' s').cells.toList).extract 0 (0+7)=(yv n w wts lo hi k s).cells:=by
   rw[<-cI,RI,d5j _ _ _ _ _ aA];have:=RH (yv n w wts lo hi k s).cells.toList Z 0 (by rw[e0,hz];omega);rw[e0]at this;exact this
  rw[this];rfl
 ·rw[if_neg aA,dN];have:(spl (spl Z 0 (yv n w wts lo hi k s).cells.toList) 7 (yv n' w' wts' lo' qB k' s').cells.toList).extract 7 (7+7)=(yv n' w' wts' lo' qB k' s').cells:=by
   rw[<-cI,RI];have:=RH (yv n' w' wts' lo' qB k' s').cells.toList (spl Z 0 (yv n w wts lo hi k s).cells.toList) 7 (by rw[e1,RG,hz];omega);rw[e1]at this;exact this
  rw[this];rfl
theorem d0w {H:PH} {n:Nat} {w:Value} {es:List (Nat×Nat)} (hw:SG H w es):Asks prog 11 [gv n w] H (.bool (decide ((n:Int)<=9))):=by
 refine i9 mixed d6e ?_;refine d4 (t8 hw) ?_;refine d9 ?_;exact g6 rfl ⟨rfl,rfl⟩
section
variable {H:PH} {s wv cu rv:Value} {more:List (Nat×Nat)} {wl0 cuts:List Nat} {raw:List Int} {da db dc dk s0 s1 tr bw ba at0:Nat} {bz:Int}
set_option maxHeartbeats 4000000 in
theorem d6l (hT:Tb H) (a3w:Ae prog 7 [] H (.bool true)) (hs:SE H 2 bc s more) (hwv:SE H 1 c8 wv wl0) (hcu:SE H 1 c8 cu cuts) (wS:∀c∈cuts,c<256) (wG:tr<256) (hba:ba<256) (hrv:SI H rv raw) (hat:at0<65536):
  Con prog 3 [cv da db dc s wv cu dk s0 s1 tr,bn bw ba bz,rv,.int .u16 (at0:Nat)] H fun r H'=>Pl H H'/\r= .bool true:=by
 refine i9 mixed d9e ?_;refine d4 (QX (u0 hs) (u0 hwv) (u0 hcu) _ _ _ _ _ _ _) ?_;refine d4 ⟨rfl,fun c hc=>by rw[show D prog _ _=bn bw ba bz from rfl,bn,Fj]at hc;simp only[aP,bP,or_false]at hc;rcases hc with rfl|rfl|rfl<;>rfl⟩ ?_;refine y9 (a3w) rfl fun H1 l1=> ?_;refine d9 ?_;refine r9 rfl ?_;refine g9 (c0k (hs.mono l1) (hwv.mono l1) (hcu.mono l1) wS wG) rfl ?_;rintro _ H2 ⟨l2,n,w,es,wts,wl,lo,hi,k,u,p,rfl,hw,hg,hn9,hC,qO,zC,vM,hk4,hu,qS,hp8⟩;refine nmI ?_;have vV:=hg.n1;refine i8 (i8 (i8 ?_));refine d4 (t8 hw) ?_;refine d4 (Cj (u0 qO) _ _ _) ?_;refine g9 (c9J (x:=bw) (z:=bz) hba hw hg qO hu aA aA aA aA) rfl ?_;rintro _ H3 ⟨l3,w',es',wts',wl',lo',qB,k',u',p',rfl,rP,hg',a3x,hu',a7h,a7i⟩;refine nmI ?_;refine i8 (i8 (i8 ?_));refine d4 (t8 rP) ?_;refine d4 (Cj (u0 a3x) _ _ _) ?_;have l13:=(l1.trans l2).trans l3;refine s6 (Zw rP hg') rfl ?_;refine d9 ?_;refine d4 rfl ?_;refine s6 (d0w (n:=n) rP) rfl ?_;refine d9 ?_;refine d4 (by show Value.bool (!decide ((n:Int)<=9))=_;rw[oDd aA];rfl) ?_;obtain⟨su,rfl⟩:=Ec hu;obtain⟨su',rfl⟩:=Ec hu';refine d4 hu.one ?_;refine d4 hu'.one ?_;have a3y:=hrv.mono l13;have a6q:(if(12:Int)<(raw.length:Nat)then(12:Int)else(raw.length:Nat))=((min raw.length 12:Nat):Int):=by split<;>omega
 obtain⟨ur,hyr,hsr⟩:=LF el_plan (vs:=[rv,ii ((min raw.length 12:Nat):Int)]) (k:= .i64) (j:=min raw.length 12) b6x rfl rfl a3y aA;obtain⟨sr,rfl⟩:=Ec hsr;have hw3:=hw.mono l3;have a6r:=qO.mono l3;have uK:=hu.mono l3;have hT3:=hT.mono l13;refine s8 (α:=Nat) (fun i=>[.bool false,ii (i:Nat),cv da db dc s wv cu dk s0 s1 tr,bn bw ba bz,gv n w,bv wts lo hi (k:Nat),gv n w',bv wts' lo' qB k']) (fun i=>fun H'=>Pl H3 H'/\i<=2) (fun i=>2-i) (0) rfl (⟨Pl.refl _,bI _⟩) fun i H5 hQ5=> ?_;obtain⟨l5,tA⟩:=hQ5;simp only[cA,nA];refine d9 ?_;refine g7 (b:=decide (((i:Nat):Int)<2)) rfl (fun h=> ?_) (fun h=> ?_)
 ·replace h:=oDt h;have tA:i<2:=aA;refine d4 ⟨_,_,rfl⟩ ?_;refine d4 ⟨by show(0:Int)<=((i:Nat):Int);omega,by show((i:Nat):Int)<2;omega⟩ ?_;obtain⟨w2,es2,wts2,wl2,lo2,wW,k2,s2,p2,hY,zS,xR,uV,wX⟩:∃(w2:Value) (es2:List (Nat×Nat)) (wts2:Value) (wl2:List Int) (lo2 tA k2:Int) (s2:Slc) (p2:List Int),(∀ρ:List Value,D prog ρ (.v 5)= .tuple #[gv n w,bv wts lo hi (k:Nat),vs su]->D prog ρ (.v 6)= .tuple #[gv n w',bv wts' lo' qB k',vs su']->D prog ρ (.v 10)=ii (i:Nat)->D prog ρ yS=yv n w2 wts2 lo2 tA k2 (vs s2))/\SG H3 w2 es2/\GV n es2/\SI H3 wts2 wl2/\SI H3 (vs s2) p2:=by
   have hA:∀ρ:List Value,D prog ρ (.v 5)= .tuple #[gv n w,bv wts lo hi (k:Nat),vs su]->D prog ρ (yP 5)=yv n w wts lo hi (k:Nat) (vs su):=fun ρ h1=>RF (by show Gw 0 (D prog ρ (.v 5))=_;rw[h1];rfl) (by show Gw 1 (D prog ρ (.v 5))=_;rw[h1];rfl) (by show Gw 2 (D prog ρ (.v 5))=_;rw[h1];rfl) rfl;have hB:∀ρ:List Value,D prog ρ (.v 6)= .tuple #[gv n w',bv wts' lo' qB k',vs su']->D prog ρ (yP 6)=yv n w' wts' lo' qB k' (vs su'):=fun ρ h1=>RF (by show Gw 0 (D prog ρ (.v 6))=_;rw[h1];rfl) (by show Gw 1 (D prog ρ (.v 6))=_;rw[h1];rfl) (by show Gw 2 (D prog ρ (.v 6))=_;rw[h1];rfl) rfl;rcases(show i=0\/i=1 by omega)with h0|h0
   ·exact⟨w,es,wts,wl,lo,hi,_,su,p,(fun ρ a b e=>by rw[WP (hA ρ a) (hB ρ b) e tA,if_pos h0]),hw3,hg,a6r,uK⟩
   ·exact⟨w',es',wts',wl',lo',qB,k',su',p',(fun ρ a b e=>by rw[WP (hA ρ a) (hB ρ b) e tA,if_neg aA]),rP,hg',a3x,hu'⟩
  refine d4 (by show(D prog _ yS).cells.size=7/\o0 (D prog _ yS).cells;rw[hY _ rfl rfl rfl];exact⟨rfl,fun c hc=>by rw[yv,Fj]at hc;simp only[aP,bP,or_false]at hc;rcases hc with rfl|rfl|rfl|rfl|rfl|rfl|rfl;exact rfl;exact u0 zS;exact u0 uV;exact rfl;exact rfl;exact rfl;exact rfl⟩) ?_;refine g9 (CZ (lo:=lo2) (hi:=wW) (ds:=k2) (hT3.mono l5) (zS.mono l5) xR (uV.mono l5) (wX.mono l5)) (Bo (Wb (hY _ rfl rfl rfl)) (Wc (hY _ rfl rfl rfl)) (We (hY _ rfl rfl rfl))) ?_;rintro v17 H6 ⟨l6,hO⟩;refine nmI ?_;obtain⟨x1,x2,x3,rfl⟩:=d0u hO;have k6:=l5.trans l6;refine i8 (i8 (i8 ?_));refine g9 (c0D (lo:=lo2) (hi:=wW) (ds:=k2) (hT3.mono k6) (zS.mono k6) xR hn9 (uV.mono k6) (wX.mono k6)) (Bo (Wb (hY _ rfl rfl rfl)) (Wc (hY _ rfl rfl rfl)) (We (hY _ rfl rfl rfl))) ?_;rintro v18 H7 ⟨l7,hR⟩;refine nmI ?_;obtain⟨y1,y2,y3,rfl⟩:=d0v hR;obtain⟨pv,ov,pv2,ov2,e,m,m2,cont,cont2,l,e1,e2,a1,a2,a3,a4,a5,a6,a7,a8⟩:=(d0t hO hR).ex;obtain⟨rfl,rfl,rfl⟩:=WO e1;obtain⟨rfl,rfl,rfl⟩:=WO e2;have k7:=k6.trans l7;refine i8 (i8 (i8 ?_));simp only[cA,nA];refine s6 (UY (a1.mono l7) a2 (fun s hs=>(a3 s hs).mono l7) a4) rfl ?_;refine d9 ?_;refine r9 (by show Value.bool (!decide (m.map cont=m2.map cont2))=_;rw[a5,oDd rfl];rfl) ?_;refine s6 (UZ (a6.mono l7) a7 a8 a8) rfl ?_;simp only[cA,nA];refine d9 ?_;refine r9 (by show Value.bool (!decide True)=_;rfl) ?_;refine d9 (d9 ?_);refine r9 (BJ rfl rfl) ?_;refine j1 el_plan (a3y.mono k7) ?_;refine j7 ((zn (vs:=[ii (raw.length:Nat),ii 12]) rfl rfl rfl).rds _) rfl ?_;rw[a6q];refine j7 (hyr.rds _) rfl ?_;refine Fp Ba (N:=2) (l:=[su',sr]) (vs:=[vs su',vs sr]) rfl aC aC rfl rfl rfl fun v24 H8 l8 o8 _=> ?_;have k8:=k7.trans l8;have hgo:∀(t:Slc),(∃q,SI H7 (vs t) q)->∃q,SI H7 (vs t) q:=fun t h=>h;have qP:∀t∈[su',sr],∃q,SI H7 (vs t) q:=fun t ht=>by
   rcases aP.1 ht with rfl|ht
   ·exact⟨_,hu'.mono k7⟩
   ·rw[aL.1 ht];exact⟨_,hsr.mono k7⟩
  refine j1 Ba (a2.mono l8) ?_;refine d9 ?_;refine g7 (b:=decide (((m2.length:Nat):Int)>0)) rfl (fun h3=> ?_) (fun h3=> ?_)
  ·replace h3:=oDt h3;refine d9 ?_;refine j1 Ba (a2.mono l8) ?_;refine d9 ?_;refine d4 (show((m2.length:Nat):Int)≠0 by omega) ?_;have hjm:at0%m2.length<m2.length:=cO _ aA;obtain⟨sj,hsj,_⟩:=m7 hjm;have a6s:∃q,SI H7 (vs sj) q:=⟨_,a4 sj (aG hsj)⟩;simp only[cA,nA];refine Ey Ba rfl rfl rfl rfl aE (a2.mono l8) hsj (i7 rfl (by show Value.int .i64 (Int.tmod (IntKind.i64.wrap ((at0:Nat):Int)) ((m2.length:Nat):Int))=Value.int .i64 ((at0%m2.length:Nat):Int);rw[show IntKind.i64.wrap ((at0:Nat):Int)=((at0:Nat):Int) by rw[IntKind.wrap_i64];omega,<-Int.ofNat_tmod])) aE fun _=> ?_;refine Me Ba (a:=sj) rfl rfl rfl fun v29 H9 l9 o9 _=> ?_;refine Kr Ba rfl rfl rfl (l8.trans l9) (o8.mono l9) o9.se (by show 2+1<=68719476736;decide) rfl rfl fun v30 H10 l10 o10 _=> ?_;have k10:=k7.trans l10;refine Ji Ba rfl rfl o10.se rfl ?_;have a6t:∀t∈[su',sr]++[sj],∃q,SI H7 (vs t) q:=fun t ht=>by
    rcases aQ.1 ht with ht|ht
    ·exact qP t ht
    ·rw[aL.1 ht];exact a6s
   refine s8 (α:=Nat) (fun j=>[.bool false,ii (j:Nat)]) (fun j=>fun H'=>Pl H10 H'/\j<=3) (fun j=>3-j) (0) rfl (⟨Pl.refl _,bI _⟩) fun j H11 a2a=> ?_;obtain⟨l11,hj⟩:=a2a;refine d9 (d9 ?_);refine g7 (b:=decide (((j:Nat):Int)<3)) rfl (fun h4=> ?_) (fun h4=> ?_)
   ·replace h4:=oDt h4;obtain⟨st,qI,_⟩:=m7 (l:=[su',sr]++[sj]) (i:=j) (by show j<3;omega);obtain⟨q,hq⟩:=a6t st (aG qI);have k11:=k10.trans l11;simp only[cA,nA];refine j4 Ba (o10.se.mono l11) qI fun _=> ?_;refine g9 (qc (lo:=lo2) (hi:=wW) (ds:=k2) (hT3.mono k11) (zS.mono k11) xR (uV.mono k11) (wX.mono k11) (hq.mono (l10.trans l11))) (Hz (Wb (hY _ rfl rfl rfl)) (Wc (hY _ rfl rfl rfl)) (We (hY _ rfl rfl rfl)) rfl) ?_;rintro v36 H12 ⟨l12,a0r⟩;refine nmI ?_;obtain⟨ga,gb,ge,wB⟩:=WN n es2 wl2 lo2 wW k2 p2 q;rw[wB]at a0r;subst a0r;refine i8 (i8 ?_);refine d4 (Dx ga gb) ?_;have k12:=k11.trans l12;simp only[cA,nA];refine g9 (WL (lo:=lo2) (hi:=wW) (ds:=k2) (hT3.mono k12) (zS.mono k12) xR hn9 (uV.mono k12) (wX.mono k12) (hq.mono ((l10.trans l11).trans l12))) (Hz (Wb (hY _ rfl rfl rfl)) (Wc (hY _ rfl rfl rfl)) (We (hY _ rfl rfl rfl)) rfl) ?_;rintro v37 H13 ⟨l13',a0s⟩;refine nmI ?_;rw[wB]at a0s;subst a0s;refine i8 (i8 ?_);refine d4 (Dx ga gb) ?_;simp only[cA,nA];refine j7 ((KY (a:=ga) (b:=gb) rfl (fun _ _=>rfl) (fun _ _=>rfl)).rds _) rfl ?_;refine d9 ?_;refine r9 rfl ?_;refine d9 (d9 ?_);refine r9 (BJ rfl rfl) ?_;exact⟨j+1,Cg,(i7 rfl (i6 rfl aA)),⟨(l11.trans l12).trans l13',aA⟩⟩
   ·replace h4:=oDf h4;exact⟨i+1,Cg,(RJ rfl (i6 rfl aA) rfl rfl rfl rfl rfl rfl),⟨(k10.trans l11),aA⟩⟩
  ·replace h3:=oDf h3;refine Ji Ba rfl rfl o8.se rfl ?_;refine s8 (α:=Nat) (fun j=>[.bool false,ii (j:Nat)]) (fun j=>fun H'=>Pl H8 H'/\j<=2) (fun j=>2-j) (0) rfl (⟨Pl.refl _,bI _⟩) fun j H11 a2a=> ?_;obtain⟨l11,hj⟩:=a2a;refine d9 (d9 ?_);refine g7 (b:=decide (((j:Nat):Int)<2)) rfl (fun h4=> ?_) (fun h4=> ?_)
   ·replace h4:=oDt h4;obtain⟨st,qI,_⟩:=m7 (l:=[su',sr]) (i:=j) (by show j<2;omega);obtain⟨q,hq⟩:=qP st (aG qI);have k11:=k8.trans l11;simp only[cA,nA];refine j4 Ba (o8.se.mono l11) qI fun _=> ?_;refine g9 (qc (lo:=lo2) (hi:=wW) (ds:=k2) (hT3.mono k11) (zS.mono k11) xR (uV.mono k11) (wX.mono k11) (hq.mono (l8.trans l11))) (Hz (Wb (hY _ rfl rfl rfl)) (Wc (hY _ rfl rfl rfl)) (We (hY _ rfl rfl rfl)) rfl) ?_;rintro v36 H12 ⟨l12,a0r⟩;refine nmI ?_;obtain⟨ga,gb,ge,wB⟩:=WN n es2 wl2 lo2 wW k2 p2 q;rw[wB]at a0r;subst a0r;refine i8 (i8 ?_);refine d4 (Dx ga gb) ?_;have k12:=k11.trans l12;simp only[cA,nA];refine g9 (WL (lo:=lo2) (hi:=wW) (ds:=k2) (hT3.mono k12) (zS.mono k12) xR hn9 (uV.mono k12) (wX.mono k12) (hq.mono ((l8.trans l11).trans l12))) (Hz (Wb (hY _ rfl rfl rfl)) (Wc (hY _ rfl rfl rfl)) (We (hY _ rfl rfl rfl)) rfl) ?_;rintro v37 H13 ⟨l13',a0s⟩;refine nmI ?_;rw[wB]at a0s;subst a0s;refine i8 (i8 ?_);refine d4 (Dx ga gb) ?_;simp only[cA,nA];refine j7 ((KY (a:=ga) (b:=gb) rfl (fun _ _=>rfl) (fun _ _=>rfl)).rds _) rfl ?_;refine d9 ?_;refine r9 rfl ?_;refine d9 (d9 ?_);refine r9 (BJ rfl rfl) ?_;exact⟨j+1,Cg,(i7 rfl (i6 rfl aA)),⟨(l11.trans l12).trans l13',aA⟩⟩
   ·replace h4:=oDf h4;exact⟨i+1,Cg,(RJ rfl (i6 rfl aA) rfl rfl rfl rfl rfl rfl),⟨(k8.trans l11),aA⟩⟩
 ·replace h:=oDf h;exact g6 rfl ⟨l13.trans l5,rfl⟩
end
end Go.Z
namespace Go.OP
open ChangeShapes WideShapes ChangeAt RowKit RX
theorem d6m {P:Program} {f:FuncId} {args:List Value} {H:PH} {W:World} (h:Con P f args H fun v H'=>v= .bool true/\Pl H H') (hW:H.In W):Calls P f args.toArray W fun e W'=>e= .returned (.bool true)/\Below W.heap.size W W':=
 (h W hW).mono fun _ _ ⟨_,_,he,hs,hv,hl⟩=>⟨by rw[he,hv],(hs.toExt hW hl).os,(hs.toExt hW hl).tape,(hs.toExt hW hl).output,(hs.toExt hW hl).size,(hs.toExt hW hl).blk⟩
theorem b2X {w:World} {a:Addr} {v:Value} (h:w.cell? a=some v):∃b q cs T fz,a=⟨b,q,none⟩/\w.heap[b]? =some (.cells cs T fz)/\cs[q]? =some v:=by
 obtain⟨b,q,sp⟩:=a;unfold World.cell? at h;split at h
 ·rename_i c T fz hh;cases sp with
  |some s=>simp at h
  |none=>exact⟨b,q,c,T,fz,rfl,hh,by simpa using h⟩
 ·cases h
theorem c6D {a:Addr} {b q:Nat} (h:a.add 0=⟨b,q,none⟩):a=⟨b,q,none⟩:=by
 obtain⟨b',q',sp⟩:=a;cases sp with
 |none=>rw[Jv]at h;simpa using h
 |some s=>unfold Addr.add at h;split at h<;>simp_all
theorem d9p {n:Int} (h:(Lit.int .u8 n).wf=true):∃m:Nat,n=(m:Int)/\m<256:=by
 have:=bounds_u8 h;exact⟨n.toNat,aA,aA⟩
theorem WQ {n:Int} (h:(Lit.int .u16 n).wf=true):∃m:Nat,n=(m:Int)/\m<65536:=by
 have:=bounds_u16 h;exact⟨n.toNat,aA,aA⟩
theorem okWide_struct {P:Program} {w:World} {r:Reach} {base:Nat} {t:TypeId} {fs:Array Field} {v:Value} (ht:P.underlying t=some (.struct fs)) (h:Value.okWide P w r base t v):∃cs,v= .agg cs:=by
 simp only[Value.okWide,ht]at h;obtain⟨cs,h1,_⟩:=h;exact⟨cs,h1⟩
theorem okWide_slice {P:Program} {w:World} {r:Reach} {base:Nat} {t e:TypeId} {v:Value} (ht:P.underlying t=some (.slice e)) (h:Value.okWide P w r base t v):v.cells.toList=[v]:=by
 simp only[Value.okWide,ht]at h;cases v<;>simp_all[Value.cells,Cell.okWide,Cell.ok]
section
variable {Hh:Type} {enc:TypeId×Value->Hh} {W:World} {base:Nat} {spare:Nat->Bool} {tD:Bool} {fuel:Nat} {P:Program}
theorem c0E {w:World} {b q j:Nat} {cs:Array Value} {T:TypeId} {fz:Nat×Nat} {v:Value} (hb:w.heap[b]? =some (.cells cs T fz)) (h:w.cell? ((⟨b,q,none⟩:Addr).add j)=some v):cs[q+j]? =some v:=by
 rw[Jv]at h;simp only[World.cell?,hb]at h;exact h
theorem EH {t e:TypeId} {sz:Nat} {cs:List Value} {x:DataW Hh×List MemPlace} (ht:P.underlying t=some (.slice e)) (hc:P.cellsOf e=sz) (rR:0<sz) (h:DataW.trod enc P W base spare tD fuel t cs=some x):
  ∃w n xs,cs=[w]/\Sl (fun b=>W.heap[b]?) sz w n xs/\∀i,i<n->∃y m,DataW.trod enc P W base spare tD m e ((xs.drop (i*sz)).take sz)=some y:=by
 rcases Go.Deep.open_slice ht h with⟨rfl,_⟩|⟨a,len,cap,m,n,D,Pl,rfl,_,hlc,uC,hm,_,hV⟩
 ·exact⟨_,0,[],rfl,⟨aD,none,0,rfl,aA,by simp[maxLen],.inl rfl⟩,fun i hi=>absurd hi (lS _)⟩
 ·have hlm:len<=m:=by rw[hm];split<;>omega
  rw[hc]at hV;by_cases h0:len=0
  ·subst h0;exact⟨_,0,[],rfl,⟨aD,a,cap,rfl,aA,uC,.inl rfl⟩,fun i hi=>absurd hi (lS _)⟩
  ·obtain⟨c0,g1,_⟩:=hV 0 aA;obtain⟨_,glen,gcell⟩:=World.cells?_some g1;have wZ:=gcell 0 rR;rw[aJ aA]at wZ;rw[cD,Go.Deep.add_add]at wZ;obtain⟨b,q,bc,T,fz,ha,hb,_⟩:=b2X wZ;have ha:=c6D ha;subst ha;have key:∀i,i<len->∃ci,ci.length=sz/\(∀j,j<sz->bc[q+(i*sz+j)]? =ci[j]?)/\DataW.trod enc P W base spare tD n e ci=some (D i,Pl i):=fun i hi=>by
    obtain⟨ci,k1,k2⟩:=hV i aA;obtain⟨_,klen,kcell⟩:=World.cells?_some k1;refine⟨ci,klen,fun j hj=> ?_,k2⟩;have:=kcell j hj;rw[aJ aA]at this⊢;rw[Go.Deep.add_add]at this;exact c0E hb this
   have a6x:q+len*sz<=bc.size:=by
    obtain⟨ci,klen,kcell,_⟩:=key (len-1) aA;have:=kcell (sz-1) aA;rw[aJ aA]at this;have:=(Array.getElem?_eq_some_iff.1 this).1;have e1:(len-1)*sz+sz=len*sz:=by rw[<-lD];congr 1;omega
    omega
   refine⟨_,len,(bc.toList.drop q).take (len*sz),rfl,⟨?_,_,cap,rfl,hlc,uC,.inr ⟨b,q,bc,T,fz,rfl,hb,rfl⟩⟩,fun i hi=> ?_⟩
   ·rw[bM,eU,dC];omega
   ·obtain⟨ci,klen,kcell,k2⟩:=key i hi;refine⟨(D i,Pl i),n,?_⟩;rw[<-k2];congr 1;have pY:(i+1)*sz<=len*sz:=bL _ hi;rw[cK,cM]at pY;apply bG;intro j;rw[fF];split
    ·rename_i hj;rw[cS,fF,if_pos aA,cS,cT,kcell j hj]
    ·rename_i hj;rw[aW aA]
theorem Ij {t:TypeId} {cs:List Value} {x:DataW Hh×List MemPlace} {k T o c:Nat} (i:Nat) (ht:P.underlying t=some (.struct (fieldsOf P t))) (hk:(fieldsOf P t).size=k) (hi:i<k) (hT:(fieldAt P t i).type=T) (ho:(fieldAt P t i).offset=o) (hc:P.cellsOf T=c) (h:DataW.trod enc P W base spare tD fuel t cs=some x):
  ∃y n,DataW.trod enc P W base spare tD n T ((cs.drop o).take c)=some y:=by
 obtain⟨xs,n,_,rfl,hl,qD,hf⟩:=DataW.trod_struct ht h;have hfi:(fieldsOf P t)[i]? =some (fieldAt P t i):=by
  unfold fieldAt;rw[dU aA];rfl
 have:=hf i _ hfi;rw[hT,ho,hc]at this;rw[aJ aA]at this;exact⟨_,n,this⟩
theorem EI {α:Type} {H:PH} {sz:Nat} {ce:α->List Value} {p:α->Prop} {w:Value}:∀{n:Nat} {xs:List Value},Sl H sz w n xs->(∀i,i<n->∃a,(xs.drop (i*sz)).take sz=ce a/\p a)->∃l:List α,SE H sz ce w l/\∀a∈l,p a:=by
 intro n xs h hc;have key:∀(n:Nat) (xs:List Value),xs.length=n*sz->(∀i,i<n->∃a,(xs.drop (i*sz)).take sz=ce a/\p a)->∃l:List α,l.length=n/\xs=l.flatMap ce/\∀a∈l,p a:=by
  intro n;induction n with
  |zero=>intro xs hl _;exact⟨[],rfl,aI (by simpa using hl),fun a ha=>by cases ha⟩
  |succ n ih=>
   intro xs hl hc;rw[lD]at hl;obtain⟨a,h1,h2⟩:=hc 0 aA;rw[cD,cH]at h1;obtain⟨l,l1,l2,l3⟩:=ih (xs.drop sz) (by rw[eU];omega) fun i hi=>by
    obtain⟨b,g1,g2⟩:=hc (i+1) aA;exact⟨b,by rw[List.drop_drop,<-g1];congr 2;rw[lD];omega,g2⟩
   exact⟨a::l,by simp[l1],by rw[eA,<-l2,<-h1,List.take_append_drop],fun b hb=>by
    rcases aP.1 hb with rfl|hb
    ·exact h2
    ·exact l3 b hb⟩
 obtain⟨l,l1,l2,l3⟩:=key n xs h.1 hc;subst l1;subst l2;exact⟨l,h,l3⟩
end
open Go.ChangeShapes Go.WideShapes Go.ChangeAt Go.RowKit Go.RX
theorem b4P {H:Type} {enc:TypeId×Value->H} {P:Program} {W:World} {base:Nat} {sp:Nat->Bool} {tD:Bool} {fuel n:Nat} {t e:TypeId} {k:IntKind} {cs:List Value} {vals:List Int} {q:List MemPlace}
  (hu:P.underlying t=some (.array n e)) (he:P.underlying e=some (.int k)) (hc:P.cellsOf e=1) (hct:P.cellsOf t=n) (h:DataW.trod enc P W base sp tD fuel t cs=some (.agg (vals.map fun n=> .lit (.int k n)),q)):cs=vals.map fun n=> .int k n:=by
 obtain⟨xs,m,_,hx,hl,uX,hi⟩:=DataW.trod_array hu h;rw[hct]at hl;rw[hc]at hi;have hx:=congrArg Prod.fst hx;simp only[DataW.agg.injEq]at hx;have hvl:vals.length=n:=by have:=congrArg List.length hx;simp only[aX]at this;omega
 apply bG;intro i;by_cases h1:i<n
 ·have h2:=hi i h1;rw[dN]at h2;have hxi:i<xs.length:=aA;rw[aJ hxi]at h2;obtain⟨z,h3,h4,_⟩:=DataW.trod_int he h2;have h5:=congrArg (fun l:List Value=>l[0]?) h3;simp only[fF,cS,eF,List.getElem?_cons_zero]at h5;have h6:=congrArg (fun l:List (DataW H)=>l[i]?) hx;simp only[bO,aJ hxi,dF,h4]at h6;have hvi:i<vals.length:=aA;rw[aJ hvi]at h6;simp only[dF,dM,DataW.lit.injEq,Lit.int.injEq,true_and]at h6;rw[bO,aJ hvi,dF,h6];simpa using h5
 ·rw[aW aA,aW (by simp;omega)]
end Go.OP

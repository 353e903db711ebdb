/- Ensembles: chains. -/
import Derived.Test.YtlmbepjdokomkaaGreatDoorGjS
open Go.Sem renaming run_bind->eM
open List renaming count->iV,count_replicate_self->kW,length_replicate->iI,pairwise_singleton->lF,range'->gR,range->eT,replicate->eS,sum_cons->eY
open Nat renaming le_add_left->nK
open Prod renaming ext->kQ
set_option linter.all false
set_option maxRecDepth 100000
namespace Go.GS
def chI (F:List Int->Nat->Int ⊕ (List Int×Bool×Nat)) (p:List Int) (c:Nat):Nat->Int ⊕ (List Int×Nat×List (List Int))
 |0=> .inr (p,c,[])
 |i+1=>match chI F p c i with
  | .inl e=> .inl e
  | .inr (q,s,l)=>match F q s with
   | .inl e=> .inl e
   | .inr (q',_,s')=> .inr (q',s',l++[q'])
section
variable {F:List Int->Nat->Int ⊕ (List Int×Bool×Nat)} {p:List Int} {c:Nat}
def BU {i j:Nat} {e:Int} (h:chI F p c i= .inl e) (hj:i<=j):chI F p c j= .inl e:=by
 induction j with
 | zero => obtain rfl : i = 0 := aA
           exact h
 |succ j ih=>
  by_cases hi:i=j+1
  ·subst hi;exact h
  ·unfold chI;rw[ih aA]
def mr {i:Nat} {q:List Int} {s:Nat} {l:List (List Int)} {e:Int} (h:chI F p c i= .inr (q,s,l)) (h2:F q s= .inl e):chI F p c (i+1)= .inl e:=by
 show(match chI F p c i with| .inl e=>_| .inr (q,s,l)=>_)=_;rw[h];show(match F q s with| .inl e=>_| .inr (q',_,s')=>_)=_;rw[h2]
def BV {i:Nat} {q q':List Int} {s s':Nat} {l:List (List Int)} {mv:Bool} (h:chI F p c i= .inr (q,s,l)) (h2:F q s= .inr (q',mv,s')):chI F p c (i+1)= .inr (q',s',l++[q']):=by
 show(match chI F p c i with| .inl e=>_| .inr (q,s,l)=>_)=_;rw[h];show(match F q s with| .inl e=>_| .inr (q',_,s')=>_)=_;rw[h2]
end
end Go.GS
namespace Go.Z
open Proofs.Tryz RowKit RX GS RZ WD
def d9g:Ag prog 51 1:=⟨aB,aB,aB⟩
def UH:j3 prog 51= .agg #[.int .u64 0]:=aB
def d9h:j3 prog 39= .slice none 0 0:=aB
def SteV.all {H:PH} {r:Value} {R:Int ⊕ (List Int×Bool×Nat)} (h:SteV H r R):∃y mv s e,r= .tuple #[y,.bool mv,chV s,ii e]/\n8 y=true/\((e≠0/\R= .inl e)\/(e=0/\∃q,R= .inr (q,mv,s)/\SI H y q/\s<M64)):=by
 cases R with
 |inl e=>exact⟨_,_,_,e,h.2,rfl,.inl ⟨h.1,rfl⟩⟩
 |inr x=>obtain⟨q,mv,c⟩:=x;obtain⟨h1,v,h2,h3⟩:=h;exact⟨v,mv,c,0,h2,t7 h3,.inr ⟨rfl,q,rfl,h3,h1⟩⟩
section
variable {F:List Int->Nat->Int ⊕ (List Int×Bool×Nat)} {dm:Dm} {H B:PH} {n k ms lv who:Nat} {es:List (Nat×Nat)} {us:List GS.Un} {w rw u:Value} {lo hi:Int} {p:List Int} {c0 st:Nat}
def Zx (v:Value) (s:Nat):Value:= .agg #[.slice none 0 0,v,GS.uv s]
def d9j {ρ:List Value} {x y:SV} {v:Value} {s:Nat} (hx:D prog ρ x=v) (hv:v.cells= #[v]) (hy:D prog ρ y=chV s):D prog ρ (.cat (.z 39) 1 (.put (.cat x 1 (.z 51)) 1 1 y 0 noI))=Zx v s:=by
 simp only[D,hx,hy,UH,d9h];show Value.agg _=_;rw[hv];rfl
def d9k {ρ:List Value} {x y:SV} {v v2:Value} {mv e:Value} {s2 s3:Nat} (hx:D prog ρ x=Zx v s2) (hv:v2.cells= #[v2]) (hy:D prog ρ y= .tuple #[v2,mv,chV s3,e]):D prog ρ (.cat (.sub x 0 1 0 noI) 1 (.cat (.pj y 0) 1 (.ag (.pj y 2))))=Zx v2 s3:=by
 simp only[D,hx,hy];show Value.agg (_++(v2.cells++_))=_;rw[hv];rfl
def d9l {ρ:List Value} {x r:SV} {v t:Value} {s2:Nat} (hx:D prog ρ x=Zx v s2) (hr:D prog ρ r=t) (ht:t.cells= #[t]):D prog ρ (.cat r 1 (.sub x 1 2 0 noI))= .agg #[t,v,GS.uv s2]:=by
 simp only[D,hx,hr];show Value.agg (t.cells++_)=_;rw[ht];rfl
def b5g {a s c d:Nat} (ha:H a=some (.cells (stC dm n k ms lv who w rw lo hi).toArray 30 (0,0))) (hs:H s=some (.cells #[ii (st:Nat)] 3 (0,0))) (hc:H c=some (.cells #[u] 49 (0,0))) (hd:H d=some (.cells #[GS.uv c0] 51 (0,0))) (hu:SI H u p) (vN:c0<M64) (pU:1<=st/\st<=200) (hM:StM H w rw es us) (hS:StOk dm n k ms lv who es us lo hi) (hz:ms=1->s8 us n=true) (a1g:∀i q s l,chI F p c0 i= .inr (q,s,l)->∀X v wt,Pl H X->SI X v q->s<M64->SI X wt (wlU us n)->Con prog 39 [gv n w,bv wt lo hi (k:Nat),v,chV s] X fun r H'=>Pl X H'/\SteV H' r (F q s))
  (pK:∀i q s' l,chI F p c0 (i+1)= .inr (q,s',l)->PlOk n k q) (tV:∀q,PlOk n k q->Rg (s0 dm n es us k ms lv who q)):
  ConX prog 38 [.pointer (some ⟨a,0,none⟩),.pointer (some ⟨s,0,none⟩),.pointer (some ⟨c,0,none⟩),.pointer (some ⟨d,0,none⟩)] H
   (fun r H'=>Pl H H'/\∃q s' l t v m,chI F p c0 st= .inr (q,s',l)/\r= .agg #[t,v,GS.uv s']/\s'<M64/\SI H' v q/\SE H' 32 ceM t m/\TalP (l.map (s0 dm n es us k ms lv who)) m)
   (fun x H'=>Pl H H'/\∃e,chI F p c0 st= .inl e/\x=Am e):=by
 refine Cj mixed kr aB rfl ?_;refine s5 (vs:=(stC dm n k ms lv who w rw lo hi)) Ea rfl rfl ha rfl (show 0+12<=12 by decide) rfl ?_;simp only[cA,nA];refine g5 (Ij hM hS hz) rfl ?_;rintro _ H1 ⟨l1,b,wts,rfl,hW⟩;refine nmI ?_;simp only[cA,nA];refine i7 (u:=ii (st:Nat)) sc_int rfl rfl (l1 _ _ hs) rfl rfl ?_;simp only[cA,nA];refine b9 ?_;refine j1 (bF (p:=((st:Nat):Int)<1) aA) ?_;refine i7 (u:=ii (st:Nat)) sc_int rfl rfl (l1 _ _ hs) rfl rfl ?_;simp only[cA,nA];refine b9 ?_;refine s7 (OS 2) (j0 (bF (p:=((st:Nat):Int)>200) aA) rfl) ?_;simp only[cA,nA];refine i7 (u:=u) Jj rfl rfl (l1 _ _ hc) rfl rfl ?_;simp only[cA,nA];refine s5 (vs:=[GS.uv c0]) d9g rfl rfl (l1 _ _ hd) rfl (show 0+1<=1 by decide) rfl ?_;simp only[cA,nA];refine b4 hu.one ?_;refine b4 (Hh c0) ?_;refine j4 (Ji (ok:=Rg) (ke:=shR) Ha rfl) rfl ?_;rintro v11 H2 ⟨l2,o2⟩;refine nmI ?_;simp only[cA,nA];obtain⟨g0,es0,cl0,rfl,zM,a5c,hE0,tN⟩:=id o2;refine i7 (u:=ii (st:Nat)) sc_int rfl rfl (l2 _ _ (l1 _ _ hs)) rfl rfl ?_;simp only[cA,nA];refine t6 (α:=Nat×Value×Nat×List Int×List (List Int)) (fun⟨i,v,s',q,l⟩=>[ii (i:Nat),Zx v s']) (fun⟨i,v,s',q,l⟩=>fun H'=>i<=st/\chI F p c0 i= .inr (q,s',l)/\l.length=i/\s'<M64/\∃X,Pl H1 X/\Pl X H'/\X g0=none/\SI X v q/\CntS X H' (.map (some g0)) (l.map (s0 dm n es us k ms lv who)) i) (fun⟨i,v,s',q,l⟩=>st-i) ((0,u,c0,p,[])) (j0 rfl (d9j rfl hu.cells rfl)) (⟨bJ _,rfl,rfl,vN,H1,Pl.refl _,l2,zM,hu.mono l1,[],⟨g0,es0,cl0,rfl,zM,a5c,hE0,tN⟩,fun r=>aD,(fun q hq=>nomatch hq)⟩) fun⟨i,v,s',q,l⟩ H' hQ=> ?_;simp only[cA,nA];obtain⟨oW,hI,hl,vO,X,lX1,lXH,hXg,hv,hC⟩:=hQ;refine b9 (b9 ?_);refine g8 (b:=decide (((i:Nat):Int)<((st:Nat):Int))) rfl (fun oV=> ?_) (fun oV=> ?_)
 ·replace oV:=oDt oV;refine j9 ?_;simp only[cA,nA];refine i0 Bv ?_;simp only[cA,nA];refine i0 Re ?_;simp only[cA,nA];refine s5 (vs:=[ii (n:Nat),w]) Lc rfl rfl (lXH _ _ (lX1 _ _ hW.bk)) rfl (show 0+0+0+2<=17 by decide) rfl ?_;simp only[cA,nA];refine j9 ?_;simp only[cA,nA];refine i0 Lj ?_;simp only[cA,nA];refine s5 (vs:=[wts,ii lo,ii hi,ii (k:Nat)]) Vh rfl rfl (lXH _ _ (lX1 _ _ hW.bk)) rfl (show 0+12+4<=17 by decide) rfl ?_;simp only[cA,nA];refine Dz (a1g i q s' l hI X v wts (l1.trans lX1) hv vO (hW.wt.mono lX1)) lXH rfl fun v22 X2 H5 a1 w1 b1 c1 d1=> ?_;simp only[cA,nA];obtain⟨y,mv,s2,e,rfl,hy1,hE⟩:=w1.all;refine g7 (g7 (g7 (g7 ?_)));refine b4 (Hh s2) ?_;refine Av (Vi e) rfl ?_ ((fun x H' h=>⟨l1.trans (lX1.trans (lXH.trans (c1.trans h.2.1))),e,BU (mr hI (hE.resolve_right fun g=>h.1 g.1).2) (show i+1<=st by omega),h.2.2⟩));rintro _ _ ⟨e0,rfl,rfl⟩;simp only[cA,nA];obtain⟨-,q',tU,hy,uS⟩:=hE.resolve_left fun g=>g.1 e0;refine b4 hy.one ?_;have hI':=BV hI tU;have hPq:=pK _ _ _ _ hI';have vD:=tV _ hPq;refine Dz (zc (hW.mono (lX1.trans a1)) hS hz hy hPq) b1 rfl fun v24 X3 H6 a2 w2 b2 c2 d2=> ?_;simp only[cA,nA];subst w2;refine b4 (r4 _ _) ?_;have hX3:∀r,H' r≠none->X r=none->X3 r=none:=fun r h1 h2=>d2 r (fun e=>by cases hh:H' r with|none=>exact h1 hh|some o=>rw[c1 _ _ hh]at e;cases e) (d1 r h1 h2);obtain⟨L,o3,yN,yO⟩:=hC;have wH:(l.map (s0 dm n es us k ms lv who)).take i=((l++[q']).map (s0 dm n es us k ms lv who)).take i:=by rw[bI,cG (by rw[aW,hl];exact aS _)]
  rw[wH]at yN yO;have qK:((l++[q']).map (s0 dm n es us k ms lv who))[i]? =some (s0 dm n es us k ms lv who q'):=by rw[aY,aN aA,show i-l.length=0 by omega];rfl
  have rZ:∀r,(((l++[q']).map (s0 dm n es us k ms lv who)).take i).count r<=200:=fun r=>by
   have:=List.count_le_length (a:=r) (l:=((l++[q']).map (s0 dm n es us k ms lv who)).take i);rw[bD]at this;omega
  generalize s0 dm n es us k ms lv who q'=vv at qK vD;obtain⟨g,es',cl',hg,e2,e3,e4⟩:=o3;have o4:MKO Rg shR X3 H6 (.map (some g0)) L:=⟨g,es',cl',hg,hX3 g (by rw[e3];exact fun h=>nomatch h) e2,c2 _ _ (c1 _ _ e3),e4⟩;have a5d:X3 g0=none:=hX3 g0 (by cases hg;rw[e3];exact fun h=>nomatch h) hXg;generalize hQ:(((l++[q']).map (s0 dm n es us k ms lv who)).take i)=T at yN yO rZ;have wN:(iw (((T.count vv:Nat)):Int)=wd 0/\vv∉L.map (·.1))\/(vv,iw ((T.count vv:Nat):Int))∈L:=by
   by_cases h:vv∈L.map (·.1)
   ·obtain⟨q,hq,rfl⟩:=bK.1 h;right;rw[<-yO q hq];exact hq
   ·left;refine⟨?_,h⟩;rw[List.count_eq_zero.2 (fun h2=>h ((yN vv).2 h2))];rfl
  refine j6 (yk Ha (k:=vv) (u:=iw ((T.count vv:Nat):Int)) (vs:=[.map (some g0),shR vv]) rfl rfl rfl Ot vD zg o4.mk wN) rfl ?_;simp only[cA,nA];refine Bn (Xs 1 aA aA) rfl ?_;simp only[cA,nA];refine Bn (jv (a:=((T.count vv:Nat):Int)) (b:=1) aA aA (by have:=rZ vv;omega)) rfl ?_;simp only[cA,nA];refine g7 (g7 ?_);refine s7 (Zl _) rfl ?_;simp only[cA,nA];refine j4 (Up Ha (k:=vv) (v:=iw ((T.count vv+1:Nat):Int)) (vs:=[.map (some g0),shR vv,iw ((T.count vv+1:Nat):Int)]) rfl rfl rfl rfl Ot vD b2 o4) (Dp rfl rfl (by rw[dD];rfl)) ?_;rintro _ H7 ⟨rfl,l7,o7,-⟩;refine nmI ?_;simp only[cA,nA];subst hQ;exact⟨(i+1,y,s2,q',l++[q']),by show st-(i+1)<st-i;omega,(j0 (p6 rfl aA) (d9k rfl hy.cells rfl)),⟨by show i+1<=st;omega,hI',by rw[aL,hl];rfl,uS,X3,lX1.trans (a1.trans a2),l7,a5d,hy.mono a2,CntS.put yN yO qK o7⟩⟩
 ·replace oV:=oDf oV;obtain rfl:i=st:=aA;have zR:(l.map (s0 dm n es us k ms lv who)).length=i:=by rw[aW,hl]
  refine g5 (zh (l:=l.map (s0 dm n es us k ms lv who)) (by rw[zR];exact hC) (fun e=>by rw[e]at zR;simp at zR;omega) aA) rfl ?_;rintro r H8 ⟨l8,m',sJ,hT⟩;refine nmI ?_;simp only[cA,nA];refine b4 sJ.one ?_;exact c9 (d9l rfl rfl sJ.cells) ⟨l1.trans (lX1.trans (lXH.trans l8)),q,s',l,r,v,m',hI,rfl,vO,hv.mono (lXH.trans l8),sJ,hT⟩
def UI {t v:Value} {s':Nat} (ht:n8 t=true) (hv:n8 v=true):(Value.agg #[t,v,GS.uv s']).cells.size=prog.cellsOf 100/\i8 (Value.agg #[t,v,GS.uv s']).cells/\rdV prog 100 (Value.agg #[t,v,GS.uv s']).cells= .agg #[t,v,GS.uv s']:=by
 refine⟨by show 3=_;kernel_rfl,fun c hc=> ?_,?_⟩
 ·have hc:c∈[t,v,GS.uv s']:=hc;simp only[aX,bV,or_false]at hc;rcases hc with rfl|rfl|rfl
  ·exact ht
  ·exact hv
  ·rfl
 ·unfold rdV;rw[show p8 prog 100=true by kernel_rfl];rfl
def UJ (hu:SI H u p) (vN:c0<M64) (pU:1<=st/\st<=200) (hM:StM H w rw es us) (hS:StOk dm n k ms lv who es us lo hi) (hz:ms=1->s8 us n=true) (a1g:∀i q s l,chI F p c0 i= .inr (q,s,l)->∀X v wt,Pl H X->SI X v q->s<M64->SI X wt (wlU us n)->Con prog 39 [gv n w,bv wt lo hi (k:Nat),v,chV s] X fun r H'=>Pl X H'/\SteV H' r (F q s))
  (pK:∀i q s' l,chI F p c0 (i+1)= .inr (q,s',l)->PlOk n k q) (tV:∀q,PlOk n k q->Rg (s0 dm n es us k ms lv who q)):
  Con prog 10 [stV dm n k ms lv who w rw lo hi,u,ii (st:Nat),chV c0] H fun r H'=>Pl H H'/\∃t v s' e,r= .tuple #[t,v,chV s',ii e]/\s'<M64/\
   ((e=0/\∃q l m,chI F p c0 st= .inr (q,s',l)/\SI H' v q/\SE H' 32 ceM t m/\TalP (l.map (s0 dm n es us k ms lv who)) m)\/chI F p c0 st= .inl e):=by
 refine g9 mixed RH ?_;refine b4 (Ep (t7 hM.gr) hM.ro.one) ?_;refine o0 (cs:=(stC dm n k ms lv who w rw lo hi).toArray) rfl fun a ha=> ?_;simp only[cA,nA];have la:=PH.le_put ha (.cells (stC dm n k ms lv who w rw lo hi).toArray 30 (0,0));refine b4 hu.one ?_;refine o0 (cs:= #[u]) hu.cells fun c hc=> ?_;simp only[cA,nA];have lc:=PH.le_put hc (.cells #[u] 49 (0,0));refine b4 (el_int.vcells _) ?_;refine o0 (cs:= #[ii (st:Nat)]) rfl fun s hs=> ?_;simp only[cA,nA];have ls:=PH.le_put hs (.cells #[ii (st:Nat)] 3 (0,0));refine b4 (Hh c0) ?_;refine o0 (cs:= #[GS.uv c0]) rfl fun d hd=> ?_;simp only[cA,nA];have ld:=PH.le_put hd (.cells #[GS.uv c0] 51 (0,0));have hA:=ld _ _ (ls _ _ (lc _ _ (PH.put_self H a (.cells (stC dm n k ms lv who w rw lo hi).toArray 30 (0,0)))));have hC:=ld _ _ (ls _ _ (PH.put_self _ c (.cells #[u] 49 (0,0))));have hB:=ld _ _ (PH.put_self _ s (.cells #[ii (st:Nat)] 3 (0,0)));have l04:=la.trans (lc.trans (ls.trans ld));refine x5 (Ai (vs:=[.pointer (some ⟨a,0,none⟩),.pointer (some ⟨s,0,none⟩),.pointer (some ⟨c,0,none⟩),.pointer (some ⟨d,0,none⟩)]) rfl rfl) rfl ?_;simp only[cA,nA];refine g5 (Ol (caps:=[.pointer (some ⟨a,0,none⟩),.pointer (some ⟨s,0,none⟩),.pointer (some ⟨c,0,none⟩),.pointer (some ⟨d,0,none⟩)]) (XE:=fun e H'=>Pl H H'/\chI F p c0 st= .inl e) mixed AI RS RR (b5g hA hB hC (PH.put_self _ _ _) (hu.mono l04) vN pU (hM.mono l04) hS hz (fun i q s l h X v wt hl=>a1g i q s l h X v wt (l04.trans hl)) pK tV) (fun _ _ h=>by obtain⟨_,_,_,_,t,v,_,_,rfl,_,h1,h2,_⟩:=h;exact UI (t7 h2) (t7 h1)) (fun x H' hx=>by obtain⟨h1,e,h2,rfl⟩:=hx;exact⟨e,RU,l04.trans h1,h2⟩)) rfl ?_;rintro r0 H4 hX;refine nmI ?_;simp only[cA,nA];have uR:rdV prog 100 (Value.agg #[.slice none 0 0,.slice none 0 0,.int .u64 0]).cells= .agg #[.slice none 0 0,.slice none 0 0,.int .u64 0]:=by unfold rdV;rw[show p8 prog 100=true by kernel_rfl];rfl
 obtain⟨t,v,s',e,rfl,l4,h1,h2,pX,hE⟩:∃t v s' e,r0= .tuple #[.agg #[t,v,GS.uv s'],ii e]/\Pl H H4/\n8 t=true/\n8 v=true/\s'<M64/\((e=0/\∃q l m,chI F p c0 st= .inr (q,s',l)/\SI H4 v q/\SE H4 32 ceM t m/\TalP (l.map (s0 dm n es us k ms lv who)) m)\/chI F p c0 st= .inl e):=by
  rcases hX with⟨_,⟨h1,q,s',l,t,v,m,h2,rfl,h3,h4,h5,h6⟩,rfl⟩|⟨e,⟨h1,h2⟩,rfl⟩
  ·exact⟨t,v,s',0,rfl,l04.trans h1,t7 h5,t7 h4,h3,.inl ⟨rfl,q,l,m,h2,h4,h5,h6⟩⟩
  ·exact⟨_,_,0,e,by rw[uR];rfl,h1,rfl,rfl,aC,.inr h2⟩
 refine g7 (g7 ?_);refine b4 ⟨rfl,(UI h1 h2).2.1⟩ ?_;exact c9 rfl ⟨l4,t,v,s',e,rfl,pX,hE⟩
end
end Go.Z
namespace Go.GS
def d5E {F:Nat->Nat}:∀{l m:List Nat},l.Nodup->(∀x∈l,x∈m)->(l.map F).sum<=(m.map F).sum:=by
 intro l;induction l with
 |nil=>intro m _ _;exact bJ _
 |cons a l ih=>
  intro m hn hs;rw[eD]at hn;have ha:=hs a (.head _);rw[((List.perm_cons_erase ha).map F).sum_nat,aU,aU,eY,eY];have:=ih (m:=m.erase a) hn.2 fun x hx=>(List.mem_erase_of_ne (fun e:x=a=>hn.1 (e ▸ hx))).2 (hs x (.tail _ hx));omega
def d9m {S:Nat} {l:List Nat} (F:Nat->Nat) (hn:l.Nodup) (hs:∀s∈l,s&&&S=s):(l.map F).sum<=sbT S F:=d5E hn fun s h=>sbs_mem.2 (hs s h)
def ivN:Nat->Nat->Nat
 |0,j=>if j=12 then 1 else 0
 |k+1,j=>((gR (j+1) (12-j)).map fun m=>ivN k m).sum
def upS (j:Nat):Nat:=4096-2^j
def c9f:∀j,j<12->Ih (upS j)=j/\upS j≠0/\((gR (j+1) (12-j)).map fun m=>2^m-2^(j+1)).Nodup/\∀m∈gR (j+1) (12-j),(2^m-2^(j+1))&&&sdf (upS j) (2^j)=2^m-2^(j+1)/\(2^m-2^(j+1))|||2^j=2^m-2^j/\sdf (sdf (upS j) (2^m-2^(j+1))) (2^j)=upS m:=by decide+kernel
def d9n {ft:Nat->Bool} (zF:∀j,j<12->∀m∈gR (j+1) (12-j),ft (2^m-2^j)=true):∀k j,j<=12->ivN k j<=z7 ft k (upS j):=by
 intro k;induction k with
 |zero=>
  intro j hj;unfold ivN z7;by_cases e:j=12
  ·subst e;decide
  ·rw[if_neg e];exact bJ _
 |succ k ih=>
  intro j hj;by_cases e:j=12
  ·subst e;exact bJ _
  ·obtain⟨h1,h2,h3,h4⟩:=c9f j aA;unfold z7;rw[if_neg h2,h1];refine bM ?_ (d9m _ h3 fun s hs=>by obtain⟨m,hm,rfl⟩:=bK.1 hs;exact(h4 m hm).1);rw[List.map_map];show((gR (j+1) (12-j)).map fun m=>ivN k m).sum<=_;have:∀l:List Nat,(∀m∈l,m∈gR (j+1) (12-j))->(l.map fun m=>ivN k m).sum<=(l.map ((fun s=>if ft (s|||2^j)then z7 ft k (sdf (sdf (upS j) s) (2^j))else 0) ∘ fun m=>2^m-2^(j+1))).sum:=by
    intro l;induction l with
    |nil=>intro _;exact aS _
    |cons m l ihl=>
     intro hl;have hm:=hl m (.head _);obtain⟨_,g2,g3⟩:=h4 m hm;have a5e:m<=12:=by have:=List.mem_range'_1.1 hm;omega
     rw[aU,aU,eY,eY];refine Nat.add_le_add ?_ (ihl fun x hx=>hl x (.tail _ hx));show ivN k m<=if ft _ then _ else 0;rw[g2,zF j aA m hm,g3,if_pos rfl];exact ih m a5e
   exact this _ fun _ h=>h
def es12:List (Nat×Nat):=(eT 11).map fun i=>(i,i+1)
def Zy:List Int:=eS 12 1
def UK:GV 12 es12:=⟨aC,aC,aC,aC,by
 rw[show es12=[(0,1),(1,2),(2,3),(3,4),(4,5),(5,6),(6,7),(7,8),(8,9),(9,10),(10,11)]from rfl];unfold elt;simp⟩
def e2L:∀j,j<12->∀m∈gR (j+1) (12-j),alB es12 Zy 0 12 (2^m-2^j)=true:=by
 have h:∀j,j<12->∀m∈gR (j+1) (12-j),(2^m-2^j<M64)/\(cnS es12 (2^m-2^j)&&(decide (Ac Zy (2^m-2^j)≥0)&&decide (Ac Zy (2^m-2^j)<=12)))=true:=by decide+kernel
 intro j hj m hm;obtain⟨h1,h2⟩:=h j hj m hm;unfold alB;rw[Zs UK h1];exact h2
def d5F:400<Bq (alB es12 Zy 0 12) 12 6:=
 aM (show 400<ivN 6 0 by decide+kernel) (d9n e2L 6 0 aC)
def esA:List (Nat×Nat):=[(0,1),(2,3)]
def gvA:GV 4 esA:=⟨aC,aC,aC,aC,by unfold esA elt;simp⟩
noncomputable def ftA (S:Nat):Bool:=if S<M64 then cnS esA S&&(decide (Ac wl4 S≥10)&&decide (Ac wl4 S<=30))else alB esA wl4 10 30 S
def d5G:alB esA wl4 10 30=ftA:=by
 funext S;unfold ftA;split
 ·rename_i h;unfold alB;rw[Zs gvA h]
 ·rfl
def e2M {q:List Int} (hq:q=[1,1,0,0]\/q=[0,0,1,1]):Bl 4 esA wl4 10 30 2 q=true:=by
 unfold Bl;rw[d5G];rcases hq with rfl|rfl<;>decide+kernel
def UL {q:List Int} (hq:q=[1,1,0,0]\/q=[0,0,1,1]):Gj q=[0,0,1,1]:=by rcases hq with rfl|rfl<;>decide
def joA {q:List Int} (hq:q=[1,1,0,0]\/q=[0,0,1,1]):cnB esA (Io (Gj q) (0,1))=false:=by
 rw[UL hq,Zs gvA (by decide+kernel)];decide+kernel
def UM {q:List Int} {c:Nat} (hq:q=[1,1,0,0]\/q=[0,0,1,1]):Fj 4 esA wl4 10 30 2 q c= .inr ([0,0,1,1],false,nxS c):=by
 have hb:bdE 4 wl4 10 30 2=0:=aC;unfold Fj;rw[if_neg (by rw[hb];simp),if_pos (e2M hq),UL hq]
def chA (c:Nat):∀i,chI (Fj 4 esA wl4 10 30 2) [1,1,0,0] c (i+1)= .inr ([0,0,1,1],nxN (i+1) c,eS (i+1) [0,0,1,1]):=by
 intro i;induction i with
 |zero=>exact(BV (l:=[]) rfl (UM (.inl rfl))).trans rfl
 |succ i ih=>rw[BV ih (UM (.inr rfl)),List.replicate_succ' (n:=i+1)];rfl
def e1h {c i:Nat} {q:List Int} {s:Nat} {l:List (List Int)} (h:chI (Fj 4 esA wl4 10 30 2) [1,1,0,0] c i= .inr (q,s,l)):q=[1,1,0,0]\/q=[0,0,1,1]:=by
 cases i with
 |zero=>injection h with h;injection h with h _;exact .inl h.symm
 |succ i=>rw[chA]at h;injection h with h;injection h with h _;exact .inr h.symm
def un1 (nm:List UInt8) (p:Int):Un:=⟨nm,p,[],[],[],false⟩
def mt {nm:List UInt8} {p:Int} (h0:nm≠[]) (h1:nm.length<=12) (h2:Go.Lib.trimS nm Oh=[]) (hp:0<=p/\p<=1000000000):UnV dm0 (un1 nm p):=
 ⟨h0,h1,h2,hp.1,hp.2,rfl,(fun z h=>nomatch h),rfl,(fun z h=>nomatch h),rfl,(fun z h=>nomatch h)⟩
def BW {us:List Un} (h1:1<=us.length) (sA:us.length<=64) (hu:∀x∈us,UnV dm0 x) (hw:∀x∈us,x.wat=false) (hn:(us.map (·.name)).Nodup):RoV dm0 us.length us:=
 ⟨aC,aC,aC,h1,aS _,sA,hu,fun i x hx=>by rw[hw x (aJ hx),decide_eq_false (by have:=(aH.1 hx).1;omega)],hn⟩
def us5:List Un:=us4++[un1 [101] 0]
def usE:List Un:=[un1 [97] 0,un1 [98] 0,un1 [99] 0,un1 [100] 0]
def Lt:List Un:=(eT 12).map fun i=>un1 [117,(97+i).toUInt8] 1
def rv5:RoV dm0 5 us5:=BW (us:=us5) aC aC (fun x hx=>by
 rcases bC.1 hx with h|h
 ·exact un4 x h
 ·rw[bA.1 h];exact mt aC aC aC aC) aC aC
def rvE:RoV dm0 4 usE:=BW (us:=usE) aC aC (fun x hx=>by
 simp only[usE,aX,bV,or_false]at hx;rcases hx with rfl|rfl|rfl|rfl<;>exact mt aC aC aC aC) aC aC
def e2N:RoV dm0 12 Lt:=BW (us:=Lt) aC aC (fun x hx=>by
 obtain⟨i,hi,rfl⟩:=bK.1 hx;have h:∀i,i<12->([117,(97+i).toUInt8]:List UInt8)≠[]/\([117,(97+i).toUInt8]:List UInt8).length<=12/\Go.Lib.trimS [117,(97+i).toUInt8] Oh=[]:=aC;obtain⟨a,b,c⟩:=h i (bH.1 hi);exact mt a b c aC) aC aC
end Go.GS
namespace Go.Z
open Proofs.Tryz RowKit RX GS RZ WD
def d5H:wlU Lt 12=Zy:=aC
def BX:StOk dm0 12 6 3 0 0 es12 Lt 0 12:=⟨aC,UK,e2N,aC,aC,aC,fun h=>aA,fun h=>aA,fun h=>aA,⟨aC,aC,aC,aC,aC,aC⟩,.inr rfl⟩
def BZ:400<j8 12 6 es12 Lt 0 12:=by unfold j8;rw[d5H];exact d5F
def soE:StOk dm0 4 2 3 0 0 es4 usE 0 0:=⟨aC,gv4,rvE,aC,aC,aC,fun h=>aA,fun h=>aA,fun h=>aA,⟨aC,aC,aC,aC,aC,aC⟩,.inr rfl⟩
def soA:StOk dm0 4 2 2 0 0 esA us4 10 30:=⟨aC,gvA,rv4,aC,aC,aC,fun h=>aA,fun h=>aA,fun h=>aA,⟨aC,aC,aC,aC,aC,aC⟩,.inl rfl⟩
def my:Rg 20:=(show((20:Int):Rat)=20 by rfl) ▸ Vb (z:=20) aC
def UN:Rg 30:=(show((30:Int):Rat)=30 by rfl) ▸ Vb (z:=30) aC
def rgT (c n:Nat) (h:0<n/\c<2^20/\n<2^20):Rg (qN c n):=Ze h.1 h.2.1 h.2.2
def k20:MaT:=⟨(20,qN 1 3),my,rgT 1 3 aC⟩
def k30:MaT:=⟨(30,qN 2 3),UN,rgT 2 3 aC⟩
def k21:MaT:=⟨(20,qN 1 1),my,rgT 1 1 aC⟩
def e1k:TalP [30,20,30] [k20,k30]:=by
 refine⟨by rw[List.pairwise_pair];exact(by decide+kernel:(20:Rat)<30),fun q=>⟨?_,?_⟩⟩
 ·rintro⟨x,hx,rfl⟩;simp only[aX,bV,or_false]at hx;rcases hx with rfl|rfl
  ·exact⟨by simp[k20],(by decide+kernel:qN 1 3=qN (iV (20:Rat) [30,20,30]) 3)⟩
  ·exact⟨by simp[k30],(by decide+kernel:qN 2 3=qN (iV (30:Rat) [30,20,30]) 3)⟩
 ·obtain⟨a,b⟩:=q;rintro⟨h1,h2⟩;simp only[aX,bV,or_false]at h1;have e2:qN (iV (20:Rat) [30,20,30]) 3=qN 1 3:=by decide+kernel
  have e3:qN (iV (30:Rat) [30,20,30]) 3=qN 2 3:=by decide+kernel
  rcases h1 with rfl|rfl|rfl
  ·exact⟨k30,aD,kQ rfl (h2.trans e3).symm⟩
  ·exact⟨k20,aD,kQ rfl (h2.trans e2).symm⟩
  ·exact⟨k30,aD,kQ rfl (h2.trans e3).symm⟩
def e1l:TalP [20] [k21]:=by
 refine⟨lF _ _,fun q=>⟨?_,?_⟩⟩
 ·rintro⟨x,hx,rfl⟩;rw[bA.1 hx];exact⟨by simp[k21],(by decide+kernel:qN 1 1=qN (iV (20:Rat) [20]) 1)⟩
 ·obtain⟨a,b⟩:=q;rintro⟨h1,h2⟩;have e2:qN (iV (20:Rat) [20]) 1=qN 1 1:=by decide+kernel
  obtain rfl:a=20:=bA.1 h1;exact⟨k21,aD,kQ rfl (h2.trans e2).symm⟩
def rk4 {m:List MaT} (h:TalP (vlL dm0 4 2 2 0 0 es4 us4 10 30) m):m=[k20,k30]/\rkA dm0 4 2 2 0 0 es4 us4 10 30 [0,0,1,1] m=0/\rkB dm0 4 2 2 0 0 es4 us4 10 30 [0,0,1,1] m=qN 1 3/\rkA dm0 4 2 2 0 0 es4 us4 10 30 [1,0,0,0] m=qN 1 3/\rkB dm0 4 2 2 0 0 es4 us4 10 30 [1,0,0,0] m=qN 2 3:=by
 rw[Vn]at h;obtain rfl:=TalP.uniq h e1k;unfold rkA rkB;rw[Vn,va4.2.1,va4.2.2.2,Ln];refine⟨rfl,?_,?_,?_,?_⟩<;>decide+kernel
def m20 {m:List MaT} (h:TalP (vlL dm0 4 2 2 0 0 es4 us4 20 30) m):m=[k21]:=by
 rw[d8t]at h;exact TalP.uniq h e1l
def bst4:Bw true [30,20,30] 3=30/\Bw false [30,20,30] 3=20/\Gi true [30,20,30] 3=0/\Gi false [30,20,30] 3=1:=by decide+kernel
def UO {p:List Int} (h:p=[0,0,1,1]\/p=[1,0,0,0]):zl 4 2 es4 us4 10 30 p:=by
 have hc:∀s,s<16->alB es4 (wlU us4 4) 10 30 s=ftH 10 30 s:=fun s _=>congrFun (Rj 10 30) s;rcases h with rfl|rfl
 ·refine⟨⟨rfl,aC,aC⟩,?_⟩;unfold Bl;rw[show alB es4 (wlU us4 4) 10 30=ftH 10 30 from Rj 10 30];decide+kernel
 ·refine⟨⟨rfl,aC,aC⟩,?_⟩;unfold Bl;rw[show alB es4 (wlU us4 4) 10 30=ftH 10 30 from Rj 10 30];decide+kernel
def e2O:Bl 4 es4 (wlU us4 4) 10 30 ((2:Nat):Int) [0,0,0,0]=false:=by
 unfold Bl;rw[show alB es4 (wlU us4 4) 10 30=ftH 10 30 from Rj 10 30];decide+kernel
def sm4:∀s∈[7,8,3,12,1,14],(s≠0/\s<2^4)/\s<M64:=by decide+kernel
def pl4:∀p∈[[0,0,0,1],[0,0,1,1],[0,1,1,1]],plE 4 p ((2:Nat):Int)=0/\LabOk p ((2:Nat):Int)/\Cb p 2/\∀s∈Em p 2,s∈[7,8,3,12,1,14]:=by decide+kernel
def in4 {i:Nat} (hi:i<j8 4 2 es4 us4 10 30):y8 4 2 es4 us4 10 30 i∈[[0,0,0,1],[0,0,1,1],[0,1,1,1]]:=by
 rw[Ln]at hi
 match i,hi with
 |0,_=>rw[i1030.1];decide
 |1,_=>rw[i1030.2.1];decide
 |2,_=>rw[i1030.2.2];decide
def e2P {w rw:Value} (i:Nat) (hi:i<j8 4 2 es4 us4 10 30) (u:Value) (H:PH) (hM:StM H w rw es4 us4) (hu:SI H u (y8 4 2 es4 us4 10 30 i)):Con prog 41 [gv 4 w,u,ii ((2:Nat):Int)] H fun r H'=>Pl H H'/\r= .tuple #[iw 1,ii 0]:=by
 obtain⟨h1,h2,h3,h4⟩:=pl4 _ (in4 hi);exact c9d hM.tb hM.gr gv4 hu h1 h2 h3 ⟨aA,aA⟩ fun s hs=>⟨(sm4 s (h4 s hs)).1,(sm4 s (h4 s hs)).2,e2J s (h4 s hs)⟩
def UP (n:Nat):qN (n+1) (n+1)=qN 1 1:=by
 unfold qN;rw[Rat.divInt_eq_divInt_iff aA aC];omega
def UQ {r:Rat} (hr:Rg r) (n:Nat):TalP (eS (n+1) r) [⟨(r,qN 1 1),hr,rgT 1 1 aC⟩]:=by
 refine⟨lF _ _,fun q=>⟨?_,?_⟩⟩
 ·rintro⟨x,hx,rfl⟩;rw[bA.1 hx];exact⟨aD,by rw[iI,kW];exact(UP n).symm⟩
 ·obtain⟨a,b⟩:=q;rintro⟨h1,h2⟩;obtain rfl:a=r:=List.eq_of_mem_replicate h1;refine⟨_,bA.2 rfl,kQ rfl ?_⟩;show qN 1 1=b;rw[show b=qN (iV a (eS (n+1) a)) (eS (n+1) a).length from h2,iI,kW];exact(UP n).symm
def wlE:List Int:=[0,0,0,0]
noncomputable def ftE (S:Nat):Bool:=if S<M64 then cnS es4 S&&(decide (Ac wlE S≥0)&&decide (Ac wlE S<=0))else alB es4 wlE 0 0 S
def UR:alB es4 wlE 0 0=ftE:=by
 funext S;unfold ftE;split
 ·rename_i h;unfold alB;rw[Zs gv4 h]
 ·rfl
def pNE:j8 4 2 es4 usE 0 0=3:=by show Bq (alB es4 wlE 0 0) 4 2=3;rw[UR];decide+kernel
def pIE (i:Nat):y8 4 2 es4 usE 0 0 i=Gf ftE 4 2 i:=by show Gf (alB es4 wlE 0 0) 4 2 i=_;rw[UR]
def vlE:vlL dm0 4 2 3 0 0 es4 usE 0 0=eS 3 1:=by
 have h:∀i,i<3->Jk es4 (Gf ftE 4 2 i)=1:=by decide+kernel
 have hv:∀i,i<3->s0 dm0 4 es4 usE 2 3 0 0 (y8 4 2 es4 usE 0 0 i)=1:=fun i hi=>by
  show((Jk es4 (y8 4 2 es4 usE 0 0 i):Nat):Rat)=1;rw[pIE,h i hi];rfl
 unfold vlL;rw[pNE];show[s0 _ _ _ _ _ _ _ _ _,s0 _ _ _ _ _ _ _ _ _,s0 _ _ _ _ _ _ _ _ _]=_;rw[hv 0 aC,hv 1 aC,hv 2 aC];rfl
def plA:PlOk 4 2 [0,0,1,1]:=⟨rfl,aC,aC⟩
def okA {c:Nat}:∀i q s' l,chI (Fj 4 esA (wlU us4 4) 10 30 ((2:Nat):Int)) [1,1,0,0] c (i+1)= .inr (q,s',l)->PlOk 4 2 q:=fun i q s' l h=>by
 have e:=(chA c i).symm.trans h
 injection e with e
 injection e with e1 _
 rw[<-e1];exact plA
def vaA:s0 dm0 4 esA us4 2 2 0 0 [0,0,1,1]=20:=by
 have h:∀z,Ff (Br Un.ppl us4 [0,0,1,1] 4 0) (Bt Un.ppl us4 [0,0,1,1] 2 4)=z->s0 dm0 4 esA us4 2 2 0 0 [0,0,1,1]=(z:Rat):=fun z e=>by
  show((Ff _ _:Int):Rat)=_;rw[e]
 exact(h 20 (by decide+kernel)).trans (by rfl)
def d9q {n:Nat} {m:List MaT} (h:TalP ((eS (n+1) [0,0,1,1]).map (s0 dm0 4 esA us4 2 2 0 0)) m):m=[k21]:=by
 rw[List.map_replicate,vaA]at h;exact TalP.uniq h (UQ my n)
def fit8:Bl 4 es4 wl4 10 30 2 [0,1,0,1]=false:=by
 unfold Bl;rw[show alB es4 wl4 10 30=ftH 10 30 from Rj 10 30];decide+kernel
def CB {c:Nat}:Fj 4 es4 wl4 10 30 2 [0,1,0,1] c= .inl 8:=by
 have hb:bdE 4 wl4 10 30 2=0:=aC;unfold Fj;rw[if_neg (by rw[hb];simp),if_neg (by rw[fit8];simp)]
def US {p:List Int} {es:List (Nat×Nat)} (hg:GV 4 es):Rg (s0 dm0 4 es us4 2 2 0 0 p):=ko rv4 hg aC ((so4 (lo:=10) (hi:=30) (.inl rfl)).mok fun e=>by cases e)
section
variable {H:PH} {u w rw:Value} {c0:Nat}
def d5J (hM:StM H w rw esA us4) (hu:SI H u [1,1,0,0]) (hc:c0<M64):Con prog 10 [stV dm0 4 2 2 0 0 w rw 10 30,u,ii 200,chV c0] H fun r H'=>Pl H H'/\∃t v s',r= .tuple #[t,v,chV s',ii 0]/\SI H' v [0,0,1,1]/\SE H' 32 ceM t [k21]:=
 (UJ (st:=200) (F:=Fj 4 esA (wlU us4 4) 10 30 ((2:Nat):Int)) hu hc aC hM soA (fun e=>by cases e) (fun i q s l h X v wt hl hv hs hw=>UG (hM.tb.mono hl) (hM.gr.mono hl) gvA hw hv aC hs fun _=>⟨rfl,joA (e1h h)⟩) okA fun q _=>US gvA).mono fun r H' h=>by
  obtain⟨l,t,v,s',e,rfl,hs,hE⟩:=h;have hc:=chA c0 199;rcases hE with⟨rfl,q,l2,m,h2,h3,h4,h5⟩|h2
  ·have e:=hc.symm.trans h2
   injection e with e
   injection e with e1 e
   injection e with e2 e3
   subst e1;subst e3;rw[d9q h5]at h4;exact⟨l,t,v,s',rfl,h3,h4⟩
  ·exact nomatch hc.symm.trans h2
def d5K (hM:StM H w rw es4 us4) (hu:SI H u [0,1,0,1]) (hc:c0<M64):Con prog 10 [stV dm0 4 2 2 0 0 w rw 10 30,u,ii 1,chV c0] H fun r H'=>Pl H H'/\∃t v s',r= .tuple #[t,v,chV s',ii 8]:=
 (UJ (st:=1) (F:=Fj 4 es4 (wlU us4 4) 10 30 ((2:Nat):Int)) hu hc aC hM (so4 (.inl rfl)) (fun e=>by cases e) (fun i q s l h X v wt hl hv hs hw=>UG (hM.tb.mono hl) (hM.gr.mono hl) gv4 hw hv aC hs fun hf=>by
   have hq:q=[0,1,0,1]:=by
    cases i with
    |zero=>injection h with h;injection h with h _;exact h.symm
    |succ i=>exact nomatch (BU (mr rfl CB) (nK 1 i)).symm.trans h
   subst hq;exact nomatch fit8.symm.trans hf) (fun i q s' l h=>nomatch (BU (mr rfl CB) (nK 1 i)).symm.trans h) fun q _=>US gv4).mono fun r H' h=>by
  obtain⟨l,t,v,s',e,rfl,hs,hE⟩:=h;have hc:chI (Fj 4 es4 (wlU us4 4) 10 30 ((2:Nat):Int)) [0,1,0,1] c0 1= .inl 8:=mr rfl CB;rcases hE with⟨rfl,q,l2,m,h2,h3,h4,h5⟩|h2
  ·exact nomatch hc.symm.trans h2
  ·have e:=hc.symm.trans h2
   injection e with e
   subst e;exact⟨l,t,v,s',rfl⟩
end
def d5L:g6 prog [] [(42,false),(81,true),(86,true),(91,true),(96,true),(101,true),(106,true),(111,true),(119,true),(135,true),(247,true),(260,true),(266,true),(270,true),(274,true),(278,true),(282,true),(286,true),(296,true),(301,true),(305,true),(309,true)] [⟨0,36,[],[15]⟩] [⟨4,rPx 12 0++[4033,8131,16327,32719,65503,131071],rPx 6 5++rPx 6 3++rPx 6 8,rPx 12 0++rPx 6 1,rAx 0 12,[12,13,14,15,16,17]⟩,⟨45,[0,1,3,7,15,31,63,127,255,15,1023,2047,4095,4095,16383,32767,65535,131071,131071,393215,1048575,2097151,4194303,8388607,16777215,33554431,67108863,134217727,268435455,536870911,1073741823,2147483647,4294967295,8589934591,17179869183,34359738367,68719476735,137438953471,274877906943,549755813887,1099511627775,2199023255551,4398046511103,8796093022207,17592186044415,35184372088831,70368744177663,140737488355327]++rPx 2 8796093022207++[1125899906842623,2251799813685247,4503599627370495]++rPx 2 9007199254740991++[36028797018963967,72057594037927935,144115188075855871,288230376151711743,576460752303423487,1152921504606846975,2305843009213693951,4611686018427387903,9223372036854775807,18446744073709551615,36893488147419103231,73786976294838206463,147573952589676412927,295147905179352825855,590295810358705651711],rDx 43 25000200225220220000++rDx 27 2200020022022,rPx 9 0++rDx 9 7++rDx 52 1,rDx 10 8765493210++rAx 10 33++[48,49]++rAx 43 5++rAx 50 20,[]⟩] 3=some (.call false 4 []
(.rq (.bool V0) (.rq (.isb false (.nt V0)) (.call false 5 []
(.rq (.cells 12 V1) (.call false 6 [(.cell V1 5 0 noI)]
(.rq (.cells 1 V2)
(.pm f3 7 3 [(.cell (.cat (.sub (.ag V1) 0 5 0 noI) 5 (.cat V2 1 (.sub (.ag V1) 6 6 0 noI))) 5 0 noI),(.ki 0)]
(.pm f3 7 4 [V3]
(.ef false f3 7 5 [V4,(kI (-1))]
(.call false 6 [(.cell V1 5 0 noI)]
(.ef false f3 9 5 [(.cat (.k (.string ⟨#[101]⟩)) 1 (.cat (.z 3) 1 (.cat (.z 33) 1 (.cat (.z 33) 1 (.cat (.z 33) 1 (.z 4))))))]
(.ef false f3 9 6 [V6,V7]
(.rq (.cells 1 V8) (.call false 7 [(.ag V1)]
(.ri V9
(.rq (.isb true (.io .eql V9 (.ki 0))) (.call false 7 [(.cat (kI (-1)) 1 (.sub (.ag V1) 1 11 0 noI))]
(.ri V10
(.rq (.isb true (.io .neq V10 (.ki 0))) (.call false 7 [(.put (.cat (.sub (.ag V1) 0 5 0 noI) 5 (.cat V2 1 (.sub (.ag V1) 6 6 0 noI))) 9 1 (.ki 0) 0 noI)]
(.ri V11
(.rq (.isb true (.io .neq V11 (.ki 0))) (.call false 7 [(.put (.cat (.sub (.ag V1) 0 5 0 noI) 5 (.cat V2 1 (.sub (.ag V1) 6 6 0 noI))) 9 1 (.ki 0) 0 noI)]
(.ri V12
(.rq (.isb true (.io .neq V12 (.ki 2))) (.call false 7 [(.put (.cat (.sub (.ag V1) 0 5 0 noI) 5 (.cat V8 1 (.sub (.ag V1) 6 6 0 noI))) 9 1 (.ki 0) 0 noI)]
(.ri V13
(.rq (.isb true (.io .eql V13 (.ki 5))) (.call false 7 [(.put (.cat (.sub (.ag V1) 0 8 0 noI) 8 (.cat (.ki 9) 1 (.sub (.ag V1) 9 3 0 noI))) 9 1 (.ki 0) 0 noI)]
(.ri V14
(.rq (.isb true (.io .eql V14 (.ki 2))) (.call false 7 [(.cat (.sub (.ag V1) 0 9 0 noI) 9 (.cat (.ki 9) 1 (.sub (.ag V1) 10 2 0 noI)))]
(.ri V15
(.rq (.isb true (.io .eql V15 (.ki 2))) (.call false 7 [(.cat (.sub (.ag V1) 0 9 0 noI) 9 (.cat (.ki 8) 1 (.sub (.ag V1) 10 2 0 noI)))]
(.ri V16
(.rq (.isb true (.io .eql V16 (.ki 2))) (.call false 7 [(.cat (.sub (.put (.cat (.sub (.ag V1) 0 9 0 noI) 9 (.cat (.ki 8) 1 (.sub (.ag V1) 10 2 0 noI))) 9 1 (.ki 5) 0 noI) 0 10 0 noI) 10 (.cat (kI (-1)) 1 (.sub (.put (.cat (.sub (.ag V1) 0 9 0 noI) 9 (.cat (.ki 8) 1 (.sub (.ag V1) 10 2 0 noI))) 9 1 (.ki 5) 0 noI) 11 1 0 noI)))]
(.ri V17
(.ef false f3 19 4 [(.cat (.k (.string ⟨#[97]⟩)) 1 (.cat (.z 3) 1 (.cat (.z 33) 1 (.cat (.z 33) 1 (.cat (.z 33) 1 (.z 4)))))),(.cat (.k (.string ⟨#[98]⟩)) 1 (.cat (.z 3) 1 (.cat (.z 33) 1 (.cat (.z 33) 1 (.cat (.z 33) 1 (.z 4)))))),(.cat (.k (.string ⟨#[99]⟩)) 1 (.cat (.z 3) 1 (.cat (.z 33) 1 (.cat (.z 33) 1 (.cat (.z 33) 1 (.z 4)))))),(.cat (.k (.string ⟨#[100]⟩)) 1 (.cat (.z 3) 1 (.cat (.z 33) 1 (.cat (.z 33) 1 (.cat (.z 33) 1 (.z 4))))))]
(.rq (.cells 1 V18) (.rq (.isb true (.io .eql V17 (.ki 2))) (.call false 7 [(.cat (.sub (.put (.cat (.sub (.ag V1) 0 5 0 noI) 5 (.cat V18 1 (.sub (.ag V1) 6 6 0 noI))) 7 1 (.ki 0) 0 noI) 0 9 0 noI) 9 (.cat (.ki 1) 1 (.sub (.put (.cat (.sub (.ag V1) 0 5 0 noI) 5 (.cat V18 1 (.sub (.ag V1) 6 6 0 noI))) 7 1 (.ki 0) 0 noI) 10 2 0 noI)))]
(.ri V19
(.call false 8 [(.cat (kI (-1)) 1 (.sub (.ag V1) 1 11 0 noI))]
(.rq (.tup 0 V20) (.rq (.tup 1 V20) (.call false 9 [(.cat (.sub (.ag V1) 0 9 0 noI) 9 (.cat (.ki 9) 1 (.sub (.ag V1) 10 2 0 noI))),(.k (.slice none 0 0))]
(.rq (.tup 0 V21) (.rq (.tup 1 V21) (.rq (.tup 2 V21) (.rq (.cells 16 (.pj V21 0)) (.rq (.cells 16 (.pj V21 1))
(.ef false f3 26 1 [(.ki 0),(.ki 1),(.ki 0),(.ki 1)]
(.call false 10 [(.ag V1),V22,(.ki 0),(.z 51)]
(.rq (.tup 0 V23) (.rq (.tup 1 V23) (.rq (.tup 2 V23) (.rq (.tup 3 V23) (.rq (.cells 1 (.pj V23 2))
(.ef false f3 27 1 [(.ki 0),(.ki 1),(.ki 0),(.ki 1)]
(.call false 10 [(.ag V1),V24,(.ki 1),(.z 51)]
(.rq (.tup 0 V25) (.rq (.tup 1 V25) (.rq (.tup 2 V25) (.rq (.tup 3 V25) (.rq (.cells 1 (.pj V25 2)) (.call false 10 [(.cat (.sub (.ag V1) 0 9 0 noI) 9 (.cat (.ki 9) 1 (.sub (.ag V1) 10 2 0 noI))),(.k (.slice none 0 0)),(.ki 0),(.z 51)]
(.rq (.tup 0 V26) (.rq (.tup 1 V26) (.rq (.tup 2 V26) (.rq (.tup 3 V26) (.rq (.cells 1 (.pj V26 2))
(.ef false f3 30 2 [(.put (.put (.z 54) 0 1 (.ki 0) 0 noI) 1 1 (.ki 1) 0 noI),(.put (.put (.z 54) 0 1 (.ki 2) 0 noI) 1 1 (.ki 3) 0 noI)]
(.rq (.cells 1 V27)
(.ef false f3 31 1 [(.ki 1),(.ki 1),(.ki 0),(.ki 0)]
(.call false 10 [(.cat (.sub (.ag V1) 0 1 0 noI) 1 (.cat V27 1 (.sub (.ag V1) 2 10 0 noI))),V28,(.ki 200),(.ag (kU 5))]
(.rq (.tup 0 V29) (.rq (.tup 1 V29) (.rq (.tup 2 V29) (.rq (.tup 3 V29) (.rq (.cells 1 (.pj V29 2)) (.loop [(.ki 0),(.cat (.ki 12) 1 (.cat (.sub (.put (.cat (.sub (.sub (.z 30) 1 11 0 noI) 0 5 0 noI) 5 (.cat (.ki 6) 1 (.sub (.sub (.z 30) 1 11 0 noI) 6 5 0 noI))) 7 1 (.ki 12) 0 noI) 0 8 0 noI) 8 (.cat (.ki 3) 1 (.sub (.put (.cat (.sub (.sub (.z 30) 1 11 0 noI) 0 5 0 noI) 5 (.cat (.ki 6) 1 (.sub (.sub (.z 30) 1 11 0 noI) 6 5 0 noI))) 7 1 (.ki 12) 0 noI) 9 2 0 noI))))]
(.ri V30
(.br (.io .lss V30 (.ki 12))
(.pm f3 38 6 [(.cv .i32 (.io .add (.ki 97) V30))]
(.pm f3 38 7 [(.k (.string ⟨#[117]⟩)),V32]
(.rq (.cells 1 V33)
(.ef false f3 38 9 [(.put (.cat V33 1 (.cat (.z 3) 1 (.cat (.z 33) 1 (.cat (.z 33) 1 (.cat (.z 33) 1 (.z 4)))))) 1 1 (.ki 1) 0 noI)]
(.ef false f3 38 10 [(.cell V31 5 0 noI),V34]
(.rq (.cells 1 V35) (.br (.io .gtr V30 (.ki 0)) (.rq (.cells 1 V30)
(.ef false f3 40 7 [(.put (.put (.z 54) 0 1 (.io .sub V30 (.ki 1)) 0 noI) 1 1 V30 0 noI)]
(.ef false f3 40 8 [(.cell (.sub V31 0 5 0 noI) 1 0 noI),V36]
(.rq (.cells 1 V37) (.next 0 [(.io .add V30 (.ki 1)),(.put (.cat (.sub V31 0 5 0 noI) 5 (.cat V35 1 (.sub V31 6 6 0 noI))) 1 1 V37 0 noI)]))))) (.next 0 [(.io .add V30 (.ki 1)),(.cat (.sub V31 0 5 0 noI) 5 (.cat V35 1 (.sub V31 6 6 0 noI)))])))))))) (.call false 8 [(.ag V31)]
(.rq (.tup 0 V32) (.rq (.tup 1 V32) (.call false 11 [(.ag V31)]
(.rq (.tup 0 V33) (.rq (.tup 1 V33) (.call false 12 [(.ag V31),(.k (.bool true))]
(.rq (.tup 0 V34) (.rq (.tup 1 V34) (.rq (.tup 2 V34) (.rq (.cells 16 (.pj V34 1)) (.rq (.isb true (.io .eql V19 (.ki 7))) (.call true 14 [(.ki 1),(.ki 1)]
(.call true 14 [(.ki 1),(.ki 1)]
(.rq (.cells 16 V35) (.rq (.cells 16 V36)
(.ef true f3 45 7 [(.put (.cat V35 16 (.z 46)) 16 16 V36 0 noI)]
(.call true 13 [V37]
(.call true 15 [(.put (.cat (.sub (.put (.cat (.sub (.ag V1) 0 5 0 noI) 5 (.cat V18 1 (.sub (.ag V1) 6 6 0 noI))) 7 1 (.ki 0) 0 noI) 0 9 0 noI) 9 (.cat (.ki 1) 1 (.sub (.put (.cat (.sub (.ag V1) 0 5 0 noI) 5 (.cat V18 1 (.sub (.ag V1) 6 6 0 noI))) 7 1 (.ki 0) 0 noI) 10 2 0 noI))) 9 1 (.ki 3) 0 noI)]
(.call true 8 [V39]
(.rq (.tup 0 V40) (.rq (.tup 1 V40)
(.ef true f3 45 14 [V38,(.pj V40 0),(.pj V40 1)]
(.rq (.isb true V41) (.call true 7 [(.cat (kI (-1)) 1 (.sub (.ag V1) 1 11 0 noI))]
(.rq (.int .i64 (.pj V20 1))
(.ri V42
(.rq (.isb true (.io .eql (.pj V20 1) V42)) (.rq (.int .i64 (.pj V21 2)) (.rq (.isb true (.io .eql (.pj V21 2) (.ki 2))) (.rq (.int .i64 (.pj V23 3)) (.rq (.isb true (.io .eql (.pj V23 3) (.ki 2))) (.rq (.int .i64 (.pj V25 3)) (.rq (.isb true (.io .eql (.pj V25 3) (.ki 8))) (.rq (.int .i64 (.pj V26 3)) (.rq (.isb true (.io .eql (.pj V26 3) (.ki 2))) (.rq (.int .i64 (.pj V29 3)) (.rq (.isb true (.io .eql (.pj V29 3) (.ki 0))) (.call true 14 [(.ki 20),(.ki 1)]
(.call true 14 [(.ki 1),(.ki 1)]
(.rq (.cells 16 V43) (.rq (.cells 16 V44)
(.ef true f3 45 46 [(.put (.cat V43 16 (.z 46)) 16 16 V44 0 noI)]
(.call true 13 [V45]
(.ef true f3 45 50 [V46,(.pj V29 0),(.pj V29 3)]
(.rq (.isb true V47)
(.ef true f3 45 54 [(.ki 0),(.ki 0),(.ki 1),(.ki 1)]
(.call true 16 [(.pj V29 1),V48]
(.rq (.isb true V49) (.rq (.int .i64 (.pj V32 1)) (.rq (.isb true (.io .eql (.pj V32 1) (.ki 3))) (.rq (.int .i64 (.pj V33 1)) (.rq (.isb true (.io .eql (.pj V33 1) (.ki 3))) (.rq (.int .i64 (.pj V34 2)) (.ret [(.io .eql (.pj V34 2) (.ki 3))]))))))))))))))))))))))))))))))))))))))))))))))))))))))))))))))))))))))))))))))))))))))))))))))))))))))))))))))))))))))))))))))))))))))))))))):=aB
def d5M:g6 prog [] [] [] [] 15=some (.rq (.cells 12 V0) (.ret [(.cat (.sub V0 0 8 0 noI) 8 (.cat (.ki 0) 1 (.sub V0 9 3 0 noI)))])):=aB
def d5N:g6 prog [1] [] [] [] 7=some (.rq (.cells 12 V0) (.pub 30 V0
(.ef false f7 1 0 [V1]
(.call false 18 [V2]
(.rq (.tup 0 V3) (.rq (.tup 1 V3) (.ret [(.pj V3 1)]))))))):=aB
def c9h:g6 prog [] [] [] [] 19=some (.pm f19 1 0 [V0]
(.call false 20 [V1]
(.ret [V2]))):=aB
def d5O:g6 prog [] [] [] [] 6=some (.pm f6 1 1 [V0,(.k (.slice none 0 0))]
(.rq (.bool V1) (.br V1
(.ret [(.k (.slice none 0 0))])
(.ef false f6 3 0 []
(.ef false f6 3 2 [V2,V0]
(.ret [V3])))))):=aB
def c4A:q8 prog 19=true:=aB
def UT:Ii prog 18 51 67 36 20 ((prog.funcs[18]?).getD default) ((prog.funcs[51]?).getD default) (Gz ((prog.funcs[51]?).getD default).body):=⟨aB,aB,aB,aB,aB,aB,aB,aB,aB,aB⟩
def e2Q:CcT prog 67 36 (.pointer none):=⟨aB,aB,aB,aB,aB,aB,aB,fun _=>oDt aB⟩
def d9s:Gz ((prog.funcs[51]?).getD default).body=Rk ((prog.funcs[51]?).getD default) 20 120 4 67 36 (.assign (.const (.pointer none))) (.move (.tmp 5)) (.region 4 #[mkO (opr f51 4 0) (some 16) (.move (.tmp 2)),mkO (opr f51 4 1) none (.panic (.tmp 16))] false):=aB
def d9t {e:Int}:Vp prog 67 36 120 4 ((prog.funcs[51]?).getD default) (.pointer none) e (Am e) 20 (.assign (.const (.pointer none))) (.move (.tmp 5)) where
 ifc:=⟨_,_,rfl⟩
 asr:=fun w=>by kernel_rfl
 zB:=aB
 hB:=aB
 cB:=aB
 fB:=fun w k=>by kernel_rfl
 zs:=aB
 zo:=fun c hc=>by simp[Value.cells]at hc;subst hc;rfl
 hT:=aB
 E1:=aB
 aE:=aB
 hE:=aB
 nb:=fun w=>by kernel_rfl
 z5:=RB
 d5:=fun c h=>by cases h
 ord:=aB
def d9u {e:Int}:Qw prog 51 67 36 (.pointer none) (Am e) e:=by
 have h:=UT;rw[d9s]at h;exact Zt mixed h d9t
def e1m (v:Value) (h:v.cells= #[v]):rdV prog 67 v.cells=v:=by
 unfold rdV;rw[show p8 prog 67=false by kernel_rfl,h];rfl
section
variable {dm:Dm} {H:PH} {n k ms lv who e:Int} {w rw:Value} {lo hi:Int}
def OpnA (dm:Dm) (H:PH) (n k ms lv who:Int) (w rw:Value) (lo hi e:Int):Prop:=∀H',Pl H H'->ConX prog 20 [stV dm n k ms lv who w rw lo hi] H' (fun v H''=>e=0/\Pl H' H''/\∃b,v= .pointer (some ⟨b,0,none⟩)) fun x H''=>Pl H' H''/\x=Am e
def b8E {a:Nat} (hs:H a=some (.cells (stC dm n k ms lv who w rw lo hi).toArray 30 (0,0))) (hO:OpnA dm H n k ms lv who w rw lo hi e):ConX prog 19 [.pointer (some ⟨a,0,none⟩)] H (fun v H'=>e=0/\Pl H H'/\∃b,v= .pointer (some ⟨b,0,none⟩)) fun x H'=>Pl H H'/\x=Am e:=by
 refine Cj mixed c9h aB rfl ?_;refine s5 (vs:=(stC dm n k ms lv who w rw lo hi)) Ea rfl rfl hs rfl (show 0+12<=12 by decide) rfl ?_;simp only[cA,nA];refine Av (hO H (Pl.refl _)) rfl ?_ ((fun x H' h=>h));rintro _ H1 ⟨e0,l1,b,rfl⟩;simp only[cA,nA];exact c9 rfl ⟨e0,l1,b,rfl⟩
def Ip (h1:n8 w=true) (h2:n8 rw=true) (hO:OpnA dm H n k ms lv who w rw lo hi e):Con prog 7 [stV dm n k ms lv who w rw lo hi] H fun r H'=>Pl H H'/\r=ii e:=by
 refine g9 mixed d5N ?_;refine b4 (Ep h1 h2) ?_;refine o0 (cs:=(stC dm n k ms lv who w rw lo hi).toArray) rfl fun a ha=> ?_;simp only[cA,nA];have la:=PH.le_put ha (.cells (stC dm n k ms lv who w rw lo hi).toArray 30 (0,0));refine x5 (Ai (vs:=[.pointer (some ⟨a,0,none⟩)]) rfl rfl) rfl ?_;simp only[cA,nA];refine g5 (Ol (caps:=[.pointer (some ⟨a,0,none⟩)]) (XE:=fun e' H'=>e'=e/\Pl H H') mixed UT e2Q c4A (b8E (PH.put_self _ _ _) (fun H' l=>hO H' (la.trans l))) (fun _ _ h=>by obtain⟨_,_,b,rfl⟩:=h;exact⟨by show 1=_;kernel_rfl,fun c hc=>by simp[Value.cells]at hc;subst hc;rfl,e1m _ rfl⟩) (fun x H' hx=>⟨e,hx.2 ▸ d9u,rfl,la.trans hx.1⟩)) rfl ?_;rintro r0 H4 hX;refine nmI ?_;simp only[cA,nA];obtain⟨v,rfl,l4⟩:∃v,r0= .tuple #[v,ii e]/\Pl H H4:=by
  rcases hX with⟨v,⟨rfl,l,_⟩,rfl⟩|⟨_,⟨rfl,l4⟩,rfl⟩
  ·exact⟨v,rfl,la.trans l⟩
  ·exact⟨_,rfl,l4⟩
 refine g7 (g7 ?_);exact c9 rfl ⟨l4,rfl⟩
end
end Go.Z
namespace Go.GS
def unB:Un:=un1 [97] (-1)
def usB:List Un:=unB::us4.tail
end Go.GS
namespace Go.Z
open Proofs.Tryz RowKit RX GS RZ WD
section
variable {dm:Dm} {H:PH} {n k ms lv who e eg ec ee:Int} {m:Nat} {us:List GS.Un} {w rw:Value} {lo hi:Int}
def Zz (h1:n8 w=true) (h2:n8 rw=true) (hg:∀H',Pl H H'->j5 prog 52 [.agg #[ii n,w]] H' (ii eg)) (hc:eg=0->∀H',Pl H H'->j5 prog 53 [rov dm rw] H' (ii ec)) (hv:eg=0->ec=0->RoV dm m us/\RoR H rw us)
  (he:eg=0->ec=0->(m:Int)=n->∀H' wts,Pl H H'->SI H' wts (wlU us m)->j5 prog 54 [.agg #[ii n,w],bv wts lo hi k] H' (ii ee))
  (hE:Dy eg ec (decide ((m:Int)≠n)) ee (Dx dm ms lv who (s8 us m))=e):OpnA dm H n k ms lv who w rw lo hi e:=fun H' l=>
 (PD (eg:=eg) (ec:=ec) (ee:=ee) (m:=m) h1 h2 (fun H2 l2=>hg H2 (l.trans l2)) (fun e0 H2 l2=>hc e0 H2 (l.trans l2)) (fun a b=>⟨(hv a b).1,(hv a b).2.mono l⟩) (fun a b c H2 wts l2 hw=>he a b c H2 wts (l.trans l2) hw)).mono
  (fun v H'' ⟨⟨a,b,c,d,f⟩,l2,x,_,hx,_⟩=>⟨by rw[<-hE];unfold Dy;rw[if_neg (by simp[a]),if_neg (by simp[b]),decide_eq_false (by simp[c]),if_neg aD,if_neg (by simp[d])];exact f,l2,x,hx⟩)
  fun x H'' h=>⟨h.1,by rw[<-hE];exact h.2.1⟩
def OpnA.x (h:OpnA dm H n k ms lv who w rw lo hi e) (he:e≠0):OpnX dm H n k ms lv who w rw lo hi e:=fun H' l=>(h H' l).mono (fun _ _ g=>absurd g.1 he) fun _ _ g=>g
def CC (h1:n8 w=true) (h2:n8 rw=true) (hn:n<1):OpnA dm H n k ms lv who w rw lo hi 180:=
 Zz (eg:=180) (ec:=0) (ee:=0) (m:=0) (us:=[]) h1 h2 (fun H' l=>b8A h1 hn) (fun h=>by cases h) (fun h=>by cases h) (fun h=>by cases h) rfl
end
section
variable {dm:Dm} {H:PH} {n:Nat} {k ms lv who e:Int} {es:List (Nat×Nat)} {us:List GS.Un} {w rw:Value} {lo hi:Int}
def c9i {m:Nat} (hM:StM H w rw es us) (hg:GV n es) (hr:RoV dm m us) (hmn:m≠n):OpnA dm H n k ms lv who w rw lo hi 5:=
 Zz (eg:=0) (ec:=0) (ee:=0) (m:=m) (us:=us) (t7 hM.gr) hM.ro.one (fun H' l=>Fv (hM.gr.mono l) hg) (fun _ H' l=>Uz (hM.ro.mono l) hr) (fun _ _=>⟨hr,hM.ro⟩) (fun _ _ h=>absurd aA hmn) (by
  unfold Dy;rw[if_neg aD,if_neg aD,oDd aA];rfl)
def d5P (hM:StM H w rw es us) (hg:GV n es) (hr:RoV dm n us) (hn:n<=12) (e1:(wlU us n).length=n) (e2:0<=lo) (e3:hi<lo) (e4:1<=k) (e5:k<=8) (e6:∀x∈wlU us n,0<=x/\x<=1000000000):OpnA dm H n k ms lv who w rw lo hi 2:=
 Zz (eg:=0) (ec:=0) (ee:=2) (m:=n) (us:=us) (t7 hM.gr) hM.ro.one (fun H' l=>Fv (hM.gr.mono l) hg) (fun _ H' l=>Uz (hM.ro.mono l) hr) (fun _ _=>⟨hr,hM.ro⟩) (fun _ _ _ H' wts l hw=>b8B (hM.gr.mono l) hg hn hw e1 e2 e3 e4 e5 e6) (by
  unfold Dy;rw[if_neg aD,if_neg aD,decide_eq_false aD];rfl)
def Rw (hM:StM H w rw es us) (hg:GV n es) (hr:RoV dm n us) (hn:n<=12) (hb:Kz n (wlU us n) lo hi k) (hE:Dx dm ms lv who (s8 us n)=e):OpnA dm H n k ms lv who w rw lo hi e:=
 Zz (eg:=0) (ec:=0) (ee:=0) (m:=n) (us:=us) (t7 hM.gr) hM.ro.one (fun H' l=>Fv (hM.gr.mono l) hg) (fun _ H' l=>Uz (hM.ro.mono l) hr) (fun _ _=>⟨hr,hM.ro⟩) (fun _ _ _ H' wts l hw=>ye (hM.gr.mono l) hg hn hw hb) (by
  unfold Dy;rw[if_neg aD,if_neg aD,decide_eq_false aD,if_neg aD,if_neg aD];exact hE)
def UU (hw:SG H w es) (hg:GV n es) (hr:RoR H rw usB):OpnA dm0 H n k ms lv who w rw lo hi 161:=
 Zz (eg:=0) (ec:=161) (ee:=0) (m:=0) (us:=[]) (t7 hw) hr.one (fun H' l=>Fv (hw.mono l) hg) (fun _ H' l=>b8D (x:=unB) (hr.mono l) rfl (mt (p:=0) aC aC aC aC) rfl aC rfl aC aC aC aC) (fun _ h=>by cases h) (fun _ h=>by cases h) rfl
def bd4 {lo hi:Int} (h0:0<=lo) (h1:lo<=hi):Kz 4 (wlU us4 4) lo hi 2:=⟨aC,h0,h1,aC,aC,aC⟩
def e2R {lo hi:Int} (h0:0<=lo) (h1:lo<=hi):Kz 4 (wlU usE 4) lo hi 2:=⟨aC,h0,h1,aC,aC,aC⟩
def me9 (b:Bool):Dx dm0 9 0 0 b=2:=by cases b<;>decide
def me8 (b:Bool):Dx dm0 8 0 0 b=2:=by cases b<;>decide
def me5 (b:Bool):Dx dm0 5 (-1) 0 b=2:=by cases b<;>decide
def me2 (b:Bool):Dx dm0 2 0 0 b=0:=by cases b<;>decide
def me1:Dx dm0 1 0 0 (s8 usE 4)=7:=aC
end
def UV:∀(lb la z:List Value),z.length=lb.length->Vo (la++z) la.length lb=la++lb
 |[],la,z,h=>by rw[List.length_eq_zero_iff.1 h];rfl
 |y::ys,la,[],h=>by cases h
 |y::ys,la,z0::zs,h=>by
  have ih:=UV ys (la++[y]) zs (by simpa using h);rw[aL,bL,bL]at ih;show Vo ((la++z0::zs).set la.length y) (la.length+1) ys=_;rw[List.set_append_right _ _ (aS _),eA];exact ih
def d9v:j3 prog 46= .agg (eS 16 (.int .u64 0)).toArray:=aB
section
variable {H:PH} {ρ:List Value} {x y:SV}
def e1n:D prog ρ (.z 46)= .agg (eS 16 (.int .u64 0)).toArray:=d9v
def aa {a b:Rat} (hx:D prog ρ x=shR a) (hy:D prog ρ y=shR b):D prog ρ (.put (.cat x 16 (.z 46)) 16 16 y 0 noI)= .agg (shw a++shw b):=by
 have h1:D prog ρ x= .agg (shw a).toList.toArray:=by rw[hx,En]
 have h2:D prog ρ y= .agg (shw b).toList.toArray:=by rw[hy,En]
 have h:=e0O (n:=16) (o:=16) (Gh (n:=16) h1 e1n) h2;rw[h];congr 1;apply Array.ext';have ha:(shw a).toList.length=16:=by rw[bU,Ao]
 have hb:(shw b).toList.length=16:=by rw[bU,Ao]
 have e:=UV (shw b).toList (shw a).toList (eS 16 (.int .u64 0)) (by rw[iI,hb]);rw[ha]at e;rw[e];simp
def mz:j5 prog 14 [ii 20,ii 1] H (shR 20):=Rm aC aC aC aC aC (by decide+kernel) my
def UW:j5 prog 14 [ii 30,ii 1] H (shR 30):=Rm aC aC aC aC aC (by decide+kernel) UN
def CE:j5 prog 14 [ii 1,ii 3] H (shR (qN 1 3)):=Rm aC aC aC aC aC rfl (rgT 1 3 aC)
def UX:j5 prog 14 [ii 2,ii 3] H (shR (qN 2 3)):=Rm aC aC aC aC aC rfl (rgT 2 3 aC)
def CG:j5 prog 14 [ii 1,ii 1] H (shR (qN 1 1)):=Rm aC aC aC aC aC rfl (rgT 1 1 aC)
def e2S:j5 prog 14 [ii 0,ii 1] H (shR 0):=Rm aC aC aC aC aC (by decide+kernel) ((show qN 0 3=0 by decide+kernel) ▸ rgT 0 3 aC)
def UY {w rw:Value} {lo:Int} {z:SV} (hx:D prog ρ x=stV dm0 4 2 2 0 0 w rw 10 30) (hz:D prog ρ z=ii lo):D prog ρ (.cat (.sub (.ag x) 0 7 0 noI) 7 (.cat z 1 (.sub (.ag x) 8 4 0 noI)))=stV dm0 4 2 2 0 0 w rw lo 30:=by
 have h:D prog ρ (.ag x)= .agg (stC dm0 4 2 2 0 0 w rw 10 30).toArray:=by show Value.agg (D prog ρ x).cells=_;rw[hx];rfl
 exact Gh (n:=7) (Bf h) (Bc (n:=1) hz rfl (Bf h))
def ab:q8 prog 47=true:=aB
def UZ:q8 prog 50=true:=aB
def e1q:(j3 prog 51)= .agg #[.int .u64 0]:=aB
set_option maxHeartbeats 4000000 in
def c9j (hT:Tb H):j5 prog 4 [] H (.bool true):=by
 refine g9 mixed d4B ?_;have hS:=so4 (lo:=10) (hi:=30) (.inl rfl);have hz:(2:Nat)=1->s8 us4 4=true:=fun h=>by cases h
 have hp:0<j8 4 2 es4 us4 10 30:=by rw[Ln];decide
 have hN:j8 4 2 es4 us4 10 30<=400:=by rw[Ln];decide
 have hr:=AD hS hz;refine g5 (RQ hT) rfl ?_;rintro _ H0 ⟨l0,w,rw',rfl,hM⟩;refine nmI ?_;simp only[cA,nA];refine b4 (Ep (t7 hM.gr) hM.ro.one) ?_;refine i9 (mz) rfl fun H1 l1=> ?_;simp only[cA,nA];refine i9 (CE) rfl fun H2 l2=> ?_;simp only[cA,nA];refine b4 (r4 _ _) ?_;refine b4 (r4 _ _) ?_;refine i9 (UW) rfl fun H3 l3=> ?_;simp only[cA,nA];refine i9 (UX) rfl fun H4 l4=> ?_;simp only[cA,nA];refine b4 (r4 _ _) ?_;refine b4 (r4 _ _) ?_;refine Ba Vf (l:=[k20,k30]) (vs:=[veM k20,veM k30]) rfl aC aC rfl rfl (j0 (aa rfl rfl) (aa rfl rfl)) fun v5 H5 l5 o5 _=> ?_;simp only[cA,nA];refine g5 (ku o5.se) rfl ?_;rintro _ H6 ⟨l6,c,rfl,hc⟩;refine nmI ?_;simp only[cA,nA];have m6:=(l1.trans l2).trans ((l3.trans l4).trans (l5.trans l6));refine g5 (RA (gb:=true) (hM.mono m6) hS hz hp hN hr) rfl ?_;rintro _ H7 ⟨l7,pl,rfl,tQ⟩;refine nmI ?_;simp only[cA,nA];refine g7 (g7 (g7 ?_));refine b4 (r4 _ _) ?_;refine g5 (RA (gb:=false) (hM.mono (m6.trans l7)) hS hz hp hN hr) rfl ?_;rintro _ H8 ⟨l8,ql,rfl,hql⟩;refine nmI ?_;simp only[cA,nA];refine g7 (g7 (g7 ?_));refine b4 (r4 _ _) ?_;have m8:=(m6.trans l7).trans l8;refine g5 (jx (hM.mono m8) hS hz hp hN hr) rfl ?_;rintro _ H9 ⟨l9,t9,mm,rfl,hs9,hT9⟩;refine⟨(fun _=>l9),?_⟩;simp only[cA,nA];obtain⟨rfl,ra,rb,rc,rd⟩:=rk4 hT9;have l69:=(l7.trans l8).trans l9;refine g7 (g7 ?_);refine j4 (Bh (f:=47) (caps:= #[.pointer (some ⟨c,0,none⟩)]) (vs:=[t9,ii 0]) rfl rfl rfl ab (Zu (l69 _ _ hc) hs9 (o5.se.mono (l6.trans l69)))) rfl ?_;rintro _ _ ⟨rfl,rfl⟩;refine⟨(fun _=>Pl.refl _),?_⟩;simp only[cA,nA];refine b9 ?_;refine Ah rfl ?_;refine g5 (c9e (hM.mono (m8.trans l9)) hS hz hp hN hr e2P) rfl ?_;rintro _ H10 ⟨l10,t10,mm,rfl,a5f,a5g⟩;refine⟨(fun _=>l10),?_⟩;simp only[cA,nA];obtain⟨rfl,-,-,-,-⟩:=rk4 a5g;refine g7 (g7 ?_);refine j4 (Bh (f:=47) (caps:= #[.pointer (some ⟨c,0,none⟩)]) (vs:=[t10,ii 0]) rfl rfl rfl ab (Zu ((l69.trans l10) _ _ hc) a5f (o5.se.mono (l6.trans (l69.trans l10))))) rfl ?_;rintro _ _ ⟨rfl,rfl⟩;refine⟨(fun _=>Pl.refl _),?_⟩;simp only[cA,nA];refine b9 ?_;refine Ah rfl ?_;refine i9 (e2S) rfl fun H11 l11=> ?_;simp only[cA,nA];refine i9 (CE) rfl fun H12 l12=> ?_;simp only[cA,nA];refine g5 (RJ) rfl ?_;rintro _ H13 ⟨l13,c1,d1,rfl,qL,tD⟩;refine⟨(fun _=>l13),?_⟩;simp only[cA,nA];refine QS y6 (N:=4) (l:=[0,0,1,1]) (vs:=[ii 0,ii 0,ii 1,ii 1]) rfl aC aC rfl rfl rfl fun v16 H14 l14 o14=> ?_;simp only[cA,nA];have m14:=(m8.trans l9).trans (l10.trans ((l11.trans l12).trans (l13.trans l14)));refine g5 (QT o14.se (UO (.inl rfl)) (hM.mono m14) hS hz hp hN hr (ko rv4 gv4 hS.hk (hS.mok hz))) rfl ?_;rintro _ H15 ⟨l15,mm,a2r,rfl⟩;refine⟨(fun _=>l15),?_⟩;simp only[cA,nA];rw[(rk4 a2r).2.1,(rk4 a2r).2.2.1];refine g7 (g7 (g7 ?_));refine j4 (Bh (f:=50) (caps:= #[.pointer (some ⟨c1,0,none⟩),.pointer (some ⟨d1,0,none⟩)]) (vs:=[shR 0,shR (qN 1 3),ii 0]) rfl rfl rfl UZ (RN ((l14.trans l15) _ _ qL) ((l14.trans l15) _ _ tD))) rfl ?_;rintro _ _ ⟨rfl,rfl⟩;refine⟨(fun _=>Pl.refl _),?_⟩;simp only[cA,nA];refine b9 ?_;refine Ah rfl ?_;refine i9 (CE) rfl fun H16 l16=> ?_;simp only[cA,nA];refine i9 (UX) rfl fun H17 l17=> ?_;simp only[cA,nA];refine g5 (RJ) rfl ?_;rintro _ H18 ⟨l18,c2,d2,rfl,qO,pE⟩;refine⟨(fun _=>l18),?_⟩;simp only[cA,nA];refine QS y6 (N:=4) (l:=[1,0,0,0]) (vs:=[ii 1,ii 0,ii 0,ii 0]) rfl aC aC rfl rfl rfl fun v22 H19 l19 o19=> ?_;simp only[cA,nA];have m19:=(m14.trans l15).trans ((l16.trans l17).trans (l18.trans l19));refine g5 (QT o19.se (UO (.inr rfl)) (hM.mono m19) hS hz hp hN hr (ko rv4 gv4 hS.hk (hS.mok hz))) rfl ?_;rintro _ H20 ⟨l20,mm,a2s,rfl⟩;refine⟨(fun _=>l20),?_⟩;simp only[cA,nA];rw[(rk4 a2s).2.2.2.1,(rk4 a2s).2.2.2.2];refine g7 (g7 (g7 ?_));refine j4 (Bh (f:=50) (caps:= #[.pointer (some ⟨c2,0,none⟩),.pointer (some ⟨d2,0,none⟩)]) (vs:=[shR (qN 1 3),shR (qN 2 3),ii 0]) rfl rfl rfl UZ (RN ((l19.trans l20) _ _ qO) ((l19.trans l20) _ _ pE))) rfl ?_;rintro _ _ ⟨rfl,rfl⟩;refine⟨(fun _=>Pl.refl _),?_⟩;simp only[cA,nA];refine b9 ?_;refine Ah rfl ?_;refine Ba y6 (N:=4) (l:=[0,0,0,1]) (vs:=[ii 0,ii 0,ii 0,ii 1]) rfl aC aC rfl rfl rfl fun v25 H21 l21 o21 _=> ?_;simp only[cA,nA];have m7:=l8.trans (l9.trans (l10.trans ((l11.trans l12).trans (l13.trans l14))));have m721:=m7.trans ((l15.trans ((l16.trans l17).trans (l18.trans l19))).trans (l20.trans l21));have a5h:SI H7 pl [0,0,0,1]:=by have h:=tQ;rw[Vn,Ln,bst4.2.2.1,i1030.1]at h;exact h
 have a5i:SI H8 ql [0,0,1,1]:=by have h:=hql;rw[Vn,Ln,bst4.2.2.2,i1030.2.1]at h;exact h
 refine s7 (mh (a5h.mono m721) o21.se) rfl ?_;simp only[cA,nA];refine b9 ?_;refine Ah rfl ?_;refine i9 (UW) rfl fun H22 l22=> ?_;simp only[cA,nA];refine j6 ((kq 30 rfl rfl rfl).rds _) (j0 (by show Value.agg (shR _).cells=_;rw[Vn,Ln,bst4.1];exact kw 30) rfl) ?_;simp only[cA,nA];refine b9 ?_;refine Ah rfl ?_;refine b9 ?_;refine Ah rfl ?_;refine Ba y6 (N:=4) (l:=[0,0,1,1]) (vs:=[ii 0,ii 0,ii 1,ii 1]) rfl aC aC rfl rfl rfl fun v29 H23 l23 o23 _=> ?_;simp only[cA,nA];have m823:=(l9.trans (l10.trans ((l11.trans l12).trans (l13.trans l14)))).trans (((l15.trans ((l16.trans l17).trans (l18.trans l19))).trans (l20.trans l21)).trans (l22.trans l23));refine s7 (mh (a5i.mono m823) o23.se) rfl ?_;simp only[cA,nA];refine b9 ?_;refine Ah rfl ?_;refine i9 (mz) rfl fun H24 l24=> ?_;simp only[cA,nA];refine j6 ((kq 20 rfl rfl rfl).rds _) (j0 (by show Value.agg (shR _).cells=_;rw[Vn,Ln,bst4.2.1];exact kw 20) rfl) ?_;simp only[cA,nA];refine b9 ?_;refine Ah rfl ?_;have m24:=m8.trans (m823.trans l24);refine b9 ?_;refine g5 (SB (hM.mono m24) (so4 (lo:=21) (hi:=30) (.inr (.inr rfl))) hz (.inl ⟨e0M,rfl⟩)) (j7 (UY rfl rfl)) ?_;rintro _ H25 ⟨l25,rfl⟩;refine nmI ?_;simp only[cA,nA];refine g7 (g7 ?_);refine Ba y6 (N:=4) (l:=[0,0,0,0]) (vs:=[ii 0,ii 0,ii 0,ii 0]) rfl aC aC rfl rfl rfl fun v34 H26 l26 o26 _=> ?_;simp only[cA,nA];have m26:=m24.trans (l25.trans l26);refine g5 (c3K o26.se e2O (hM.mono m26) hS hz) rfl ?_;rintro _ H27 ⟨l27,rfl⟩;refine nmI ?_;simp only[cA,nA];refine g7 (g7 (g7 ?_));refine b4 Zv ?_;refine b4 Zv ?_;refine Ba y6 (N:=4) (l:=[0,0,1,1]) (vs:=[ii 0,ii 0,ii 1,ii 1]) rfl aC aC rfl rfl rfl fun v36 H28 l28 o28 _=> ?_;simp only[cA,nA];have m28:=m26.trans (l27.trans l28);refine g5 (b4U (ch:=j3 prog 51) o28.se (by rw[e1q];exact⟨rfl,fun c hc=>by simp[Value.cells]at hc;subst hc;rfl⟩) (hM.mono m28) hS hz) rfl ?_;rintro _ H29 ⟨l29,ex,ey,ez,rfl,he1,he2⟩;refine nmI ?_;simp only[cA,nA];refine g7 (g7 (g7 (g7 ?_)));refine b4 ⟨he1,he2⟩ ?_;refine Ah rfl ?_;refine i9 (mz) rfl fun H30 l30=> ?_;simp only[cA,nA];refine i9 (CG) rfl fun H31 l31=> ?_;simp only[cA,nA];refine b4 (r4 _ _) ?_;refine b4 (r4 _ _) ?_;refine Ba Vf (N:=1) (l:=[k21]) (vs:=[veM k21]) rfl aC aC rfl rfl (j7 (aa rfl rfl)) fun v40 H32 l32 o32 _=> ?_;simp only[cA,nA];refine g5 (ku o32.se) rfl ?_;rintro _ H33 ⟨l33,c4,rfl,hc4⟩;refine⟨(fun _=>l33),?_⟩;simp only[cA,nA];have m33:=m28.trans (l29.trans ((l30.trans l31).trans (l32.trans l33)));have hS2:=so4 (lo:=20) (hi:=30) (.inr (.inl rfl));refine g5 (jx (hM.mono m33) hS2 hz (by rw[zy];decide) (by rw[zy];decide) (AD hS2 hz)) (j7 (UY rfl rfl)) ?_;rintro _ H34 ⟨l34,t34,mm,rfl,a1h,a1i⟩;refine⟨(fun _=>l34),?_⟩;simp only[cA,nA];obtain rfl:=m20 a1i;refine g7 (g7 ?_);refine j4 (Bh (f:=47) (caps:= #[.pointer (some ⟨c4,0,none⟩)]) (vs:=[t34,ii 0]) rfl rfl rfl ab (Zu (l34 _ _ hc4) a1h (o32.se.mono (l33.trans l34)))) rfl ?_;rintro _ _ ⟨rfl,rfl⟩;refine⟨(fun _=>Pl.refl _),?_⟩;simp only[cA,nA];refine b9 ?_;refine Ah rfl ?_;refine b9 ?_;refine Ah rfl ?_;refine b9 ?_;refine Ah rfl ?_;refine b9 ?_;exact c9 rfl ⟨l0.trans (m33.trans l34),rfl⟩
end
end Go.Z
namespace Go.GS
def Wc (i:Nat):List (Nat×Nat):=es12.take (i-1)
def c4C {i:Nat} (h0:0<i) (h:i<12):Wc i++[(i-1,i)]=Wc (i+1):=by
 have:∀i,i<12->0<i->Wc i++[(i-1,i)]=Wc (i+1):=aC;exact this i h h0
end Go.GS
namespace Go.Z
open Proofs.Tryz RowKit RX GS RZ WD
def ucM (nm:List UInt8) (p:Int):UC:=⟨nm,p,(none,0,0),(none,0,0),(none,0,0),false⟩
def ucE:List UC:=[ucM [97] 0,ucM [98] 0,ucM [99] 0,ucM [100] 0]
def uc12:List UC:=(eT 12).map fun i=>ucM [117,(97+i).toUInt8] 1
def c4D {i:Nat} (h:i<12):uc12.take i++[ucM [117,(97+i).toUInt8] 1]=uc12.take (i+1):=by
 have hi:i<uc12.length:=h;rw[cK,aG hi];simp[uc12]
section
variable {H:PH} {u:Value}
def We {nm:List UInt8} {p:Int}:UnR H (ucM nm p) (un1 nm p):=⟨rfl,rfl,rfl,SE.nil _ _ _,SE.nil _ _ _,SE.nil _ _ _⟩
def e2T (h:SE H 6 ceU u ucE):RoR H u usE:=by
 refine⟨ucE,h,rfl,fun i a x h1 h2=> ?_⟩
 match i,h1,h2 with
 |0,h1,h2=>cases h1;cases h2;exact We
 |1,h1,h2=>cases h1;cases h2;exact We
 |2,h1,h2=>cases h1;cases h2;exact We
 |3,h1,h2=>cases h1;cases h2;exact We
 |i+4,h1,h2=>cases h1
def e1r (h:SE H 6 ceU u uc12):RoR H u Lt:=by
 refine⟨uc12,h,rfl,fun i a x h1 h2=> ?_⟩;unfold uc12 at h1;unfold Lt at h2;rw[aY]at h1 h2;cases hr:(eT 12)[i]? with
 |none=>rw[hr]at h1;cases h1
 |some j=>rw[hr]at h1 h2;cases h1;cases h2;exact We
def e2U {ul:List UC} (h:SE H 6 ceU u (ul++[ucM [101] 0])) (hl:ul.length=us4.length) (hu:∀(i:Nat) u x,ul[i]? =some u->us4[i]? =some x->UnR H u x):RoR H u us5:=by
 refine⟨_,h,by rw[aL,hl];rfl,fun i a x h1 h2=> ?_⟩;have h4:us4.length=4:=rfl;by_cases hi:i<4
 ·rw[aQ aA]at h1;unfold us5 at h2;rw[aQ aA]at h2;exact hu i a x h1 h2
 ·unfold us5 at h2;rw[aN aA]at h1 h2;rw[hl]at h1;generalize i-us4.length=j at h1 h2
  match j,h1,h2 with
  |0,h1,h2=>cases h1;cases h2;exact We
  |j+1,h1,h2=>cases h1
def e2V {ul:List UC} {u0:UC} (h:SE H 6 ceU u (ul.set 0 {u0 with ppl:= -1})) (h0:ul[0]? =some u0) (hl:ul.length=us4.length) (hu:∀(i:Nat) u x,ul[i]? =some u->us4[i]? =some x->UnR H u x):RoR H u usB:=by
 refine⟨_,h,by rw[cD,hl];rfl,fun i a x h1 h2=> ?_⟩;have h4:us4.length=4:=rfl;cases i with
 |zero=>
  rw[List.getElem?_set_self aA]at h1;cases h1;cases h2;have g:=hu 0 u0 _ h0 rfl;exact⟨g.name,rfl,g.wat,g.grp,g.vot,g.par⟩
 |succ i=>
  rw[List.getElem?_set_ne aA]at h1;exact hu (i+1) a x h1 h2
def VA {l:List UC} (hu:SE H 6 ceU u l) (hl:l.length<=1000000):Con prog 6 [u] H fun r H'=>Pl H H'/\SO H H' 35 6 ceU r l:=by
 refine g9 mixed d5O ?_;obtain⟨q1,a,c,rfl,q2,q3,q4⟩:=id hu;refine j6 ((JX (p:=a) (n:=l.length) (c:=c) rfl rfl rfl el_unit.und).rds _) rfl ?_;simp only[cA,nA];refine b9 ?_;refine g8 (b:=a.isNone) rfl (fun h=> ?_) (fun h=> ?_)
 ·skip
  have h0:l.length=0:=by
   rcases q4 with h|⟨_,_,_,_,_,h,_⟩
   ·exact h
   ·subst h;cases h
  have a0r:l=[]:=aV h0;subst a0r;exact c9 rfl ⟨Pl.refl _,SO.nil _ _ _ _ _⟩
 ·skip
  refine JF el_unit rfl rfl fun v2 H1 l1 o1 _=> ?_;simp only[cA,nA];refine vh el_unit rfl rfl rfl l1 o1 (hu.mono l1) (by simp only[bR];omega) rfl rfl fun v3 H2 l2 o2 _=> ?_;simp only[cA,nA];exact c9 rfl ⟨l2,by rw[cU]at o2;exact o2⟩
end
section
variable {dm:Dm} {H:PH} {n k ms lv who a:Int} {w rw v:Value} {lo hi:Int} {ρ:List Value} {x y z:SV}
def c9k (h1:n8 w=true) (h2:n8 rw=true):Asks prog 15 [stV dm n k ms lv who w rw lo hi] H (stV dm n k ms lv who w rw lo 0):=by
 refine g9 mixed d5M ?_;refine b4 (Ep h1 h2) ?_;exact c9 (Gh (n:=8) (Bf (l:=stC dm n k ms lv who w rw lo hi) rfl) (Bc (n:=1) (v:=ii 0) rfl rfl (Bf (l:=stC dm n k ms lv who w rw lo hi) rfl))) ⟨rfl,rfl⟩
def Bm (hx:D prog ρ x=stV dm n k ms lv who w rw lo hi):D prog ρ (.ag x)=stV dm n k ms lv who w rw lo hi:=by show Value.agg (D prog ρ x).cells=_;rw[hx];rfl
def S_n (hy:D prog ρ y=stV dm n k ms lv who w rw lo hi) (hz:D prog ρ z=ii a):D prog ρ (.cat z 1 (.sub y 1 11 0 noI))=stV dm a k ms lv who w rw lo hi:=Bc (n:=1) hz rfl (Bf hy)
def S_e (hy:D prog ρ y=stV dm n k ms lv who w rw lo hi) (hz:D prog ρ z=v) (hv:v.cells= #[v]):D prog ρ (.cat (.sub y 0 1 0 noI) 1 (.cat z 1 (.sub y 2 10 0 noI)))=stV dm n k ms lv who v rw lo hi:=Gh (n:=1) (Bf hy) (Bc (n:=1) hz hv (Bf hy))
def S_u (hy:D prog ρ y=stV dm n k ms lv who w rw lo hi) (hz:D prog ρ z=v) (hv:v.cells= #[v]):D prog ρ (.cat (.sub y 0 5 0 noI) 5 (.cat z 1 (.sub y 6 6 0 noI)))=stV dm n k ms lv who w v lo hi:=Gh (n:=5) (Bf hy) (Bc (n:=1) hz hv (Bf hy))
def e2W (hy:D prog ρ y=stV dm n k ms lv who w rw lo hi) (hz:D prog ρ z=ii a):D prog ρ (.cat (.sub y 0 8 0 noI) 8 (.cat z 1 (.sub y 9 3 0 noI)))=stV dm n k ms lv who w rw lo a:=Gh (n:=8) (Bf hy) (Bc (n:=1) hz rfl (Bf hy))
def Rx (hy:D prog ρ y=stV dm n k ms lv who w rw lo hi) (hz:D prog ρ z=ii a):D prog ρ (.cat (.sub y 0 9 0 noI) 9 (.cat z 1 (.sub y 10 2 0 noI)))=stV dm n k a lv who w rw lo hi:=Gh (n:=9) (Bf hy) (Bc (n:=1) hz rfl (Bf hy))
def e2X (hy:D prog ρ y=stV dm n k ms lv who w rw lo hi) (hz:D prog ρ z=ii a):D prog ρ (.cat (.sub y 0 10 0 noI) 10 (.cat z 1 (.sub y 11 1 0 noI)))=stV dm n k ms a who w rw lo hi:=Gh (n:=10) (Bf hy) (Bc (n:=1) hz rfl (Bf hy))
def P_e (hy:D prog ρ y=stV dm n k ms lv who w rw lo hi) (hz:D prog ρ z=v) (hv:v.cells= #[v]):D prog ρ (.put y 1 1 z 0 noI)=stV dm n k ms lv who v rw lo hi:=Hg (o:=1) (n:=1) hy hz hv
def VB (hy:D prog ρ y=stV dm n k ms lv who w rw lo hi) (hz:D prog ρ z=ii a):D prog ρ (.put y 7 1 z 0 noI)=stV dm n k ms lv who w rw a hi:=Hg (o:=7) (n:=1) hy hz rfl
def Wg (hy:D prog ρ y=stV dm n k ms lv who w rw lo hi) (hz:D prog ρ z=ii a):D prog ρ (.put y 9 1 z 0 noI)=stV dm n k a lv who w rw lo hi:=Hg (o:=9) (n:=1) hy hz rfl
def VC (hx:D prog ρ x=stV dm n k ms lv who w rw lo hi):D prog ρ (.cell x 5 0 noI)=rw:=QU (l:=stC dm n k ms lv who w rw lo hi) hx
def d5R (hx:D prog ρ x=stV dm n k ms lv who w rw lo hi):D prog ρ (.cell (.sub x 0 5 0 noI) 1 0 noI)=w:=QU (l:=(stC dm n k ms lv who w rw lo hi).take 5) (Bf (l:=stC dm n k ms lv who w rw lo hi) hx)
def d5S:j3 prog 30=stV dm0 0 0 0 0 0 (.slice none 0 0) (.slice none 0 0) 0 0:=aB
def d9x:D prog ρ (.cat (.k (.int .i64 12)) 1 (.cat (.sub (.put (.cat (.sub (.sub (.z 30) 1 11 0 noI) 0 5 0 noI) 5 (.cat (.k (.int .i64 6)) 1 (.sub (.sub (.z 30) 1 11 0 noI) 6 5 0 noI))) 7 1 (.k (.int .i64 12)) 0 noI) 0 8 0 noI) 8 (.cat (.k (.int .i64 3)) 1 (.sub (.put (.cat (.sub (.sub (.z 30) 1 11 0 noI) 0 5 0 noI) 5 (.cat (.k (.int .i64 6)) 1 (.sub (.sub (.z 30) 1 11 0 noI) 6 5 0 noI))) 7 1 (.k (.int .i64 12)) 0 noI) 9 2 0 noI))))=stV dm0 12 6 3 0 0 (.slice none 0 0) (.slice none 0 0) 0 12:=by
 have hz:D prog ρ (.z 30)= .agg (stC dm0 0 0 0 0 0 (.slice none 0 0) (.slice none 0 0) 0 0).toArray:=d5S;have h1:=Bf (o:=1) (n:=11) hz;have h2:=Hg (o:=7) (n:=1) (y:= .k (.int .i64 12)) (Gh (n:=5) (Bf (o:=0) (n:=5) h1) (Bc (n:=1) (x:= .k (.int .i64 6)) (v:=ii 6) rfl rfl (Bf (o:=6) (n:=5) h1))) (v:=ii 12) rfl rfl;exact Bc (n:=1) (v:=ii 12) rfl rfl (Gh (n:=8) (Bf h2) (Bc (n:=1) (v:=ii 3) rfl rfl (Bf h2)))
def Wh {nm:List UInt8} (hx:D prog ρ x=st nm):D prog ρ (.cat x 1 (.cat (.z 3) 1 (.cat (.z 33) 1 (.cat (.z 33) 1 (.cat (.z 33) 1 (.z 4))))))=veU (ucM nm 0):=
 Bc (n:=1) hx rfl (Bc (n:=1) kx rfl (Bc (n:=1) Vq rfl (Bc (n:=1) Vq rfl (km (n:=1) Vq rfl RO rfl))))
def e1s {nm:List UInt8} (hx:D prog ρ x=st nm):D prog ρ (.put (.cat x 1 (.cat (.z 3) 1 (.cat (.z 33) 1 (.cat (.z 33) 1 (.cat (.z 33) 1 (.z 4)))))) 1 1 (.k (.int .i64 1)) 0 noI)=veU (ucM nm 1):=
 Hg (l:=ceU (ucM nm 0)) (o:=1) (n:=1) (v:=ii 1) (Wh hx) rfl rfl
def e1t {i:Nat} (hx:D prog ρ x=ii (i:Nat)) (h0:0<i) (h:i<12):D prog ρ (.op2 .sub .i64 x (.k (.int .i64 1)))=ii ((i-1:Nat):Int):=
 (ga (x:=(i:Nat)) (y:=1) hx rfl aA aA).trans (by congr 1;omega)
def d9y {i:Nat} (hx:D prog ρ x=ii (i:Nat)) (h:i<12):D prog ρ (.cv .i32 (.op2 .add .i64 (.k (.int .i64 97)) x))= .int .i32 ((97+i:Nat):Int):=by
 have h1:=Qo (x:=97) (y:=(i:Nat)) (a:= .k (.int .i64 97)) rfl hx aA aA;show Value.int .i32 (IntKind.i32.wrap (intOf (D prog ρ (.op2 .add .i64 (.k (.int .i64 97)) x))))=_;rw[h1];have:∀i,i<12->IntKind.i32.wrap (97+((i:Nat):Int))=((97+i:Nat):Int):=aC;exact congrArg (Value.int .i32) (this i h)
def rg1:Rg 1:=(show((1:Int):Rat)=1 by rfl) ▸ Vb (z:=1) aC
def of1:j5 prog 14 [ii 1,ii 1] H (shR 1):=Rm aC aC aC aC aC (by decide+kernel) rg1
def k11:MaT:=⟨(1,qN 1 1),rg1,rgT 1 1 aC⟩
def e2Y {m:List MaT} (h:TalP (vlL dm0 4 2 3 0 0 es4 usE 0 0) m):m=[k11]:=by
 rw[vlE]at h;exact TalP.uniq h (UQ rg1 2)
def c9l {P:Program} {o:Oper} {src dst:TypeId} {k k2:IntKind} {X:Operand} {c:Nat} (hc:c<128) (ho:o.op= .convert src dst X) (hx:e8 [X] [.int k2 (c:Nat)] X= .int k2 (c:Nat)) (hs:P.underlying src=some (.int k)) (hd:P.underlying dst=some .string):Yld P o [.int k2 (c:Nat)] (st [c.toUInt8]):=fun w=>by
 have pD:o.op.operands.toList=[X]:=by simp[ho,Op.operands]
 have e:(convert src dst (.int k2 (c:Nat))).run P w= .ok (st [c.toUInt8]) w:=by
  unfold convert;simp only[eM,run_underlying hs,run_underlying hd,Result.andThen_ok,Conv.intToString,Sem.run_pure];have hv:Utf8.valid ((c:Nat):Int)=true:=by unfold Utf8.valid;simp;omega
  unfold Utf8.encode;rw[if_pos hv];simp only[bO];rw[if_pos aA];rfl
 rw[pD];simp only[execOp,ho,hx,eM];rw[e];rfl
end
end Go.Z

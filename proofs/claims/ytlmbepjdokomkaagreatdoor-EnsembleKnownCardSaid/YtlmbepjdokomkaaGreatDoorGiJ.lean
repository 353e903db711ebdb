/- Ensembles: Extreme. -/
import Derived.Test.YtlmbepjdokomkaaGreatDoorGiD
open Array renaming ext'->gI,replicate->eZ
open Bool renaming false_or->nT
open Go.Result renaming andThen_ok->eL
open Go.Sem renaming run_bind->eM
open List renaming cons->lD
set_option linter.all false
set_option maxRecDepth 100000
namespace Go.GS
def Bw (g:Bool) (l:List Rat):Nat->Rat
 |0=>0
 |i+1=>if i=0 then(l[0]?).getD 0 else if Hf g ((l[i]?).getD 0) (Bw g l i)then(l[i]?).getD 0 else Bw g l i
def Gi (g:Bool) (l:List Rat):Nat->Nat
 |0=>0
 |i+1=>if i=0 then 0 else if Hf g ((l[i]?).getD 0) (Bw g l i)then i else Gi g l i
end Go.GS
namespace Go.Z
open Proofs.Tryz RowKit RX GS RZ WD
def c8f {g:Bool} {l:List Rat}:∀i,0<i->i<=l.length->Bw g l i∈l:=by
 intro i;induction i with
 |zero=>intro h;omega
 |succ i ih=>
  intro _ hi;have qK:∀j,j<l.length->(l[j]?).getD 0∈l:=fun j hj=>by rw[aG hj];exact dW hj
  show(if i=0 then _ else _)∈l;split
  ·exact qK 0 aA
  ·split
   ·exact qK i aA
   ·exact ih aA aA
section
variable {dm:Dm} {H B:PH} {n k ms lv who:Nat} {es:List (Nat×Nat)} {us:List Un} {w rw wts u v:Value} {lo hi:Int} {b i:Nat} {p:List Int} {l:List Rat}
def QV:∃rc:Array Value,rc.size=16/\i8 rc/\(j3 prog 108).cells= #[.slice none 0 0]++rc:=⟨eZ 16 (.int .u64 0),rfl,fun c hc=>by rw[Array.toList_replicate]at hc;rw[List.eq_of_mem_replicate hc];rfl,aB⟩
def c8g:(j3 prog 46).cells.size=16:=aB
def e0P {ρ:List Value} {a c:SV} {x:Value} {r:Rat} (ha:D prog ρ a=x) (hx:x.cells= #[x]) (hc:D prog ρ c=shR r):D prog ρ (.put (.cat a 1 (.z 46)) 1 16 (.ag c) 0 noI)= .agg (x::(shw r).toList).toArray:=by
 show Value.agg (spl (Value.agg ((D prog ρ a).cells++(j3 prog 46).cells)).cells (1+0*x4 (D prog ρ noI)) (Value.agg (D prog ρ c).cells).cells.toList)=_;have hz:=c8g;rw[ha,hx,hc,Le];generalize (j3 prog 46).cells=z at hz;show Value.agg (spl (#[x]++z) (1+0*x4 (D prog ρ noI)) (shw r).toList)=_;have hs:=Ao r;rw[bY,cP,Wz (by simp;omega)];congr 1;apply gI;simp[hs,hz]
def FoS (R H:PH) (f n:Nat) (gb:Bool) (pf:Nat->List Int) (l:List Rat) (i:Nat):Prop:=∃(pl:Value) (rc:Array Value) (q:List Int),H f=some (.cells (#[pl]++rc) 108 (0,0))/\rc.size=16/\i8 rc/\SI R pl q/\(q.length=0↔i=0)/\(0<i->rc=shw (Bw gb l i)/\q=pf (Gi gb l i))
def QW:Ag prog 108 17:=⟨aB,aB,aB⟩
def QX (f:FuncId) (caps:Array Value):(Value.func (.func f) #[] caps).cells.size=1/\i8 (Value.func (.func f) #[] caps).cells:=⟨rfl,fun c hc=>by simp[Value.cells]at hc;subst hc;rfl⟩
def AA (x:Value) (rc:Array Value):(x::rc.toList).toArray= #[x]++rc:=by apply gI;simp
def c3E {gp c0:Nat} {gb:Bool} (hg:H gp=some (.cells #[.bool gb] 4 (0,0))) (hs:H c0=some (.cells (stC dm n k ms lv who w rw lo hi).toArray 30 (0,0))) (hM:StM H w rw es us) (hS:StOk dm n k ms lv who es us lo hi) (hz:ms=1->s8 us n=true) (hp:0<j8 n k es us lo hi) (hN:j8 n k es us lo hi<=400) (hr:∀r∈vlL dm n k ms lv who es us lo hi,Rg r):
  Con prog 43 [.pointer (some ⟨gp,0,none⟩),.pointer (some ⟨c0,0,none⟩)] H fun r H'=>Pl H H'/\∃pl,r= .agg (pl::(shw (Bw gb (vlL dm n k ms lv who es us lo hi) (j8 n k es us lo hi))).toList).toArray/\SI H' pl (y8 n k es us lo hi (Gi gb (vlL dm n k ms lv who es us lo hi) (j8 n k es us lo hi))):=by
 refine g9 mixed OG ?_;obtain⟨rc0,hrc,a0b,hzf⟩:=QV;refine o0 (cs:= #[Value.slice none 0 0]++rc0) hzf fun f hf=> ?_;simp only[cA,nA];have lf:=PH.le_put hf (.cells (#[.slice none 0 0]++rc0) 108 (0,0));have hff:=PH.put_self H f (.cells (#[.slice none 0 0]++rc0) 108 (0,0));generalize H.put f (.cells (#[.slice none 0 0]++rc0) 108 (0,0))=H1 at lf hff⊢;refine x5 (Ai (vs:=[.pointer (some ⟨f,0,none⟩),.pointer (some ⟨gp,0,none⟩)]) rfl rfl) rfl ?_;simp only[cA,nA];refine b4 (QX _ _) ?_;refine s5 (vs:=(stC dm n k ms lv who w rw lo hi)) Ea rfl rfl (lf _ _ hs) rfl (show 0+12<=12 by decide) rfl ?_;simp only[cA,nA];refine Dz (Ij hM hS hz) lf rfl fun v5 X1 H2 a1 w1 b1 c1 d1=> ?_;simp only[cA,nA];obtain⟨b,wts,rfl,hW⟩:=w1;refine Dz (ze hW hS hp hN) b1 rfl fun v6 X2 H3 a2 w2 b2 c2 d2=> ?_;simp only[cA,nA];obtain⟨z,c,lv',m,rfl,hA⟩:=w2;have xU:X1 f=none:=d1 f (by rw[hff];exact fun h=>nomatch h) hf;have vV:X2 f=none:=d2 f (by rw[c1 _ _ hff];exact fun h=>nomatch h) xU;have yP:X2 gp=some (.cells #[.bool gb] 4 (0,0)):=a2 _ _ (a1 _ _ hg);have wY:FoS X2 H3 f n gb (y8 n k es us lo hi) (vlL dm n k ms lv who es us lo hi) 0:=⟨.slice none 0 0,rc0,[],c2 _ _ (c1 _ _ hff),hrc,a0b,SE.nil _ _ _,aD,fun h=>absurd h aA⟩;have hml:m.length=j8 n k es us lo hi:=hA.len;rw[<-PH.or_nil H3];refine Hz (X:=H3) (K:=PH.nil) (Ro:=X2) (fun pre vals X'=>vals=[]/\Pl X2 X'/\FoS X2 X' f n gb (y8 n k es us lo hi) (vlL dm n k ms lv who es us lo hi) pre.length) (fun _ _ _=>False) (zf hA hS hz (fun i hi=>ju hi) aA) zd (Ue _) rfl (fun _ _ _ h=>h.2.1) ⟨rfl,b2,wY⟩ ?_ ?_ ?_
 ·rintro pre xs vals X' ⟨s,hs,rfl⟩ _ ⟨rfl,lX,hF⟩;refine⟨rfl,?_⟩;simp only[cA,nA];have rQ:pre.length<j8 n k es us lo hi:=by have:=(aH.1 hs).1;omega
  have qK:=zi (dm:=dm) (ms:=ms) (lv:=lv) (who:=who) rQ;have vD:=hr _ (aJ qK);have uO:=hA.at' _ s hs;have tZ:=ju rQ;have yA:=hS.gv.n1;generalize hvv:s0 dm n es us k ms lv who (y8 n k es us lo hi pre.length)=vv at qK vD;obtain⟨pl,rc,q,hfX,hrs,vL,hq,xI,hrb⟩:=hF;have pV:Bw gb (vlL dm n k ms lv who es us lo hi) (pre.length+1)=if pre.length=0 then vv else if Hf gb vv (Bw gb (vlL dm n k ms lv who es us lo hi) pre.length)then vv else Bw gb (vlL dm n k ms lv who es us lo hi) pre.length:=by
   show(if pre.length=0 then _ else _)=_;by_cases h:pre.length=0
   ·rw[if_pos h,if_pos h];rw[h]at qK;rw[qK];rfl
   ·rw[if_neg h,if_neg h,qK];rfl
  have rG:Gi gb (vlL dm n k ms lv who es us lo hi) (pre.length+1)=if pre.length=0 then 0 else if Hf gb vv (Bw gb (vlL dm n k ms lv who es us lo hi) pre.length)then pre.length else Gi gb (vlL dm n k ms lv who es us lo hi) pre.length:=by
   show(if pre.length=0 then 0 else if Hf gb (((vlL dm n k ms lv who es us lo hi)[pre.length]?).getD 0) _ then _ else _)=_;rw[qK];rfl
  refine b4 (r4 _ _) ?_;refine⟨(fun vals H2=>vals=[.bool (decide (pre.length=0)||Hf gb vv (Bw gb (vlL dm n k ms lv who es us lo hi) pre.length))]/\Pl X' H2),?_,?_⟩
  ·skip
   refine i0 d8u ?_;simp only[cA,nA];refine i7 (u:=pl) Jj rfl rfl hfX (by rw[dQ aD];rfl) rfl ?_;simp only[cA,nA];refine r8 y6 (hq.mono lX) ?_;simp only[cA,nA];refine b9 ?_;refine y7 (p:=(q.length=0)) (bE0 _) (fun h0=> ?_) fun h0=> ?_
   ·exact⟨by rw[oDd (xI.1 h0)];rfl,Pl.refl _⟩
   ·have tI:0<pre.length:=Nat.pos_of_ne_zero fun e=>h0 (xI.2 e);refine j4 (Bh (f:=44) (caps:= #[.pointer (some ⟨f,0,none⟩),.pointer (some ⟨gp,0,none⟩)]) (vs:=[shR vv]) rfl rfl rfl c3B (b8s (pl:=pl) (by rw[hfX,(hrb tI).1];rfl) (lX _ _ yP) vD (hr _ (c8f _ tI (by rw[He];omega))))) (j0 (Bz rfl rfl) rfl) ?_;rintro _ H5 ⟨l5,rfl⟩;refine nmI ?_;simp only[cA,nA];exact⟨by rw[decide_eq_false (show ¬pre.length=0 by omega)];rfl,l5⟩
  rintro vals H4 _ ⟨rfl,l4⟩;simp only[cA,nA];refine b9 ?_;refine g8 (b:=decide (pre.length=0)||Hf gb vv (Bw gb (vlL dm n k ms lv who es us lo hi) pre.length)) rfl (fun hbt=> ?_) (fun hbt=> ?_)
  ·skip
   refine b4 ((uO.mono lX).one) ?_;refine Yi (vs:=(lD (vs s) (shw vv).toList)) (by rw[aO,bU,Ao];exact QW) rfl rfl rfl (l4 _ _ hfX) (by simp[hrs]) (fun c hc=>(aX.1 hc).elim (fun e=>by rw[e];rfl) (fun h=>Oo vv c h)) (j0 rfl (e0P rfl rfl rfl)) (fun h=>nomatch h) ?_;simp only[cA,nA];have e9:=AA (vs s) (shw vv);rw[e9];have wU:Bw gb (vlL dm n k ms lv who es us lo hi) (pre.length+1)=vv:=by
    rw[pV];by_cases h:pre.length=0
    ·rw[if_pos h]
    ·rw[if_neg h];rw[decide_eq_false h,nT]at hbt;rw[if_pos hbt]
   have hxe:Gi gb (vlL dm n k ms lv who es us lo hi) (pre.length+1)=pre.length:=by
    rw[rG];by_cases h:pre.length=0
    ·rw[if_pos h,h]
    ·rw[if_neg h];rw[decide_eq_false h,nT]at hbt;rw[if_pos hbt]
   have lP:Pl X2 (H4.put f (.cells (#[vs s]++shw vv) 108 (0,0))):=fun b' ob' qC=>by rw[PH.put_ne _ _ (fun e=>by subst e;rw[vV]at qC;cases qC)];exact l4 _ _ (lX _ _ qC)
   exact⟨rfl,lP,by rw[aL];exact⟨vs s,shw vv,_,PH.put_self _ _ _,Ao _,Oo _,uO,⟨fun h=>by have:=tZ.len;omega,fun h=>by simp at h⟩,fun _=>⟨by show shw vv=shw (Bw gb _ (pre.length+1));rw[wU],by show _=y8 n k es us lo hi (Gi gb _ (pre.length+1));rw[hxe]⟩⟩⟩
  ·skip
   have hbf:¬pre.length=0/\Hf gb vv (Bw gb (vlL dm n k ms lv who es us lo hi) pre.length)=false:=by
    rw[Bool.or_eq_false_iff]at hbt;exact⟨oDf hbt.1,hbt.2⟩
   have wU:Bw gb (vlL dm n k ms lv who es us lo hi) (pre.length+1)=Bw gb (vlL dm n k ms lv who es us lo hi) pre.length:=by rw[pV,if_neg hbf.1,hbf.2];rfl
   have hxe:Gi gb (vlL dm n k ms lv who es us lo hi) (pre.length+1)=Gi gb (vlL dm n k ms lv who es us lo hi) pre.length:=by rw[rG,if_neg hbf.1,hbf.2];rfl
   exact⟨rfl,lX.trans l4,by rw[aL];exact⟨pl,rc,q,l4 _ _ hfX,hrs,vL,hq,⟨fun h=>absurd (xI.1 h) hbf.1,fun h=>by simp at h⟩,fun _=>⟨by show rc=shw (Bw gb _ (pre.length+1));rw[wU];exact(hrb aA).1,by show q=y8 n k es us lo hi (Gi gb _ (pre.length+1));rw[hxe];exact(hrb aA).2⟩⟩⟩
 ·rintro xs vals X' K' hxn hd _ ⟨rfl,lX,hF⟩;simp only[cA,nA];have rK:xs.length=j8 n k es us lo hi:=aA;rw[rK]at hF;obtain⟨pl,rc,q,hfX,hrs,vL,hq,xI,hrb⟩:=hF;have hfK:(X'.or K') f=some (.cells (#[pl]++rc) 108 (0,0)):=PH.le_or X' K' _ _ hfX;have hlr:(pl::rc.toList).length=17:=by simp[hrs]
  have a1c:Ag prog 108 (pl::rc.toList).length:=by rw[hlr];exact QW
  obtain⟨_,ap,cp,rfl,_⟩:=id hq;refine s5 (vs:=(lD (Value.slice ap q.length cp) rc.toList)) a1c rfl rfl hfK (by simp[aI]) (by simp;omega) rfl ?_;simp only[cA,nA];refine Yi (vs:=(lD (Value.slice ap q.length cp) rc.toList)) a1c rfl rfl rfl hfK (by simp;omega) (fun c hc=>(aX.1 hc).elim (fun e=>by rw[e];rfl) (fun h=>vL c h)) rfl (fun h=>nomatch h) ?_;simp only[cA,nA];have hf9:=PH.put_self (X'.or K') f (.cells (.slice ap q.length cp::rc.toList).toArray 108 (0,0));refine s5 (vs:=(lD (Value.slice ap q.length cp) rc.toList)) a1c a6t rfl hf9 (by simp[aI]) aD rfl ?_;simp only[cA,nA];have lE:Pl X2 ((X'.or K').put f (.cells (.slice ap q.length cp::rc.toList).toArray 108 (0,0))):=fun b' ob' qC=>by rw[PH.put_ne _ _ (fun e=>by subst e;rw[vV]at qC;cases qC)];exact PH.le_or X' K' _ _ (lX _ _ qC)
  have hqe:=(hrb hp).2;exact c9 rfl ⟨a1.trans (a2.trans lE),.slice ap q.length cp,by rw[<-(hrb hp).1];rfl,by rw[<-hqe];exact hq.mono lE⟩
 ·exact fun _ _ _ _ _ _ _ h=>h.elim
end
section
variable {dm:Dm} {H B:PH} {n k ms lv who:Nat} {es:List (Nat×Nat)} {us:List Un} {w rw wts u v:Value} {lo hi:Int} {b i:Nat} {p:List Int} {l:List Rat}
def QY:q8 prog 43=true:=aB
def AB:Ii prog 42 86 108 36 20 ((prog.funcs[42]?).getD default) ((prog.funcs[86]?).getD default) (Gz ((prog.funcs[86]?).getD default).body):=⟨aB,aB,aB,aB,aB,aB,aB,aB,aB,aB⟩
def QZ:CcT prog 108 36 (.agg (#[.slice none 0 0]++eZ 16 (.int .u64 0))):=⟨aB,aB,aB,aB,aB,aB,aB,fun h=>absurd (show p8 prog 108=true by kernel_rfl) (by rw[h];decide)⟩
def foV (pl:Value) (r:Rat):Value:= .agg (#[pl]++shw r)
def AC {pl:Value} (h:n8 pl=true) (r:Rat):(foV pl r).cells.size=17/\i8 (foV pl r).cells:=⟨by show(#[pl]++shw r).size=17;rw[cQ,Ao];rfl,Wy (fun c hc=>by simp at hc;subst hc;exact h) (Oo r)⟩
def e2D {pl:Value} (h:n8 pl=true) (r:Rat):(foV pl r).cells.size=prog.cellsOf 108/\i8 (foV pl r).cells/\rdV prog 108 (foV pl r).cells=foV pl r:=by
 have h1:p8 prog 108=true:=aB;have h2:prog.cellsOf 108=17:=aB;refine⟨by rw[h2];exact(AC h r).1,(AC h r).2,?_⟩;unfold rdV;rw[h1];rfl
def e0Q (pl:Value) (r:Rat):Value.agg ((#[pl]++shw r).extract 1 17)=shR r:=by
 rw[En];congr 1;apply gI;have:=Ao r;simp[aI,this]
def e2E {ρ:List Value} {x:SV} {pl t:Value} {r:Rat} (hx:D prog ρ x= .tuple #[.agg (#[pl]++shw r),t]):[SV.cell (.pj x 0) 0 0 noI,.sub (.pj x 0) 1 16 0 noI,.pj x 1].map (D prog ρ)=[pl,shR r,t]:=by
 have e0:D prog ρ (.pj x 0)= .agg (#[pl]++shw r):=by
  simp only[D,hx];rfl
 have e1:D prog ρ (.pj x 1)=t:=by
  simp only[D,hx];rfl
 have e2:D prog ρ (.cell (.pj x 0) 0 0 noI)=pl:=by
  show(D prog ρ (.pj x 0)).cells.getD (0+0*x4 (D prog ρ noI)) undef=_;rw[e0,bY,Iw];simp
 have e3:D prog ρ (.sub (.pj x 0) 1 16 0 noI)=shR r:=by
  show Value.agg ((D prog ρ (.pj x 0)).cells.extract (1+0*x4 (D prog ρ noI)) (1+0*x4 (D prog ρ noI)+16))=_;rw[e0,bY,<-e0Q pl r];rfl
 rw[aU,aU,aU,cN,e2,e3,e1]
def RA {gb:Bool} (hM:StM H w rw es us) (hS:StOk dm n k ms lv who es us lo hi) (hz:ms=1->s8 us n=true) (hp:0<j8 n k es us lo hi) (hN:j8 n k es us lo hi<=400) (hr:∀r∈vlL dm n k ms lv who es us lo hi,Rg r):
  Con prog 12 [stV dm n k ms lv who w rw lo hi,.bool gb] H fun r H'=>Pl H H'/\∃pl,r= .tuple #[pl,shR (Bw gb (vlL dm n k ms lv who es us lo hi) (j8 n k es us lo hi)),ii 0]/\SI H' pl (y8 n k es us lo hi (Gi gb (vlL dm n k ms lv who es us lo hi) (j8 n k es us lo hi))):=by
 refine g9 mixed OF ?_;refine b4 (Ep (t7 hM.gr) hM.ro.one) ?_;refine o0 (cs:=(stC dm n k ms lv who w rw lo hi).toArray) rfl fun a ha=> ?_;simp only[cA,nA];have la:=PH.le_put ha (.cells (stC dm n k ms lv who w rw lo hi).toArray 30 (0,0));refine b4 (yn rfl rfl) ?_;refine o0 (cs:= #[.bool gb]) rfl fun c hc=> ?_;simp only[cA,nA];have lc:=PH.le_put hc (.cells #[.bool gb] 4 (0,0));refine x5 (Ai (vs:=[.pointer (some ⟨c,0,none⟩),.pointer (some ⟨a,0,none⟩)]) rfl rfl) rfl ?_;simp only[cA,nA];refine g5 (Va (caps:=[.pointer (some ⟨c,0,none⟩),.pointer (some ⟨a,0,none⟩)]) mixed AB QZ QY (c3E (gb:=gb) (PH.put_self _ _ _) (lc _ _ (PH.put_self _ _ _)) (hM.mono (la.trans lc)) hS hz hp hN hr) (fun _ _ h=>by obtain⟨_,pl,rfl,hq⟩:=h;rw[AA];exact e2D (t7 hq) _)) rfl ?_;rintro _ H4 ⟨t,⟨l4,pl,rfl,hq⟩,rfl⟩;refine nmI ?_;simp only[cA,nA];rw[AA pl (shw _)];refine g7 (g7 ?_);refine b4 (AC (t7 hq) _) ?_;exact c9 (by rw[e2E rfl];rfl) ⟨(la.trans lc).trans l4,pl,rfl,hq⟩
end
section
variable {dm:Dm} {H B:PH} {n k ms lv who:Nat} {es:List (Nat×Nat)} {us:List Un} {lo hi:Int} {p:List Int}
def ko (hv:RoV dm n us) (hg:GV n es) (hk:1<=k/\k<=8) (hM:Vd dm n us ms lv who):Rg (s0 dm n es us k ms lv who p):=by
 have a5t:(2:Nat)^62=4611686018427387904:=aC;rcases hM.mv with rfl|rfl
 ·have:=NJ _ _ (yo (p:=p) hv 0) (NY (p:=p) (k:=k) hv);exact Vb aA
 ·have:=yj (es:=es) (p:=p);have:=hg.len;exact Vb aA
def AD (hS:StOk dm n k ms lv who es us lo hi) (hz:ms=1->s8 us n=true):∀r∈vlL dm n k ms lv who es us lo hi,Rg r:=fun r hr=>by
 obtain⟨i,_,rfl⟩:=bK.1 hr;exact ko hS.rv hS.gv hS.hk (hS.mok hz)
end
section
variable {dm:Dm} {H B:PH} {n k ms lv who:Nat} {es:List (Nat×Nat)} {us:List Un} {w rw wts:Value} {lo hi:Int} {b:Nat} {lived:Bool}
def AE {e:Int} (he:e≠0):ConX prog 30 [.bool true,ii e] H (fun _ _=>False) fun x H'=>Pl H H'/\x=Am e:=(Rf (c:=true) he).mono (fun _ _ h=>he h.1) fun _ _ h=>h.2
end
end Go.Z
namespace Go.RX
open RowKit
def Rk (fn:Func) (AT BT BL T E:TypeId) (o5 o6:Op) (pan:Code):Code:=
 .seq (.region 2 #[mkO (opr fn 2 0) (some 10) (.move (.tmp 2)),mkO (opr fn 2 1) (some 11) (.typeAssert (.tmp 10) AT BT true),mkO (opr fn 2 2) (some 9) (.move (.tmp 11)),mkO (opr fn 2 3) (some 12) (.extract (.tmp 9) 0),mkO (opr fn 2 4) (some 13) (.extract (.tmp 9) 1),mkO (opr fn 2 5) (some 3) (.alloc BT),mkO (opr fn 2 6) none (.store BT (.tmp 3) (.tmp 12)),mkO (opr fn 2 7) (some 4) (.assign (.tmp 13))] false)
 (.seq (.seq (.region 3 #[mkO (opr fn 3 0) (some 14) (.move (.tmp 4)),mkO (opr fn 3 1) (some 15) (.unOp .not BL (.tmp 14))] false) (.cond (.tmp 15) pan .skip))
 (.seq (.region 5 #[mkO (opr fn 5 0) (some 5) o5] false)
  (.region 6 #[mkO (opr fn 6 0) (some 17) o6,mkO (opr fn 6 1) (some 18) (.fieldAddr BT (.tmp 3) 0),mkO (opr fn 6 2) (some 19) (.load E (.tmp 18)),mkO (opr fn 6 3) none (.store T (.tmp 0) (.tmp 17)),mkO (opr fn 6 4) none (.store E (.tmp 1) (.tmp 19))] true)))
section
variable {P:Program} {f g k:FuncId} {T E AT BT BL:TypeId} {fn gn:Func} {pan:Code} {z x:Value} {e:Int}
def AG (gn:Func) (BT T E:TypeId) (o6:Op):Array Oper:= #[mkO (opr gn 6 0) (some 17) o6,mkO (opr gn 6 1) (some 18) (.fieldAddr BT (.tmp 3) 0),mkO (opr gn 6 2) (some 19) (.load E (.tmp 18)),mkO (opr gn 6 3) none (.store T (.tmp 0) (.tmp 17)),mkO (opr gn 6 4) none (.store E (.tmp 1) (.tmp 19))]
def cgK (i:Nat):Nat:=[1,0,5,6,6].getD i 0
def cgT (i:Nat):Nat:=[0,0,0,1,2].getD i 0
def CgZ (P:Program) (o5 o6:Op) (z:Value):Prop:=∀(w:World) (ev:Operand->Value) (o:Oper),(∀c,ev (.const c)=c)->o.op=o5->∃v w',(execOp ev o).run P w= .ok (.value v) w'/\Ext w w'/\∀w2,Ext w' w2->∀(ev2:Operand->Value) (o2:Oper),o2.op=o6->ev2 (.tmp 5)=v->(execOp ev2 o2).run P w2= .ok (.value z) w2
def RB {z:Value}:CgZ P (.assign (.const z)) (.move (.tmp 5)) z:=fun w ev o hc ho=>by
 refine⟨z,w,by simp only[execOp,ho,hc];rfl,Ext.refl _,fun w2 _ ev2 o2 h2 hv=>by simp only[execOp,h2,hv];rfl⟩
def AH {cs:Array Value} (hz:(P.info? T).bind (·.zero)=some (.agg cs)) (hT:r9 P T=true) (ha:p8 P T=true) (hs:cs.size=P.cellsOf T):CgZ P (.alloc T) (.load T (.tmp 5)) (.agg cs):=fun w ev o _ ho=>by
 refine⟨_,_,jg hz ho ev w,Ext.alloc _ _,fun w2 hw ev2 o2 h2 hv=> ?_⟩;have hN:w2.heap[w.heap.size]? =some (.cells cs T (0,0)):=by
  have:=World.alloc_heap_new w (.cells (Value.agg cs).cells T);rw[hw.block' (y5 this)];exact this
 have h1:=Xa (P:=P) (q:=0) hT hN aA (fun h=>by rw[ha]at h;cases h);rw[ha,if_pos rfl,bP,<-hs,Array.extract_size]at h1;simp only[execOp,h2,hv,eM];rw[h1];rfl
structure Vp (P:Program) (T E BT BL:TypeId) (gn:Func) (z:Value) (e:Int) (x:Value) (AT:TypeId) (o5 o6:Op):Prop where
 ifc:∃D u,x= .iface D u
 asr:∀w,(Instr.typeAssert x AT BT true).run P w= .ok (.tuple #[.agg #[.int .i64 e],.bool true]) w
 zB:(P.info? BT).bind (·.zero)=some (.agg #[.int .i64 0])
 hB:r9 P BT=true
 cB:P.cellsOf BT=1
 fB:∀w (k:Nat),(Instr.fieldAt BT (.pointer (some ⟨k,0,none⟩)) 0).run P w= .ok (.pointer (some ⟨k,0,none⟩)) w
 zs:z.cells.size=P.cellsOf T
 zo:i8 z.cells
 hT:r9 P T=true
 E1:P.cellsOf E=1
 aE:p8 P E=false
 hE:r9 P E=true
 nb:∀w,(Op.unary .not (.bool true)).run P w= .ok (.bool false) w
 z5:CgZ P o5 o6 z
 d5:∀c,o5≠ .defer c
 ord:Lu (AG gn BT T E o6) (Cc (AG gn BT T E o6).toList []) cgK cgT [0,1,2] [3,4]=true
def Zt (hm:P.follows .mixedOrders=true) {o5 o6:Op} (h:Ii P f g T E AT fn gn (Rk gn AT BT BL T E o5 o6 pan)) (t:Vp P T E BT BL gn z e x AT o5 o6):Qw P g T E z x e:=by
 intro b c W hbc hb hc;obtain⟨D,u,hx⟩:=t.ifc;have hrx:∀w,(binOp .neq AT x .nilIface).run P w= .ok (.bool true) w:=fun w=>by rw[hx];exact run_neq_held_nil w AT D u h.gi
 have hgx:∀a b,eqGuard .neq AT a b x .nilIface=pure ():=fun a b=>by rw[hx];cases a<;>cases b<;>rfl
 clear hx D u;generalize hp:Value.pointer (some ⟨b,0,none⟩)=p;generalize hq:Value.pointer (some ⟨c,0,none⟩)=q;generalize hR:(fun en u' w'=>en=Ending.returned (.tuple #[])/\u'=FrameMode.panicking [{v:=x,recovered:=true}]/\Step ((PH.nil.put b (.cells z.cells T (0,0))).put c (.cells #[.int .i64 0] E (0,0))) W ((PH.nil.put b (.cells z.cells T (0,0))).put c (.cells #[.int .i64 e] E (0,0))) w')=R;refine callsDIn_of_wpSIn h.gf h.gb trivial fun c₀ cs hu=> ?_;apply wpSIn_seq;apply wpSIn_region;simp[wpOpsSIn,go_sem,recoverD,hu,h.gnt,Exit.thenS,mkO];refine wpSIn_of_wpIn rfl ?_;have hA: #[p,q]++((eZ 18 undef).setIfInBounds 4 x).setIfInBounds 0 x= #[p,q,x,undef,undef,undef,x,undef,undef,undef,undef,undef,undef,undef,undef,undef,undef,undef,undef,undef]:=by
  apply gI;simp[List.replicate]
 rw[hA];clear hA;generalize hQ:(fun e a' w'=>bodyPostS P gn c₀ cs R e a' (_::cs) w')=Q;apply wpIn_seq;apply wpIn_region;show wpOpsIn Fence.wide 0 P #[mkO (opr gn 1 0) (some 7) (.move (.tmp 2)),mkO (opr gn 1 1) (some 8) (.binOp .neq AT (.tmp 7) (.const .nilIface) AT)] _ [0,1] _ W;refine Dw (o:=mkO (opr gn 1 0) (some 7) (.move (.tmp 2))) (v:=x) rfl rfl (fun c e=>by cases e) rfl ?_;refine Dw (o:=mkO (opr gn 1 1) (some 8) (.binOp .neq AT (.tmp 7) (.const .nilIface) AT)) (v:= .bool true) (w':=W) rfl rfl (fun c e=>by cases e) ?_ ?_
 ·show(execOp (Act.eval ⟨#[p,q,x,undef,undef,undef,x,x,undef,undef,undef,undef,undef,undef,undef,undef,undef,undef,undef,undef],[]⟩) _).run P W=_;simp only[execOp,mkO,eM];rw[show Act.eval _ (Operand.tmp 7)=x from rfl,show Act.eval _ (Operand.const Value.nilIface)= .nilIface from rfl,hgx,Sem.run_pure,eL,hrx];rfl
 refine wpIn_cond (t:=true) rfl ?_;show Code.wpIn Fence.wide 0 P (Rk gn AT BT BL T E o5 o6 pan) _ ⟨#[p,q,x,undef,undef,undef,x,x,.bool true,undef,undef,undef,undef,undef,undef,undef,undef,undef,undef,undef],[]⟩ W;apply wpIn_seq;apply wpIn_region;generalize hQ2:Exit.then _ Q=Q2;refine Dw (o:=mkO (opr gn 2 0) (some 10) (.move (.tmp 2))) (v:=x) rfl rfl (fun c e=>by cases e) rfl ?_;refine Dw (o:=mkO (opr gn 2 1) (some 11) (.typeAssert (.tmp 10) AT BT true)) (v:= .tuple #[.agg #[.int .i64 e],.bool true]) (w':=W) rfl rfl (fun c e=>by cases e) ?_ ?_
 ·simp only[execOp,mkO,eM];rw[show Act.eval _ (Operand.tmp 10)=x from rfl,t.asr];rfl
 refine Dw (o:=mkO (opr gn 2 2) (some 9) (.move (.tmp 11))) (v:= .tuple #[.agg #[.int .i64 e],.bool true]) rfl rfl (fun c e=>by cases e) rfl ?_;refine Dw (o:=mkO (opr gn 2 3) (some 12) (.extract (.tmp 9) 0)) (v:= .agg #[.int .i64 e]) (w':=W) rfl rfl (fun c e=>by cases e) rfl ?_;refine Dw (o:=mkO (opr gn 2 4) (some 13) (.extract (.tmp 9) 1)) (v:= .bool true) (w':=W) rfl rfl (fun c e=>by cases e) rfl ?_;refine Dw (o:=mkO (opr gn 2 5) (some 3) (.alloc BT)) rfl rfl (fun c e=>by cases e) (jg t.zB rfl _ _) ?_;show wpOpsIn Fence.wide 0 P _ Q2 [6,7] ⟨#[p,q,x,.pointer (some ⟨W.heap.size,0,none⟩),undef,undef,x,x,.bool true,.tuple #[.agg #[.int .i64 e],.bool true],x,.tuple #[.agg #[.int .i64 e],.bool true],.agg #[.int .i64 e],.bool true,undef,undef,undef,undef,undef,undef],[]⟩ (W.alloc (.cells #[Value.int .i64 0] BT));generalize rH:W.alloc (.cells #[Value.int .i64 0] BT)=W1;have hN:W1.heap[W.heap.size]? =some (.cells #[.int .i64 0] BT (0,0)):=by rw[<-rH];exact World.alloc_heap_new W _
 have pV:W1.heap[b]? =some (.cells z.cells T (0,0)):=by rw[<-rH,(Ext.alloc W _).block' (y5 hb)];exact hb
 have qL:W1.heap[c]? =some (.cells #[.int .i64 0] E (0,0)):=by rw[<-rH,(Ext.alloc W _).block' (y5 hc)];exact hc
 have hbN:=y5 hb;have hcN:=y5 hc;have hE1:Ext W W1:=by rw[<-rH];exact Ext.alloc W _
 obtain⟨nw,hn⟩:∃nw,nw=W.heap.size:=⟨_,rfl⟩;rw[<-hn]at hN hbN hcN⊢;generalize hr:Value.pointer (some ⟨nw,0,none⟩)=r;refine yg (o:=mkO (opr gn 2 6) none (.store BT (.tmp 3) (.tmp 12))) (w':=W1.setRow nw #[.int .i64 e]) rfl rfl (fun c e=>by cases e) (Yy (v:= .agg #[.int .i64 e]) rfl t.hB hN hr.symm rfl t.cB.symm t.cB.symm (by intro c hc;simp[Value.cells]at hc;subst hc;rfl)) ?_;refine Dw (o:=mkO (opr gn 2 7) (some 4) (.assign (.tmp 13))) (v:= .bool true) rfl rfl (fun c e=>by cases e) rfl ?_;rw[<-hQ2];show Code.wpIn Fence.wide 0 P _ Q ⟨#[p,q,x,r,.bool true,undef,x,x,.bool true,.tuple #[.agg #[.int .i64 e],.bool true],x,.tuple #[.agg #[.int .i64 e],.bool true],.agg #[.int .i64 e],.bool true,undef,undef,undef,undef,undef,undef],[]⟩ (W1.setRow nw #[.int .i64 e]);clear hQ2 Q2;obtain⟨W2,qQ⟩:∃W2,W2=W1.setRow nw #[.int .i64 e]:=⟨_,rfl⟩;have hN2:W2.heap[nw]? =some (.cells #[.int .i64 e] BT (0,0)):=by rw[qQ];exact setRow_heap _ _ _ _ _ (0,0) hN
 have pS:W2.heap[b]? =some (.cells z.cells T (0,0)):=by rw[qQ,setRow_other _ _ _ _ aA];exact pV
 have qO:W2.heap[c]? =some (.cells #[.int .i64 0] E (0,0)):=by rw[qQ,setRow_other _ _ _ _ aA];exact qL
 rw[<-qQ];apply wpIn_seq;apply wpIn_seq;apply wpIn_region;generalize hQ3:Exit.then _ _=Q3;refine Dw (o:=mkO (opr gn 3 0) (some 14) (.move (.tmp 4))) (v:= .bool true) rfl rfl (fun c e=>by cases e) rfl ?_;refine Dw (o:=mkO (opr gn 3 1) (some 15) (.unOp .not BL (.tmp 14))) (v:= .bool false) (w':=W2) rfl rfl (fun c e=>by cases e) ?_ ?_
 ·simp only[execOp,mkO,eM];rw[show Act.eval _ (Operand.tmp 14)= .bool true from rfl,t.nb];rfl
 rw[<-hQ3];refine wpIn_cond (t:=false) rfl ?_;simp only[aZ,if_false];refine wpIn_skip ?_;clear hQ3 Q3;show Code.wpIn Fence.wide 0 P _ Q ⟨#[p,q,x,r,.bool true,undef,x,x,.bool true,.tuple #[.agg #[.int .i64 e],.bool true],x,.tuple #[.agg #[.int .i64 e],.bool true],.agg #[.int .i64 e],.bool true,.bool true,.bool false,undef,undef,undef,undef],[]⟩ W2;apply wpIn_seq;apply wpIn_region;generalize hQ3:Exit.then _ _=Q3;obtain⟨v5,W3,hr5,yQ,hz5⟩:=t.z5 W2 (Act.eval ⟨#[p,q,x,r,.bool true,undef,x,x,.bool true,.tuple #[.agg #[.int .i64 e],.bool true],x,.tuple #[.agg #[.int .i64 e],.bool true],.agg #[.int .i64 e],.bool true,.bool true,.bool false,undef,undef,undef,undef],[]⟩) (mkO (opr gn 5 0) (some 5) o5) aF rfl;refine Dw (o:=mkO (opr gn 5 0) (some 5) o5) (v:=v5) (w':=W3) rfl rfl t.d5 hr5 ?_;rw[<-hQ3];have hN3:W3.heap[nw]? =some (.cells #[.int .i64 e] BT (0,0)):=by rw[yQ.block' (y5 hN2)];exact hN2
 have tR:W3.heap[b]? =some (.cells z.cells T (0,0)):=by rw[yQ.block' (y5 pS)];exact pS
 have sE:W3.heap[c]? =some (.cells #[.int .i64 0] E (0,0)):=by rw[yQ.block' (y5 qO)];exact qO
 show Code.wpIn (Fr none) 0 P (.region 6 (AG gn BT T E o6) true) Q ⟨#[p,q,x,r,.bool true,v5,x,x,.bool true,.tuple #[.agg #[.int .i64 e],.bool true],x,.tuple #[.agg #[.int .i64 e],.bool true],.agg #[.int .i64 e],.bool true,.bool true,.bool false,undef,undef,undef,undef],[]⟩ W3;clear hQ3 Q3;refine CZ (kd:=cgK) (tg:=cgT) (ta:=fun i=>[0,0,nw,b,c].getD i 0) (X:=fun _ _=>False) (F:=[0,1,2]) (T:=[3,4]) hm t.ord ?_ (fun x a w _ h=>h.elim) ?_
 ·have hk:∀i,cgK i=5\/cgK i=6->i=2\/i=3\/i=4:=fun i hi=>by
   match i,hi with
   |0,hi=>simp[cgK]at hi
   |1,hi=>simp[cgK]at hi
   |2,_=>exact .inl rfl
   |3,_=>exact .inr (.inl rfl)
   |4,_=>exact .inr (.inr rfl)
   |n+5,hi=>simp[cgK]at hi
  intro i j hi hj pI;rcases hk i hi with rfl|rfl|rfl<;>rcases hk j hj with rfl|rfl|rfl<;>first|exact absurd rfl pI|(show _≠_;simp only[List.getD_cons_succ,List.getD_cons_zero];omega)
 refine⟨mkO (opr gn 6 0) (some 17) o6,rfl,.inr ⟨rfl,.inr (.inl ⟨rfl,z,fun w hw=>hz5 w ((⟨rfl,rfl,rfl,aS _,fun _ _=>rfl,Nat.le_succ _⟩:Ext W3 {W3 with drawn:=W3.drawn+1}).trans hw) _ _ rfl rfl,?_⟩)⟩⟩;refine⟨mkO (opr gn 6 1) (some 18) (.fieldAddr BT (.tmp 3) 0),rfl,.inr ⟨rfl,.inl ⟨rfl,r,fun w=> ?_,?_⟩⟩⟩
 ·simp only[execOp,mkO,eM];rw[show Act.eval _ (Operand.tmp 3)=r from rfl,<-hr,t.fB];rfl
 refine⟨mkO (opr gn 6 2) (some 19) (.load E (.tmp 18)),rfl,.inr ⟨rfl,.inr (.inr (.inr (.inr ⟨rfl,.int .i64 e,_,hN3,fun w' qS=> ?_,?_⟩)))⟩⟩
 ·have h1:=Xa (P:=P) (q:=0) (b:=nw) t.hE qS (by rw[t.E1];exact aS _) (fun _=>cY 0);rw[t.aE]at h1;simp only[execOp,mkO,eM];rw[show Act.eval _ (Operand.tmp 18)=r from rfl,<-hr,h1];rfl
 intro w hw;have vZ:w.heap[b]? =some (.cells z.cells T (0,0)):=by rw[hw.block' (y5 tR)];exact tR
 have hcw:w.heap[c]? =some (.cells #[.int .i64 0] E (0,0)):=by rw[hw.block' (y5 sE)];exact sE
 show wpT P _ _ cgK _ _ [3,4] ⟨#[p,q,x,r,.bool true,v5,x,x,.bool true,.tuple #[.agg #[.int .i64 e],.bool true],x,.tuple #[.agg #[.int .i64 e],.bool true],.agg #[.int .i64 e],.bool true,.bool true,.bool false,undef,z,r,.int .i64 e],[]⟩ w;refine⟨mkO (opr gn 6 3) none (.store T (.tmp 0) (.tmp 17)),rfl,.inr ⟨rfl,.inr (.inr (.inl ⟨rfl,_,z.cells,vZ,fun w' qS=> ?_,?_⟩))⟩⟩
 ·exact Yy (P:=P) (ev:=Act.eval ⟨#[p,q,x,r,.bool true,v5,x,x,.bool true,.tuple #[.agg #[.int .i64 e],.bool true],x,.tuple #[.agg #[.int .i64 e],.bool true],.agg #[.int .i64 e],.bool true,.bool true,.bool false,undef,z,r,.int .i64 e],[]⟩) (o:=mkO (opr gn 6 3) none (.store T (.tmp 0) (.tmp 17))) (v:=z) rfl t.hT qS hp.symm rfl t.zs t.zs t.zo
 have a2o:(w.setRow b z.cells).heap[c]? =some (.cells #[.int .i64 0] E (0,0)):=by rw[setRow_other _ _ _ _ aA];exact hcw
 refine⟨mkO (opr gn 6 4) none (.store E (.tmp 1) (.tmp 19)),rfl,.inr ⟨rfl,.inr (.inr (.inl ⟨rfl,_,#[.int .i64 e],a2o,fun w' qS=> ?_,?_⟩))⟩⟩
 ·exact Yy (P:=P) (ev:=Act.eval ⟨#[p,q,x,r,.bool true,v5,x,x,.bool true,.tuple #[.agg #[.int .i64 e],.bool true],x,.tuple #[.agg #[.int .i64 e],.bool true],.agg #[.int .i64 e],.bool true,.bool true,.bool false,undef,z,r,.int .i64 e],[]⟩) (o:=mkO (opr gn 6 4) none (.store E (.tmp 1) (.tmp 19))) (v:= .int .i64 e) rfl t.hE qS hq.symm rfl t.E1.symm t.E1.symm (by intro c hc;simp[Value.cells]at hc;subst hc;rfl)
 show Q .normal _ ((w.setRow b z.cells).setRow c #[.int .i64 e]);have hRR:R (.returned (.tuple #[])) (.panicking [{v:=x,recovered:=true}]) ((w.setRow b z.cells).setRow c #[.int .i64 e]):=by
  rw[<-hR];have sB:∀i,i≠b->i≠c->i<nw->((w.setRow b z.cells).setRow c #[.int .i64 e]).heap[i]? =W.heap[i]?:=fun i h1 h2 h3=>by
   have h4:i<W.heap.size:=aA;have h5:i<W2.heap.size:=by have:=hE1.size;rw[qQ,setRow_size];omega
   have h6:=yQ.size;rw[setRow_other _ _ _ _ h2,setRow_other _ _ _ _ h1,hw.block' (show i<W3.heap.size by omega)];show W3.heap[i]? =_;rw[yQ.block' h5,qQ,setRow_other _ _ _ _ aA,hE1.block' h4]
  refine⟨rfl,rfl,⟨hw.os.trans (yQ.os.trans (by rw[qQ];exact hE1.os)),hw.tape.trans (yQ.tape.trans (by rw[qQ];exact hE1.tape)),hw.output.trans (yQ.output.trans (by rw[qQ];exact hE1.output)),?_,fun i hi hn=> ?_,fun i o ho=> ?_,fun i hi=> .inl ?_,?_⟩⟩
  ·have h1:=hE1.size;have h2:=hw.size;rw[setRow_size,setRow_size];have h3:W3.heap.size<=w.heap.size:=h2;have h4:=yQ.size;rw[qQ,setRow_size]at h4;omega
  ·refine sB i (fun e=> ?_) (fun e=> ?_) aA
   ·subst e;unfold PH.put at hn;rw[if_neg hbc,if_pos rfl]at hn;cases hn
   ·subst e;unfold PH.put at hn;rw[if_pos rfl]at hn;cases hn
  ·unfold PH.put at ho;split at ho
   ·rename_i e1;subst e1;cases ho;exact setRow_heap _ _ _ _ _ (0,0) a2o
   ·split at ho
    ·rename_i e1 e2;subst e2;cases ho;rw[setRow_other _ _ _ _ e1];exact setRow_heap _ _ _ _ _ (0,0) vZ
    ·cases ho
  ·unfold PH.put at hi⊢;split
   ·intro h;cases h
   ·rename_i e1;rw[if_neg e1]at hi;exact hi
  ·have h1:=hE1.dr;have h2:W3.drawn+1<=w.drawn:=hw.dr;have h4:=yQ.dr;rw[qQ]at h4;show W.drawn<=w.drawn;have h3:W1.drawn<=W3.drawn:=h4;omega
 rw[<-hQ];cases c₀;simp[bodyPostS,results,h.gr];exact⟨rfl,hRR⟩
end
end Go.RX
namespace Go.Z
open Proofs.Tryz RowKit RX GS RZ WD
def d8w:Gz ((prog.funcs[56]?).getD default).body=Rk ((prog.funcs[56]?).getD default) 20 120 4 39 36 (.assign (.const (.slice none 0 0))) (.move (.tmp 5)) (.region 4 #[mkO (opr f56 4 0) (some 16) (.move (.tmp 2)),mkO (opr f56 4 1) none (.panic (.tmp 16))] false):=aB
def d8x {e:Int}:Vp prog 39 36 120 4 ((prog.funcs[56]?).getD default) (.slice none 0 0) e (Am e) 20 (.assign (.const (.slice none 0 0))) (.move (.tmp 5)) where
 ifc:=⟨_,_,rfl⟩
 asr:=fun w=>by kernel_rfl
 zB:=aB
 hB:=aB
 cB:=aB
 fB:=fun w k=>by kernel_rfl
 zs:=aB
 zo:=fun c hc=>by simp[Value.cells]at hc;subst hc;rfl
 hT:=aB
 E1:=aB
 aE:=aB
 hE:=aB
 nb:=fun w=>by kernel_rfl
 z5:=RB
 d5:=fun c h=>by cases h
 ord:=aB
def RD {e:Int}:Qw prog 56 39 36 (.slice none 0 0) (Am e) e:=by
 have h:=Zm;rw[d8w]at h;exact Zt mixed h d8x
section
variable {H:PH} {n k ms lv who:Nat} {es:List (Nat×Nat)} {us:List Un} {w rw wts u v:Value} {lo hi:Int} {p:List Int} {ρ:List Value}
def RE:rdV prog 39 (Value.slice none 0 0).cells= .slice none 0 0:=by
 have h1:p8 prog 39=false:=aB;unfold rdV;rw[h1];rfl
def kq {o:Oper} {x y:Operand} (r:Rat) (ho:o.op= .binOp .eql 46 x y 46) (hx:e8 [x,y] [shR r,shR r] x=shR r) (hy:e8 [x,y] [shR r,shR r] y=shR r):Yld prog o [shR r,shR r] (.bool true):=fun w=>by
 have pD:o.op.operands.toList=[x,y]:=by simp[ho,Op.operands]
 rw[pD];have h1:=run_eql_struct (P:=prog) w 46 (shw r) (shw r);have h2:=run_eqGuard_agg (P:=prog) w .eql 46 x y (shw r) (shw r) aB;have h3:(Op.equalIn 10000 46 (.agg (shw r)) (.agg (shw r))).run prog w= .ok true w:=by
  have:=OQ r 9997 w;rw[En]at this;exact this
 rw[h3]at h1;simp only[execOp,ho,hx,hy,eM];rw[En];simp only[h2,h1,eL];rfl
end
def d4B:g6 prog [61,73] [] [] [⟨5,[0,0,2,6,6,31,63,127,127,383,895,895,4095,8191,16383,32767,65535,131071,32767,32767,1048575]++rPx 3 2097151++[16777215,33554431,67108863,134217727,268435455,536870911]++rPx 2 134217727++[4294967295]++rPx 3 8589934591++[68719476735,137438953471,274877906943]++rPx 2 549755813887++[2199023255551,4398046511103,8796093022207]++rPx 2 17592186044415++[70368744177663,140737488355327,281474976710655,562949953421311,1125899906842623,2251799813685247,4503599627370495]++rPx 2 9007199254740991++[36028797018963967,72057594037927935,144115188075855871]++rPx 2 288230376151711743++[1152921504606846975,2305843009213693951,4611686018427387903,9223372036854775807,18446744073709551615,36893488147419103231,73786976294838206463],rDx 67 1250022000000012500220002000235222002000235222002002500200250,rPx 44 0++rDx 14 1++rDx 9 2,rAx 0 15++[18,15,16,17]++rAx 19 8++[30,27,28,29]++rAx 31 36,[]⟩,⟨6,[0,0,0,0,13,31],[5,5,3,3,8,8],[0,0,0,0,3,3],[0,1,2,3],[4,5]⟩,⟨11,[0,1,3,7,15,31,63,3,255,511,511,2047,4095,8191,16383,32767,65535,131071,262143,524287,1048575,2097151,4194303,8388607,16777215,33554431],rDx 26 200252202200,rDx 26 30000000,rDx 8 65432710++rAx 8 18,[]⟩] 4=some (.call false 5 []
(.rq (.cells 12 V0) (.call false 14 [(.ki 20),(.ki 1)]
(.call false 14 [(.ki 1),(.ki 3)]
(.rq (.cells 16 V1) (.rq (.cells 16 V2) (.call false 14 [(.ki 30),(.ki 1)]
(.call false 14 [(.ki 2),(.ki 3)]
(.rq (.cells 16 V3) (.rq (.cells 16 V4)
(.ef false f4 2 6 [(.put (.cat V1 16 (.z 46)) 16 16 V2 0 noI),(.put (.cat V3 16 (.z 46)) 16 16 V4 0 noI)]
(.call false 13 [V5]
(.call false 12 [(.ag V0),(.k (.bool true))]
(.rq (.tup 0 V7) (.rq (.tup 1 V7) (.rq (.tup 2 V7) (.rq (.cells 16 (.pj V7 1)) (.call false 12 [(.ag V0),(.k (.bool false))]
(.rq (.tup 0 V8) (.rq (.tup 1 V8) (.rq (.tup 2 V8) (.rq (.cells 16 (.pj V8 1)) (.call true 8 [(.ag V0)]
(.rq (.tup 0 V9) (.rq (.tup 1 V9)
(.ef true f4 5 5 [V6,(.pj V9 0),(.pj V9 1)]
(.rq (.bool V10) (.br V10
(.call true 11 [(.ag V0)]
(.rq (.tup 0 V11) (.rq (.tup 1 V11)
(.ef true f4 5 12 [V6,(.pj V11 0),(.pj V11 1)]
(.rq (.bool V12) (.br V12
(.call true 14 [(.ki 0),(.ki 1)]
(.call true 14 [(.ki 1),(.ki 3)]
(.call true 17 [V13,V14]
(.mq f4 5 19 [(.ki 0),(.ki 0),(.ki 1),(.ki 1)]
(.call true 9 [(.ag V0),V16]
(.rq (.tup 0 V17) (.rq (.tup 1 V17) (.rq (.tup 2 V17)
(.ef true f4 5 24 [V15,(.pj V17 0),(.pj V17 1),(.pj V17 2)]
(.rq (.bool V18) (.br V18
(.call true 14 [(.ki 1),(.ki 3)]
(.call true 14 [(.ki 2),(.ki 3)]
(.call true 17 [V19,V20]
(.mq f4 5 31 [(.ki 1),(.ki 0),(.ki 0),(.ki 0)]
(.call true 9 [(.ag V0),V22]
(.rq (.tup 0 V23) (.rq (.tup 1 V23) (.rq (.tup 2 V23)
(.ef true f4 5 36 [V21,(.pj V23 0),(.pj V23 1),(.pj V23 2)]
(.rq (.bool V24) (.br V24
(.ef true f4 5 40 [(.ki 0),(.ki 0),(.ki 0),(.ki 1)]
(.call true 16 [(.pj V7 0),V25]
(.rq (.bool V26) (.br V26
(.call true 14 [(.ki 30),(.ki 1)]
(.pm f4 5 46 [(.ag (.pj V7 1)),V27]
(.rq (.bool V28) (.br V28
(.rq (.int .i64 (.pj V7 2)) (.br (.io .eql (.pj V7 2) (.ki 0))
(.ef true f4 5 54 [(.ki 0),(.ki 0),(.ki 1),(.ki 1)]
(.call true 16 [(.pj V8 0),V29]
(.rq (.bool V30) (.br V30
(.call true 14 [(.ki 20),(.ki 1)]
(.pm f4 5 60 [(.ag (.pj V8 1)),V31]
(.rq (.bool V32) (.br V32
(.rq (.int .i64 (.pj V8 2)) (.call false 8 [(.cat (.sub (.ag V0) 0 7 0 noI) 7 (.cat (.ki 21) 1 (.sub (.ag V0) 8 4 0 noI)))]
(.rq (.tup 0 V33) (.rq (.tup 1 V33)
(.ef false f4 9 1 [(.ki 0),(.ki 0),(.ki 0),(.ki 0)]
(.call false 9 [(.ag V0),V34]
(.rq (.tup 0 V35) (.rq (.tup 1 V35) (.rq (.tup 2 V35) (.rq (.cells 16 (.pj V35 0)) (.rq (.cells 16 (.pj V35 1))
(.ef false f4 10 1 [(.ki 0),(.ki 0),(.ki 1),(.ki 1)]
(.call false 10 [(.ag V0),V36,(.ki 201),(.z 51)]
(.rq (.tup 0 V37) (.rq (.tup 1 V37) (.rq (.tup 2 V37) (.rq (.tup 3 V37) (.rq (.cells 1 (.pj V37 2)) (.br (.io .eql (.pj V8 2) (.ki 0)) (.call true 14 [(.ki 20),(.ki 1)]
(.call true 14 [(.ki 1),(.ki 1)]
(.rq (.cells 16 V38) (.rq (.cells 16 V39)
(.ef true f4 11 5 [(.put (.cat V38 16 (.z 46)) 16 16 V39 0 noI)]
(.call true 13 [V40]
(.call true 8 [(.cat (.sub (.ag V0) 0 7 0 noI) 7 (.cat (.ki 20) 1 (.sub (.ag V0) 8 4 0 noI)))]
(.rq (.tup 0 V42) (.rq (.tup 1 V42)
(.ef true f4 11 11 [V41,(.pj V42 0),(.pj V42 1)]
(.rq (.bool V43) (.br V43
(.rq (.int .i64 (.pj V33 1)) (.br (.io .eql (.pj V33 1) (.ki 4)) (.rq (.int .i64 (.pj V35 2)) (.br (.io .eql (.pj V35 2) (.ki 8)) (.rq (.int .i64 (.pj V37 3)) (.ret [(.io .eql (.pj V37 3) (.ki 2))])) (.ret [(.k (.bool false))]))) (.ret [(.k (.bool false))]))) (.ret [(.k (.bool false))]))))))))))))) (.ret [(.k (.bool false))])))))))))))))))))))) (.call false 8 [(.cat (.sub (.ag V0) 0 7 0 noI) 7 (.cat (.ki 21) 1 (.sub (.ag V0) 8 4 0 noI)))]
(.rq (.tup 0 V33) (.rq (.tup 1 V33)
(.ef false f4 9 1 [(.ki 0),(.ki 0),(.ki 0),(.ki 0)]
(.call false 9 [(.ag V0),V34]
(.rq (.tup 0 V35) (.rq (.tup 1 V35) (.rq (.tup 2 V35) (.rq (.cells 16 (.pj V35 0)) (.rq (.cells 16 (.pj V35 1))
(.ef false f4 10 1 [(.ki 0),(.ki 0),(.ki 1),(.ki 1)]
(.call false 10 [(.ag V0),V36,(.ki 201),(.z 51)]
(.rq (.tup 0 V37) (.rq (.tup 1 V37) (.rq (.tup 2 V37) (.rq (.tup 3 V37) (.rq (.cells 1 (.pj V37 2)) (.ret [(.k (.bool false))])))))))))))))))))))))) (.call false 8 [(.cat (.sub (.ag V0) 0 7 0 noI) 7 (.cat (.ki 21) 1 (.sub (.ag V0) 8 4 0 noI)))]
(.rq (.tup 0 V31) (.rq (.tup 1 V31)
(.ef false f4 9 1 [(.ki 0),(.ki 0),(.ki 0),(.ki 0)]
(.call false 9 [(.ag V0),V32]
(.rq (.tup 0 V33) (.rq (.tup 1 V33) (.rq (.tup 2 V33) (.rq (.cells 16 (.pj V33 0)) (.rq (.cells 16 (.pj V33 1))
(.ef false f4 10 1 [(.ki 0),(.ki 0),(.ki 1),(.ki 1)]
(.call false 10 [(.ag V0),V34,(.ki 201),(.z 51)]
(.rq (.tup 0 V35) (.rq (.tup 1 V35) (.rq (.tup 2 V35) (.rq (.tup 3 V35) (.rq (.cells 1 (.pj V35 2)) (.ret [(.k (.bool false))])))))))))))))))))))))) (.call false 8 [(.cat (.sub (.ag V0) 0 7 0 noI) 7 (.cat (.ki 21) 1 (.sub (.ag V0) 8 4 0 noI)))]
(.rq (.tup 0 V29) (.rq (.tup 1 V29)
(.ef false f4 9 1 [(.ki 0),(.ki 0),(.ki 0),(.ki 0)]
(.call false 9 [(.ag V0),V30]
(.rq (.tup 0 V31) (.rq (.tup 1 V31) (.rq (.tup 2 V31) (.rq (.cells 16 (.pj V31 0)) (.rq (.cells 16 (.pj V31 1))
(.ef false f4 10 1 [(.ki 0),(.ki 0),(.ki 1),(.ki 1)]
(.call false 10 [(.ag V0),V32,(.ki 201),(.z 51)]
(.rq (.tup 0 V33) (.rq (.tup 1 V33) (.rq (.tup 2 V33) (.rq (.tup 3 V33) (.rq (.cells 1 (.pj V33 2)) (.ret [(.k (.bool false))])))))))))))))))))))) (.call false 8 [(.cat (.sub (.ag V0) 0 7 0 noI) 7 (.cat (.ki 21) 1 (.sub (.ag V0) 8 4 0 noI)))]
(.rq (.tup 0 V29) (.rq (.tup 1 V29)
(.ef false f4 9 1 [(.ki 0),(.ki 0),(.ki 0),(.ki 0)]
(.call false 9 [(.ag V0),V30]
(.rq (.tup 0 V31) (.rq (.tup 1 V31) (.rq (.tup 2 V31) (.rq (.cells 16 (.pj V31 0)) (.rq (.cells 16 (.pj V31 1))
(.ef false f4 10 1 [(.ki 0),(.ki 0),(.ki 1),(.ki 1)]
(.call false 10 [(.ag V0),V32,(.ki 201),(.z 51)]
(.rq (.tup 0 V33) (.rq (.tup 1 V33) (.rq (.tup 2 V33) (.rq (.tup 3 V33) (.rq (.cells 1 (.pj V33 2)) (.ret [(.k (.bool false))])))))))))))))))))))))) (.call false 8 [(.cat (.sub (.ag V0) 0 7 0 noI) 7 (.cat (.ki 21) 1 (.sub (.ag V0) 8 4 0 noI)))]
(.rq (.tup 0 V27) (.rq (.tup 1 V27)
(.ef false f4 9 1 [(.ki 0),(.ki 0),(.ki 0),(.ki 0)]
(.call false 9 [(.ag V0),V28]
(.rq (.tup 0 V29) (.rq (.tup 1 V29) (.rq (.tup 2 V29) (.rq (.cells 16 (.pj V29 0)) (.rq (.cells 16 (.pj V29 1))
(.ef false f4 10 1 [(.ki 0),(.ki 0),(.ki 1),(.ki 1)]
(.call false 10 [(.ag V0),V30,(.ki 201),(.z 51)]
(.rq (.tup 0 V31) (.rq (.tup 1 V31) (.rq (.tup 2 V31) (.rq (.tup 3 V31) (.rq (.cells 1 (.pj V31 2)) (.ret [(.k (.bool false))])))))))))))))))))))))) (.call false 8 [(.cat (.sub (.ag V0) 0 7 0 noI) 7 (.cat (.ki 21) 1 (.sub (.ag V0) 8 4 0 noI)))]
(.rq (.tup 0 V25) (.rq (.tup 1 V25)
(.ef false f4 9 1 [(.ki 0),(.ki 0),(.ki 0),(.ki 0)]
(.call false 9 [(.ag V0),V26]
(.rq (.tup 0 V27) (.rq (.tup 1 V27) (.rq (.tup 2 V27) (.rq (.cells 16 (.pj V27 0)) (.rq (.cells 16 (.pj V27 1))
(.ef false f4 10 1 [(.ki 0),(.ki 0),(.ki 1),(.ki 1)]
(.call false 10 [(.ag V0),V28,(.ki 201),(.z 51)]
(.rq (.tup 0 V29) (.rq (.tup 1 V29) (.rq (.tup 2 V29) (.rq (.tup 3 V29) (.rq (.cells 1 (.pj V29 2)) (.ret [(.k (.bool false))]))))))))))))))))))))))))))))) (.call false 8 [(.cat (.sub (.ag V0) 0 7 0 noI) 7 (.cat (.ki 21) 1 (.sub (.ag V0) 8 4 0 noI)))]
(.rq (.tup 0 V19) (.rq (.tup 1 V19)
(.ef false f4 9 1 [(.ki 0),(.ki 0),(.ki 0),(.ki 0)]
(.call false 9 [(.ag V0),V20]
(.rq (.tup 0 V21) (.rq (.tup 1 V21) (.rq (.tup 2 V21) (.rq (.cells 16 (.pj V21 0)) (.rq (.cells 16 (.pj V21 1))
(.ef false f4 10 1 [(.ki 0),(.ki 0),(.ki 1),(.ki 1)]
(.call false 10 [(.ag V0),V22,(.ki 201),(.z 51)]
(.rq (.tup 0 V23) (.rq (.tup 1 V23) (.rq (.tup 2 V23) (.rq (.tup 3 V23) (.rq (.cells 1 (.pj V23 2)) (.ret [(.k (.bool false))]))))))))))))))))))))))))))))) (.call false 8 [(.cat (.sub (.ag V0) 0 7 0 noI) 7 (.cat (.ki 21) 1 (.sub (.ag V0) 8 4 0 noI)))]
(.rq (.tup 0 V13) (.rq (.tup 1 V13)
(.ef false f4 9 1 [(.ki 0),(.ki 0),(.ki 0),(.ki 0)]
(.call false 9 [(.ag V0),V14]
(.rq (.tup 0 V15) (.rq (.tup 1 V15) (.rq (.tup 2 V15) (.rq (.cells 16 (.pj V15 0)) (.rq (.cells 16 (.pj V15 1))
(.ef false f4 10 1 [(.ki 0),(.ki 0),(.ki 1),(.ki 1)]
(.call false 10 [(.ag V0),V16,(.ki 201),(.z 51)]
(.rq (.tup 0 V17) (.rq (.tup 1 V17) (.rq (.tup 2 V17) (.rq (.tup 3 V17) (.rq (.cells 1 (.pj V17 2)) (.ret [(.k (.bool false))])))))))))))))))))))))))) (.call false 8 [(.cat (.sub (.ag V0) 0 7 0 noI) 7 (.cat (.ki 21) 1 (.sub (.ag V0) 8 4 0 noI)))]
(.rq (.tup 0 V11) (.rq (.tup 1 V11)
(.ef false f4 9 1 [(.ki 0),(.ki 0),(.ki 0),(.ki 0)]
(.call false 9 [(.ag V0),V12]
(.rq (.tup 0 V13) (.rq (.tup 1 V13) (.rq (.tup 2 V13) (.rq (.cells 16 (.pj V13 0)) (.rq (.cells 16 (.pj V13 1))
(.ef false f4 10 1 [(.ki 0),(.ki 0),(.ki 1),(.ki 1)]
(.call false 10 [(.ag V0),V14,(.ki 201),(.z 51)]
(.rq (.tup 0 V15) (.rq (.tup 1 V15) (.rq (.tup 2 V15) (.rq (.tup 3 V15) (.rq (.cells 1 (.pj V15 2)) (.ret [(.k (.bool false))])))))))))))))))))))))))))))))))))))))))))))))):=aB
def d4C:g6 prog [] [] [] [] 14=some (.call false 49 [V0,V1]
(.rq (.tup 0 V2) (.rq (.tup 1 V2) (.rq (.cells 16 (.pj V2 0)) (.ret [(.ag (.pj V2 0))]))))):=aB
@[reducible] def z2_:SV:= .cell (.pn (.pn (.pn (.pn (.z 66) 0 1 (.k (.string ⟨#[97]⟩))) 1 1 (.k (.string ⟨#[98]⟩))) 2 1 (.k (.string ⟨#[99]⟩))) 3 1 (.k (.string ⟨#[100]⟩))) 0 1 V1
def d4D:g6 prog [] [] [⟨0,3,[],[1]⟩] [] 5=some (.ef false f5 1 3 [(.put (.put (.z 54) 0 1 (.ki 0) 0 noI) 1 1 (.ki 1) 0 noI),(.put (.put (.z 54) 0 1 (.ki 1) 0 noI) 1 1 (.ki 2) 0 noI),(.put (.put (.z 54) 0 1 (.ki 2) 0 noI) 1 1 (.ki 3) 0 noI)]
(.rq (.cells 1 V0) (.loop [(.ki 0),(.cat (.cat (.ki 4) 1 V0) 2 (.cat (.z 28) 4 (.cat (.ki 2) 1 (.cat (.ki 10) 1 (.cat (.ki 30) 1 (.cat (.ki 2) 1 (.cat (.z 3) 1 (.z 3))))))))]
(.ri V1
(.br (.io .lss V1 (.ki 4)) (.rq (.num V1) (.rq (.lt 4 V1) (.rq (.cells 1 z2_)
(.ef false f5 5 5 [(.put (.cat z2_ 1 (.cat (.z 3) 1 (.cat (.z 33) 1 (.cat (.z 33) 1 (.cat (.z 33) 1 (.z 4)))))) 1 1 (.ki 10) 0 noI)]
(.ef false f5 5 6 [(.cell V2 5 0 noI),V3]
(.rq (.cells 1 V4) (.next 0 [(.io .add V1 (.ki 1)),(.cat (.sub V2 0 5 0 noI) 5 (.cat V4 1 (.sub V2 6 6 0 noI)))]))))))) (.ret [(.ag V2)])))))):=aB
def d4E:g6 prog [1] [] [] [] 13=some (.rq (.cells 1 V0) (.pub 38 V0
(.ef false f13 1 0 [V1]
(.ret [V2])))):=aB
def c8h:g6 prog [] [] [] [] 47=some (.ri V1
(.br (.io .eql V1 (.ki 0))
(.pm f47 1 4 [V2]
(.call false 48 [V0,V3]
(.ret [V4]))) (.ret [(.k (.bool false))]))):=aB
def RF:g6 prog [1] [] [] [] 11=some (.rq (.cells 12 V0) (.pub 30 V0
(.ef false f11 1 0 [V1]
(.call false 21 [V2]
(.rq (.tup 0 V3) (.rq (.tup 1 V3) (.ret [(.pj V3 0),(.pj V3 1)]))))))):=aB
def RG:g6 prog [] [] [⟨4,5,[],[]⟩] [⟨5,[0,0,0,0,12,0,32,0,0,256,992,2016,2016,8160,16380,32764,32764,131068,262143],rDx 19 4200220021101115555,rDx 19 1010,rAx 0 18,[18]⟩] 40=some (.ef false f40 1 0 []
(.rq (.cells 1 V1)
(.pm f40 2 0 [V0]
(.call false 20 [V2]
(.call false 23 [V3]
(.rf V4 2 []
(.rq (.cells 16 V6)
(.pm f40 5 4 [(.cell V1 0 0 noI),(.ag V6)]
(.pm f40 5 5 [V0]
(.pm f40 5 6 [V8]
(.pm f40 5 8 [V0]
(.pm f40 5 9 [V10]
(.call true 41 [V9,V5,V11]
(.rq (.tup 0 V12) (.rq (.tup 1 V12) (.call true 24 [(.pj V12 0),(.pj V12 1)]
(.call true 25 [V7,V13]
(.rq (.tup 0 V14) (.rq (.tup 1 V14) (.call true 24 [(.pj V14 0),(.pj V14 1)]
(.ef false f40 5 18 [(.cell V1 0 0 noI),(.ag V6),V15]
(.next 0 [])))))))))))))))) (.call false 27 [(.cell V1 0 0 noI)]
(.ret [V5])) (.dead 818))))))):=aB
def d4F:g6 prog [] [] [⟨0,7,[],[2]⟩] [⟨12,[0,0,2,7,15],[5,5,2,2,6],[2,3,0,0,2],[0,1,2,3],[4]⟩] 41=some (.rq (.cells 2 V0) (.call false 79 [(.ag V0),V1,V2]
(.ri V3
(.br (.io .neq V3 (.ki 0)) (.ret [(.z 44),V3]) (.call false 80 [V1,V2]
(.rq (.tup 0 V4) (.rq (.tup 1 V4) (.call false 81 [(.ki 1)]
(.rq (.cells 2 V5)
(.pm f41 6 1 [(.pj V4 0)]
(.loop [(.ki 0),(.ki 0),V5]
(.ri V8
(.ri V6
(.br (.io .lss V8 V6)
(.pm f41 8 0 [(.pj V4 0),V8]
(.pm f41 8 1 [V10]
(.call false 82 [(.ag V0),V11]
(.rq (.tup 0 V12) (.rq (.tup 1 V12) (.rq (.cells 8 (.pj V12 0)) (.rq (.int .i64 (.pj V12 1)) (.br (.io .neq (.pj V12 1) (.ki 0)) (.ret [(.z 44),(.pj V12 1)]) (.call true 84 [(.ag (.pj V12 0))]
(.call true 83 [(.ag V9),V13]
(.rq (.cells 2 V14) (.next 0 [V7,(.io .add V8 (.ki 1)),V14])))))))))))) (.call false 85 [(.ag V9)]
(.rq (.tup 0 V10) (.rq (.tup 1 V10) (.rq (.cells 8 (.pj V10 0)) (.ret [(.ag (.pj V10 0)),(.pj V10 1)]))))))))))))))))))):=aB
def d4G:g6 prog [2,3] [] [] [] 17=some (.rq (.cells 16 V0) (.pub 46 V0
(.rq (.cells 16 V1) (.pub 46 V1
(.ef false f17 1 0 [V2,V3]
(.ret [V4])))))):=aB
def c8i:g6 prog [] [] [] [] 50=some (.rq (.cells 16 V0) (.rq (.cells 16 V1)
(.pm f50 1 1 [V3]
(.pm f50 1 2 [(.ag V0),V5]
(.rq (.bool V6) (.br V6
(.pm f50 1 5 [V4]
(.pm f50 1 6 [(.ag V1),V7]
(.rq (.bool V8) (.br V8
(.ri V2
(.ret [(.io .eql V2 (.ki 0))])) (.ret [(.k (.bool false))]))))) (.ret [(.k (.bool false))]))))))):=aB
def RH:g6 prog [4,5,6,7] [] [] [⟨2,[0,1,0,4,0,16,0,3,143,447,1023],rDx 11 6000505050,rDx 11 101010,rAx 0 9,[9,10]⟩] 10=some (.rq (.cells 12 V0) (.pub 30 V0
(.rq (.cells 1 V1) (.pub 49 V1
(.rq (.cells 1 V2) (.pub 3 V2
(.rq (.cells 1 V3) (.pub 51 V3
(.ef false f10 1 0 [V4,V6,V5,V7]
(.call false 37 [V8]
(.rq (.tup 0 V9) (.rq (.tup 1 V9) (.rq (.cells 3 (.pj V9 0)) (.ret [(.cell (.pj V9 0) 0 0 noI),(.cell (.pj V9 0) 1 0 noI),(.sub (.pj V9 0) 2 1 0 noI),(.pj V9 1)])))))))))))))):=aB
def kr:g6 prog [] [] [⟨0,6,[],[1]⟩] [⟨7,[0,1,3,7,15,0,32,96,224,0,512,0,2048,8191,16383]++rPx 4 32767++[0,589823,1703935,3932159,8388607],rDx 24 80030000025050111011110,rPx 10 0++rDx 12 101++[2,0],rAx 0 22,[22,23]⟩,⟨9,[0,0,1,5,15,31],[0,5,0,6,0,6],[0,2,0,1,0,1],[0,1,2],[3,4,5]⟩,⟨11,[0,0,0,0,12,0,60,124,124,508,1023],rDx 11 42002215050,rDx 11 3030,rAx 0 10,[10]⟩] 38=some (.pm f38 1 0 [V0]
(.call false 20 [V4]
(.pm f38 2 0 [V1]
(.ri V6
(.br (.io .lss V6 (.ki 1)) (.call false 30 [(.k (.bool true)),(.ki 2)]
(.pm f38 3 0 [V2]
(.pm f38 3 1 [V3]
(.rq (.cells 1 V8) (.rq (.cells 1 V9)
(.ef false f38 4 0 []
(.pm f38 5 0 [V1]
(.loop [(.ki 0),(.cat (.z 39) 1 (.put (.cat V8 1 (.z 51)) 1 1 V9 0 noI))]
(.ri V12
(.ri V11
(.br (.io .lss V12 V11)
(.pm f38 7 1 [V5]
(.pm f38 7 2 [V14]
(.pm f38 7 3 [V15]
(.pm f38 7 4 [V16]
(.pm f38 7 6 [V5]
(.pm f38 7 7 [V18]
(.pm f38 7 8 [V19]
(.call true 39 [V17,V20,(.cell V13 1 0 noI),(.sub V13 2 1 0 noI)]
(.rq (.tup 0 V21) (.rq (.tup 1 V21) (.rq (.tup 2 V21) (.rq (.tup 3 V21) (.rq (.cells 1 (.pj V21 2)) (.call false 36 [(.pj V21 3)]
(.rq (.cells 1 (.pj V21 0)) (.call false 35 [V5,(.pj V21 0)]
(.rq (.cells 16 V23)
(.pm f38 11 4 [V10,(.ag V23)]
(.call true 26 [(.ki 1)]
(.call true 25 [V24,V25]
(.rq (.tup 0 V26) (.rq (.tup 1 V26) (.call true 24 [(.pj V26 0),(.pj V26 1)]
(.ef false f38 11 10 [V10,(.ag V23),V27]
(.next 0 [(.io .add V12 (.ki 1)),(.cat (.sub V13 0 1 0 noI) 1 (.cat (.pj V21 0) 1 (.ag (.pj V21 2))))]))))))))))))))))))))))))) (.call false 27 [V10]
(.rq (.cells 1 V14) (.ret [(.cat V14 1 (.sub V13 1 2 0 noI))]))))))))))))))
(.pm f38 2 3 [V1]
(.ri V7
(.call false 30 [(.io .gtr V7 (.ki 200)),(.ki 2)]
(.pm f38 3 0 [V2]
(.pm f38 3 1 [V3]
(.rq (.cells 1 V9) (.rq (.cells 1 V10)
(.ef false f38 4 0 []
(.pm f38 5 0 [V1]
(.loop [(.ki 0),(.cat (.z 39) 1 (.put (.cat V9 1 (.z 51)) 1 1 V10 0 noI))]
(.ri V13
(.ri V12
(.br (.io .lss V13 V12)
(.pm f38 7 1 [V5]
(.pm f38 7 2 [V15]
(.pm f38 7 3 [V16]
(.pm f38 7 4 [V17]
(.pm f38 7 6 [V5]
(.pm f38 7 7 [V19]
(.pm f38 7 8 [V20]
(.call true 39 [V18,V21,(.cell V14 1 0 noI),(.sub V14 2 1 0 noI)]
(.rq (.tup 0 V22) (.rq (.tup 1 V22) (.rq (.tup 2 V22) (.rq (.tup 3 V22) (.rq (.cells 1 (.pj V22 2)) (.call false 36 [(.pj V22 3)]
(.rq (.cells 1 (.pj V22 0)) (.call false 35 [V5,(.pj V22 0)]
(.rq (.cells 16 V24)
(.pm f38 11 4 [V11,(.ag V24)]
(.call true 26 [(.ki 1)]
(.call true 25 [V25,V26]
(.rq (.tup 0 V27) (.rq (.tup 1 V27) (.call true 24 [(.pj V27 0),(.pj V27 1)]
(.ef false f38 11 10 [V11,(.ag V24),V28]
(.next 0 [(.io .add V13 (.ki 1)),(.cat (.sub V14 0 1 0 noI) 1 (.cat (.pj V22 0) 1 (.ag (.pj V22 2))))]))))))))))))))))))))))))) (.call false 27 [V11]
(.rq (.cells 1 V15) (.ret [(.cat V15 1 (.sub V14 1 2 0 noI))]))))))))))))))))))))):=aB
def d4H:g6 prog [] [] [⟨0,4,[],[]⟩] [⟨6,[0,0,3,7,0,0,48,112,255],rDx 9 111001100,rPx 9 0,rAx 0 9,[]⟩] 48=some (.pm f48 1 1 [V0]
(.pm f48 1 3 [V1]
(.ri V2
(.ri V3
(.br (.io .neq V2 V3) (.ret [(.k (.bool false))])
(.pm f48 3 1 [V0]
(.loop [(.k (.bool false)),(.ki 0)]
(.ri V6
(.ri V4
(.br (.io .lss V6 V4)
(.pm f48 6 2 [V0,V6]
(.pm f48 6 3 [V7]
(.pm f48 6 6 [V1,V6]
(.pm f48 6 7 [V9]
(.pm f48 6 8 [V8,V10]
(.rq (.bool V11) (.br V11
(.ret [(.k (.bool false))]) (.next 0 [V5,(.io .add V6 (.ki 1))])))))))) (.ret [(.k (.bool true))]))))))))))):=aB
section
variable {H B:PH} {u v w e:Value} {m:List MaT}
def Rm {a b:Int} {r:Rat} (p0: -9223372036854775808<=a) (p1:a<9223372036854775808) (q0: -9223372036854775808<=b) (q1:b<9223372036854775808) (hb:b≠0) (hr:Rat.divInt a b=r) (hg:Rg r):j5 prog 14 [ii a,ii b] H (shR r):=by
 refine g9 mixed d4C ?_;have e:Hu a b= .tuple #[shR r,ii 0]:=by unfold Hu;rw[if_neg hb,hr,fk hg];rfl
 refine i9 ((show j5 prog 49 [ii a,ii b] H (.tuple #[shR r,ii 0])from(IY a b p0 p1 q0 q1).mono fun u H' h=>⟨h.1,h.2.trans e⟩)) rfl fun H1 l1=> ?_;simp only[cA,nA];refine g7 (g7 ?_);refine b4 (r4 _ _) ?_;exact c9 rfl ⟨l1,rfl⟩
def c8j {o:Oper} {x y:Operand} (q:MaT) (ho:o.op= .binOp .neq 61 x y 61) (hx:e8 [x,y] [veM q,veM q] x=veM q) (hy:e8 [x,y] [veM q,veM q] y=veM q):Yld prog o [veM q,veM q] (.bool false):=fun w=>by
 have pD:o.op.operands.toList=[x,y]:=by simp[ho,Op.operands]
 rw[pD];have h1:=run_neq_struct (P:=prog) w 61 (shw q.1.1++shw q.1.2) (shw q.1.1++shw q.1.2);have h2:=run_eqGuard_agg (P:=prog) w .neq 61 x y (shw q.1.1++shw q.1.2) (shw q.1.1++shw q.1.2) aB;have h3:(Op.equalIn 10000 61 (.agg (shw q.1.1++shw q.1.2)) (.agg (shw q.1.1++shw q.1.2))).run prog w= .ok true w:=by
  rw[run_equalIn_struct w 9999 _ _ _ aB aB,d7W];have e:=fun r w=>OQ r 9996 w;simp[Op.eqFields,e2w,e2z,e2u,e2v,e2x,e2y,d4e,d7X,e]
 rw[h3]at h1;have e1:veM q= .agg (shw q.1.1++shw q.1.2):=rfl;simp only[execOp,ho,hx,hy,eM];rw[e1];simp only[h2,h1,eL];rfl
def c8k (hu:SE H 32 ceM u m) (hv:SE H 32 ceM v m):Asks prog 48 [u,v] H (.bool true):=by
 refine g9 mixed d4H ?_;have hl:=hu.len;refine r8 el_mass hu ?_;simp only[cA,nA];refine r8 el_mass hv ?_;simp only[cA,nA];refine b9 (b9 ?_);refine j1 (Za (a:=((m.length:Nat):Int)) (b:=((m.length:Nat):Int)) rfl) ?_;refine r8 el_mass hu ?_;simp only[cA,nA];refine Jg (α:=Nat) (fun i=>[.bool false,ii (i:Nat)]) (fun i=>i<=m.length) (fun i=>m.length-i) (0) rfl ((bJ _)) fun i hQ=> ?_;simp only[cA,nA];refine b9 (b9 ?_);refine g8 (b:=decide (((i:Nat):Int)<(m.length:Nat))) rfl (fun h=> ?_) (fun h=> ?_)
 ·replace h:=oDt h;have pO:i<m.length:=aA;obtain⟨y,hy,_⟩:=u6 pO;refine r6 el_mass hu hy fun _=> ?_;simp only[cA,nA];refine r6 el_mass hv hy fun _=> ?_;simp only[cA,nA];refine j6 ((c8j y rfl rfl rfl).rds _) rfl ?_;simp only[cA,nA];refine b9 ?_;refine j1 rfl ?_;exact⟨(i+1),by show m.length-(i+1)<m.length-i;omega,(j0 rfl (p6 rfl aA)),⟨pO,rfl⟩⟩
 ·replace h:=oDf h;exact c9 rfl ⟨rfl,rfl⟩
def d4I:Sc prog 38:=⟨aB,aB,aB⟩
def ku (hu:SE H 32 ceM u m):Con prog 13 [u] H fun r H'=>Pl H H'/\∃c,r= .func (.func 47) #[] #[.pointer (some ⟨c,0,none⟩)]/\H' c=some (.cells #[u] 38 (0,0)):=by
 refine g9 mixed d4E ?_;refine b4 (hu.one) ?_;refine o0 (cs:= #[u]) hu.cells fun c hc=> ?_;simp only[cA,nA];have lc:=PH.le_put hc (.cells #[u] 38 (0,0));refine x5 (Ai (vs:=[.pointer (some ⟨c,0,none⟩)]) rfl rfl) rfl ?_;simp only[cA,nA];exact c9 rfl ⟨lc,c,rfl,PH.put_self _ _ _⟩
def Zu {c:Nat} (hc:H c=some (.cells #[v] 38 (0,0))) (hu:SE H 32 ceM u m) (hv:SE H 32 ceM v m):Asks prog 47 [u,ii 0,.pointer (some ⟨c,0,none⟩)] H (.bool true):=by
 refine g9 mixed c8h ?_;refine b9 ?_;refine Ah rfl ?_;refine i7 (u:=v) d4I rfl rfl hc rfl rfl ?_;simp only[cA,nA];refine s7 (c8k hu hv) rfl ?_;simp only[cA,nA];exact c9 rfl ⟨rfl,rfl⟩
def kw (r:Rat):Value.agg (shR r).cells=shR r:=by rw[Le,En]
def RJ {a b:Rat}:Con prog 17 [shR a,shR b] H fun r H'=>Pl H H'/\∃c d,r= .func (.func 50) #[] #[.pointer (some ⟨c,0,none⟩),.pointer (some ⟨d,0,none⟩)]/\H' c=some (.cells (shw a) 46 (0,0))/\H' d=some (.cells (shw b) 46 (0,0)):=by
 refine g9 mixed d4G ?_;refine b4 (r4 _ _) ?_;refine o0 (cs:=shw a) (Le a) fun c hc=> ?_;simp only[cA,nA];have lc:=PH.le_put hc (.cells (shw a) 46 (0,0));refine b4 (r4 _ _) ?_;refine o0 (cs:=shw b) (Le b) fun d hd=> ?_;simp only[cA,nA];have ld:=PH.le_put hd (.cells (shw b) 46 (0,0));refine x5 (Ai (vs:=[.pointer (some ⟨c,0,none⟩),.pointer (some ⟨d,0,none⟩)]) rfl rfl) rfl ?_;simp only[cA,nA];exact c9 rfl ⟨lc.trans ld,c,d,rfl,ld _ _ (PH.put_self _ _ _),PH.put_self _ _ _⟩
def RL (r:Rat):Value.agg (shw r).toList.toArray=shR r:=by rw[En]
def RN {c d:Nat} {a b:Rat} (hc:H c=some (.cells (shw a) 46 (0,0))) (hd:H d=some (.cells (shw b) 46 (0,0))):Asks prog 50 [shR a,shR b,ii 0,.pointer (some ⟨c,0,none⟩),.pointer (some ⟨d,0,none⟩)] H (.bool true):=by
 refine g9 mixed c8i ?_;have hs:∀r:Rat,(shw r).toList.length=16:=fun r=>by rw[bU,Ao]
 refine b4 (r4 _ _) ?_;refine b4 (r4 _ _) ?_;refine s5 (vs:=(shw a).toList) (jr a) rfl rfl hc (by rw[dS,dV]) (by rw[hs,Ao];decide) rfl ?_;simp only[cA,nA];rw[RL];refine j6 ((kq a rfl rfl rfl).rds _) (j0 (kw a) rfl) ?_;simp only[cA,nA];refine b9 ?_;refine Ah rfl ?_;refine s5 (vs:=(shw b).toList) (jr b) rfl rfl hd (by rw[dS,dV]) (by rw[hs,Ao];decide) rfl ?_;simp only[cA,nA];rw[RL];refine j6 ((kq b rfl rfl rfl).rds _) (j0 (kw b) rfl) ?_;simp only[cA,nA];refine b9 ?_;refine Ah rfl ?_;refine b9 ?_;exact c9 rfl ⟨rfl,rfl⟩
end
def uc4:List UC:=[⟨[97],10,(none,0,0),(none,0,0),(none,0,0),false⟩,⟨[98],10,(none,0,0),(none,0,0),(none,0,0),false⟩,⟨[99],10,(none,0,0),(none,0,0),(none,0,0),false⟩,⟨[100],10,(none,0,0),(none,0,0),(none,0,0),false⟩]
def e2F:j3 prog 54= .agg #[ii 0,ii 0]:=aB
def e2G:j3 prog 66= .agg #[st [],st [],st [],st []]:=aB
def d8y:j3 prog 28= .agg #[ii 0,ii 0,ii 0,.slice none 0 0]:=aB
def d4J:j3 prog 33= .slice none 0 0:=aB
def d4K:j3 prog 4= .bool false:=aB
def d8z:j3 prog 3=ii 0:=aB
section
variable {ρ:List Value} {x y z:SV} {s:Slc}
def e0R:D prog ρ (.z 66)= .agg [st [],st [],st [],st []].toArray:=e2G
def e0S:D prog ρ (.z 28)= .agg [ii 0,ii 0,ii 0,.slice none 0 0].toArray:=d8y
def Vq:D prog ρ (.z 33)= .slice none 0 0:=d4J
def RO:D prog ρ (.z 4)= .bool false:=d4K
def kx:D prog ρ (.z 3)=ii 0:=d8z
def Vr {a b:Nat} (hx:D prog ρ x=ii (a:Nat)) (hy:D prog ρ y=ii (b:Nat)):D prog ρ (.put (.put (.z 54) 0 1 x 0 noI) 1 1 y 0 noI)=ev2 (a,b):=
 Hg (l:=[ii (a:Nat),ii 0]) (Hg (l:=[ii 0,ii 0]) e2F hx rfl) hy rfl
def RP {i:Nat} {uc:UC} (hx:D prog ρ x=ii (i:Nat)) (hu:uc4[i]? =some uc):D prog ρ (.cell (.put (.put (.put (.put (.z 66) 0 1 (.k (.string ⟨#[97]⟩)) 0 noI) 1 1 (.k (.string ⟨#[98]⟩)) 0 noI) 2 1 (.k (.string ⟨#[99]⟩)) 0 noI) 3 1 (.k (.string ⟨#[100]⟩)) 0 noI) 0 1 x)=st uc.name:=by
 have h:=Hg (P:=prog) (ρ:=ρ) (o:=3) (n:=1) (l:=[st [97],st [98],st [99],st []]) (y:= .k (.string ⟨#[100]⟩)) (Hg (o:=2) (n:=1) (l:=[st [97],st [98],st [],st []]) (y:= .k (.string ⟨#[99]⟩)) (Hg (o:=1) (n:=1) (l:=[st [97],st [],st [],st []]) (y:= .k (.string ⟨#[98]⟩)) (Hg (o:=0) (n:=1) (l:=[st [],st [],st [],st []]) (y:= .k (.string ⟨#[97]⟩)) e0R rfl rfl) rfl rfl) rfl rfl) rfl rfl;show(D prog ρ _).cells.getD (0+1*x4 (D prog ρ x)) undef=_;rw[h,hx]
 match i,hu with
 |0,hu=>cases hu;rfl
 |1,hu=>cases hu;rfl
 |2,hu=>cases hu;rfl
 |3,hu=>cases hu;rfl
def e0T {uc:UC} {i:Nat} (hx:D prog ρ x=st uc.name) (hu:uc4[i]? =some uc):D prog ρ (.put (.cat x 1 (.cat (.z 3) 1 (.cat (.z 33) 1 (.cat (.z 33) 1 (.cat (.z 33) 1 (.z 4)))))) 1 1 (.k (.int .i64 10)) 0 noI)=veU uc:=by
 have h:=Hg (P:=prog) (ρ:=ρ) (o:=1) (n:=1) (y:= .k (.int .i64 10)) (Bc (n:=1) hx rfl (Bc (n:=1) kx rfl (Bc (n:=1) Vq rfl (Bc (n:=1) Vq rfl (km (n:=1) Vq rfl RO rfl))))) rfl rfl;rw[h]
 match i,hu with
 |0,hu=>cases hu;rfl
 |1,hu=>cases hu;rfl
 |2,hu=>cases hu;rfl
 |3,hu=>cases hu;rfl
def e0U (hx:D prog ρ x=vs s):D prog ρ (.cat (.cat (.k (.int .i64 4)) 1 x) 2 (.cat (.z 28) 4 (.cat (.k (.int .i64 2)) 1 (.cat (.k (.int .i64 10)) 1 (.cat (.k (.int .i64 30)) 1 (.cat (.k (.int .i64 2)) 1 (.cat (.z 3) 1 (.z 3))))))))=stV dm0 4 2 2 0 0 (vs s) (.slice none 0 0) 10 30:=
 Gh (n:=2) (km (n:=1) (v:=ii 4) rfl rfl hx rfl) (Gh (n:=4) (l:=[ii 0,ii 0,ii 0,.slice none 0 0]) e0S (Bc (n:=1) (v:=ii 2) rfl rfl (Bc (n:=1) (v:=ii 10) rfl rfl (Bc (n:=1) (v:=ii 30) rfl rfl (Bc (n:=1) (v:=ii 2) rfl rfl (km (n:=1) kx rfl kx rfl))))))
end
section
variable {H:PH}
def e2H {u:Value} (h:SE H 6 ceU u uc4):RoR H u us4:=by
 refine⟨uc4,h,rfl,fun i a x h1 h2=> ?_⟩;have hn:SI H (vs (none,0,0)) []:=SE.nil _ _ _
 match i,h1,h2 with
 |0,h1,h2=>cases h1;cases h2;exact⟨rfl,rfl,rfl,hn,hn,hn⟩
 |1,h1,h2=>cases h1;cases h2;exact⟨rfl,rfl,rfl,hn,hn,hn⟩
 |2,h1,h2=>cases h1;cases h2;exact⟨rfl,rfl,rfl,hn,hn,hn⟩
 |3,h1,h2=>cases h1;cases h2;exact⟨rfl,rfl,rfl,hn,hn,hn⟩
 |i+4,h1,h2=>cases h1
set_option maxHeartbeats 1000000 in
def RQ (hT:Tb H):Con prog 5 [] H fun r H'=>Pl H H'/\∃w rw,r=stV dm0 4 2 2 0 0 w rw 10 30/\StM H' w rw es4 us4:=by
 refine g9 mixed d4D ?_;refine Ba el_edge (l:=es4) (vs:=[ev2 (0,1),ev2 (1,2),ev2 (2,3)]) rfl aC aC rfl rfl (Dp (Vr (a:=0) (b:=1) rfl rfl) (Vr (a:=1) (b:=2) rfl rfl) (Vr (a:=2) (b:=3) rfl rfl)) fun v H1 l1 o1 _=> ?_;simp only[cA,nA];obtain⟨sa,rfl⟩:=JV o1.se;refine b4 o1.se.one ?_;refine t6 (α:=Nat×Value) (fun⟨i,u⟩=>[ii (i:Nat),stV dm0 4 2 2 0 0 (vs sa) u 10 30]) (fun⟨i,u⟩=>fun K=>i<=4/\Pl H1 K/\SO H1 K 35 6 ceU u (uc4.take i)) (fun⟨i,u⟩=>4-i) ((0,.slice none 0 0)) (j0 rfl (e0U rfl)) (⟨bJ _,Pl.refl _,SO.nil _ _ _ _ _⟩) fun⟨i,u⟩ K hQ=> ?_;simp only[cA,nA];obtain⟨hi1,lK,oK⟩:=hQ;refine b9 ?_;refine g8 (b:=decide (((i:Nat):Int)<4)) rfl (fun pT=> ?_) (fun pT=> ?_)
 ·replace pT:=oDt pT;have tH:i<4:=aA;refine b4 ⟨_,_,rfl⟩ ?_;refine b4 ⟨by show(0:Int)<=(i:Nat);omega,by show((i:Nat):Int)<4;omega⟩ ?_;obtain⟨uy,huy,_⟩:=u6 (l:=uc4) (show i<uc4.length from tH);refine b4 (by show(D prog _ (.cell _ 0 1 _)).cells.size=1/\_;rw[RP (i:=i) rfl huy];exact st_one _) ?_;refine Hy el_unit rfl rfl rfl aF aF lK oK (by rw[bD];omega) (j7 (e0T (i:=i) (RP (i:=i) rfl huy) huy)) aF rfl fun q u' K3 l3 o3=> ?_;simp only[cA,nA];have rS:uc4.take (i+1)=uc4.take i++[uy]:=by rw[cK,huy];rfl
  rw[<-rS]at o3;refine b4 (o3.se.one) ?_;exact⟨(i+1,u'),by show 4-(i+1)<4-i;omega,(j0 (p6 rfl aA) (Gh (l:=[ii (4:Nat),vs sa,ii (0:Nat),ii (0:Nat),ii (0:Nat)]) (Bf (l:=stC dm0 4 2 2 0 0 (vs sa) u 10 30) rfl) (Bc rfl o3.se.cells (Bf (l:=stC dm0 4 2 2 0 0 (vs sa) u 10 30) rfl)))),⟨by show i+1<=4;omega,l3,o3⟩⟩
 ·replace pT:=oDf pT;have hi4:i=4:=aA;subst hi4;exact c9 rfl ⟨l1.trans lK,vs sa,u,rfl,hT.mono (l1.trans lK),o1.se.mono lK,e2H oK.se⟩
end
def RR:q8 prog 38=true:=aB
def AI:Ii prog 37 76 100 36 20 ((prog.funcs[37]?).getD default) ((prog.funcs[76]?).getD default) (Gz ((prog.funcs[76]?).getD default).body):=⟨aB,aB,aB,aB,aB,aB,aB,aB,aB,aB⟩
def RS:CcT prog 100 36 (.agg #[.slice none 0 0,.slice none 0 0,.int .u64 0]):=⟨aB,aB,aB,aB,aB,aB,aB,fun h=>absurd (show p8 prog 100=true by kernel_rfl) (by rw[h];decide)⟩
def d8C:Gz ((prog.funcs[76]?).getD default).body=Rk ((prog.funcs[76]?).getD default) 20 120 4 100 36 (.alloc 100) (.load 100 (.tmp 5)) (.region 4 #[mkO (opr f76 4 0) (some 16) (.move (.tmp 2)),mkO (opr f76 4 1) none (.panic (.tmp 16))] false):=aB
def d8D {e:Int}:Vp prog 100 36 120 4 ((prog.funcs[76]?).getD default) (.agg #[.slice none 0 0,.slice none 0 0,.int .u64 0]) e (Am e) 20 (.alloc 100) (.load 100 (.tmp 5)) where
 ifc:=⟨_,_,rfl⟩
 asr:=fun w=>by kernel_rfl
 zB:=aB
 hB:=aB
 cB:=aB
 fB:=fun w k=>by kernel_rfl
 zs:=aB
 zo:=fun c hc=>by simp[Value.cells]at hc;rcases hc with rfl|rfl<;>rfl
 hT:=aB
 E1:=aB
 aE:=aB
 hE:=aB
 nb:=fun w=>by kernel_rfl
 z5:=AH aB aB aB aB
 d5:=fun c h=>by cases h
 ord:=aB
def RU {e:Int}:Qw prog 76 100 36 (.agg #[.slice none 0 0,.slice none 0 0,.int .u64 0]) (Am e) e:=by
 have h:=AI;rw[d8C]at h;exact Zt mixed h d8D
def d4M:(Value.agg #[.slice none 0 0,.slice none 0 0,.int .u64 0]).cells.size=3/\i8 (Value.agg #[.slice none 0 0,.slice none 0 0,.int .u64 0]).cells:=⟨rfl,fun c hc=>by simp[Value.cells]at hc;rcases hc with rfl|rfl<;>rfl⟩
section
variable {dm:Dm} {H B:PH} {n k ms lv who:Nat} {es:List (Nat×Nat)} {us:List Un} {w rw u ch:Value} {lo hi:Int} {l:List Int}
def b8v {a s c d:Nat} (ha:H a=some (.cells (stC dm n k ms lv who w rw lo hi).toArray 30 (0,0))) (hs:H s=some (.cells #[ii 201] 3 (0,0))) (hM:StM H w rw es us) (hS:StOk dm n k ms lv who es us lo hi) (hz:ms=1->s8 us n=true):ConX prog 38 [.pointer (some ⟨a,0,none⟩),.pointer (some ⟨s,0,none⟩),.pointer (some ⟨c,0,none⟩),.pointer (some ⟨d,0,none⟩)] H (fun _ _=>False) fun x H'=>Pl H H'/\x=Am 2:=by
 refine Cj mixed kr aB rfl ?_;refine s5 (vs:=(stC dm n k ms lv who w rw lo hi)) Ea rfl rfl ha rfl (show 0+12<=12 by decide) rfl ?_;simp only[cA,nA];refine g5 (Ij hM hS hz) rfl ?_;rintro _ H1 ⟨l1,b,wts,rfl,hW⟩;refine nmI ?_;simp only[cA,nA];refine i7 (u:=ii 201) sc_int rfl rfl (l1 _ _ hs) rfl rfl ?_;simp only[cA,nA];refine b9 ?_;refine j1 rfl ?_;refine i7 (u:=ii 201) sc_int rfl rfl (l1 _ _ hs) rfl rfl ?_;simp only[cA,nA];refine b9 ?_;exact Av (AE (e:=2) aC) rfl (fun _ _ h=>h.elim) ((fun x H' h=>⟨l1.trans h.1,h.2⟩))
def AK {n k ms lv who e st:Int} (h1:n8 w=true) (h2:n8 rw=true) (h3:u.cells.size=1/\i8 u.cells) (wM:ch.cells.size=1/\i8 ch.cells)
  (hX:∀a s c d H',Pl H H'->H' a=some (.cells (stC dm n k ms lv who w rw lo hi).toArray 30 (0,0))->H' s=some (.cells #[ii st] 3 (0,0))->H' c=some (.cells u.cells 49 (0,0))->H' d=some (.cells ch.cells 51 (0,0))->ConX prog 38 [.pointer (some ⟨a,0,none⟩),.pointer (some ⟨s,0,none⟩),.pointer (some ⟨c,0,none⟩),.pointer (some ⟨d,0,none⟩)] H' (fun _ _=>False) fun x H''=>Pl H' H''/\x=Am e):
  Con prog 10 [stV dm n k ms lv who w rw lo hi,u,ii st,ch] H fun r H'=>Pl H H'/\∃x y z,r= .tuple #[x,y,z,ii e]/\z.cells.size=1/\i8 z.cells:=by
 refine g9 mixed RH ?_;refine b4 (Ep h1 h2) ?_;refine o0 (cs:=(stC dm n k ms lv who w rw lo hi).toArray) rfl fun a ha=> ?_;simp only[cA,nA];have la:=PH.le_put ha (.cells (stC dm n k ms lv who w rw lo hi).toArray 30 (0,0));refine b4 h3 ?_;refine o0 (cs:=u.cells) rfl fun c hc=> ?_;simp only[cA,nA];have lc:=PH.le_put hc (.cells u.cells 49 (0,0));refine b4 (el_int.vcells _) ?_;refine o0 (cs:= #[ii st]) rfl fun s hs=> ?_;simp only[cA,nA];have ls:=PH.le_put hs (.cells #[ii st] 3 (0,0));refine b4 wM ?_;refine o0 (cs:=ch.cells) rfl fun d hd=> ?_;simp only[cA,nA];have ld:=PH.le_put hd (.cells ch.cells 51 (0,0));have hA:=ld _ _ (ls _ _ (lc _ _ (PH.put_self H a (.cells (stC dm n k ms lv who w rw lo hi).toArray 30 (0,0)))));have hB:=ld _ _ (PH.put_self _ s (.cells #[ii st] 3 (0,0)));have hC:=ld _ _ (ls _ _ (PH.put_self _ c (.cells u.cells 49 (0,0))));have l04:=la.trans (lc.trans (ls.trans ld));refine x5 (Ai (vs:=[.pointer (some ⟨a,0,none⟩),.pointer (some ⟨s,0,none⟩),.pointer (some ⟨c,0,none⟩),.pointer (some ⟨d,0,none⟩)]) rfl rfl) rfl ?_;simp only[cA,nA];refine g5 (Ol (caps:=[.pointer (some ⟨a,0,none⟩),.pointer (some ⟨s,0,none⟩),.pointer (some ⟨c,0,none⟩),.pointer (some ⟨d,0,none⟩)]) (V:=fun _ _=>False) (XE:=fun e' H'=>e'=e/\Pl H H') mixed AI RS RR (hX a s c d _ l04 hA hB hC (PH.put_self _ _ _)) (fun _ _ h=>h.elim) (fun x H' hx=>⟨e,hx.2 ▸ RU,rfl,l04.trans hx.1⟩)) rfl ?_;rintro _ H4 hX;refine nmI ?_;simp only[cA,nA];rcases hX with⟨_,h,_⟩|⟨_,⟨rfl,l4⟩,rfl⟩
 ·exact h.elim
 have uR:rdV prog 100 (Value.agg #[.slice none 0 0,.slice none 0 0,.int .u64 0]).cells= .agg #[.slice none 0 0,.slice none 0 0,.int .u64 0]:=by unfold rdV;rw[show p8 prog 100=true by kernel_rfl];rfl
 rw[uR];refine g7 (g7 ?_);refine b4 d4M ?_;exact c9 rfl ⟨l4,.slice none 0 0,.slice none 0 0,.agg #[.int .u64 0],rfl,rfl,fun c hc=>by simp[Value.cells]at hc;subst hc;rfl⟩
def b4U (hu:SI H u l) (wM:ch.cells.size=1/\i8 ch.cells) (hM:StM H w rw es us) (hS:StOk dm n k ms lv who es us lo hi) (hz:ms=1->s8 us n=true):Con prog 10 [stV dm n k ms lv who w rw lo hi,u,ii 201,ch] H fun r H'=>Pl H H'/\∃x y z,r= .tuple #[x,y,z,ii 2]/\z.cells.size=1/\i8 z.cells:=
 AK (t7 hM.gr) hM.ro.one hu.one wM fun a s c d H' l ha hs _ _=>b8v ha hs (hM.mono l) hS hz
end
end Go.Z

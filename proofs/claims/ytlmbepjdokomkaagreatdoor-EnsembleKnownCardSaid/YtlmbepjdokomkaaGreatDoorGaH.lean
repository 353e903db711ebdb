/- Lemmas of the proof. -/
import Derived.Test.YtlmbepjdokomkaaGreatDoorGeK
open List renaming range->eT,sum_cons->eY
open Nat renaming lt_trans->iK
set_option linter.all false
set_option maxRecDepth 100000
namespace Go.GS
def d2W {S x:Nat} (hx:bit S x=true) (hl:∀j,j<x->bit S j=false):Ih S=x:=by
 have e:S=sdf S (2^x)|||2^x:=Gu fun y=>by
  rw[Ap,Jf,Bj];by_cases h:x=y
  ·subst h;rw[hx];simp
  ·simp[h]
 have:=KQ (R:=sdf S (2^x)) (v:=x) fun i hi=>by
  show bit _ i=false;rw[Jf,Bj];by_cases h:x=i
  ·simp[h]
  ·rw[hl i aA];rfl
 rw[<-e]at this;exact this
def LR (ft:Nat->Bool) (k:Nat):z7 ft k 0=if k=0 then 1 else 0:=by
 cases k with
 |zero=>rfl
 |succ k=>simp[z7]
def c1t (ft:Nat->Bool) {S:Nat} (h:S≠0):z7 ft 0 S=0:=by simp[z7,h]
def sbI (S:Nat) (F:Nat->Nat) (i:Nat):Nat:=(((sbs S).take i).map F).sum
def Ur {S i s:Nat} {F:Nat->Nat} (h:(sbs S)[i]? =some s):sbI S F (i+1)=sbI S F i+F s:=by
 unfold sbI;rw[cK,h,bI,List.sum_append_nat];rfl
def LS {S:Nat} {F:Nat->Nat}:sbI S F (sbs S).length=sbT S F:=by unfold sbI sbT;rw[dV]
def LU {S:Nat} {F:Nat->Nat} (i:Nat):sbI S F i<=sbT S F:=by
 unfold sbI sbT;have:∀(l:List Nat) (i:Nat),((l.take i).map F).sum<=(l.map F).sum:=by
  intro l;induction l with
  |nil=>intro i;simp
  |cons a l ih=>
   intro i;cases i with
   |zero=>simp
   |succ i=>simp only[List.take_succ_cons,aU,eY];have:=ih i;omega
 exact this _ i
end Go.GS
namespace Go.Z
open Proofs.Tryz RowKit RX GS
def Fe:El prog 232 4 1 false (fun b:Bool=>[.bool b]) .bool where
 und:=aB
 has:=aB
 cel:=aB
 agg:=aB
 pos:=aC
 one1:=fun _=>by decide
 small:=aC
 inf:=⟨(prog.info? 4).getD default,.bool false,aB,aB,aB,rfl,oDt aB⟩
 len:=fun p=>rfl
 val:=fun p=>rfl
 cells:=fun p=>rfl
 one:=fun p c hc=>by simp at hc;subst hc;rfl
def LW:q8 prog 143=true:=aB
def xo:q8 prog 145=true:=aB
def LX:prog.underlying 241=some (.map 243 3):=aB
def xp:Sc prog 241:=⟨aB,aB,aB⟩
def Qs:Sc prog 175:=⟨aB,aB,aB⟩
def xq:Sc prog 232:=⟨aB,aB,aB⟩
def xr:Sc prog 242:=⟨aB,aB,aB⟩
def iy:Sc prog 237:=⟨aB,aB,aB⟩
def xt:FA prog 239 0 0:=⟨aB,oDt aB,aB,aB,oDt aB⟩
def xu:FA prog 239 1 1:=⟨aB,oDt aB,aB,aB,oDt aB⟩
def iz:FA prog 239 2 2:=⟨aB,oDt aB,aB,aB,oDt aB⟩
def e2p:j3 prog 243= .agg #[GS.uv 0,GS.uv 0]:=aB
def d2Z:∀w,(zeroValue 3).run prog w= .ok (ii 0) w:=fun w=>by rfl
abbrev pt (b:Nat):Value:= .pointer (some ⟨b,0,none⟩)
def ja (pm pF pd:Nat):Value:= .func (.func 143) #[] #[pt pm,pt pF,pt pd]
def jb (pd pF:Nat):Value:= .func (.func 145) #[] #[pt pd,pt pF]
structure Fld (B:PH) (n:Nat) (ft:Nat->Bool) (q pm pF pd:Nat) (m:Value):Prop where
 n6:n<=12
 fld:∃w T,B q=some (.cells #[ii (n:Nat),w,jb pd pF] T (0,0))/\SE B 1 (fun b:Bool=>[.bool b]) w ((eT (2^n)).map ft)
 mp:∃T,B pm=some (.cells #[m] T (0,0))
 fp:∃T,B pF=some (.cells #[pt q] T (0,0))
 dv:∃T,B pd=some (.cells #[ja pm pF pd] T (0,0))
def Mem (B H:PH) (ft:Nat->Bool) (m:Value):Prop:=Pl B H/\∃L,MKO iu kW2 B H m L/\∀p v,(p,v)∈L->v=ii ((z7 ft p.2 p.1:Nat):Int)
def Mem.mono {B H H':PH} {ft:Nat->Bool} {m:Value} (h:Mem B H ft m) (hl:Pl H H'):Mem B H' ft m:=by
 obtain⟨h1,L,h2,h3⟩:=h;exact⟨h1.trans hl,L,h2.mono hl,h3⟩
section
variable {B H:PH} {n:Nat} {ft:Nat->Bool} {q pm pF pd:Nat} {m:Value}
def LY {ρ:List Value} {a b:SV} {S k:Nat} (ha:D prog ρ a=GS.uv S) (hb:D prog ρ b=GS.uv k):D prog ρ (.put (.put (.z 243) 0 1 a 0 noI) 1 1 b 0 noI)=kW2 (S,k):=by
 show Value.agg (spl (Value.agg (spl (j3 prog 243).cells _ (D prog ρ a).cells.toList)).cells _ (D prog ρ b).cells.toList)=_;rw[e2p,ha,hb];rfl
def jc {n S:Nat} (hn:n<=12) (h:S<2^n):S<4096:=aM h (bB (n:=2) aC hn)
def jd {n:Nat} (hn:n<=12):8^n<9223372036854775807:=aR (bB aC hn) aC
def LZ {n a b:Nat} (ha:a<2^n) (hb:b<2^n):a|||b<2^n:=dH ha hb
def Us (ft:Nat->Bool) (k S x s:Nat):Nat:=if ft (s|||2^x)then z7 ft k (sdf (sdf S s) (2^x))else 0
def MA (hF:Fld B n ft q pm pF pd m) (k:Nat) (vS:k<=8) (ih:∀j,k=j+1->∀(S:Nat) (H:PH),S<2^n->Mem B H ft m->Con prog 143 [GS.uv S,ii (j:Nat),pt pm,pt pF,pt pd] H fun r H'=>r=ii ((z7 ft j S:Nat):Int)/\Mem B H' ft m)
  (S:Nat) (H:PH) (hS:S<2^n) (hM:Mem B H ft m):Con prog 143 [GS.uv S,ii (k:Nat),pt pm,pt pF,pt pd] H fun r H'=>r=ii ((z7 ft k S:Nat):Int)/\Mem B H' ft m:=by
 refine g9 mixed c6Q ?_;have a4b:=jc hF.n6 hS;have rC:S<M64:=iK a4b aC;refine b4 (el_u64.vcells S) ?_;refine b4 (el_int.vcells ((k:Nat):Int)) ?_;refine b9 ?_;refine y7 (p:=(S=0)) (bE0 S) (fun h0=> ?_) fun h0=> ?_
 ·refine b9 ?_;refine y7 (p:=(((k:Nat):Int)=0)) (bE _ _) (fun wB=> ?_) fun wB=> ?_
  ·exact c9 rfl ⟨by rw[h0,LR,if_pos aA];rfl,hM⟩
  ·exact c9 rfl ⟨by rw[h0,LR,if_neg aA];rfl,hM⟩
 ·refine b9 ?_;refine y7 (p:=(((k:Nat):Int)=0)) (bE _ _) (fun wB=> ?_) fun wB=> ?_
  ·obtain rfl:k=0:=aA;exact c9 rfl ⟨by rw[c1t ft h0];rfl,hM⟩
  ·obtain⟨k,rfl⟩:∃j,k=j+1:=⟨k-1,aA⟩;obtain⟨lB,L,hL,hLv⟩:=id hM;obtain⟨Tm,hmp⟩:=hF.mp;refine b4 (el_u64.vcells S) ?_;refine i7 xp rfl rfl (lB _ _ hmp) rfl rfl ?_;simp only[cA,nA];obtain⟨b,x,uB,yK⟩:∃b x,((b=false/\x=ii 0/\(S,k+1)∉L.map (·.1))\/(b=true/\((S,k+1),x)∈L))/\(b=true->x=ii ((z7 ft (k+1) S:Nat):Int)):=by
    by_cases h:(S,k+1)∈L.map (·.1)
    ·obtain⟨⟨p,x⟩,hx,rfl⟩:=bK.1 h;exact⟨true,x,.inr ⟨rfl,hx⟩,fun _=>hLv _ _ hx⟩
    ·exact⟨false,_,.inl ⟨rfl,rfl,h⟩,fun h=>nomatch h⟩
   have hkM:k+1<M64:=aR vS aC;refine j6 (Yt xn (vs:=[m,kW2 (S,k+1)]) (ok2:=true) (k:=(S,k+1)) (u:=x) (b:=b) rfl rfl rfl LX ⟨rC,hkM⟩ d2Z hL.mk uB) (j0 rfl (LY rfl (Ob rfl hkM))) ?_;simp only[cA,nA];refine g7 (g7 (b9 ?_));refine g8 (b:=b) rfl (fun hb=> ?_) (fun hb=> ?_)
   ·skip
    exact c9 rfl ⟨yK hb,hM⟩
   ·skip
    obtain⟨x1,r,qP⟩:∃x r,els S=x::r:=by
     cases qP:els S with
     |nil=>exact absurd (Oa rC qP) h0
     |cons x r=>exact⟨x,r,rfl⟩
    obtain⟨hx,tM,rK⟩:=Ib qP;have rG:x1<n:=Uk hS hx;have qG:2^x1<2^n:=cR aC rG;have hpM:=Df tM;have a4c:z7 ft (k+1) S=sbT (sdf S (2^x1)) (Us ft k S x1):=by
     show(if S=0 then 0 else _)=_;rw[if_neg h0,d2W hx rK];rfl
    have oW:=d2Q (ft:=ft) vS hS;have rZ:=jd hF.n6;have hR:sdf S (2^x1)<M64:=Qk rC;refine g5 (LA (s:=sdf S (2^x1))) (j7 (by rw[Qn rfl (Ic (B:=(M64-S)%M64) rfl (Yj rfl rC) rC (cO _ aC)) rC (Qm rC),fq rC qP])) ?_;rintro _ _ ⟨bb,qC,rfl,rfl⟩;refine nmI ?_;simp only[cA,nA];refine Hz (X:=H) (K:=Ax bb (sdf S (2^x1))) (Ro:=B) (fun pre vals X'=>Mem B X' ft m/\vals=[ii ((sbI (sdf S (2^x1)) (Us ft k S x1) pre.length:Nat):Int)]) (fun _ _ _=>False) (LC hR) KZ (gj _ qC) rfl (fun _ _ _ h=>h.1.1) ⟨hM,rfl⟩ ?_ ?_ ?_
    ·rintro pre xs vals X' ⟨s,hs,rfl⟩ _ ⟨tB,rfl⟩;refine⟨rfl,?_⟩;simp only[cA,nA];obtain⟨Tf,hfp⟩:=hF.fp;obtain⟨w,Tq,hq,hw⟩:=hF.fld;refine i7 Qs rfl rfl (tB.1 _ _ hfp) rfl rfl ?_;simp only[cA,nA];refine j9 ?_;simp only[cA,nA];refine i0 xu ?_;simp only[cA,nA];refine i7 xq rfl rfl (tB.1 _ _ hq) rfl rfl ?_;simp only[cA,nA];have tK:=sbs_mem.1 (aJ hs);have uO:s<2^n:=aR (bM (Yp tK) (wk _ _)) hS;have hsM:s<M64:=aR (bM (Yp tK) (wk _ _)) rC;have uT:s|||2^x1<2^n:=LZ uO qG;have hj:((eT (2^n)).map ft)[s|||2^x1]? =some (ft (s|||2^x1)):=by rw[aY,cC uT];rfl
     have zS:∀{ρ:List Value} {a:SV},D prog ρ a=GS.uv S->D prog ρ (.op2 .and .u64 a (.op1 .neg .u64 a))=GS.uv (2^x1):=fun ha=>by rw[Ic (B:=(M64-S)%M64) ha (Yj ha rC) rC (cO _ aC),fq rC qP]
     refine b9 ?_;refine By Fe rfl rfl rfl rfl aF (hw.mono tB.1) hj (j0 rfl (Fq rfl (zS rfl) hsM hpM)) aF fun _=> ?_;simp only[cA,nA];refine b9 ?_;refine g8 (b:=ft (s|||2^x1)) rfl (fun zF=> ?_) (fun zF=> ?_)
     ·skip
      obtain⟨Td,uW⟩:=hF.dv;refine i7 xr rfl rfl (tB.1 _ _ uW) rfl rfl ?_;simp only[cA,nA];have hS1:sdf (sdf S s) (2^x1)<2^n:=Uo (Uo hS);refine j4 (Bh (f:=143) (caps:= #[pt pm,pt pF,pt pd]) (vs:=[GS.uv (sdf (sdf S s) (2^x1)),ii (k:Nat)]) rfl rfl rfl LW (ih k rfl (sdf (sdf S s) (2^x1)) X' hS1 tB)) (Dp rfl (Qn (Qn rfl rfl rC hsM) (zS rfl) (Qk rC) hpM) (xj rfl aA)) ?_;rintro _ X2 ⟨rfl,vB⟩;refine nmI ?_;simp only[cA,nA];have sU:=LU (S:=sdf S (2^x1)) (F:=Us ft k S x1) (pre.length+1);rw[Ur hs]at sU;have zG:Us ft k S x1 s=z7 ft k (sdf (sdf S s) (2^x1)):=if_pos zF;rw[zG]at sU;refine b9 (b9 ?_);exact⟨vB,by rw[aL];show _=[ii ((sbI _ _ (pre.length+1):Nat):Int)];rw[Ur hs,zG,dD];exact j7 (Qo (x:=((sbI (sdf S (2^x1)) (Us ft k S x1) pre.length:Nat):Int)) (y:=((z7 ft k (sdf (sdf S s) (2^x1)):Nat):Int)) rfl rfl aA aA)⟩
     ·skip
      have zG:Us ft k S x1 s=0:=if_neg (by rw[zF];decide);exact⟨tB,by rw[aL];show _=[ii ((sbI _ _ (pre.length+1):Nat):Int)];rw[Ur hs,zG];rfl⟩
    ·rintro xs vals X' K' zC hd _ ⟨tB,rfl⟩;rw[zC,LS];simp only[cA,nA];obtain⟨lB2,L2,uA,a4d⟩:=tB.mono (PH.le_or X' K');refine i7 xp rfl rfl (lB2 _ _ hmp) rfl rfl ?_;simp only[cA,nA];rw[<-a4c];refine j4 (Up xn (k:=(S,k+1)) (vs:=[m,kW2 (S,k+1),ii ((z7 ft (k+1) S:Nat):Int)]) rfl rfl rfl rfl LX ⟨rC,hkM⟩ lB2 uA) (Dp rfl (LY rfl (Ob rfl hkM)) rfl) ?_;rintro _ H3 ⟨rfl,l3,hL3,-⟩;refine nmI ?_;simp only[cA,nA];have a4e:∀p v,(p,v)∈Dh L2 (S,k+1) (ii ((z7 ft (k+1) S:Nat):Int))->v=ii ((z7 ft p.2 p.1:Nat):Int):=fun p v hp=>by
      rcases iq hp with⟨rfl,rfl⟩|⟨_,h⟩
      ·rfl
      ·exact a4d _ _ h
     exact c9 rfl ⟨rfl,l3,_,hL3,a4e⟩
    ·exact fun _ _ _ _ _ _ _ h=>h.elim
def c1z (hF:Fld B n ft q pm pF pd m):∀(k:Nat),k<=8->∀(S:Nat) (H:PH),S<2^n->Mem B H ft m->Con prog 143 [GS.uv S,ii (k:Nat),pt pm,pt pF,pt pd] H fun r H'=>r=ii ((z7 ft k S:Nat):Int)/\Mem B H' ft m:=by
 intro k;induction k with
 |zero=>intro hk S H hS hM;exact MA hF 0 hk (fun j h=>nomatch h) S H hS hM
 |succ k ih=>intro hk S H hS hM;exact MA hF (k+1) hk (fun j h=>(show k=j by omega) ▸ ih aA) S H hS hM
def Ut (ft:Nat->Bool) (c:Nat) (cs:List Nat) (R k s:Nat):Nat:=if ft (c|||s)then y4 ft cs (sdf R s) k else 0
def MC (hF:Fld B n ft q pm pF pd m):∀(cs:List Nat) (u:Value) (R k:Nat) (H:PH),SU B u cs->(∀c∈cs,c<2^n)->cs.length<=1000->R<2^n->k<=8->Mem B H ft m->Con prog 145 [u,GS.uv R,ii (k:Nat),pt pd,pt pF] H fun r H'=>r=ii ((y4 ft cs R k:Nat):Int)/\Mem B H' ft m:=by
 intro cs;induction cs with
 |nil=>
  intro u R k H hu hc rZ hR hk hM;refine g9 mixed KB ?_;have a2g:=jc hF.n6 hR;refine b4 hu.one ?_;refine b4 (el_u64.vcells R) ?_;refine b4 (el_int.vcells ((k:Nat):Int)) ?_;refine Gt el_u64 rfl rfl (hu.mono hM.1) (j7 (Bz rfl hu.cells)) ?_;simp only[cA,nA];refine b9 ?_;refine Ah rfl ?_;obtain⟨Td,uW⟩:=hF.dv;refine i7 xr rfl rfl (hM.1 _ _ uW) rfl rfl ?_;simp only[cA,nA];refine j4 (Bh (f:=143) (caps:= #[pt pm,pt pF,pt pd]) (vs:=[GS.uv R,ii (k:Nat)]) rfl rfl rfl LW (c1z hF k hk R H hR hM)) rfl ?_;rintro _ X2 ⟨rfl,vB⟩;refine nmI ?_;simp only[cA,nA];exact c9 rfl ⟨rfl,vB⟩
 |cons c cs ih=>
  intro u R k H hu hc rZ hR hk hM;refine g9 mixed KB ?_;have a2g:=jc hF.n6 hR;have hRM:R<M64:=iK a2g aC;have wL:=hc c (.head _);have hcM:c<M64:=iK (jc hF.n6 wL) aC;have pB:(c::cs).length=cs.length+1:=rfl;refine b4 hu.one ?_;refine b4 (el_u64.vcells R) ?_;refine b4 (el_int.vcells ((k:Nat):Int)) ?_;refine Gt el_u64 rfl rfl (hu.mono hM.1) (j7 (Bz rfl hu.cells)) ?_;simp only[cA,nA];have pI:¬((cs.length+1:Nat):Int)=0:=aA;refine b9 ?_;refine j1 (bF pI) ?_;refine Gt el_u64 rfl rfl (hu.mono hM.1) (j7 (Bz rfl hu.cells)) ?_;simp only[cA,nA];refine b9 (b9 ?_);refine g8 (b:=decide (((cs.length+1:Nat):Int)<=(k:Nat))) rfl (fun wN=> ?_) (fun wN=> ?_)
  ·replace wN:=oDt wN;obtain⟨k,rfl⟩:∃j,k=j+1:=⟨k-1,aA⟩;have oW:=wz (ft:=ft) (cs:=c::cs) hk hR;have a2f:=jd hF.n6;have a4f:y4 ft (c::cs) R (k+1)=sbT R (Ut ft c cs R k):=rfl;refine g5 (LA (s:=R)) rfl ?_;rintro _ _ ⟨bb,qC,rfl,rfl⟩;refine nmI ?_;simp only[cA,nA];refine Hz (X:=H) (K:=Ax bb R) (Ro:=B) (fun pre vals X'=>Mem B X' ft m/\vals=[ii ((sbI R (Ut ft c cs R k) pre.length:Nat):Int)]) (fun _ _ _=>False) (LC hRM) KZ (gj _ qC) rfl (fun _ _ _ h=>h.1.1) ⟨hM,rfl⟩ ?_ ?_ ?_
   ·rintro pre xs vals X' ⟨s,hs,rfl⟩ _ ⟨tB,rfl⟩;refine⟨rfl,?_⟩;simp only[cA,nA];obtain⟨Tf,hfp⟩:=hF.fp;obtain⟨w,Tq,hq,hw⟩:=hF.fld;refine i7 Qs rfl rfl (tB.1 _ _ hfp) rfl rfl ?_;simp only[cA,nA];refine j9 ?_;simp only[cA,nA];refine i0 xu ?_;simp only[cA,nA];refine i7 xq rfl rfl (tB.1 _ _ hq) rfl rfl ?_;simp only[cA,nA];have qK:(c::cs)[0]? =some c:=rfl;refine By el_u64 rfl rfl rfl rfl aF (hu.mono tB.1) qK (j0 (Bz rfl hu.cells) rfl) aF fun _=> ?_;simp only[cA,nA];have tK:=sbs_mem.1 (aJ hs);have uO:s<2^n:=aR (Yp tK) hR;have hsM:s<M64:=aR (Yp tK) hRM;have uT:c|||s<2^n:=LZ wL uO;have hj:((eT (2^n)).map ft)[c|||s]? =some (ft (c|||s)):=by rw[aY,cC uT];rfl
    refine b9 (b9 ?_);refine By Fe rfl rfl rfl rfl aF (hw.mono tB.1) hj (j0 rfl (Fq rfl rfl hcM hsM)) aF fun _=> ?_;simp only[cA,nA];refine b9 ?_;refine g8 (b:=ft (c|||s)) rfl (fun zF=> ?_) (fun zF=> ?_)
    ·skip
     refine i7 Qs rfl rfl (tB.1 _ _ hfp) rfl rfl ?_;simp only[cA,nA];refine j9 ?_;simp only[cA,nA];refine i0 iz ?_;simp only[cA,nA];refine i7 iy rfl rfl (tB.1 _ _ hq) rfl rfl ?_;simp only[cA,nA];obtain⟨u2,zX,uS⟩:=X9 el_u64 (vs:=[u,ii 1]) (k:= .i64) (j:=1) b2x rfl rfl hu aA;refine j6 (zX.rds _) (j0 (Bz rfl hu.cells) rfl) ?_;simp only[cA,nA];have hS1:sdf R s<2^n:=Uo hR;refine b9 ?_;refine j4 (Bh (f:=145) (caps:= #[pt pd,pt pF]) (vs:=[u2,GS.uv (sdf R s),ii (k:Nat)]) rfl rfl rfl xo (ih u2 (sdf R s) k X' uS (fun c' h=>hc c' (.tail _ h)) aA hS1 aA tB)) (Ie rfl rfl (Qn rfl rfl hRM hsM) (xj rfl aA)) ?_;rintro _ X2 ⟨rfl,vB⟩;refine nmI ?_;simp only[cA,nA];have sU:=LU (S:=R) (F:=Ut ft c cs R k) (pre.length+1);rw[Ur hs]at sU;have zG:Ut ft c cs R k s=y4 ft cs (sdf R s) k:=if_pos zF;rw[zG]at sU;refine b9 (b9 ?_);exact⟨vB,by rw[aL];show _=[ii ((sbI _ _ (pre.length+1):Nat):Int)];rw[Ur hs,zG,dD];exact j7 (Qo (x:=((sbI R (Ut ft c cs R k) pre.length:Nat):Int)) (y:=((y4 ft cs (sdf R s) k:Nat):Int)) rfl rfl aA aA)⟩
    ·skip
     have zG:Ut ft c cs R k s=0:=if_neg (by rw[zF];decide);exact⟨tB,by rw[aL];show _=[ii ((sbI _ _ (pre.length+1):Nat):Int)];rw[Ur hs,zG];rfl⟩
   ·rintro xs vals X' K' zC hd _ ⟨tB,rfl⟩;rw[zC,LS];simp only[cA,nA];exact c9 rfl ⟨by rw[a4f];rfl,tB.mono (PH.le_or _ _)⟩
   ·exact fun _ _ _ _ _ _ _ h=>h.elim
  ·replace wN:=oDf wN;exact c9 rfl ⟨by rw[KI _ _ _ aA];rfl,hM⟩
end
end Go.Z
namespace Go.RX
open RowKit
def PH.cut (H:PH) (g:Nat):PH:=fun k=>if k=g then none else H k
def PH.cut_self (H:PH) (g:Nat):H.cut g g=none:=if_pos rfl
def PH.cut_ne (H:PH) {g k:Nat} (h:k≠g):H.cut g k=H k:=if_neg h
def PH.cut_le (H:PH) (g:Nat):Pl (H.cut g) H:=fun k o hk=>by
 unfold PH.cut at hk;split at hk
 ·cases hk
 ·exact hk
def PH.le_cut {A H:PH} {g:Nat} (h:Pl A H) (hg:A g=none):Pl A (H.cut g):=fun k o hk=>by
 unfold PH.cut;split
 ·rename_i e;rw[e,hg]at hk;cases hk
 ·exact h k o hk
def PH.cut_put (H:PH) (g:Nat) (ob:Obj):Pl (H.cut g) (H.put g ob):=fun k o hk=>by
 unfold PH.cut at hk;split at hk
 ·cases hk
 ·rename_i e;rw[PH.put_ne _ _ e];exact hk
section
variable {α β:Type} {A H:PH} {e e':TypeId} {sz sz':Nat} {ce:α->List Value} {v:Value} {l:List α} {g:Nat} {cur:Array Value}
def xw (h:SO A H e sz ce v l) (hl:l≠[]):∃g,A g=none/\(∃cur,H g=some (.cells cur e (0,0)))/\SO (H.cut g) H e sz ce v l:=by
 obtain⟨h1,⟨_,h2⟩|⟨g,cap,cur,h2,h3,h4,h5⟩⟩:=h
 ·exact absurd (aV h2) hl
 ·exact⟨g,h3,⟨cur,h4⟩,h1,.inr ⟨g,cap,cur,h2,PH.cut_self _ _,h4,h5⟩⟩
def Qu (h:SO A H e sz ce v l) (hg:H g=some (.cells cur e' (0,0))) (he:e≠e'):SO A (H.cut g) e sz ce v l:=by
 obtain⟨h1,h2|⟨g',cap,cur',h2,h3,h4,h5⟩⟩:=h
 ·exact⟨h1,.inl h2⟩
 ·refine⟨h1,.inr ⟨g',cap,cur',h2,h3,?_,h5⟩⟩;rw[PH.cut_ne _ (fun e2=>by subst e2;rw[hg]at h4;injection h4 with h4;injection h4 with _ h4 _;exact he h4.symm)];exact h4
def Qv (h:SO A H e sz ce v l) (hg:∀cs T fz,H g≠some (.cells cs T fz)):SO A (H.cut g) e sz ce v l:=by
 obtain⟨h1,h2|⟨g',cap,cur',h2,h3,h4,h5⟩⟩:=h
 ·exact⟨h1,.inl h2⟩
 ·refine⟨h1,.inr ⟨g',cap,cur',h2,h3,?_,h5⟩⟩;rw[PH.cut_ne _ (fun e2=>by subst e2;exact hg _ _ _ h4)];exact h4
def d3a (h:SE H sz ce v l) (hg:∀cs T fz,H g≠some (.cells cs T fz)):SE (H.cut g) sz ce v l:=by
 obtain⟨h1,a,c,h2,h3,h4,h5|⟨b,o,cs,T,fz,h5,h6,h7⟩⟩:=h
 ·exact⟨h1,a,c,h2,h3,h4,.inl h5⟩
 ·refine⟨h1,a,c,h2,h3,h4,.inr ⟨b,o,cs,T,fz,h5,?_,h7⟩⟩;rw[PH.cut_ne _ (fun e2=>by subst e2;exact hg _ _ _ h6)];exact h6
def Uu (h:SO A H e sz ce v l) (hA:Pl A H):∃X,Pl A X/\Pl X H/\SO X H e sz ce v l/\∀k,(∀cs,H k≠some (.cells cs e (0,0)))->X k=H k:=by
 obtain⟨h1,h2|⟨g,cap,cur,h2,h3,h4,h5⟩⟩:=h
 ·exact⟨H,hA,Pl.refl _,⟨h1,.inl h2⟩,fun _ _=>rfl⟩
 ·exact⟨H.cut g,PH.le_cut hA h3,PH.cut_le _ _,⟨h1,.inr ⟨g,cap,cur,h2,PH.cut_self _ _,h4,h5⟩⟩,fun k hk=>PH.cut_ne _ fun e=>by subst e;exact hk _ h4⟩
def Yv {X:PH} (h:SO A H e sz ce v l) (hk:∀k,(∀cs,H k≠some (.cells cs e' (0,0)))->X k=H k) (he:e≠e'):SO A X e sz ce v l:=by
 obtain⟨h1,h2|⟨g,cap,cur,h2,h3,h4,h5⟩⟩:=h
 ·exact⟨h1,.inl h2⟩
 ·refine⟨h1,.inr ⟨g,cap,cur,h2,h3,?_,h5⟩⟩;rw[hk g (fun cs e2=>by rw[h4]at e2;injection e2 with e2;injection e2 with _ e2 _;exact he e2)];exact h4
end
end Go.RX
namespace Go.Z
open Proofs.Tryz RowKit RX GS
section
variable {H:PH} {u v w:Value} {p:List Int} {n:Nat} {es:List (Nat×Nat)}
def je (hu:SI H u p) (k:Int):Asks prog 120 [u,ii k] H (.bool (decide (LabOk p k))):=by
 refine g9 mixed d2n ?_;have hl:=hu.len;refine r8 y6 hu ?_;refine Jg (α:=Nat×Value) (fun⟨i,z⟩=>[z,ii (i:Nat)]) (fun⟨i,z⟩=>i<=p.length/\∀x∈p.take i,0<=x/\x<k) (fun⟨i,z⟩=>p.length-i) ((0,.bool false)) rfl (⟨bJ _,fun x hx=>by cases hx⟩) fun⟨i,z⟩ hQ=> ?_;simp only[cA,nA];obtain⟨hi,hq⟩:=hQ;refine b9 (b9 ?_);refine g8 (b:=decide (((i:Nat):Int)<(p.length:Nat))) rfl (fun h=> ?_) (fun h=> ?_)
 ·replace h:=oDt h;have pO:i<p.length:=aA;obtain⟨x,hx,tL⟩:=u6 pO;refine r6 y6 hu hx fun _=> ?_;simp only[cA,nA];have hxm:=aJ hx;refine b9 ?_;refine g8 (b:=decide (x<0)) rfl (fun h2=> ?_) (fun h2=> ?_)
  ·replace h2:=oDt h2;exact c9 rfl ⟨rfl,by rw[decide_eq_false (fun e=>by have:=e.1 x hxm;omega)];rfl⟩
  ·replace h2:=oDf h2;refine b9 ?_;refine g8 (b:=decide (x≥k)) rfl (fun h3=> ?_) (fun h3=> ?_)
   ·replace h3:=oDt h3;exact c9 rfl ⟨rfl,by rw[decide_eq_false (fun e=>by have:=e.1 x hxm;omega)];rfl⟩
   ·replace h3:=oDf h3;exact⟨(i+1,z),by show p.length-(i+1)<p.length-i;omega,(j0 rfl (p6 rfl aA)),⟨⟨pO,by rw[take_snoc hx];intro y hy;rw[bC,bA]at hy;rcases hy with hy|rfl;(exact hq y hy);omega⟩,rfl⟩⟩
 ·replace h:=oDf h;rw[aI aA]at hq;refine r8 y6 hu ?_;refine b9 ?_;refine g8 (b:=decide (((p.length:Nat):Int)>0)) rfl (fun h4=> ?_) (fun h4=> ?_)
  ·replace h4:=oDt h4;refine r8 y6 hu ?_;refine b9 ?_;exact c9 rfl ⟨rfl,congrArg Value.bool (decide_eq_decide.2 ⟨fun h5=>⟨hq,aA,by have h6:((p.length:Nat):Int)<=64:=h5;omega⟩,fun h5=>by have:=h5.2.2;show((p.length:Nat):Int)<=64;omega⟩)⟩
  ·replace h4:=oDf h4;exact c9 rfl ⟨rfl,by rw[decide_eq_false (fun e=>by have:=e.2.1;omega)];rfl⟩
def xy {k:Nat} (hk:k<=8) (hu:SI H u p) (hL:LabOk p (k:Int)):Con prog 130 [u,ii (k:Nat)] H fun r H'=>Pl H H'/\∃z,r= .tuple #[z,.bool (decide (Cb p k))]/\(Cb p k->SU H' z (Em p k)):=by
 refine g9 mixed d2o ?_;have hl:=hu.len;have yY:=hL.2.2;refine Nz el_u64 (z:=(0:Nat)) gh rfl rfl rfl aA rfl fun v H1 l1 o1 _=> ?_;simp only[cA,nA];rw[<-c0W p]at o1;refine r8 y6 (hu.mono l1) ?_;refine t6 (α:=Nat) (fun i=>[ii (i:Nat)]) (fun i=>fun H'=>i<=p.length/\Pl H H'/\SO H H' 42 1 (fun s:Nat=>[uv s]) v (Gw p k i)) (fun i=>p.length-i) (0) rfl (⟨bJ _,l1,o1⟩) fun i H' hQ=> ?_;simp only[cA,nA];obtain⟨hi,l2,o2⟩:=hQ;refine b9 (b9 ?_);refine g8 (b:=decide (((i:Nat):Int)<(p.length:Nat))) rfl (fun h=> ?_) (fun h=> ?_)
 ·replace h:=oDt h;have pO:i<p.length:=aA;obtain⟨x,hx,tL⟩:=u6 pO;refine r6 y6 (hu.mono l2) hx fun _=> ?_;simp only[cA,nA];have hxk:=hL.at hx;obtain⟨d,rfl⟩:∃d:Nat,x=(d:Int):=⟨x.toNat,aA⟩;refine By el_u64 rfl rfl rfl rfl aF o2.se (Ul p i (show d<k by omega)) rfl aF fun _=> ?_;simp only[cA,nA];refine b4 ⟨_,_,rfl⟩ ?_;refine b4 (by show(0:Int)<=((i:Nat):Int);omega) ?_;refine b9 ?_;refine Dl el_u64 (a:=mkN p (d:Nat) i|||2^i) rfl rfl rfl rfl aF aF l2 o2 (by rw[ic];omega) rfl (fun _=>j0 rfl (Fq rfl (Gv rfl aA) (wi _ _ aA) (Df aA))) rfl fun p' u' H3 l4 o4 _=> ?_;simp only[cA,nA];rw[c0X p k hx]at o4;exact⟨i+1,aA,(j7 (p6 rfl aA)),⟨pO,l4,o4⟩⟩
 ·replace h:=oDf h;have he:i=p.length:=aA;subst he;refine t6 (α:=Nat×Value×Value) (fun⟨d,z1,z2⟩=>[z1,z2,ii (d:Nat)]) (fun⟨d,z1,z2⟩=>fun H2=>H2=H'/\d<=k/\∀j,j<d->Fz p (j:Nat)≠0) (fun⟨d,z1,z2⟩=>k-d) ((0,.slice none 0 0,.bool false)) rfl (⟨rfl,bJ _,fun j hj=>by cases hj⟩) fun⟨d,z1,z2⟩ H2 hQ2=> ?_;simp only[cA,nA];obtain⟨rfl,hd,hq⟩:=hQ2;refine b9 (b9 ?_);refine g8 (b:=decide (((d:Nat):Int)<(k:Nat))) rfl (fun h2=> ?_) (fun h2=> ?_)
  ·replace h2:=oDt h2;refine By el_u64 rfl rfl rfl rfl aF o2.se (Ul p _ (show d<k by omega)) rfl aF fun _=> ?_;simp only[cA,nA];refine b9 ?_;refine y7 (p:=(mkN p (d:Nat) p.length=0)) (bE0 _) (fun h3=> ?_) fun h3=> ?_
   ·exact c9 rfl ⟨l2,_,by rw[decide_eq_false (fun e=>e d aA h3)];rfl,fun e=>absurd h3 (e d aA)⟩
   ·exact⟨(d+1,z1,z2),by show k-(d+1)<k-d;omega,(Dp rfl rfl (p6 rfl aA)),⟨rfl,by show d+1<=k;omega,fun j hj=>by rcases Nat.lt_succ_iff_lt_or_eq.1 hj with hj|rfl;(exact hq j hj);exact h3⟩⟩
  ·replace h2:=oDf h2;have he:d=k:=aA;subst he;exact c9 rfl ⟨l2,v,by rw[oDd (p:=Cb p d) hq];rfl,fun _=>o2.se⟩
def c7h (hw:SG H w es) (hg:GV n es) (hu:SI H u p) (k:Int):Con prog 129 [gv n w,u,ii k] H fun r H'=>Pl H H'/\∃q,r= .tuple #[q,ii (plE n p k)]:=by
 refine g9 mixed JH ?_;refine b4 (Be hw) ?_;refine i9 (Fv hw hg) rfl fun H1 l1=> ?_;simp only[cA,nA];refine b9 ?_;refine j1 (bF (p:=(0:Int)≠0) aD) ?_;refine b9 ?_;refine g8 (b:=decide (k<1)) rfl (fun h=> ?_) (fun h=> ?_)
 ·replace h:=oDt h;exact c9 rfl ⟨l1,_,by rw[show plE n p k=2 from if_pos (.inl h)];rfl⟩
 ·replace h:=oDf h;refine g8 (b:=decide (k>8)) rfl (fun h2=> ?_) (fun h2=> ?_)
  ·replace h2:=oDt h2;exact c9 rfl ⟨l1,_,by rw[show plE n p k=2 from if_pos (.inr h2)];rfl⟩
  ·replace h2:=oDf h2;have hk:¬(k<1\/k>8):=aA;obtain⟨m,rfl⟩:∃m:Nat,k=(m:Int):=⟨k.toNat,aA⟩;refine r8 y6 (hu.mono l1) ?_;refine b9 (b9 ?_);refine y7 (p:=(p.length≠n)) (by show Value.bool (((p.length:Nat):Int) !=((n:Nat):Int))=_;rw[bN];congr 1;apply decide_eq_decide.2;omega) (fun h3=> ?_) fun h3=> ?_
   ·exact c9 rfl ⟨l1,_,by rw[show plE n p (m:Nat)=210 from(if_neg hk).trans (if_neg fun e=>h3 e.1)];rfl⟩
   ·refine s7 (je (hu.mono l1) (m:Nat)) rfl ?_;simp only[cA,nA];refine b9 ?_;refine g8 (b:= !decide (LabOk p (m:Nat))) rfl (fun h4=> ?_) (fun h4=> ?_)
    ·skip
     exact c9 rfl ⟨l1,_,by rw[show plE n p (m:Nat)=210 from(if_neg hk).trans (if_neg fun e=>by simp[e.2.1]at h4)];rfl⟩
    ·skip
     have hL:LabOk p (m:Nat):=by simpa using h4
     refine g5 (xy aA (hu.mono l1) hL) rfl ?_;rintro _ H2 ⟨l2,z,rfl,hz⟩;refine nmI ?_;simp only[cA,nA];refine g7 (g7 (b9 ?_));refine g8 (b:= !decide (Cb p m)) rfl (fun h5=> ?_) (fun h5=> ?_)
     ·skip
      exact c9 rfl ⟨l1.trans l2,_,by rw[show plE n p (m:Nat)=210 from(if_neg hk).trans (if_neg fun e=>by have:=e.2.2;rw[bO]at this;simp[this]at h5)];rfl⟩
     ·skip
      have hU:Cb p m:=by simpa using h5
      refine b4 ((hu.mono l1).one) ?_;refine b4 ((hz hU).one) ?_;refine o0 (cs:=_) rfl fun b hb=> ?_;simp only[cA,nA];exact c9 rfl ⟨(l1.trans l2).trans (PH.le_put hb _),_,by rw[show plE n p (m:Nat)=0 from(if_neg hk).trans (if_pos ⟨aA,hL,by rw[bO];exact hU⟩)];rfl⟩
def xz (hw:SG H w es) (hg:GV n es) (hu:SI H u p) (k:Int):j5 prog 79 [gv n w,u,ii k] H (ii (plE n p k)):=by
 refine g9 mixed d2p ?_;refine b4 (Be hw) ?_;refine g5 (c7h hw hg hu k) rfl ?_;rintro _ H1 ⟨l1,q,rfl⟩;refine nmI ?_;simp only[cA,nA];refine g7 (g7 ?_);exact c9 rfl ⟨l1,rfl⟩
def ya (hu:SI H u p) (k:Nat) (h1:1<=k) (h8:k<=8) (hL:LabOk p (k:Nat)) (hU:Cb p k):Con prog 80 [u,ii (k:Nat)] H fun r H'=>Pl H H'/\∃z,r= .tuple #[z,ii 0]/\SU H' z (Em p k):=by
 refine g9 mixed d2r ?_;refine b9 ?_;refine j1 (bF (p:=((k:Nat):Int)<1) aA) ?_;refine j1 (bF (p:=((k:Nat):Int)>8) aA) ?_;refine s7 (je hu (k:Nat)) rfl ?_;simp only[cA,nA];refine b9 ?_;refine j1 (by show Value.bool (!decide (LabOk p (k:Nat)))=_;rw[oDd hL];rfl) ?_;refine g5 (xy h8 hu hL) rfl ?_;rintro _ H2 ⟨l2,z,rfl,hz⟩;refine nmI ?_;simp only[cA,nA];refine g7 (g7 (b9 ?_));refine j1 (by show Value.bool (!decide (Cb p k))=_;rw[oDd hU];rfl) ?_;exact c9 rfl ⟨l2,z,rfl,hz hU⟩
end
end Go.Z
namespace Go.GS
def Ac (wl:List Int) (s:Nat):Int:=((els s).map fun x=>wl.getD x 0).sum
def Of (wl:List Int):Prop:=∀x∈wl,0<=x/\x<=1000000000
instance (wl:List Int):Decidable (Of wl):=inferInstanceAs (Decidable (∀x∈wl,_))
def bdE (n:Nat) (wl:List Int) (lo hi ds:Int):Int:=if wl.length=n/\0<=lo/\lo<=hi/\1<=ds/\ds<=8/\Of wl then 0 else 320
noncomputable def alB (es:List (Nat×Nat)) (wl:List Int) (lo hi:Int) (set:Nat):Bool:=Go.GS.cnB es set&&(decide (Ac wl set≥lo)&&decide (Ac wl set<=hi))
noncomputable def Bl (n:Nat) (es:List (Nat×Nat)) (wl:List Int) (lo hi ds:Int) (p:List Int):Bool:=decide (plE n p ds=0)&&(Em p ds.toNat).all (alB es wl lo hi)
def MD {n:Nat} {wl:List Int} {lo hi ds:Int} (h:bdE n wl lo hi ds=0):wl.length=n/\0<=lo/\lo<=hi/\1<=ds/\ds<=8/\Of wl:=by
 unfold bdE at h;split at h
 ·assumption
 ·cases h
def ME:∀(l:List Int),(∀x∈l,0<=x/\x<=1000000000)->0<=l.sum/\l.sum<=1000000000*l.length:=by
 intro l;induction l with
 |nil=>intro _;simp
 |cons a l ih=>
  intro h;have h1:=h a aD;have h2:=ih fun x hx=>h x (dR _ hx);rw[eY,aO];omega
end Go.GS
namespace Go.Z
open Proofs.Tryz RowKit RX
def d3b:g6 prog [] [] [] [] 66=some (.rq (.cells 2 V0) (.rq (.cells 4 V1) (.call false 52 [(.ag V0)]
(.ri V2
(.br (.io .neq V2 (.ki 0)) (.ret [V2])
(.pm f66 4 2 [(.cell V1 0 0 noI)]
(.ri V3
(.rq (.int .i64 (.cell V0 0 0 noI)) (.br (.io .neq V3 (.cell V0 0 0 noI)) (.ret [(.ki 320)]) (.rq (.int .i64 (.cell V1 1 0 noI)) (.br (.io .lss (.cell V1 1 0 noI) (.ki 0)) (.ret [(.ki 320)]) (.rq (.int .i64 (.cell V1 2 0 noI)) (.br (.io .gtr (.cell V1 1 0 noI) (.cell V1 2 0 noI)) (.ret [(.ki 320)]) (.rq (.int .i64 (.cell V1 3 0 noI)) (.br (.io .lss (.cell V1 3 0 noI) (.ki 1)) (.ret [(.ki 320)]) (.br (.io .gtr (.cell V1 3 0 noI) (.ki 8)) (.ret [(.ki 320)]) (.call false 91 [(.cell V1 0 0 noI),(.k (.func (.func 103) #[] #[]))]
(.rq (.bool V4) (.br V4
(.ret [(.ki 320)]) (.ret [(.ki 0)])))))))))))))))))))):=aB
def c7i:g6 prog [] [] [] [] 103=some (.ri V0
(.br (.io .lss V0 (.ki 0)) (.ret [(.k (.bool true))]) (.ret [(.io .gtr V0 (.ki 1000000000))]))):=aB
def d3c:g6 prog [2] [] [] [] 67=some (.rq (.cells 6 V0) (.pub 136 V0
(.pm f67 1 0 [V2]
(.pm f67 1 1 [V3]
(.pm f67 1 3 [V2]
(.pm f67 1 4 [V5]
(.pm f67 1 5 [V6]
(.call false 79 [V4,V1,V7]
(.ri V8
(.br (.io .neq V8 (.ki 0)) (.ret [(.k (.bool false))])
(.pm f67 3 1 [V2]
(.pm f67 3 2 [V9]
(.pm f67 3 3 [V10]
(.call false 80 [V1,V11]
(.rq (.tup 0 V12) (.rq (.tup 1 V12)
(.ef false f67 4 1 [V2]
(.call false 104 [(.pj V12 0),V13]
(.rq (.bool V14) (.ret [(.nt V14)])))))))))))))))))))):=aB
def c7j:g6 prog [] [] [] [] 105=some (.pm f105 1 0 [V1]
(.call false 106 [V2,V0]
(.rq (.bool V3) (.ret [(.nt V3)])))):=aB
def d3d:g6 prog [2] [] [] [] 106=some (.rq (.cells 6 V0) (.pub 136 V0
(.ef false f106 1 1 [V2]
(.call false 166 [V1,V3]
(.pm f106 2 0 [V2]
(.pm f106 2 1 [V5]
(.call false 123 [V6,V1]
(.rq (.tup 0 V7) (.rq (.tup 1 V7) (.rq (.bool (.pj V7 0)) (.br (.pj V7 0)
(.pm f106 3 3 [V2]
(.pm f106 3 4 [V8]
(.pm f106 3 5 [V9]
(.ri V4
(.ri V10
(.br (.io .geq V4 V10)
(.pm f106 3 10 [V2]
(.pm f106 3 11 [V11]
(.pm f106 3 12 [V12]
(.ri V13
(.ret [(.io .leq V4 V13)]))))) (.ret [(.k (.bool false))]))))))) (.ret [(.k (.bool false))])))))))))))):=aB
def c7k:g6 prog [] [] [] [] 167=some (.pm f167 1 0 [V1]
(.pm f167 1 1 [V2]
(.pm f167 1 2 [V3]
(.pm f167 1 4 [V4,V0]
(.pm f167 1 5 [V5]
(.ret [V6])))))):=aB
def d3e:g6 prog [] [] [⟨0,2,[],[]⟩] [] 166=some (.loop [(.ki 0),V0]
(.ru V3
(.br (.uo .neq V3 (kU 0)) (.call false 142 [V3]
(.ef false f166 4 4 [V1,V4]
(.ri V2
(.ri V5
(.next 0 [(.io .add V2 V5),(.uo .and V3 (.uo .sub V3 (kU 1)))]))))) (.ret [V2])))):=aB
def d3f:g6 prog [] [] [] [] 32=some (.rq (.cells 2 V0) (.rq (.cells 4 V1) (.call false 66 [(.ag V0),(.ag V1)]
(.ri V3
(.br (.io .neq V3 (.ki 0)) (.ret [(.k (.bool false)),V3]) (.call false 67 [(.cat (.ag V1) 4 (.ag V0)),V2]
(.ret [V4,(.ki 0)]))))))):=aB
def d3g:g6 prog [] [] [⟨0,3,[],[]⟩,⟨0,6,[],[]⟩] [] 122=some (.loop [(.k (.slice none 0 0)),(.ki 0)]
(.ri V2
(.ri V0
(.br (.io .lss V2 V0) (.loop [V1,(.io .add V2 (.ki 1))]
(.ri V4
(.br (.io .lss V4 V0) (.rq (.cells 1 V2) (.rq (.cells 1 V4)
(.ef false f122 8 4 [(.put (.put (.z 54) 0 1 V2 0 noI) 1 1 V4 0 noI)]
(.ef false f122 8 5 [V3,V5]
(.next 1 [V6,(.io .add V4 (.ki 1))]))))) (.next 0 [V3,(.io .add V2 (.ki 1))])))) (.ret [V1]))))):=aB
def c7l:g6 prog [26] [] [] [⟨10,[0,0,2,6,14,0,32,97,255],rDx 9 60077700,rPx 7 0++[3,0],[0,1],rAx 2 7⟩,⟨11,[0,0,0,6,14,0,32,96,224,15,543,2047,4095],rDx 13 600111002000,rPx 11 0++[3,0],rDx 9 438765210++[9,10],[11,12]⟩] 39=some (.rq (.cells 2 V0) (.rq (.cells 4 V1) (.rq (.cells 1 V3) (.call false 66 [(.ag V0),(.ag V1)]
(.ri V4
(.br (.io .neq V4 (.ki 0)) (.ret [(.k (.slice none 0 0)),(.k (.bool false)),(.z 51),V4]) (.pub 154 (.cat (.cat (.ag V1) 4 (.ag V0)) 6 (.cat (.ag V3) 1 (.z 36)))
(.pm f39 5 1 [V5]
(.pm f39 5 2 [V6]
(.pm f39 5 3 [V7]
(.call false 67 [V8,V2]
(.rq (.bool V9) (.br (.nt V9) (.ret [(.k (.slice none 0 0)),(.k (.bool false)),(.z 51),(.ki 8)]) (.call false 77 [V2]
(.rq (.tup 0 V10) (.rq (.tup 1 V10) (.call false 78 [V5,(.pj V10 0)]
(.pm f39 9 1 [V5]
(.pm f39 9 2 [V12]
(.pm f39 9 3 [V13]
(.ri V14
(.br (.io .neq V14 (.ki 0))
(.pm f39 10 2 [V5]
(.pm f39 10 3 [V15]
(.pm f39 10 4 [V16]
(.ret [(.k (.slice none 0 0)),(.k (.bool false)),(.z 51),V17]))))
(.pm f39 11 6 [V5]
(.pm f39 11 7 [V15]
(.pm f39 11 8 [V16]
(.call true 16 [(.pj V10 0),V11]
(.rq (.bool V18) (.rq (.cells 1 V17) (.ret [V11,(.nt V18),(.ag V17),(.ki 0)]))))))))))))))))))))))))))))):=aB
open Go.GS
def bv (wts:Value) (lo hi ds:Int):Value:= .agg #[wts,ii lo,ii hi,ii ds]
def chv (wts:Value) (lo hi ds:Int) (n:Nat) (w:Value):Value:= .agg #[wts,ii lo,ii hi,ii ds,ii n,w]
def t7 {H:PH} {sz:Nat} {α:Type} {ce:α->List Value} {v:Value} {l:List α} (h:SE H sz ce v l):n8 v=true:=h.one.2 v (by rw[h.cells];simp)
def Ky {wts:Value} (h:n8 wts=true) (lo hi ds:Int):(bv wts lo hi ds).cells.size=4/\i8 (bv wts lo hi ds).cells:=by
 refine⟨rfl,fun c hc=> ?_⟩;rw[bv,Iw]at hc;simp only[aX,bV,or_false]at hc;rcases hc with rfl|rfl|rfl|rfl
 ·exact h
 all_goals rfl
def MF {wts w:Value} (h:n8 wts=true) (h2:n8 w=true) (lo hi ds:Int) (n:Nat):(chv wts lo hi ds n w).cells.size=6/\i8 (chv wts lo hi ds n w).cells:=by
 refine⟨rfl,fun c hc=> ?_⟩;rw[chv,Iw]at hc;simp only[aX,bV,or_false]at hc;rcases hc with rfl|rfl|rfl|rfl|rfl|rfl
 ·exact h
 ·rfl
 ·rfl
 ·rfl
 ·rfl
 ·exact h2
def Og:FA prog 136 0 0:=⟨aB,oDt aB,aB,aB,oDt aB⟩
def yb:FA prog 136 1 4:=⟨aB,oDt aB,aB,aB,oDt aB⟩
def e0t:FA prog 91 0 0:=⟨aB,oDt aB,aB,aB,oDt aB⟩
def e0u:FA prog 91 1 1:=⟨aB,oDt aB,aB,aB,oDt aB⟩
def e0v:FA prog 91 2 2:=⟨aB,oDt aB,aB,aB,oDt aB⟩
def Yw:FA prog 91 3 3:=⟨aB,oDt aB,aB,aB,oDt aB⟩
def Uw:Sc prog 33:=⟨aB,aB,aB⟩
def yc:Ag prog 25 2:=⟨aB,aB,aB⟩
def MG:Ag prog 136 6:=⟨aB,aB,aB⟩
def c1D:q8 prog 103=true:=aB
def c1E:q8 prog 167=true:=aB
def c1F:q8 prog 105=true:=aB
section
variable {H:PH} {u v w wts:Value} {p wl:List Int} {n:Nat} {es:List (Nat×Nat)} {lo hi ds:Int} {set:Nat}
def c1G (x:Int):Asks prog 103 [ii x] H (.bool (decide (x<0)||decide (x>1000000000))):=by
 refine g9 mixed c7i ?_;refine b9 ?_;refine g8 (b:=decide (x<0)) rfl (fun h=> ?_) (fun h=> ?_)
 ·replace h:=oDt h;exact c9 rfl ⟨rfl,by rw[oDd h];rfl⟩
 ·replace h:=oDf h;exact c9 rfl ⟨rfl,by rw[decide_eq_false h];rfl⟩
def Ux {h:¬(wl.length=n/\0<=lo/\lo<=hi/\1<=ds/\ds<=8/\Of wl)}:bdE n wl lo hi ds=320:=if_neg h
def MH (hw:SG H w es) (hg:GV n es) (pY:SI H wts wl):j5 prog 66 [gv n w,bv wts lo hi ds] H (ii (bdE n wl lo hi ds)):=by
 refine g9 mixed d3b ?_;refine b4 (Be hw) ?_;refine b4 (Ky (t7 pY) _ _ _) ?_;refine i9 (Fv hw hg) rfl fun H1 l1=> ?_;simp only[cA,nA];refine b9 ?_;refine j1 (bF (p:=(0:Int)≠0) aD) ?_;refine r8 el_int (pY.mono l1) ?_;refine b9 (b9 ?_);refine y7 (p:=(wl.length≠n)) (by show Value.bool (((wl.length:Nat):Int) !=((n:Nat):Int))=_;rw[bN];congr 1;apply decide_eq_decide.2;omega) (fun h=> ?_) fun h=> ?_
 ·exact c9 rfl ⟨l1,by rw[Ux (h:=fun e=>h e.1)];rfl⟩
 ·refine b9 ?_;refine g8 (b:=decide (lo<0)) rfl (fun h2=> ?_) (fun h2=> ?_)
  ·replace h2:=oDt h2;exact c9 rfl ⟨l1,by rw[Ux (h:=fun e=>aA)];rfl⟩
  ·replace h2:=oDf h2;refine b9 ?_;refine g8 (b:=decide (lo>hi)) rfl (fun h3=> ?_) (fun h3=> ?_)
   ·replace h3:=oDt h3;exact c9 rfl ⟨l1,by rw[Ux (h:=fun e=>aA)];rfl⟩
   ·replace h3:=oDf h3;refine b9 ?_;refine g8 (b:=decide (ds<1)) rfl (fun h4=> ?_) (fun h4=> ?_)
    ·replace h4:=oDt h4;exact c9 rfl ⟨l1,by rw[Ux (h:=fun e=>aA)];rfl⟩
    ·replace h4:=oDf h4;refine g8 (b:=decide (ds>8)) rfl (fun h5=> ?_) (fun h5=> ?_)
     ·replace h5:=oDt h5;exact c9 rfl ⟨l1,by rw[Ux (h:=fun e=>aA)];rfl⟩
     ·replace h5:=oDf h5;refine i9 (ig (caps:=[]) (q:=fun x=>decide (x<0)||decide (x>1000000000)) (pY.mono l1) c1D (fun H' x _ _=>(c1G x).give)) rfl fun H2 l2=> ?_;simp only[cA,nA];refine b9 ?_;refine g8 (b:=wl.any fun x=>decide (x<0)||decide (x>1000000000)) rfl (fun h6=> ?_) (fun h6=> ?_)
      ·skip
       rw[List.any_eq_true]at h6;obtain⟨x,rG,rA⟩:=h6;exact c9 rfl ⟨l1.trans l2,by rw[Ux (h:=fun e=>by have:=e.2.2.2.2.2 x rG;simp at rA;omega)];rfl⟩
      ·skip
       have hW:Of wl:=by
        intro x hx;rw[List.any_eq_false]at h6;have:=h6 x hx;simp at this;omega
       exact c9 rfl ⟨l1.trans l2,by rw[show bdE n wl lo hi ds=0 from if_pos ⟨aA,aA,aA,aA,aA,hW⟩];rfl⟩
def b8g {b:Nat} {T:TypeId} {x:Nat} {y:Int} (hb:H b=some (.cells #[wts,ii lo,ii hi,ii ds,ii n,w] T (0,0))) (pY:SI H wts wl) (hx:wl[x]? =some y):j5 prog 167 [ii (x:Nat),.pointer (some ⟨b,0,none⟩)] H (ii y):=by
 refine g9 mixed c7k ?_;refine i0 Og ?_;simp only[cA,nA];refine i0 e0t ?_;simp only[cA,nA];refine i7 Uw rfl rfl hb rfl rfl ?_;simp only[cA,nA];refine r6 el_int pY hx fun _=> ?_;simp only[cA,nA];exact c9 rfl ⟨Pl.refl _,rfl⟩
def c1H {f:FuncId} {caps:List Value} (hT:Tb H) (hs:set<M64) (hwl:Of wl) (uO:∀x,bit set x=true->x<wl.length) (qZ:q8 prog f=true) (hf:∀H' x y,Pl H H'->wl[x]? =some y->j5 prog f (ii (x:Nat)::caps) H' (ii y)):j5 prog 166 [uv set,.func (.func f) #[] caps.toArray] H (ii (Ac wl set)):=by
 refine g9 mixed d3e ?_;refine t6 (α:=Nat×Nat) (fun⟨k,s⟩=>[ii (((els set).take k).map fun x=>wl.getD x 0).sum,uv s]) (fun⟨k,s⟩=>fun H'=>Pl H H'/\s<M64/\k<=(els set).length/\els s=(els set).drop k) (fun⟨k,s⟩=>(els set).length-k) ((0,set)) rfl (⟨Pl.refl _,hs,bJ _,rfl⟩) fun⟨k,s⟩ H' hQ=> ?_;simp only[cA,nA];obtain⟨l1,pX,hk,he⟩:=hQ;refine b9 ?_;refine y7 (p:=(s≠0)) (bN0 s) (fun h=> ?_) fun h=> ?_
 ·obtain⟨x,r,qP⟩:∃x r,els s=x::r:=by
   cases qP:els s with
   |nil=>exact absurd (Oa pX qP) h
   |cons x r=>exact⟨x,r,rfl⟩
  have htz:tz s=x:=by simp[tz,qP]
  have pW:k<(els set).length:=by
   apply Nat.lt_of_not_le;intro hh;rw[List.drop_eq_nil_of_le hh,qP]at he;cases he
  obtain⟨y,hy,yI⟩:=u6 pW;rw[<-he,qP]at yI;obtain⟨rfl,hr'⟩:=List.cons.inj yI;have rK:=uO x ((Kw hs).1 (aJ hy));have hwx:wl[x]? =some wl[x]:=aG rK;refine s7 (Yg (hT.mono l1) pX) rfl ?_;simp only[cA,nA];rw[htz];refine j4 (Bh (f:=f) (caps:=caps.toArray) (vs:=[ii (x:Nat)]) rfl rfl rfl qZ (hf _ x _ l1 hwx)) rfl ?_;rintro _ H2 ⟨l2,rfl⟩;refine nmI ?_;simp only[cA,nA];have sU:=ME (((els set).take k).map fun x=>wl.getD x 0) (by
   intro z hz;rw[bK]at hz;obtain⟨a,ha,rfl⟩:=hz;have sV:=uO a ((Kw hs).1 (List.mem_of_mem_take ha));rw[aK,aG sV];exact hwl _ (dW sV))
  have sA:=Uj set;have wN:((((els set).take k).map fun x=>wl.getD x 0)).length<=64:=by
   rw[aW,bD];unfold card at sA;omega
  have zX:=hwl _ (dW rK);refine b9 (b9 ?_);exact⟨(k+1,s&&&(s-1)),by show(els set).length-(k+1)<(els set).length-k;omega,(j0 (by rw[Qo rfl rfl aA aA];show ii _=ii (((els set).take (k+1)).map fun x=>wl.getD x 0).sum;rw[take_snoc hy,bI,List.sum_append,aU,cN,eY,List.sum_nil,Int.add_zero,aK,hwx];rfl) (Ic rfl (Ui (B:=1) rfl rfl pX aA) pX (aR (Nat.sub_le _ _) pX))),⟨l1.trans l2,Qm pX,pW,by rw[vj pX qP,hr']⟩⟩
 ·have h0:s=0:=aA;rw[h0,fm]at he;have rM:(els set).length<=k:=by
   apply Nat.le_of_not_lt;intro hh;rw[dP hh]at he;cases he
  exact c9 rfl ⟨l1,by rw[aI rM];rfl⟩
structure Chn (H:PH) (n:Nat) (w wts:Value) (es:List (Nat×Nat)) (wl:List Int):Prop where
 tb:Tb H
 gr:SG H w es
 ok:GV n es
 wt:SI H wts wl
 len:wl.length=n
 wok:Of wl
def Chn.mono {H':PH} (h:Chn H n w wts es wl) (hl:Pl H H'):Chn H' n w wts es wl:=⟨h.tb.mono hl,h.gr.mono hl,h.ok,h.wt.mono hl,h.len,h.wok⟩
def c1I (hc:Chn H n w wts es wl) (hs:set<2^n):j5 prog 106 [chv wts lo hi ds n w,uv set] H (.bool (alB es wl lo hi set)):=by
 refine g9 mixed d3d ?_;have pX:=we hc.ok.n64 hs;refine b4 (MF (t7 hc.wt) (t7 hc.gr) _ _ _ _) ?_;refine o0 (cs:= #[wts,ii lo,ii hi,ii ds,ii n,w]) rfl fun b hb=> ?_;simp only[cA,nA];have l1:=PH.le_put hb (.cells #[wts,ii lo,ii hi,ii ds,ii n,w] 136 (0,0));have b1:=PH.put_self H b (.cells #[wts,ii lo,ii hi,ii ds,ii n,w] 136 (0,0));generalize H.put b (.cells #[wts,ii lo,ii hi,ii ds,ii n,w] 136 (0,0))=H1 at l1 b1;have qL:=hc.mono l1;refine x5 (Ai (vs:=[.pointer (some ⟨b,0,none⟩)]) rfl rfl) rfl ?_;simp only[cA,nA];refine i9 (c1H (caps:=[.pointer (some ⟨b,0,none⟩)]) (wl:=wl) qL.tb pX hc.wok (fun x hx=>by rw[hc.len];exact Uk hs hx) c1E (fun H' x y hl hx=>b8g (hl _ _ b1) (qL.wt.mono hl) hx)) rfl fun H2 l2=> ?_;simp only[cA,nA];have qO:=qL.mono l2;have b2:=l2 _ _ b1;refine i0 yb ?_;simp only[cA,nA];refine s5 (vs:=[ii n,w]) yc rfl rfl b2 rfl aD rfl ?_;simp only[cA,nA];refine i9 (JW qO.tb qO.gr hc.ok pX) rfl fun H3 l3=> ?_;simp only[cA,nA];have b3:=l3 _ _ b2;rw[show Yo n es set= .tuple #[.bool (cnB es set),ii 0]from if_pos hs];refine g7 (g7 (b9 ?_));refine g8 (b:=cnB es set) rfl (fun h1=> ?_) (fun h1=> ?_)
 ·skip
  refine i0 Og ?_;simp only[cA,nA];refine i0 e0u ?_;simp only[cA,nA];refine i7 sc_int rfl rfl b3 rfl rfl ?_;simp only[cA,nA];refine b9 (b9 ?_);refine g8 (b:=decide (Ac wl set≥lo)) rfl (fun h2=> ?_) (fun h2=> ?_)
  ·replace h2:=oDt h2;refine i0 Og ?_;simp only[cA,nA];refine i0 e0v ?_;simp only[cA,nA];refine i7 sc_int rfl rfl b3 rfl rfl ?_;simp only[cA,nA];refine b9 ?_;exact c9 rfl ⟨(l1.trans l2).trans l3,by unfold alB;rw[h1,oDd h2];rfl⟩
  ·replace h2:=oDf h2;exact c9 rfl ⟨(l1.trans l2).trans l3,by unfold alB;rw[h1,decide_eq_false h2];rfl⟩
 ·skip
  exact c9 rfl ⟨(l1.trans l2).trans l3,by unfold alB;rw[h1];rfl⟩
def b8h {b:Nat} {T:TypeId} (hc:Chn H n w wts es wl) (hb:H b=some (.cells #[wts,ii lo,ii hi,ii ds,ii n,w] T (0,0))) (hs:set<2^n):j5 prog 105 [uv set,.pointer (some ⟨b,0,none⟩)] H (.bool (!alB es wl lo hi set)):=by
 refine g9 mixed c7j ?_;refine s5 (vs:=[wts,ii lo,ii hi,ii ds,ii n,w]) MG rfl rfl hb rfl aD rfl ?_;simp only[cA,nA];refine i9 (c1I hc hs) rfl fun H1 l1=> ?_;simp only[cA,nA];refine b9 ?_;exact c9 rfl ⟨l1,rfl⟩
def MJ (hc:Chn H n w wts es wl) (hu:SI H u p):j5 prog 67 [chv wts lo hi ds n w,u] H (.bool (Bl n es wl lo hi ds p)):=by
 refine g9 mixed d3c ?_;refine b4 (MF (t7 hc.wt) (t7 hc.gr) _ _ _ _) ?_;refine o0 (cs:= #[wts,ii lo,ii hi,ii ds,ii n,w]) rfl fun b hb=> ?_;simp only[cA,nA];have l1:=PH.le_put hb (.cells #[wts,ii lo,ii hi,ii ds,ii n,w] 136 (0,0));have b1:=PH.put_self H b (.cells #[wts,ii lo,ii hi,ii ds,ii n,w] 136 (0,0));generalize H.put b (.cells #[wts,ii lo,ii hi,ii ds,ii n,w] 136 (0,0))=H1 at l1 b1;have qL:=hc.mono l1;refine i0 yb ?_;simp only[cA,nA];refine s5 (vs:=[ii n,w]) yc rfl rfl b1 rfl aD rfl ?_;simp only[cA,nA];refine i0 Og ?_;simp only[cA,nA];refine i0 Yw ?_;simp only[cA,nA];refine i7 sc_int rfl rfl b1 rfl rfl ?_;simp only[cA,nA];refine i9 (xz qL.gr hc.ok (hu.mono l1) ds) rfl fun H2 l2=> ?_;simp only[cA,nA];refine b9 ?_;refine y7 (p:=(plE n p ds≠0)) (bN _ _) (fun h=> ?_) fun h=> ?_
 ·exact c9 rfl ⟨l1.trans l2,by unfold Bl;rw[decide_eq_false h];rfl⟩
 ·have h0:plE n p ds=0:=bW h;have vR:=JU h0;have qO:=qL.mono l2;have b2:=l2 _ _ b1;refine i0 Og ?_;simp only[cA,nA];refine i0 Yw ?_;simp only[cA,nA];refine i7 sc_int rfl rfl b2 rfl rfl ?_;simp only[cA,nA];obtain⟨k,rfl⟩:∃k:Nat,ds=(k:Int):=⟨ds.toNat,aA⟩;rw[bO]at vR;refine g5 (ya (hu.mono (l1.trans l2)) k aA aA vR.2.2.2.1 vR.2.2.2.2) rfl ?_;rintro _ H3 ⟨l3,z,rfl,hz⟩;refine nmI ?_;simp only[cA,nA];have sE:=qO.mono l3;have b3:=l3 _ _ b2;refine g7 (g7 ?_);refine x5 (Ai (vs:=[.pointer (some ⟨b,0,none⟩)]) rfl rfl) rfl ?_;simp only[cA,nA];refine i9 (c0Y (caps:=[.pointer (some ⟨b,0,none⟩)]) (q:=fun s=> !alB es wl lo hi s) hz c1F (fun H' s hl hsm=>b8h (sE.mono hl) (hl _ _ b3) (by have:=c6J hsm vR.2.2.2.1.2.2;rw[vR.2.2.1]at this;exact this))) rfl fun H4 l4=> ?_;simp only[cA,nA];refine b9 ?_;exact c9 rfl ⟨((l1.trans l2).trans l3).trans l4,by unfold Bl;rw[oDd h0,bO,Bool.true_and];show Value.bool (!((Em p k).any fun s=> !alB es wl lo hi s))=_;rw[List.all_eq_not_any_not]⟩
def MM (hT:Tb H) (hw:SG H w es) (hg:GV n es) (pY:SI H wts wl) (hu:SI H u p):j5 prog 32 [gv n w,bv wts lo hi ds,u] H (.tuple #[.bool (decide (bdE n wl lo hi ds=0)&&Bl n es wl lo hi ds p),ii (bdE n wl lo hi ds)]):=by
 refine g9 mixed d3f ?_;refine b4 (Be hw) ?_;refine b4 (Ky (t7 pY) _ _ _) ?_;refine i9 (MH hw hg pY) rfl fun H1 l1=> ?_;simp only[cA,nA];refine b9 ?_;refine y7 (p:=(bdE n wl lo hi ds≠0)) (bN _ _) (fun h=> ?_) fun h=> ?_
 ·exact c9 rfl ⟨l1,by rw[decide_eq_false h];rfl⟩
 ·have h0:bdE n wl lo hi ds=0:=bW h;have hb:=MD h0;refine i9 (MJ (lo:=lo) (hi:=hi) (ds:=ds) (p:=p) (u:=u) ⟨hT.mono l1,hw.mono l1,hg,pY.mono l1,hb.1,hb.2.2.2.2.2⟩ (hu.mono l1)) rfl fun H2 l2=> ?_;simp only[cA,nA];exact c9 rfl ⟨l1.trans l2,by rw[oDd h0,h0];rfl⟩
end
end Go.Z

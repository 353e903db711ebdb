/- Lemmas: chapter 32. -/
import Derived.Test.YtcdnhlplkhldbaaGreatDoorGuC
open Bool renaming true_and->iV
open List renaming foldr_cons->oC,length_singleton->fL,nodup_iff_pairwise_ne->lH,nodup_nil->gI,range'->nG,range'_succ->nU,range->eO,range_eq_range'->kA,replicate->eS,sum_cons->eP
open Nat renaming and_assoc->kL,and_le_left->iI,and_le_right->jR,and_self->iM,eq_of_testBit_eq->fA,mul_succ->iD,or_comm->pP,pow_add->fW,testBit->pO,testBit_and->jB,testBit_div_two_pow->mB,testBit_or->fC,testBit_two_pow->fK,testBit_two_pow_mul->jS,testBit_xor->oN,two_pow_pos->iO
set_option linter.all false
set_option maxRecDepth 100000
namespace Go.Z
open Proofs.Tryz RowKit RX GS
open WD (BP Ha)
def PU:prog.underlying 324=some (.map 3 4):=aB
def PV:∀w,(zeroValue 4).run prog w= .ok (.bool false) w:=fun w=>by
 rfl
def lj:n8 prog 222=true:=aB
def e0x:j3 prog 334=vs (none,0,0):=aB
def Wt {H:PH} {m:Value} {S:List Int} (h:MB H m S):m.cells= #[m]/\y6 m=true:=by
 obtain⟨_,⟨rfl,_⟩|⟨r,_,_,rfl,_⟩⟩:=h<;>exact⟨rfl,rfl⟩
def one_of {m:Value} (hc:m.cells= #[m]) (h1:y6 m=true):m.cells.size=1/\j0 m.cells:=by
 rw[hc];exact⟨rfl,fun c hc=>by rw[bB.1 (by simpa using hc:c∈[m])];exact h1⟩
def c3c {H2:PH} {r pb:Nat} {T:TypeId} (hr:H2 r=none) (hp:(H2.put r (.map #[] 0)) pb=none):∃B H4,((H2.put r (.map #[] 0)).put pb (.cells #[.map none] T (0,0))).put pb (.cells ((#[.map none]:Array Value).setIfInBounds 0 (.map (some r))) T (0,0))=H4/\Pl H2 B/\B pb=some (.cells #[.map (some r)] T (0,0))/\Pl B H4/\MO B H4 (.map (some r)) (plL []):=by
 have hpr:pb≠r:=fun e=>by subst e;rw[PH.put_self]at hp;cases hp
 have rP:H2 pb=none:=by rwa[PH.put_ne _ _ hpr]at hp
 refine⟨H2.put pb (.cells #[.map (some r)] T (0,0)),_,rfl,PH.le_put rP _,PH.put_self _ _ _,fun k ob hk=> ?_,gI,r,[],0,rfl,?_,?_,rfl⟩
 ·by_cases e:k=pb
  ·subst e;rw[PH.put_self]at hk⊢;exact hk
  ·rw[PH.put_ne _ _ e]at hk;rw[PH.put_ne _ _ e,PH.put_ne _ _ e,PH.put_ne _ _ (fun e2=>by subst e2;rw[hr]at hk;cases hk)];exact hk
 ·rw[PH.put_ne _ _ (fun e=>hpr e.symm)];exact hr
 ·rw[PH.put_ne _ _ (fun e=>hpr e.symm),PH.put_ne _ _ (fun e=>hpr e.symm),PH.put_self];rfl
def d5s {H5 H7:PH} {go qb n:Nat} {T:TypeId} (hn:n<=64) (hg:H5 go=none) (hl:Pl H5 H7) (hk:∀k,k≠go->H7 k=H5 k) (ho:SO H5 H7 334 1 (fun s:Slc=>[vs s]) (vs (rsl n go)) (eS n (none,0,0))) (hq:H7 qb=none):
  ∃B1 H8,(H7.put qb (.cells #[.slice none 0 0] T (0,0))).put qb (.cells ((#[.slice none 0 0]:Array Value).setIfInBounds 0 (vs (rsl n go))) T (0,0))=H8/\Pl H5 B1/\B1 qb=some (.cells #[vs (rsl n go)] T (0,0))/\Mk B1 H8 go [] n:=by
 have h0:=AX ho;have qJ:qb≠go:=fun e=>by
  obtain⟨ob,h1,_⟩:=AW h0;rw[<-e,hq]at h1;cases h1
 have hq5:H5 qb=none:=by rw[<-hk qb qJ];exact hq
 refine⟨H5.put qb (.cells #[vs (rsl n go)] T (0,0)),_,rfl,PH.le_put hq5 _,PH.put_self _ _ _,fun k ob hb=> ?_,by rw[PH.put_ne _ _ qJ.symm];exact hg,Wl h0 fun ob sE=> ?_,⟨gI,hn,fun i g h=>by simp at h⟩,aD,bK _⟩
 ·by_cases e:k=qb
  ·subst e;rw[PH.put_self]at hb⊢;exact hb
  ·rw[PH.put_ne _ _ e]at hb;rw[PH.put_ne _ _ e,PH.put_ne _ _ e];exact hl _ _ hb
 ·rw[PH.put_ne _ _ qJ.symm,PH.put_ne _ _ qJ.symm];exact sE
def Mk.len {B H:PH} {go n:Nat} {gs:List Nat} (h:Mk B H go gs n):(gs.map (rsl n)++eS (n-gs.length) (none,0,0)).length=n:=by
 have:=h.le;simp;omega
def d5t {E:List (Nat×Nat)} {e:Nat×Nat} {f:Nat->Nat} {V:List Nat} {i k:Nat} (hi:i<V.length) (hk:k<V.length) (qJ:f e.1≠f e.2):
  addZ V (addZ V (addZ V (addZ V (Mc E f V) (f e.1) (f e.1) 1) (f e.2) (f e.2) 1) (f e.1) (f e.2) (-1)) (f e.2) (f e.1) (-1) i k=Mc (E++[e]) f V i k:=by
 have hF:∀(E:List (Nat×Nat)) (u v:Nat->Int),Fm (E++[e]) u v=Fm E u v+dl e u*dl e v:=fun E=>by
  induction E with
  |nil=>intro u v;simp[Fm]
  |cons x E ih=>intro u v;simp only[dM,Fm];rw[ih];omega
 unfold Mc;rw[hF,Ph,Ph];have e1:V[i]? =some (V.getD i 0):=by rw[aJ,aG hi];rfl
 have e2:V[k]? =some (V.getD k 0):=by rw[aJ,aG hk];rfl
 unfold addZ;rw[e1,e2];generalize V.getD i 0=x at*;generalize V.getD k 0=y at*;generalize f e.1=a at*;generalize f e.2=b at*;simp only[cN];by_cases x1:a=x<;>by_cases x2:b=x<;>by_cases y1:a=y<;>by_cases y2:b=y<;>(try (subst_vars;exact absurd rfl qJ))<;>simp_all<;>(try split)<;>(try omega)
def AY {V:List Nat} {Z:Nat->Nat->Int} {a b:Nat} {z:Int} {m:Nat} (h:∀i k,(Z i k).natAbs<=m) (hz:z.natAbs<=1):∀i k,(addZ V Z a b z i k).natAbs<=m+1:=fun i k=>by
 unfold addZ;have:=h i k;split<;>omega
def ll {z:Int} {m:Nat} (h:z.natAbs<=m) (hm:m<=1000):Lm z:=by
 have:BP 1<=BP 10000:=Ha aC;rw[Go.WD.BP_succ,Go.WD.BP_zero]at this;unfold Lm;omega
def e2Y {F:Nat->Nat->Int} (h:∀i j,(F i j).natAbs<=200):∀k i j,k<=64->SmZ (gk F k i j):=fun k i j hk=>by
 have h1:=c9b h k i j;obtain⟨K,hK⟩:∃K,K=65:=⟨_,rfl⟩;have h2:((k+1)*200)^(k+1)<=(2^14)^K:=cK (Nat.pow_le_pow_left aA _) (bQ aC aA);have h3:∀M,100<=M->((2:Nat)^14)^K<BP M:=fun M hM=>by
  unfold BP;rw[<-Nat.pow_mul];exact cU aC aA
 have h3:=h3 100 (aS _);unfold SmZ;omega
def e0y {s:Nat} {es:List (Nat×Nat)} {W O:List Int} (h:Cyc (wE s es W es.length)):Me s es W O=0:=if_neg h.not
def d5u {s:Nat} {es:List (Nat×Nat)} {W O:List Int} {f:Nat->Nat} (h:Acy (wE s es W es.length) (wE s es W es.length).length) (hf:lab (wE s es W es.length)=f):Me s es W O=Dg (oE s es O f es.length) f (ky s f).reverse:=by
 subst hf;exact if_pos h
def fcn (pb qb:Nat):Value:= .func (.func 223) #[] #[.pointer (some ⟨pb,0,none⟩),.pointer (some ⟨qb,0,none⟩)]
def frt (vp:Value):Value:= .func (.func 222) #[vp] #[]
def c9n {H:PH} {n s:Nat} {w mw mo:Value} {es:List (Nat×Nat)} {W O:List Int} (hw:SG H w es) (hg:GV n es) (hs:s<M64) (h0:s≠0) (hT:Tb H) (hW:MB H mw W) (hO:MB H mo O):
  Con prog 167 [gv n w,GS.uv s,mw,mo] H fun u H'=>Pl H H'/\Lw H' u (Me s es W O):=by
 refine g5 mixed d4o ?_;have hwc:=hw.cells;have hw1:=t8 hw;have sM:=hg.n64;have qC:=hg.len;have a1k:∀e∈es,e.1<=64/\e.2<=64:=fun e he=>by have:=hg.ed e he;omega
 have hil:(Am s 0 es).length<=200:=cK (Ws s es 0) qC;have hlx:∀{f:Nat->Nat} {x:Nat},Lb f->x<64->f x<64:=fun hf hx=>bO (hf.le _) hx;refine b4 (Ci hw) ?_;refine b4 (one_of (Wt hW).1 (Wt hW).2) ?_;refine b4 (one_of (Wt hO).1 (Wt hO).2) ?_;refine f0 (c8R (H:=H)) rfl ?_;rintro _ H1 ⟨l1,vp,rfl,o1⟩;refine nmI ?_;simp only[cA,nA];refine b4 ⟨rfl,fun c hc=>by have hc:c∈[vp]:=hc;rw[bB]at hc;subst hc;exact t8 o1.se⟩ ?_;refine f0 (PI (H:=H1) hwc hw1) rfl ?_;rintro _ _ ⟨bi,ji,hbj,rfl,wO,rfl⟩;refine nmI ?_;simp only[cA,nA];refine Hi (X:=H1) (K:=Fp bi ji (ii n) w 33 s) (Ro:=H) (fun pre vals X'=>Pl H X'/\vals=[j3 prog 106]/\∃q,PO H X' vp q/\Par q (lab (wE s es W pre.length))/\Acy (wE s es W pre.length) (wE s es W pre.length).length) (fun _ vals X'=>Pl H X'/\∃u,vals=[u]/\Lw X' u 0/\Cyc (wE s es W es.length)) (NP hs hbj a1k aA hw hwc) NN wO rfl (fun _ _ _ h=>h.1) ⟨l1,rfl,eO 64,o1,Par.id,fun i e hi=>absurd hi (Nat.not_lt_zero _)⟩ ?_ ?_ ?_
 ·rintro pre xs vals X' ⟨y,hy,rfl⟩ _ ⟨m1,rfl,q,oq,hP,hA⟩;refine⟨rfl,?_⟩;simp only[cA,nA];refine b4 (el_edge.vcells y.2) ?_;have hya:=PR hy;have hyl:=a1k y.2 (aK hya.1);have hyb:=hg.mem hya.1;refine j8 (OS (k:=(y.1:Nat)) (vs:=[mw,ii (y.1:Nat)]) rfl rfl rfl PU Wp PV (hW.mono m1)) (i0 (Bc rfl (Wt hW).1) rfl) ?_;simp only[cA,nA];refine b9 ?_;refine g6 (b:=decide (((y.1:Nat):Int)∈W)) rfl (fun qL=> ?_) (fun qL=> ?_)
  ·skip
   have qL:=oDt qL;refine f0 (c8U m1 oq hP aA aA) rfl ?_;rintro _ X2 ⟨rfl,m2,q2,oq2,hP2⟩;refine nmI ?_;simp only[cA,nA];refine b9 ?_;refine y5 (p:=(¬(lab (wE s es W pre.length) y.2.1≠lab (wE s es W pre.length) y.2.2))) (by show Value.bool (!decide _)=_;congr 1;rw[bY];simp) (fun h5=> ?_) fun h5=> ?_
   ·refine f0 (Oq 0 aA aA) rfl ?_;rintro u3 X3 ⟨m3,w3⟩;refine nmI ?_;simp only[cA,nA];refine b4 w3.rq ?_;have hcy:Cyc (wE s es W es.length):=by
     obtain⟨M,hM⟩:=e0u (set:=s) (es:=es) (W:=W) (j:=pre.length+1) (k:=es.length) (by have:=(aH.1 hy).1;have:=Ws s es 0;omega);rw[hM,AQ hy qL];refine Cyc.app ⟨(wE s es W pre.length).length,y.2,aD,?_⟩;rw[List.take_left];exact cL h5
    exact⟨m2.trans m3,u3,rfl,w3,hcy⟩
   ·have h5:=cL h5;exact⟨m2,rfl,q2,oq2,by rw[aL,fL,AQ hy qL,c8Q];exact hP2,by rw[aL,fL,AQ hy qL,aL];exact hA.snoc h5⟩
  ·skip
   have qL:=oDf qL;exact⟨m1,rfl,q,oq,by rw[aL,fL,PP hy qL];exact hP,by rw[aL,fL,PP hy qL];exact hA⟩
 ·rintro xs vals X' K' sQ hd _ ⟨m1,rfl,q,oq,hP,hA⟩;simp only[cA,nA];rw[e0v sQ]at hP hA;have hL:wE s es W es.length=wE s es W es.length:=rfl;generalize hf:lab (wE s es W es.length)=f at hP;have vB:=hP.lb;have m2:Pl H (X'.or K'):=m1.trans (PH.le_or _ _);have oq2:=oq.mono (PH.le_or X' K');generalize X'.or K'=H2 at m2 oq2⊢;refine j1 (vf rfl) rfl ?_;rintro _ _ ⟨r,hr,rfl,rfl⟩;refine nmI ?_;simp only[cA,nA];refine o0 (cs:= #[.map none]) aB fun pb hpb=> ?_;simp only[cA,nA];refine Bq (u:= .map (some r)) To rfl rfl rfl (PH.put_self _ _ _) aD rfl rfl rfl (fun h=>(nomatch h)) ?_;simp only[cA,nA];obtain⟨B,H4,hH4,hHB,hBp,hBH,hMO⟩:=c3c (T:=281) hr hpb;rw[hH4];have uH:=oq2.se.mono hHB;have hTB:=hT.mono (m2.trans hHB);refine y8 (c2x rfl) rfl ?_;simp only[cA,nA];refine b4 ⟨rfl,fun c hc=>by simp[D,Value.cells]at hc;subst hc;rfl⟩ ?_;refine j9 (Zw (hTB.mono hBH) hs) rfl ?_;simp only[cA,nA];refine j1 (Go.RZ.opn_callw (P:=prog) (ws:=[ii (lst s:Nat)]) (bs:= #[vp]) (caps:= #[]) (vs:=[frt vp,ii (lst s:Nat)]) rfl rfl rfl lj (Wh (uH.mono hBH) hP (Vv hs (ON hs h0)))) rfl ?_;rintro _ _ ⟨rfl,rfl⟩;refine⟨fun _=>Pl.refl _,?_⟩;simp only[cA,nA];refine r7 (α:=Nat) (fun x=>[ii (x:Nat)]) (fun x=>fun H'=>x<=64/\Pl B H'/\MO B H' (.map (some r)) (plL (clsP s f x))) (fun x=>64-x) (0) rfl (⟨bK _,hBH,hMO⟩) fun x H5 ⟨hx,b5,o5⟩=> ?_;simp only[cA,nA];refine b9 ?_;refine g6 (b:=decide (((x:Nat):Int)<64)) rfl (fun h=> ?_) (fun h=> ?_)
  ·replace h:=oDt h;refine b9 ?_;refine b4 ⟨_,_,rfl⟩ ?_;refine b4 (by show(0:Int)<=(x:Nat);omega) ?_;refine g6 (b:=bit s x) (zc rfl hs rfl aA) (fun hb=> ?_) (fun hb=> ?_)
   ·skip
    refine j1 (Go.RZ.opn_callw (P:=prog) (ws:=[ii (x:Nat)]) (bs:= #[vp]) (caps:= #[]) (vs:=[frt vp,ii (x:Nat)]) rfl rfl rfl lj (Wh (uH.mono b5) hP aA)) rfl ?_;rintro _ _ ⟨rfl,rfl⟩;refine nmI ?_;simp only[cA,nA];refine b9 ?_;refine y5 (p:=(f x=x)) (bEn _ _) (fun h6=> ?_) fun h6=> ?_
    ·refine b9 ?_;refine y5 (p:=(x≠f (lst s))) (by show Value.bool (((x:Nat):Int) !=((f (lst s):Nat):Int))=_;rw[bN];congr 1;apply decide_eq_decide.2;omega) (fun h7=> ?_) fun h7=> ?_
     ·refine g9 To rfl rfl (b5 _ _ hBp) rfl rfl ?_;simp only[cA,nA];refine g9 To rfl rfl (b5 _ _ hBp) rfl rfl ?_;simp only[cA,nA];refine j8 (AL (vs:=[.map (some r)]) rfl rfl Wn o5.mi) rfl ?_;simp only[cA,nA];rw[AO];refine j1 (c9a (P:=prog) (k:=((x:Nat):Int)) (v:=(((clsP s f x).length:Nat):Int)) (vs:=[.map (some r),ii (x:Nat),ii ((clsP s f x).length:Nat)]) rfl rfl rfl rfl Wn Wp b5 o5) rfl ?_;rintro _ H6 ⟨rfl,b6,o6,-⟩;refine nmI ?_;simp only[cA,nA];exact⟨x+1,aA,(p6 (j5 rfl aA)),⟨aA,b6,by rw[c9k hb h6 h7,<-d5q c9l];exact o6⟩⟩
     ·exact⟨x+1,aA,(p6 (j5 rfl aA)),⟨aA,b5,by rw[AU (.inr (.inr (cL h7)))];exact o5⟩⟩
    ·exact⟨x+1,aA,(p6 (j5 rfl aA)),⟨aA,b5,by rw[AU (.inr (.inl h6))];exact o5⟩⟩
   ·skip
    exact⟨x+1,aA,(p6 (j5 rfl aA)),⟨aA,b5,by rw[AU (.inl (by simpa using hb))];exact o5⟩⟩
  ·replace h:=oDf h;obtain rfl:x=64:=aA;have hVl:=c9m s 64 f;have hVd:(clsP s f 64).Nodup:=e0l s f;have hVe:clsP s f 64=ky s f:=rfl;have hmi:=o5.mi;generalize hV:clsP s f 64=V at hVl hVd hVe hmi o5;generalize hn:V.length=m at hVl;refine g9 To rfl rfl (b5 _ _ hBp) rfl rfl ?_;simp only[cA,nA];refine j8 (AL (vs:=[.map (some r)]) rfl rfl Wn hmi) rfl ?_;simp only[cA,nA];rw[AO,hn];refine PN Fa (z:=(none,0,0)) e0x rfl rfl rfl aA rfl fun go H7 hg7 l7 k7 o7=> ?_;simp only[cA,nA];refine o0 (cs:= #[.slice none 0 0]) aB fun qb hqb=> ?_;simp only[cA,nA];refine Bq (u:=vs (rsl m go)) Wq rfl rfl rfl (PH.put_self _ _ _) aD rfl rfl rfl (fun h=>(nomatch h)) ?_;simp only[cA,nA];obtain⟨B1,H8,hH8,hB5,hBq,hMk⟩:=d5s (T:=333) hVl hg7 l7 k7 o7 hqb;rw[show Value.slice (some ⟨go,0,none⟩) m m=vs (rsl m go)from rfl,hH8];have tZ:=hB5 _ _ (b5 _ _ hBp);have tY:=hmi.mono hB5;refine g9 Wq rfl rfl (hMk.bh _ _ hBq) rfl rfl ?_;simp only[cA,nA];refine Dc Fa rfl rfl hMk.out.se rfl ?_;simp only[cA,nA];rw[hMk.len];refine r7 (α:=Nat×List Nat) (fun⟨i,gs⟩=>[ii (i:Nat)]) (fun⟨i,gs⟩=>fun H'=>gs.length=i/\Mk B1 H' go gs m) (fun⟨i,gs⟩=>m-i) ((0,[])) rfl (⟨rfl,hMk⟩) fun⟨i,gs⟩ H9 ⟨hgi,k9⟩=> ?_;simp only[cA,nA];refine b9 (b9 ?_);refine g6 (b:=decide (((i:Nat):Int)<(m:Nat))) rfl (fun h=> ?_) (fun h=> ?_)
   ·replace h:=oDt h;subst hgi;refine g9 Wq rfl rfl (k9.bh _ _ hBq) rfl rfl ?_;simp only[cA,nA];refine g9 To rfl rfl (k9.bh _ _ tZ) rfl rfl ?_;simp only[cA,nA];refine j8 (AL (vs:=[.map (some r)]) rfl rfl Wn (tY.mono k9.bh)) rfl ?_;simp only[cA,nA];rw[AO,hn];refine PN el_long (z:=(false,(none,0,0))) e2W rfl rfl rfl aA rfl fun g H10 a4v l10 k10 o10=> ?_;simp only[cA,nA];obtain⟨r1,r2,r3⟩:=k9.row a4v l10 o10;refine Ee Fa (a:=(rsl m g)) rfl rfl rfl rfl aF aF (cut_le H10 go) r2 (show gs.length<(gs.map (rsl m)++eS (m-gs.length) (none,0,0)).length by rw[k9.len];omega) rfl aF rfl fun p u H11 l11 o11 _=> ?_;simp only[cA,nA];exact⟨(gs.length+1,gs++[g]),by show m-(gs.length+1)<m-gs.length;omega,(p6 (j5 rfl aA)),⟨aD,k9.set r1 r3 aA (k9.bh.trans l10) l11 o11⟩⟩
   ·replace h:=oDf h;have vG:gs.length=m:=by have:=k9.le;omega
    obtain⟨X0,x0,vI,hMt⟩:=k9.done vG;have hX0:Pl H X0:=(m2.trans hHB).trans (b5.trans (hB5.trans x0));have a4w:=uH.mono (b5.trans (hB5.trans x0));refine y8 (Ai (vs:=[.pointer (some ⟨pb,0,none⟩),.pointer (some ⟨qb,0,none⟩)]) rfl rfl) rfl ?_;simp only[cA,nA];refine b4 ⟨rfl,fun c hc=>by simp[D,Value.cells]at hc;subst hc;rfl⟩ ?_;refine f0 (PI (H:=H9) hwc hw1) rfl ?_;rintro _ _ ⟨b2,j2,a4x,rfl,qH,rfl⟩;refine nmI ?_;simp only[cA,nA];refine Hi (X:=H9) (K:=Fp b2 j2 (ii n) w 33 s) (Ro:=H) (fun pre vals X'=>Pl H X'/\vals=[]/\∃Xw M,Mt X0 Xw X' gs m 0 M (Mc (oE s es O f pre.length) f V)) (fun _ _ _=>False) (NP hs a4x a1k aA hw hwc) NN qH rfl (fun _ _ _ h=>h.1) ⟨hX0.trans hMt.xh,rfl,X0,_,hMt.x0,hMt.xh,hMt.mx,hMt.vl⟩ ?_ ?_ ?_
    ·rintro pre xs vals X2 ⟨y,hy,rfl⟩ _ ⟨m1,rfl,Xw,M,ht⟩;refine⟨rfl,?_⟩;simp only[cA,nA];refine b4 (el_edge.vcells y.2) ?_;have hya:=PR hy;have hyb:=hg.mem hya.1;have hpw:=a4w.mono (ht.x0.trans ht.xh);refine j1 (Go.RZ.opn_callw (P:=prog) (ws:=[ii (y.2.1:Nat)]) (bs:= #[vp]) (caps:= #[]) (vs:=[frt vp,ii (y.2.1:Nat)]) rfl rfl rfl lj (Wh hpw hP aA)) rfl ?_;rintro _ _ ⟨rfl,rfl⟩;refine⟨fun _=>Pl.refl _,?_⟩;simp only[cA,nA];refine j1 (Go.RZ.opn_callw (P:=prog) (ws:=[ii (y.2.2:Nat)]) (bs:= #[vp]) (caps:= #[]) (vs:=[frt vp,ii (y.2.2:Nat)]) rfl rfl rfl lj (Wh hpw hP aA)) rfl ?_;rintro _ _ ⟨rfl,rfl⟩;refine⟨fun _=>Pl.refl _,?_⟩;simp only[cA,nA];refine j8 (OS (k:=(y.1:Nat)) (vs:=[mo,ii (y.1:Nat)]) rfl rfl rfl PU Wp PV (hO.mono m1)) (i0 (Bc rfl (Wt hO).1) rfl) ?_;simp only[cA,nA];refine b9 ?_;refine g6 (b:=decide (((y.1:Nat):Int)∈O)) rfl (fun qL=> ?_) (fun qL=> ?_)
     ·skip
      exact⟨m1,rfl,Xw,M,by rw[aL,fL,PQ hy (.inl (oDt qL))];exact ht⟩
     ·skip
      have qL:=oDf qL;refine b9 (b9 ?_);refine y5 (p:=(f y.2.1=f y.2.2)) (bEn _ _) (fun h6=> ?_) fun h6=> ?_
      ·exact⟨m1,rfl,Xw,M,by rw[aL,fL,PQ hy (.inr h6)];exact ht⟩
      ·have hz0:∀i k,(Mc (oE s es O f pre.length) f V i k).natAbs<=200:=fun i k=>cK (PC _ _ _ i k) (cK PT qC);have hz1:=AY (V:=V) (a:=f y.2.1) (b:=f y.2.1) (z:=1) hz0 aC;have yF:=AY (V:=V) (a:=f y.2.2) (b:=f y.2.2) (z:=1) hz1 aC;have hz3:=AY (V:=V) (a:=f y.2.1) (b:=f y.2.2) (z:= -1) yF aC;have hpX:=x0 _ _ tZ;have hqX:=x0 _ _ hBq;have hmX:=tY.mono x0;refine j1 (Go.RZ.opn_callw (P:=prog) (ws:=[ii (f y.2.1:Nat),ii (f y.2.1:Nat),ii 1]) (bs:= #[]) (caps:= #[.pointer (some ⟨pb,0,none⟩),.pointer (some ⟨qb,0,none⟩)]) (vs:=[fcn pb qb,ii (f y.2.1:Nat),ii (f y.2.1:Nat),ii 1]) rfl rfl rfl lh (li ht hpX hqX hmX vI vG hn hVd aC fun i k=>ll (hz0 i k) aC)) rfl ?_;rintro _ Y1 ⟨W1,M1,e1,t1⟩;refine nmI ?_;simp only[cA,nA];refine j1 (Go.RZ.opn_callw (P:=prog) (ws:=[ii (f y.2.2:Nat),ii (f y.2.2:Nat),ii 1]) (bs:= #[]) (caps:= #[.pointer (some ⟨pb,0,none⟩),.pointer (some ⟨qb,0,none⟩)]) (vs:=[fcn pb qb,ii (f y.2.2:Nat),ii (f y.2.2:Nat),ii 1]) rfl rfl rfl lh (li t1 hpX hqX hmX vI vG hn hVd aC fun i k=>ll (hz1 i k) aC)) rfl ?_;rintro _ Y2 ⟨W2,M2,e2,t2⟩;refine nmI ?_;simp only[cA,nA];refine j1 (Go.RZ.opn_callw (P:=prog) (ws:=[ii (f y.2.1:Nat),ii (f y.2.2:Nat),ii (-1)]) (bs:= #[]) (caps:= #[.pointer (some ⟨pb,0,none⟩),.pointer (some ⟨qb,0,none⟩)]) (vs:=[fcn pb qb,ii (f y.2.1:Nat),ii (f y.2.2:Nat),ii (-1)]) rfl rfl rfl lh (li t2 hpX hqX hmX vI vG hn hVd aC fun i k=>ll (yF i k) aC)) rfl ?_;rintro _ Y3 ⟨W3,M3,e3,t3⟩;refine nmI ?_;simp only[cA,nA];refine j1 (Go.RZ.opn_callw (P:=prog) (ws:=[ii (f y.2.2:Nat),ii (f y.2.1:Nat),ii (-1)]) (bs:= #[]) (caps:= #[.pointer (some ⟨pb,0,none⟩),.pointer (some ⟨qb,0,none⟩)]) (vs:=[fcn pb qb,ii (f y.2.2:Nat),ii (f y.2.1:Nat),ii (-1)]) rfl rfl rfl lh (li t3 hpX hqX hmX vI vG hn hVd aC fun i k=>ll (hz3 i k) aC)) rfl ?_;rintro _ Y4 ⟨W4,M4,e4,t4⟩;refine nmI ?_;simp only[cA,nA];exact⟨hX0.trans (t4.x0.trans t4.xh),rfl,W4,M4,t4.x0,t4.xh,t4.mx,fun i k h1 h2 h3 h4=>by rw[aL,fL,e0s hy qL h6,<-d5t aA aA h6];exact t4.vl i k h1 h2 h3 h4⟩
    ·rintro xs vals X2 K2 sQ hd _ ⟨m1,rfl,Xw,M,ht⟩;simp only[cA,nA];rw[e0w sQ]at ht;have pY:=PH.le_or X2 K2;refine g9 Wq rfl rfl (pY _ _ ((ht.x0.trans ht.xh) _ _ (x0 _ _ hBq))) rfl rfl ?_;simp only[cA,nA];refine f0 (c9g (ht.xh.trans pY) (vI.mono ht.x0) (ht.mx.mono pY fun _ _ h=>h) vG ht.vl (e2Y fun i k=>cK (PC _ _ _ i k) (cK PT qC)) (fun k hk h=>by rw[<-hn]at hk⊢;rw[OZ];exact c2W _ _ hVd hk h)) rfl ?_;rintro u H12 ⟨X12,x1,x2,w12⟩;refine nmI ?_;simp only[cA,nA];obtain⟨x12,rfl⟩:=Pj w12;refine b4 (w12.mono x2).rq ?_;exact d4 rfl ⟨hX0.trans (ht.x0.trans (x1.trans x2)),by rw[d5u hA hf,<-hVe,<-OZ,hn];exact w12.mono x2⟩
    ·exact fun _ _ _ _ _ _ _ h=>h.elim
 ·rintro pre vals X' K' _ hd _ ⟨m1,u,rfl,w0,hcy⟩;simp only[cA,nA];obtain⟨x0,rfl⟩:=Pj w0;exact d4 rfl ⟨m1.trans (PH.le_or _ _),by rw[e0y hcy];exact w0.mono (PH.le_or _ _)⟩
section
variable {s:Nat} {es:List (Nat×Nat)} {t S:List Int} {k:Nat} {y:Nat×(Nat×Nat)}
def AZ (s:Nat):∀(es:List (Nat×Nat)) (i:Nat),(Am s i es).map (·.2)=es.filter (inB s)
 |[],_=>rfl
 |e::r,i=>by
  unfold Am;by_cases h:(bit s e.1&&bit s e.2)=true
  ·rw[if_pos h,eE (by unfold inB;exact h),bI,AZ s r (i+1)]
  ·rw[if_neg h,dH (by unfold inB;exact h),AZ s r (i+1)]
def opn (s:Nat) (es:List (Nat×Nat)) (k:Nat):List (Nat×Nat):=((Am s 0 es).drop k).map (·.2)
def lp (s:Nat) (es:List (Nat×Nat)) (t:List Int) (k:Nat):Int:=KK (opn s es k) s (lab (etl es t))
def c3d (s:Nat) (es:List (Nat×Nat)):Me s es [] []=lp s es [] 0:=by
 have hw:wE s es [] es.length=[]:=by
  unfold wE;rw[List.filter_eq_nil_iff.2 (fun x _=>aD)];rfl
 have ha:Acy (wE s es [] es.length) (wE s es [] es.length).length:=by rw[hw];exact fun i e hi=>by cases hi
 unfold Me lp;rw[if_pos ha,hw];have:oE s es [] (lab []) es.length=(opn s es 0).filter fun e=>lab [] e.1 !=lab [] e.2:=by
  unfold oE opn;rw[aI (Ws s es 0),cS,List.filter_map];congr 1
 rw[this,c2Q];rfl
def c9o (s:Nat) (es:List (Nat×Nat)):lp s es [] 0=trN es s [] 0:=by
 unfold lp trN opn inE;rw[cS,cS,AZ]
end
open Go.WD (BP Ha wd iw rs toI HM sgI)
def c3e (z:Int):∃m e,Ce z= .tuple #[wd m,ii e]:=by
 unfold Ce;split
 ·exact⟨_,_,rfl⟩
 ·exact⟨_,_,rfl⟩
section
variable {H:PH} {n s:Nat} {w:Value} {es:List (Nat×Nat)}
def c9p (hw:SG H w es) (hg:GV n es) (h0:s≠0/\s<2^n) (hs:s<M64) (hT:Tb H):Con prog 121 [gv n w,GS.uv s] H fun u H'=>Pl H H'/\u=Ce (Me s es [] []):=by
 refine g5 mixed d4p ?_;refine b4 (Ci hw) ?_;refine i8 (c8W hw hg hs) rfl fun H1 l1=> ?_;rw[if_pos h0];refine b9 ?_;refine i7 rfl ?_;refine f0 (c9n (hw.mono l1) hg hs h0.1 (hT.mono l1) (MB.none _) (MB.none _)) rfl ?_;rintro v3 H2 ⟨l2,w3⟩;refine nmI ?_;refine f0 (Zq w3) rfl ?_;rintro v4 H3 ⟨l3,hv4⟩;refine nmI ?_;obtain⟨m,e,hme⟩:=c3e (Me s es [] []);rw[hme]at hv4;subst hv4;refine g7 (g7 ?_);refine b4 (AP m) ?_;exact d4 rfl ⟨(l1.trans l2).trans l3,hme.symm⟩
end
def d5v:d9 prog [] [] [] [] 128=some (.call false 177 [V0,(.k (.bool false))]
(.rq (.bool V1) (.ret [(.nt V1)]))):=aB
def d5w:d9 prog [5] [] [] [] 179=some (.rq (.cells 1 V2) (.pub 3 V2
(.pm f179 1 1 [V0]
(.ri V4
(.ri V1
(.br (.io .eql V4 V1)
(.ef false f179 1 6 [V3]
(.call false 130 [V0,V5]
(.rq (.bool V6) (.ret [(.nt V6)])))) (.ret [(.k (.bool false))]))))))):=aB
def c9q:d9 prog [] [] [] [] 246=some (.ri V0
(.br (.io .lss V0 (.ki 0)) (.ret [(.k (.bool true))])
(.pm f246 1 4 [V1]
(.ri V2
(.ret [(.io .gtr V0 V2)]))))):=aB
def d5x:d9 prog [] [] [⟨2,8,[5,6],[]⟩] [⟨4,[0,1,3,0,8,24,56,0,128,384,896,0,2048,6144,0,16384,0,114688,0,262144,0,1048576,0,4194304,16515968,0,33554432,0,134217728,0,1073480576,0,2147483648,0,8589934592,0,68719215488,137438953471,274877906943,549755813887],rDx 40 222050502050502505050005005012500150150,rDx 40 100000100100010001001000100010010,rAx 0 9++rAx 11 13++rAx 25 5++rAx 31 5++[9,10,24,30]++rAx 36 4,[]⟩] 129=some (.rq (.cells 4 V0) (.rq (.cells 6 V1) (.join 2
(.rq (.bool (.cell V1 5 0 noI)) (.br (.cell V1 5 0 noI) (.next 0 [(.ki 0),(.ki 0)]) (.next 0 [(.ki 1000000000),(.ki 63)])))
(.pm f129 4 2 [(.cell V1 0 0 noI),(.k (.string ⟨#[]⟩))]
(.pm f129 4 5 [(.cell V1 0 0 noI)]
(.ri V5
(.rq (.int .i64 (.cell V1 1 0 noI))
(.ri V2
(.call true 178 [(.cell V1 0 0 noI),(.k (.string ⟨#[65,66,67,68,69,70,71,72,73,74,75,76,77,78,79,80,81,82,83,84,85,86,87,88,89,90,97,98,99,100,101,102,103,104,105,106,107,108,109,110,111,112,113,114,115,116,117,118,119,120,121,122,48,49,50,51,52,53,54,55,56,57,45,95]⟩))]
(.pm f129 4 10 [V6,(.k (.string ⟨#[]⟩))]
(.call true 179 [(.cell V1 2 0 noI),(.cell V0 0 0 noI),(.cell V1 1 0 noI)]
(.call true 179 [(.cell V1 3 0 noI),(.cell V0 1 0 noI),V2]
(.call true 179 [(.cell V1 4 0 noI),(.cell V0 2 0 noI),V3]
(.ef true f129 4 37 [V4,(.io .leq V5 (.ki 12)),V7,(.io .geq (.cell V1 1 0 noI) (.ki 0)),(.io .leq (.cell V1 1 0 noI) V2),V8,V9,V10]
(.call true 128 [V11]
(.ret [V12])))))))))))))))):=aB
def d5y:d9 prog [] [] [⟨3,9,[68],[]⟩,⟨0,7,[],[]⟩] [⟨9,[0,0,3,0,0,16,56,120,0,256,775,1799,3847,7943,0,16384,50951,116487,247559,509703,1033991,2097151,4194303,8388607],rDx 18 5001500255++rDx 6 22005,rDx 18 1000100010++rDx 6 1,[0,1]++rAx 3 7++[14,15,2]++rAx 10 4++rAx 16 8,[]⟩] 80=some (.rq (.cells 4 V0)
(.pm f80 1 2 [(.cell V0 3 0 noI)]
(.rq (.int .i64 (.cell V0 0 0 noI)) (.rq (.int .i64 (.cell V0 1 0 noI)) (.rq (.int .i64 (.cell V0 2 0 noI))
(.ri V1
(.ef false f80 2 22 [(.io .geq (.cell V0 0 0 noI) (.ki 0)),(.io .leq (.cell V0 0 0 noI) (.ki 6)),(.io .geq (.cell V0 1 0 noI) (.ki 0)),(.io .leq (.cell V0 1 0 noI) (.ki 12)),(.io .geq (.cell V0 2 0 noI) (.ki 0)),(.io .leq (.cell V0 2 0 noI) (.ki 3)),(.io .gtr V1 (.ki 0)),(.io .leq V1 (.ki 64))]
(.call false 128 [V2]
(.rq (.bool V3) (.br (.nt V3) (.ret [(.ki 161)])
(.ef false f80 4 0 []
(.pm f80 6 2 [(.cell V0 3 0 noI)]
(.loop [(.ki 0),(.k (.bool false)),(.ki 0)]
(.ri V8
(.ri V5
(.br (.io .lss V8 V5)
(.pm f80 8 1 [(.cell V0 3 0 noI),V8]
(.pm f80 8 2 [V9]
(.rq (.cells 6 V10) (.join 1
(.pm f80 9 6 [V4,(.cell V10 0 0 noI)]
(.rq (.bool V11) (.call true 129 [(.ag V0),(.ag V10)]
(.rq (.bool (.cell V10 5 0 noI)) (.br (.cell V10 5 0 noI) (.br (.io .gtr V8 (.ki 0))
(.ef true f80 9 21 [V12,(.nt V11),(.k (.bool true)),(.k (.bool true))]
(.call true 128 [V13]
(.rq (.bool V14) (.next 1 [(.nt V14)]))))
(.ef true f80 9 21 [V12,(.nt V11),(.k (.bool true)),(.nt (.cell V10 5 0 noI))]
(.call true 128 [V13]
(.rq (.bool V14) (.next 1 [(.nt V14)]))))) (.rq (.bool V7) (.br (.io .gtr V8 (.ki 0))
(.ef true f80 9 21 [V12,(.nt V11),(.nt V7),(.k (.bool true))]
(.call true 128 [V13]
(.rq (.bool V14) (.next 1 [(.nt V14)]))))
(.ef true f80 9 21 [V12,(.nt V11),(.nt V7),(.nt (.cell V10 5 0 noI))]
(.call true 128 [V13]
(.rq (.bool V14) (.next 1 [(.nt V14)]))))))))))) (.rq (.bool V11) (.br V11
(.ret [(.ki 161)])
(.ef false f80 11 3 [V4,(.cell V10 0 0 noI),(.k (.bool true))]
(.next 0 [V6,(.cell V10 5 0 noI),(.io .add V8 (.ki 1))])))))))) (.ret [(.ki 0)]))))))))))))))))):=aB
def d5z:d9 prog [] [] [] [] 177=some (.call false 238 [V0,V1]
(.ri V2
(.ret [(.io .geq V2 (.ki 0))]))):=aB
def d5A:d9 prog [] [] [⟨0,2,[],[]⟩] [] 238=some (.pm f238 1 1 [V0]
(.loop [(.ki 0),(.ki 0)]
(.ri V4
(.ri V2
(.br (.io .lss V4 V2)
(.pm f238 4 3 [V0,V4]
(.pm f238 4 4 [V5]
(.rq (.bool V1) (.rq (.bool V6) (.br (.eqb false V1 V6) (.ret [V4]) (.next 0 [V3,(.io .add V4 (.ki 1))])))))) (.ret [(kI (-1))])))))):=aB
def e0z:d9 prog [] [] [] [] 112=some (.call false 113 [V0]
(.ret [V1])):=aB
def d5B:d9 prog [] [] [] [] 162=some (.pm f162 1 1 [V0,(.k (.slice none 0 0))]
(.rq (.bool V1) (.br V1
(.ret [(.k (.slice none 0 0))])
(.ef false f162 3 0 []
(.ef false f162 3 2 [V2,V0]
(.ret [V3])))))):=aB
def d5C:d9 prog [] [] [] [] 81=some (.rq (.cells 2 V0) (.rq (.cells 4 V1) (.call false 79 [(.ag V0)]
(.ri V2
(.br (.io .neq V2 (.ki 0)) (.ret [V2]) (.rq (.int .i64 (.cell V0 0 0 noI)) (.br (.io .gtr (.cell V0 0 0 noI) (.ki 12)) (.ret [(.ki 3)])
(.pm f81 6 2 [(.cell V1 0 0 noI)]
(.ri V3
(.br (.io .neq V3 (.cell V0 0 0 noI)) (.ret [(.ki 2)]) (.call false 130 [(.cell V1 0 0 noI),(.k (.func (.func 131) #[] #[]))]
(.rq (.bool V4) (.br V4
(.ret [(.ki 2)]) (.rq (.int .i64 (.cell V1 3 0 noI)) (.br (.io .lss (.cell V1 3 0 noI) (.ki 1)) (.ret [(.ki 2)]) (.br (.io .gtr (.cell V1 3 0 noI) (.ki 8)) (.ret [(.ki 2)]) (.rq (.int .i64 (.cell V1 1 0 noI)) (.br (.io .lss (.cell V1 1 0 noI) (.ki 0)) (.ret [(.ki 2)]) (.rq (.int .i64 (.cell V1 2 0 noI)) (.br (.io .lss (.cell V1 2 0 noI) (.cell V1 1 0 noI)) (.ret [(.ki 2)]) (.ret [(.ki 0)]))))))))))))))))))))):=aB
def c9r:d9 prog [] [] [] [] 131=some (.ri V0
(.br (.io .lss V0 (.ki 0)) (.ret [(.k (.bool true))]) (.ret [(.io .gtr V0 (.ki 1000000000))]))):=aB
def d5D:d9 prog [1] [] [] [] 115=some (.rq (.cells 1 V0) (.pub 49 V0
(.ef false f115 1 0 [V1]
(.ret [V2])))):=aB
def c9s:d9 prog [] [] [⟨0,2,[],[]⟩] [] 161=some (.pm f161 0 0 [V1]
(.loop [V2]
(.ef false f161 2 2 [V0,V3]
(.rq (.bool V4) (.br (.nt V4) (.ret [])
(.ru V3
(.br (.uo .eql V3 (kU 0)) (.ret [])
(.pm f161 1 2 [V1]
(.ru V5
(.next 0 [(.uo .and (.uo .sub V3 (kU 1)) V5)])))))))))):=aB
@[reducible] def z0_:SV:= .io .shl (.ki 1) (.cn V0 0)
def d5E:d9 prog [7,18,19,33] [] [⟨0,7,[],[]⟩,⟨0,14,[],[]⟩,⟨0,20,[],[]⟩] [⟨4,[0,1,0,4,12,28,63,127,0,511],rDx 10 8330205050,rPx 10 0,rAx 0 9,[9]⟩,⟨9,[0,0,2,7,15,0,32,96,255,511,1023],rDx 11 81005011500,rDx 11 2000200,rAx 0 10,[10]⟩,⟨10,[0,0,2,7,15,0,32,96,255,511,1023],rDx 11 81005011500,rDx 11 2000200,rAx 0 10,[10]⟩,⟨17,rPx 5 0++[16,56,124,252,0,512,0,3584,7680,16380,32767,65535],rDx 17 81011050110000000,rPx 10 0++rDx 7 1,rAx 0 16,[16]⟩,⟨18,[0,0,3,7,0,16,63,127,255,255,1023,2047,255,4351,16383,32767],rDx 16 50110000501100,rDx 16 10000000100000,rAx 0 16,[]⟩,⟨19,[0,1,0,4,3,31],[0,0,0,0,0,0],[0,0,0,0,0,0],[0,1,2,3,4,5],[]⟩] 60=some (.rq (.cells 2 V0) (.rq (.cells 4 V1) (.call false 81 [(.ag V0),(.ag V1)]
(.ri V2
(.br (.io .neq V2 (.ki 0)) (.ret [(.k (.pointer none)),V2]) (.rq (.num (.cell V0 0 0 noI)) (.rq (.nn (.cell V0 0 0 noI))
(.ef true f60 4 5 [z0_,z0_]
(.rq (.cells 1 (.cell V0 0 0 noI)) (.rq (.cells 1 V3) (.pub 205 (.put (.cat (.cell V0 0 0 noI) 1 (.cat (.z 202) 1 (.z 203))) 1 1 V3 0 noI) (.pub 144 (.z 144)
(.ef false f60 4 9 [V5,V4]
(.ef false f60 5 2 [(.cell V0 0 0 noI),(.cell V0 0 0 noI)]
(.pm f60 6 2 [(.cell V0 1 0 noI)]
(.loop [(.ki 0)]
(.ri V9
(.ri V8
(.br (.io .lss V9 V8)
(.pm f60 8 0 [(.cell V0 1 0 noI),V9]
(.pm f60 8 1 [V10]
(.rq (.cells 2 V11)
(.pm f60 9 3 [V7,(.cell V11 0 0 noI)]
(.pm f60 9 4 [V12]
(.rq (.num (.cell V11 1 0 noI)) (.rq (.nn (.cell V11 1 0 noI))
(.ru V13
(.pm f60 9 9 [V7,(.cell V11 0 0 noI)]
(.ef false f60 9 10 [V14,(.uo .or V13 (.uo .shl (kU 1) (.cell V11 1 0 noI)))]
(.pm f60 10 3 [V7,(.cell V11 1 0 noI)]
(.pm f60 10 4 [V16]
(.rq (.num (.cell V11 0 0 noI)) (.rq (.nn (.cell V11 0 0 noI))
(.ru V17
(.pm f60 10 9 [V7,(.cell V11 1 0 noI)]
(.ef false f60 10 10 [V18,(.uo .or V17 (.uo .shl (kU 1) (.cell V11 0 0 noI)))]
(.next 0 [(.io .add V9 (.ki 1))]))))))))))))))))))
(.ef false f60 12 3 [z0_,z0_]
(.loop [(.ki 1)]
(.ri V11
(.br (.io .lss V11 z0_) (.call false 112 [(.cv .u64 V11)]
(.pm f60 17 7 [V10,(.io .and V11 (.io .sub V11 (.ki 1)))]
(.pm f60 17 8 [V13]
(.pm f60 17 12 [(.cell V1 0 0 noI),V12]
(.pm f60 17 13 [V15]
(.ri V14
(.ri V16
(.pm f60 17 15 [V10,V11]
(.ef false f60 17 16 [V17,(.io .add V14 V16)]
(.pm f60 18 2 [V10,V11]
(.pm f60 18 3 [V19]
(.ri V20
(.rq (.int .i64 (.cell V1 1 0 noI)) (.br (.io .lss V20 (.cell V1 1 0 noI)) (.next 1 [(.io .add V11 (.ki 1))])
(.pm f60 18 10 [V10,V11]
(.pm f60 18 11 [V21]
(.ri V22
(.rq (.int .i64 (.cell V1 2 0 noI)) (.br (.io .gtr V22 (.cell V1 2 0 noI)) (.next 1 [(.io .add V11 (.ki 1))]) (.rq (.num V12) (.rq (.nn V12) (.loop [(.uo .shl (kU 1) V12),(.uo .shl (kU 1) V12)]
(.ru V24
(.br (.uo .neq V24 (kU 0)) (.call false 113 [V24]
(.pm f60 23 2 [V7,V25]
(.pm f60 23 3 [V26]
(.ru V27
(.ru V23
(.next 2 [(.uo .or V23 (.uo .andNot (.uo .and V27 (.cv .u64 V11)) V23)),(.uo .or (.uo .and V24 (.uo .sub V24 (kU 1))) (.uo .andNot (.uo .and V27 (.cv .u64 V11)) V23))]))))))
(.pm f60 26 0 [V5]
(.pm f60 26 1 [V25]
(.pm f60 26 2 [V26]
(.pm f60 26 3 [V27]
(.ru V23
(.pm f60 26 9 [V28,V11]
(.ef false f60 26 10 [V29,(.uo .eql V23 (.cv .u64 V11))]
(.next 1 [(.io .add V11 (.ki 1))]))))))))))))))))))))))))))))))))
(.ef false f60 27 0 []
(.pub 209 (.z 209)
(.ef false f60 27 2 [V13,V12]
(.pub 210 (.z 210)
(.ef false f60 29 0 [V13,V5,V15]
(.ef false f60 29 1 [V15,V16]
(.pm f60 30 0 [V5]
(.ef false f60 30 1 [V15,V5]
(.pm f60 30 2 [V18]
(.pm f60 30 3 [V20]
(.ef false f60 30 4 [V21,V19]
(.pm f60 31 0 [V5]
(.ret [V23,(.ki 0)])))))))))))))))))))))))))))))))))))):=aB
@[reducible] def z1_:SV:= .uo .and (.cn V0 0) (.op1 .neg .u64 (.cn V0 0))
def c9t:d9 prog [999999] [] [⟨4,12,[],[3]⟩] [⟨9,[0,0,2,7,0,0,48,127],rDx 8 88330055,rPx 6 0++[3,3],[0,1,2,3,4,5],[6,7]⟩,⟨12,[0,1,3,7,0,0,48,127,255],rDx 9 110501111,rDx 9 400000,rAx 0 9,[]⟩,⟨13,[0,0,0,0,12,0,60,0,128,510,1023,2047],rDx 12 608050500515,rDx 12 300010400003,rAx 0 9,[9,10,11]⟩] 114=some (.rq (.cells 1 V0) (.rq (.cells 1 V1) (.rq (.int .u64 (.cell V0 0 0 noI)) (.br (.uo .eql (.cell V0 0 0 noI) (kU 0)) (.rq (.int .i64 (.cell V1 0 0 noI)) (.br (.io .eql (.cell V1 0 0 noI) (.ki 0)) (.ret [(.ki 1)]) (.ret [(.ki 0)]))) (.rq (.int .i64 (.cell V1 0 0 noI)) (.br (.io .eql (.cell V1 0 0 noI) (.ki 0)) (.ret [(.ki 0)]) (.rq (.cells 1 (.cell V0 0 0 noI))
(.pm f114 6 0 [V2]
(.pm f114 6 2 [V5,(.put (.put (.z 211) 0 1 (.cell V0 0 0 noI) 0 noI) 1 1 (.cv .u64 (.cell V1 0 0 noI)) 0 noI)]
(.rq (.tup 0 V6) (.rq (.tup 1 V6) (.rq (.bool (.pj V6 1)) (.br (.pj V6 1) (.ret [(.pj V6 0)]) (.call false 115 [(.uo .andNot (.cell V0 0 0 noI) z1_)]
(.rf V7 1 [(.ki 0)]
(.pm f114 12 0 [V3]
(.pm f114 12 1 [V10]
(.pm f114 12 2 [V11]
(.pm f114 12 3 [V12]
(.ru V8
(.pm f114 12 7 [V13,(.uo .or V8 z1_)]
(.pm f114 12 8 [V14]
(.rq (.bool V15) (.br V15
(.pm f114 13 1 [V4]
(.ef false f114 13 9 [V16,(.uo .andNot (.uo .andNot (.cell V0 0 0 noI) V8) z1_),(.io .sub (.cell V1 0 0 noI) (.ki 1))]
(.rq (.int .i64 (.cell V9 0 0 noI))
(.ri V17
(.next 0 [(.io .add (.cell V9 0 0 noI) V17)]))))) (.next 0 [V9]))))))))))
(.pm f114 14 0 [V2]
(.ef false f114 14 3 [V9,(.put (.put (.z 211) 0 1 (.cell V0 0 0 noI) 0 noI) 1 1 (.cv .u64 (.cell V1 0 0 noI)) 0 noI),(.cell V8 0 0 noI)]
(.ret [(.cell V8 0 0 noI)]))) (.dead 818)))))))))))))))):=aB
def PX:d9 prog [999999] [] [⟨4,7,[],[3]⟩] [⟨7,[0,1,3,7,0,16,48,0,240,511,1023],rDx 11 11001151111,rPx 11 0,rAx 0 11,[]⟩,⟨8,[0,0,2,6,14,0,32,0,0,384,0,1024,4094,8191,16383],rDx 15 608050051511115,rDx 15 300020010000003,rAx 0 12,[12,13,14]⟩] 116=some (.rq (.cells 1 V0) (.rq (.cells 1 V1) (.rq (.cells 1 V2)
(.pm f116 1 1 [(.cell V0 0 0 noI)]
(.ri V5
(.br (.io .eql V5 (.ki 0))
(.pm f116 2 0 [V3]
(.ef false f116 2 3 [V6,(.cell V1 0 0 noI),(.cell V2 0 0 noI)]
(.ret [V7])))
(.pm f116 4 1 [(.cell V0 0 0 noI)]
(.ri V6
(.rq (.int .i64 (.cell V2 0 0 noI)) (.br (.io .leq V6 (.cell V2 0 0 noI)) (.call false 115 [(.cell V1 0 0 noI)]
(.rf V7 1 [(.ki 0)]
(.pm f116 7 0 [V4]
(.pm f116 7 1 [V10]
(.pm f116 7 2 [V11]
(.pm f116 7 3 [V12]
(.pm f116 7 5 [(.cell V0 0 0 noI),(.ki 0)]
(.pm f116 7 6 [V14]
(.ru V15
(.ru V8
(.pm f116 7 9 [V13,(.uo .or V15 V8)]
(.pm f116 7 10 [V16]
(.rq (.bool V17) (.br V17
(.pm f116 8 1 [V4]
(.pm f116 8 2 [V18]
(.pm f116 8 3 [V19]
(.pm f116 8 4 [V20]
(.pm f116 8 6 [(.cell V0 0 0 noI),(.ki 1)]
(.rq (.int .u64 (.cell V1 0 0 noI))
(.ef false f116 8 12 [V21,V22,(.uo .andNot (.cell V1 0 0 noI) V8),(.io .sub (.cell V2 0 0 noI) (.ki 1))]
(.rq (.int .i64 (.cell V9 0 0 noI))
(.ri V23
(.next 0 [(.io .add (.cell V9 0 0 noI) V23)])))))))))) (.next 0 [V9]))))))))))))) (.ret [(.cell V8 0 0 noI)]) (.dead 818))) (.ret [(.ki 0)]))))))))))):=aB
def b3E:(opr f116 8 6).op= .slice 104 (.tmp 41) (some (.const (.int .i64 (1)))) none none:=aB
def d5F:d9 prog [] [] [] [⟨4,[0,0,3,7,0,16,63,127,255],rDx 9 810001100,rPx 9 0,rAx 0 8,[8]⟩] 117=some (.call false 162 [V0]
(.pm f117 2 2 [V3]
(.ri V2
(.ri V4
(.br (.io .eql V2 V4)
(.ef false f117 3 1 [(kU 0)]
(.ef false f117 3 2 [V3,V5]
(.pm f117 4 2 [V6,V2]
(.pm f117 4 3 [V7]
(.rq (.num V1) (.rq (.nn V1)
(.ru V8
(.pm f117 4 7 [V6,V2]
(.ef false f117 4 8 [V9,(.uo .or V8 (.uo .shl (kU 1) V1))]
(.ret [V6]))))))))))
(.pm f117 4 2 [V3,V2]
(.pm f117 4 3 [V5]
(.rq (.num V1) (.rq (.nn V1)
(.ru V6
(.pm f117 4 7 [V3,V2]
(.ef false f117 4 8 [V7,(.uo .or V6 (.uo .shl (kU 1) V1))]
(.ret [V3]))))))))))))):=aB
def d5G:d9 prog [] [] [⟨0,4,[],[]⟩,⟨0,9,[],[]⟩] [⟨6,[0,1,3,7,15,0,32,96,255,511],rDx 10 1110,rPx 10 0,rAx 0 10,[]⟩] 62=some (.pm f62 3 1 [V0]
(.pm f62 3 2 [V3]
(.pm f62 3 3 [V4]
(.loop [(.k (.slice none 0 0)),(.k (.slice none 0 0)),V2,(.ki 0)]
(.ri V9
(.ri V5
(.br (.io .lss V9 V5)
(.pm f62 6 1 [V0]
(.pm f62 6 2 [V10]
(.pm f62 6 3 [V11]
(.rq (.num V12) (.rq (.nn V12) (.rq (.nn (.io .add V9 (.ki 1))) (.loop [V6,V7,V8,(.ki 0)]
(.call false 117 [V14,V9,V16]
(.pm f62 10 1 [V0]
(.pm f62 10 2 [V18]
(.pm f62 10 3 [V19]
(.ef false f62 10 7 [V20,V17,(.uo .sub (.uo .shl (kU 1) V12) (.uo .shl (kU 1) (.io .add V9 (.ki 1)))),V1]
(.ri V15
(.ri V21
(.br (.io .lss V15 V21)
(.ef false f62 12 2 [V16]
(.ef false f62 12 3 [V13,V22]
(.next 0 [V23,V17,V15,(.io .add V9 (.ki 1))])))
(.ri V16
(.next 1 [V13,V14,(.io .sub V15 V21),(.io .add V16 (.ki 1))]))))))))))))))))) (.ret [V6])))))))):=aB
def d5H:d9 prog [999999] [] [] [⟨1,[0,1,3,7,0,16,48,112,240,496,0,2047,4095],rDx 13 800011101110,rPx 13 0,rAx 0 11,[11,12]⟩] 61=some (.pm f61 1 1 [V0]
(.pm f61 1 2 [V2]
(.pm f61 1 3 [V3]
(.pm f61 1 5 [V0]
(.pm f61 1 6 [V5]
(.pm f61 1 7 [V6]
(.rq (.num V7) (.rq (.nn V7)
(.ef false f61 1 11 [V4,(.k (.slice none 0 0)),(.uo .sub (.uo .shl (kU 1) V7) (kU 1)),V1]
(.ret [V8])))))))))):=aB
def d5I:d9 prog [] [] [⟨0,9,[],[]⟩] [] 13=some (.rq (.cells 2 V0) (.rq (.cells 4 V1) (.call false 60 [(.ag V0),(.ag V1)]
(.rq (.tup 0 V2) (.rq (.tup 1 V2) (.rq (.int .i64 (.pj V2 1)) (.br (.io .neq (.pj V2 1) (.ki 0)) (.ret [(.k (.slice none 0 0)),(.pj V2 1)]) (.call false 61 [(.pj V2 0),(.cell V1 3 0 noI)]
(.ri V3
(.br (.io .gtr V3 (.ki 400)) (.ret [(.k (.slice none 0 0)),(.ki 3)]) (.loop [(.k (.slice none 0 0)),(.ki 0)]
(.ri V5
(.br (.io .lss V5 V3) (.call false 62 [(.pj V2 0),(.cell V1 3 0 noI),V5]
(.ef false f13 11 6 [V6]
(.ef false f13 11 7 [V4,V7]
(.next 0 [V8,(.io .add V5 (.ki 1))])))) (.ret [V4,(.ki 0)])))))))))))))):=aB
end Go.Z
namespace Go.GS
def PY {a b:Nat} (h:∀y,bit b y=true->bit a y=true):b<=a:=by
 have:b&&&a=b:=Hj fun y=>by
  rw[Il];cases hb:bit b y with
  |false=>rfl
  |true=>rw[h y hb];rfl
 rw[<-this];exact jR
def d5J {part rest x k:Nat} (hk:bit part k=true) (hl:∀j,j<k->bit part j=false) (hp:part&&&rest=part) (hx:x&&&rest=x) (qB:x<part):x<=(part-1)&&&rest:=by
 have hs:=LY hk hl;have hpr:∀y,bit part y=true->bit rest y=true:=fun y hy=>by
  have:bit (part&&&rest) y=true:=by rw[hp];exact hy
  rw[Il,aQ]at this;exact this.2
 have hxr:∀y,bit x y=true->bit rest y=true:=fun y hy=>by
  have:bit (x&&&rest) y=true:=by rw[hx];exact hy
  rw[Il,aQ]at this;exact this.2
 have hq:∀y,bit (2^(k+1)*(part/2^(k+1))) y=(decide (k+1<=y)&&bit part y):=fun y=>by
  unfold bit;rw[jS,mB];by_cases h:k+1<=y
  ·rw[oDd h];simp only[iV];congr 1;omega
  ·rw[decide_eq_false h];simp
 have pY:2^(k+1)*(part/2^(k+1))<=(part-1)&&&rest:=PY fun y hy=>by
  rw[hq,aQ,oDi]at hy;rw[Il,Zv hk hl,if_neg aA,if_neg aA,hy.2,hpr y hy.2];rfl
 generalize hQ:part/2^(k+1)=q at hs hq pY;have tL:2^(k+1)=2^k*2:=Nat.pow_succ ..;have rS:=iO k;have h1:x/2^k<2*q+1:=by
  rw[Nat.div_lt_iff_lt_mul rS];have:(2*q+1)*2^k=2^(k+1)*q+2^k:=by rw[tL];grind
  omega
 by_cases e:x/2^k=2*q
 ·refine PY fun y hy=> ?_;rw[Il,Zv hk hl,hxr y hy,Bool.and_true];by_cases h2:y<k
  ·rw[if_pos h2]
  ·have h3:bit (2^(k+1)*q) y=true:=by
    have e2:2^(k+1)*q=2^k*(x/2^k):=by rw[e,tL];grind
    rw[e2];unfold bit;rw[jS,mB,oDd (show y≥k by omega),iV];have:y-k+k=y:=aA;rw[this];exact hy
   rw[hq,aQ,oDi]at h3;rw[if_neg h2,if_neg aA];exact h3.2
 ·have h2:x/2^k+1<=2*q:=aA;have h3:=Nat.lt_mul_div_succ x rS;have h4:2^k*(x/2^k+1)<=2^k*(2*q):=Nat.mul_le_mul_left _ h2;have e2:2^(k+1)*q=2^k*(2*q):=by rw[tL];grind
  omega
def c9u {s:Nat} (h0:s≠0):∃k,bit s k=true/\∀j,j<k->bit s j=false:=by
 obtain⟨x,hx⟩:∃x,bit s x=true:=cL fun hh=>h0 (Hj fun y=>by rw[Gk];cases hb:bit s y with|false=>rfl|true=>exact absurd ⟨y,hb⟩ hh);have:∀m,(∃k,k<m/\bit s k=true)->∃k,bit s k=true/\∀j,j<k->bit s j=false:=by
  intro m;induction m with
  |zero=>rintro⟨k,h,_⟩;omega
  |succ m ih=>
   rintro⟨k,h1,h2⟩;by_cases h:∃k,k<m/\bit s k=true
   ·exact ih h
   ·refine⟨k,h2,fun j hj=> ?_⟩;cases hb:bit s j with
    |false=>rfl
    |true=>exact absurd ⟨j,aA,hb⟩ h
 exact this (x+1) ⟨x,aA,hx⟩
def Hq (S:Nat):Nat->Nat->List Nat
 |0,_=>[]
 |f+1,s=>s::if s=0 then[]else Hq S f ((s-1)&&&S)
def sbs (S:Nat):List Nat:=Hq S (S+1) S
def PZ {S:Nat}:∀{f s:Nat},s&&&S=s->∀x∈Hq S f s,x&&&S=x/\x<=s:=by
 intro f;induction f with
 |zero=>intro s _ x h;cases h
 |succ f ih=>
  intro s hs x hx;unfold Hq at hx;rcases bG.1 hx with rfl|hx
  ·exact⟨hs,aS _⟩
  ·split at hx
   ·cases hx
   ·obtain⟨h1,h2⟩:=ih (by rw[kL,iM]) x hx;have:(s-1)&&&S<=s-1:=iI;exact⟨h1,aA⟩
def c9v {S:Nat}:∀{f s x:Nat},s<f->s&&&S=s->x&&&S=x->x<=s->x∈Hq S f s:=by
 intro f;induction f with
 |zero=>intro s x h;omega
 |succ f ih=>
  intro s x hf hs hx pY;unfold Hq;rw[bG];by_cases e:x=s
  ·exact .inl e
  ·have h0:s≠0:=aA;obtain⟨k,hk,hl⟩:=c9u h0;have vW:=d5J hk hl hs hx aA;have:(s-1)&&&S<=s-1:=iI;rw[if_neg h0];exact .inr (ih aA (by rw[kL,iM]) hx vW)
def d5K {S:Nat}:∀{f s:Nat},s&&&S=s->(Hq S f s).Nodup:=by
 intro f;induction f with
 |zero=>intro s _;exact gI
 |succ f ih=>
  intro s hs;unfold Hq;refine List.nodup_cons.2 ⟨fun h=> ?_,?_⟩
  ·split at h
   ·cases h
   ·have h1:=(PZ (by rw[kL,iM]) s h).2;have:(s-1)&&&S<=s-1:=iI;omega
  ·split
   ·exact gI
   ·exact ih (by rw[kL,iM])
def sbs_mem {S s:Nat}:s∈sbs S↔s&&&S=s:=by
 refine⟨fun h=>(PZ (iM S) s h).1,fun h=>c9v (bW S) (iM S) h ?_⟩;rw[<-h];exact jR
def BA (S:Nat):(sbs S).Nodup:=d5K (iM S)
def sbT (S:Nat) (F:Nat->Nat):Nat:=((sbs S).map F).sum
def sub_bit_iff {s S:Nat}:s&&&S=s↔∀i,s.testBit i=true->S.testBit i=true:=by
 constructor
 ·intro h i hi;rw[<-h,jB,aQ]at hi;exact hi.2
 ·intro h;apply fA;intro i;rw[jB];cases hs:s.testBit i with
  |false=>rfl
  |true=>rw[h i hs];rfl
def c3g {v R:Nat} (hv:R.testBit v=false) (F:Nat->Nat):sbT (R|||2^v) F=sbT R F+sbT R fun s=>F (s|||2^v):=by
 have tb:∀i,(2^v).testBit i=decide (v=i):=fun i=>by rw[fK]
 have hp:(sbs (R|||2^v)).Perm (sbs R++(sbs R).map fun s=>s|||2^v):=by
  refine(List.perm_ext_iff_of_nodup (BA _) ?_).2 fun s=> ?_
  ·rw[List.nodup_append];refine⟨BA R,?_,?_⟩
   ·rw[lH,List.pairwise_map];refine(lH.1 (BA R)).imp_of_mem ?_;intro a b ha hb qJ e;apply qJ;apply fA;intro i;have e1:=congrArg (fun x=>pO x i) e;simp only[fC,tb]at e1;by_cases hi:v=i
    ·subst hi;have h1:a.testBit v=false:=by
      cases h:a.testBit v with
      |false=>rfl
      |true=>rw[sub_bit_iff.1 (sbs_mem.1 ha) v h]at hv;cases hv
     have h2:b.testBit v=false:=by
      cases h:b.testBit v with
      |false=>rfl
      |true=>rw[sub_bit_iff.1 (sbs_mem.1 hb) v h]at hv;cases hv
     rw[h1,h2]
    ·simpa[hi]using e1
   ·intro a ha b hb e;obtain⟨c,hc,rfl⟩:=aZ.1 hb;have:a.testBit v=true:=by rw[e,fC,tb];simp
    rw[sub_bit_iff.1 (sbs_mem.1 ha) v this]at hv;cases hv
  ·rw[aV,aZ,sbs_mem,sbs_mem,sub_bit_iff,sub_bit_iff];constructor
   ·intro h;cases hs:s.testBit v with
    |false=>
     refine .inl fun i hi=> ?_;have:=h i hi;rw[fC,tb]at this;by_cases e:v=i
     ·subst e;rw[hs]at hi;cases hi
     ·simpa[e]using this
    |true=>
     refine .inr ⟨s^^^2^v,?_,?_⟩
     ·rw[sbs_mem,sub_bit_iff];intro i hi;rw[oN,tb]at hi;by_cases e:v=i
      ·subst e;rw[hs]at hi;simp at hi
      ·have h1:s.testBit i=true:=by simpa[e]using hi
       have:=h i h1;rw[fC,tb]at this;simpa[e]using this
     ·apply fA;intro i;rw[fC,oN,tb];by_cases e:v=i
      ·subst e;rw[hs];simp
      ·simp[e]
   ·rintro(h|⟨c,hc,rfl⟩) i hi
    ·rw[fC,h i hi];rfl
    ·rw[sbs_mem,sub_bit_iff]at hc;rw[fC]at hi⊢;rw[cO]at hi;rcases hi with hi|hi
     ·rw[hc i hi];rfl
     ·rw[hi];simp
 unfold sbT;rw[(hp.map F).sum_nat,bM,List.sum_append_nat,dO];rfl
def Wu {S:Nat} {F G:Nat->Nat} (h:∀s∈sbs S,F s=G s):sbT S F=sbT S G:=by
 unfold sbT;rw[dK h]
def d5L (S:Nat) (F G:Nat->Nat):sbT S (fun s=>F s+G s)=sbT S F+sbT S G:=by
 unfold sbT;induction sbs S with
 |nil=>rfl
 |cons a l ih=>simp only[bI,eP,ih];omega
def QA (S:Nat):sbT S (fun _=>0)=0:=by
 unfold sbT;induction sbs S with
 |nil=>rfl
 |cons a l ih=>simp only[bI,eP,ih]
def c9w (S:Nat) {α:Type} (L:List α) (F:α->Nat->Nat):sbT S (fun s=>(L.map fun a=>F a s).sum)=(L.map fun a=>sbT S (F a)).sum:=by
 induction L with
 |nil=>exact QA S
 |cons a l ih=>simp only[bI,eP,d5L,ih]
def c9x:sbs 0=[0]:=aC
def c9y (F:Nat->Nat):sbT 0 F=F 0:=by unfold sbT;rw[c9x];simp
def c9z (S:Nat):∀f s,(Hq S f s).length<=s+1:=by
 intro f;induction f with
 |zero=>intro s;exact bK _
 |succ f ih=>
  intro s;unfold Hq;rw[aP];split
  ·simp
  ·have:=ih ((s-1)&&&S);have:(s-1)&&&S<=s-1:=iI;omega
def d5M (S:Nat):(sbs S).length<=S+1:=c9z S _ _
def QB {S B:Nat} {F:Nat->Nat} (h:∀s∈sbs S,F s<=B):sbT S F<=(S+1)*B:=by
 have:∀l:List Nat,(∀s∈l,F s<=B)->(l.map F).sum<=l.length*B:=by
  intro l;induction l with
  |nil=>intro _;simp
  |cons a l ih=>
   intro h;have h1:=h a (.head _);have h2:=ih fun s hs=>h s (.tail _ hs);simp only[bI,eP,aP,dC,cQ];omega
 exact cK (this _ h) (bC _ (d5M S))
def d5N (a b:Nat):sdf a b&&&a=sdf a b:=by
 apply fA;intro i;rw[jB,Ls];cases a.testBit i<;>simp
def ak {s S:Nat} (h:s&&&S=s):s<=S:=by rw[<-h];exact jR
def BB (a b:Nat):sdf a b<=a:=ak (d5N a b)
def Tt {a b n:Nat} (h:a<2^n):sdf a b<2^n:=bO (BB a b) h
def Tu (S:Nat):Nat:=(eO S).foldr (fun i r=>if S.testBit i then i else r) 0
def Ae (ft:Nat->Bool):Nat->Nat->Nat
 |0,S=>if S=0 then 1 else 0
 |k+1,S=>if S=0 then 0 else sbT (sdf S (2^Tu S)) fun s=>if ft (s|||2^Tu S)then Ae ft k (sdf (sdf S s) (2^Tu S))else 0
def t7 (ft:Nat->Bool):List Nat->Nat->Nat->Nat
 |[],R,k=>Ae ft k R
 |_::_,_,0=>0
 |c::cs,R,k+1=>sbT R fun s=>if ft (c|||s)then t7 ft cs (sdf R s) k else 0
def BC (ft:Nat->Bool) (c:Nat) (cs:List Nat) (R k:Nat):t7 ft (c::cs) R (k+1)=sbT R fun s=>if ft (c|||s)then t7 ft cs (sdf R s) k else 0:=rfl
def QC {ft:Nat->Bool}:∀(cs:List Nat) (R k:Nat),k<cs.length->t7 ft cs R k=0:=by
 intro cs;induction cs with
 |nil=>intro R k h;cases h
 |cons c cs ih=>
  intro R k h;cases k with
  |zero=>rfl
  |succ k=>
   unfold t7;rw[Wu (G:=fun _=>0) fun s _=>by split;(exact ih _ _ (by simpa using h));rfl];exact QA _
def QD {ft:Nat->Bool} {n:Nat}:∀(k S:Nat),S<2^n->Ae ft k S<=2^(n*k):=by
 intro k;induction k with
 |zero=>intro S _;unfold Ae;split<;>simp
 |succ k ih=>
  intro S hS;unfold Ae;split
  ·exact bK _
  ·have:=Tt (b:=2^Tu S) hS;refine cK (QB (B:=2^(n*k)) fun s _=> ?_) ?_
   ·split
    ·exact ih _ (Tt (Tt hS))
    ·exact bK _
   ·rw[iD,fW,eF (2^(n*k))];exact bC _ this
def QE {ft:Nat->Bool} {n:Nat}:∀(cs:List Nat) (R k:Nat),R<2^n->t7 ft cs R k<=2^(n*k):=by
 intro cs;induction cs with
 |nil=>intro R k h;exact QD k R h
 |cons c cs ih=>
  intro R k hR;cases k with
  |zero=>exact bK _
  |succ k=>
   unfold t7;refine cK (QB (B:=2^(n*k)) fun s _=> ?_) ?_
   ·split
    ·exact ih _ _ (Tt hR)
    ·exact bK _
   ·rw[iD,fW,eF (2^(n*k))];exact bC _ hR
def u0 (cs:List Nat) (v l:Nat):List Nat:=if l<cs.length then cs.modify l (· |||2^v)else cs++[2^v]
def QF {R v:Nat} (h:∀i,i<=v->R.testBit i=false):Tu (R|||2^v)=v:=by
 have hv:(R|||2^v).testBit v=true:=by rw[fC,fK];simp
 have hl:∀i,i<v->(R|||2^v).testBit i=false:=fun i hi=>by
  rw[fC,fK,h i aA];simp;omega
 have qB:v<R|||2^v:=aU (Nat.lt_two_pow_self) Nat.right_le_or;unfold Tu;have:eO (R|||2^v)=eO v++v::(nG (v+1) ((R|||2^v)-(v+1))):=by
  rw[kA,kA,<-nU];have:=List.range'_append (s:=0) (m:=v) (n:=(R|||2^v)-(v+1)+1) (step:=1);rw[bJ,cQ]at this;rw[this];congr 1;omega
 rw[this,List.foldr_append,oC,if_pos hv];have:∀l:List Nat,(∀i∈l,i<v)->l.foldr (fun i r=>if(R|||2^v).testBit i then i else r) v=v:=by
  intro l;induction l with
  |nil=>intro _;rfl
  |cons a l ih=>intro h;rw[oC,if_neg (by rw[hl a (h a (.head _))];simp)];exact ih fun i hi=>h i (.tail _ hi)
 exact this _ fun i hi=>aW.1 hi
def QG {R v:Nat} (h:R.testBit v=false):sdf (R|||2^v) (2^v)=R:=by
 apply fA;intro i;rw[Ls,fC,fK];by_cases e:v=i
 ·subst e;rw[h];simp
 ·simp[e]
def QH {R s v:Nat} (h:R.testBit v=false) (hs:s&&&R=s):sdf (R|||2^v) s=sdf R s|||2^v:=by
 apply fA;intro i;have hb:=sub_bit_iff.1 hs v;rw[Ls,fC,fC,Ls,fK];by_cases e:v=i
 ·subst e;cases hsv:s.testBit v with
  |false=>simp
  |true=>rw[hb hsv]at h;cases h
 ·simp[e]
def d5P {R s v:Nat} (h:R.testBit v=false):sdf (R|||2^v) (s|||2^v)=sdf R s:=by
 apply fA;intro i;rw[Ls,fC,fC,Ls,fK];by_cases e:v=i
 ·subst e;rw[h];simp
 ·simp[e]
def QI {R s v:Nat} (h:∀i,i<=v->R.testBit i=false):∀i,i<=v->(sdf R s).testBit i=false:=fun i hi=>by rw[Ls,h i hi];rfl
def lu {ft:Nat->Bool} {v:Nat}:∀(cs:List Nat) (R k:Nat),(∀i,i<=v->R.testBit i=false)->
  t7 ft cs (R|||2^v) k=((eO (cs.length+1)).map fun l=>t7 ft (u0 cs v l) R k).sum:=by
 intro cs;induction cs with
 |nil=>
  intro R k hR;have qJ:R|||2^v≠0:=fun e=>by
   have:=congrArg (fun x=>pO x v) e;simp at this
  show Ae ft k (R|||2^v)=(t7 ft [2^v] R k+0);cases k with
  |zero=>unfold Ae;rw[if_neg qJ];rfl
  |succ k=>
   unfold Ae;rw[if_neg qJ,QF hR,QG (hR v (aS _))];show _=sbT R _+0;rw[cJ];refine Wu fun s hs=> ?_;rw[pP,QH (hR v (aS _)) (sbs_mem.1 hs),QG (QI hR v (aS _))];rfl
 |cons c cs ih=>
  intro R k hR;cases k with
  |zero=>
   show 0=_
   symm
   have:∀l,t7 ft (u0 (c::cs) v l) R 0=0:=fun l=>by
    unfold u0;split
    ·exact QC _ _ _ aD
    ·rfl
   simp only[this];induction eO ((c::cs).length+1)with
   |nil=>rfl
   |cons a l ih=>rw[bI,eP,ih]
  |succ k=>
   have hv:=hR v (aS _);have e1:t7 ft (c::cs) (R|||2^v) (k+1)=sbT R (fun s=>if ft (c|||s)then((eO (cs.length+1)).map fun l=>t7 ft (u0 cs v l) (sdf R s) k).sum else 0)+sbT R (fun s=>if ft (c|||(s|||2^v))then t7 ft cs (sdf R s) k else 0):=by
    rw[BC,c3g hv];congr 1
    ·refine Wu fun s hs=> ?_;rw[QH hv (sbs_mem.1 hs),ih (sdf R s) k (QI hR)]
    ·refine Wu fun s hs=> ?_;rw[d5P hv]
   rw[e1,aP,List.range_succ_eq_map (n:=cs.length+1),bI (f:=fun l=>t7 ft (u0 (c::cs) v l) R (k+1)),eP,Nat.add_comm];congr 1
   ·show _=t7 ft ((c|||2^v)::cs) R (k+1);rw[BC];refine Wu fun s _=> ?_;rw[pP s,<-Nat.or_assoc]
   ·rw[dO];have e2:∀l,t7 ft (u0 (c::cs) v (l+1)) R (k+1)=sbT R fun s=>if ft (c|||s)then t7 ft (u0 cs v l) (sdf R s) k else 0:=fun l=>by
     unfold u0;by_cases hl:l<cs.length
     ·rw[if_pos (by simpa using hl),if_pos hl];rfl
     ·rw[if_neg (by simpa using hl),if_neg hl];rfl
    rw[show(fun l=>t7 ft (u0 (c::cs) v l) R (k+1)) ∘ Nat.succ=fun l=>sbT R fun s=>if ft (c|||s)then t7 ft (u0 cs v l) (sdf R s) k else 0 from funext e2,<-c9w];refine Wu fun s _=> ?_;split
    ·rfl
    ·induction eO (cs.length+1)with
     |nil=>rfl
     |cons a l ih=>rw[bI,eP,<-ih]
def z7 (n v:Nat):Nat:=2^n-2^v
def c9A {n v:Nat} (h:v<=n):z7 n v=2^v*(2^(n-v)-1):=by
 unfold z7;rw[Nat.mul_sub,<-fW,Nat.mul_one,Nat.add_sub_cancel' h]
def BD {n v:Nat} (h:v<=n) (i:Nat):(z7 n v).testBit i=(decide (v<=i)&&decide (i<n)):=by
 rw[c9A h,jS,Nat.testBit_two_pow_sub_one];by_cases hv:v<=i
 ·simp[hv];omega
 ·simp[hv]
def lw {n v:Nat} (h:v<n):z7 n v=z7 n (v+1)|||2^v:=by
 apply fA;intro i;rw[BD (Nat.le_of_lt h),fC,BD h,fK];by_cases e:v=i
 ·subst e;simp[h]
 ·have:decide (v<=i)=decide (v+1<=i):=by rw[decide_eq_decide];omega
  simp[e,this]
def ly {n v:Nat} (h:v<n):∀i,i<=v->(z7 n (v+1)).testBit i=false:=fun i hi=>by
 rw[BD h];simp;omega
def md (n v:Nat):z7 n v<2^n:=by
 have:=iO v;have:=iO n;unfold z7;omega
def BE (n:Nat):z7 n n=0:=dS _
def Ea (c:Nat->Nat):Nat->Nat->Nat->Nat×Nat
 |0,l,i=>(l,i)
 |f+1,l,i=>if i<c l then(l,i)else Ea c f (l+1) (i-c l)
def b9e (c:Nat->Nat) (f l i:Nat):Ea c (f+1) l i=if i<c l then(l,i)else Ea c f (l+1) (i-c l):=rfl
def QJ {c:Nat->Nat}:∀(m l i:Nat),i<((nG l m).map c).sum->(Ea c m l i).1<l+m/\(Ea c m l i).2<c (Ea c m l i).1:=by
 intro m;induction m with
 |zero=>intro l i h;simp at h
 |succ m ih=>
  intro l i h;rw[nU,bI,eP]at h;unfold Ea;split
  ·rename_i hi;exact⟨aA,hi⟩
  ·rename_i hi;have:=ih (l+1) (i-c l) aA;exact⟨aA,this.2⟩
def stN (ft:Nat->Bool) (n k i:Nat):Nat->List Nat×List Nat×Nat
 |0=>([],[],i)
 |v+1=>((stN ft n k i v).1++[(Ea (fun l=>t7 ft (u0 (stN ft n k i v).2.1 v l) (z7 n (v+1)) k) ((stN ft n k i v).2.1.length+1) 0 (stN ft n k i v).2.2).1],
   u0 (stN ft n k i v).2.1 v (Ea (fun l=>t7 ft (u0 (stN ft n k i v).2.1 v l) (z7 n (v+1)) k) ((stN ft n k i v).2.1.length+1) 0 (stN ft n k i v).2.2).1,
   (Ea (fun l=>t7 ft (u0 (stN ft n k i v).2.1 v l) (z7 n (v+1)) k) ((stN ft n k i v).2.1.length+1) 0 (stN ft n k i v).2.2).2)
def Jy (ft:Nat->Bool) (n k i:Nat):List Nat:=(stN ft n k i n).1
def Pm (cs:List Nat) (v l:Nat):(u0 cs v l).length=if l<cs.length then cs.length else cs.length+1:=by
 unfold u0;split<;>simp
structure StI (ft:Nat->Bool) (n k v:Nat) (s:List Nat×List Nat×Nat):Prop where
 len:s.1.length=v
 lt:∀l∈s.1,l<s.2.1.length
 all:∀l,l<s.2.1.length->l∈s.1
 cnt:s.2.2<t7 ft s.2.1 (z7 n v) k
def mf {ft:Nat->Bool} {n k i:Nat} (hi:i<t7 ft [] (z7 n 0) k):∀v,v<=n->StI ft n k v (stN ft n k i v):=by
 intro v;induction v with
 |zero=>intro _;exact⟨rfl,(fun l h=>nomatch h),(fun l h=>nomatch h),hi⟩
 |succ v ih=>
  intro hv;have h:=ih aA;have h0:=h.cnt;rw[lw aA,lu _ _ _ (ly aA),kA]at h0;have hp:=QJ (c:=fun l=>t7 ft (u0 (stN ft n k i v).2.1 v l) (z7 n (v+1)) k) _ _ _ h0;show StI ft n k (v+1) (_,_,_);generalize hq:Ea (fun l=>t7 ft (u0 (stN ft n k i v).2.1 v l) (z7 n (v+1)) k) ((stN ft n k i v).2.1.length+1) 0 (stN ft n k i v).2.2=q at hp⊢;obtain⟨tZ,rP⟩:=hp;refine⟨by simp[h.len],fun l hl=> ?_,fun l hl=> ?_,rP⟩
  ·show l<(u0 _ _ _).length;rw[Pm];rcases aV.1 hl with hl|hl
   ·have:=h.lt l hl;split<;>omega
   ·rw[bB]at hl;subst hl;split
    ·assumption
    ·omega
  ·replace hl:l<(u0 _ _ _).length:=hl;rw[Pm]at hl;show l∈_++[_];rw[aV,bB];split at hl
   ·exact .inl (h.all l hl)
   ·by_cases e:l=q.1
    ·exact .inr e
    ·exact .inl (h.all l aA)
def BF {ft:Nat->Bool}:∀(cs:List Nat) (k:Nat),t7 ft cs 0 k=if k=cs.length/\∀c∈cs,ft c=true then 1 else 0:=by
 intro cs;induction cs with
 |nil=>
  intro k;show Ae ft k 0=_;cases k with
  |zero=>simp[Ae]
  |succ k=>simp[Ae]
 |cons c cs ih=>
  intro k;cases k with
  |zero=>rw[if_neg aD];rfl
  |succ k=>
   rw[BC,c9y,Nat.or_zero,show sdf 0 0=0 from rfl,ih];simp only[aP,Nat.add_right_cancel_iff,List.forall_mem_cons];by_cases h1:ft c=true<;>by_cases h2:k=cs.length/\∀c∈cs,ft c=true
   ·rw[if_pos h1,if_pos h2,if_pos ⟨h2.1,h1,h2.2⟩]
   ·rw[if_pos h1,if_neg h2,if_neg (fun h=>h2 ⟨h.1,h.2.2⟩)]
   ·rw[if_neg h1,if_neg (fun h=>h1 h.2.1)]
   ·rw[if_neg h1,if_neg (fun h=>h1 h.2.1)]
def c9B {ft:Nat->Bool} {n k i:Nat} (hi:i<t7 ft [] (z7 n 0) k):(Jy ft n k i).length=n/\(∀l∈Jy ft n k i,l<k)/\∀l,l<k->l∈Jy ft n k i:=by
 have h:=mf hi n (aS _);have hc:=h.cnt;rw[BE,BF]at hc;split at hc
 ·rename_i hk;unfold Jy;refine⟨h.len,fun l hl=> ?_,fun l hl=>h.all l aA⟩;have:=h.lt l hl;omega
 ·omega
def clsP (p:List Nat):Nat->List Nat
 |0=>[]
 |v+1=>u0 (clsP p v) v (p.getD v 0)
def c9C {ft:Nat->Bool} {n k v:Nat} {cs:List Nat} {l:Nat} (hv:v<n) (hl:l<=cs.length):t7 ft (u0 cs v l) (z7 n (v+1)) k<=t7 ft cs (z7 n v) k:=by
 rw[lw hv,lu _ _ _ (ly hv)];have:∀(L:List Nat) (f:Nat->Nat),l∈L->f l<=(L.map f).sum:=by
  intro L f;induction L with
  |nil=>intro h;cases h
  |cons a L ih=>
   intro h;rw[bI,eP];rcases bG.1 h with rfl|h
   ·omega
   ·have:=ih h;omega
 exact this _ (fun l=>t7 ft (u0 cs v l) (z7 n (v+1)) k) (aW.2 aA)
def d5Q {ft:Nat->Bool} {n k:Nat} {p:List Nat} (hc:∀v,v<n->p.getD v 0<=(clsP p v).length) (hk:(clsP p n).length=k) (hf:∀c∈clsP p n,ft c=true):0<t7 ft [] (z7 n 0) k:=by
 have h:∀v,v<=n->t7 ft (clsP p v) (z7 n v) k<=t7 ft [] (z7 n 0) k:=by
  intro v;induction v with
  |zero=>intro _;exact aS _
  |succ v ih=>intro hv;exact cK (c9C hv (hc v hv)) (ih aA)
 have:=h n (aS _);rw[BE,BF,if_pos ⟨hk.symm,hf⟩]at this;omega
def QK {p:List Nat}:∀v,v<=p.length->(∀u,u<v->p.getD u 0<=(clsP p u).length)->∀d,d<(clsP p v).length->(clsP p v)[d]? =some (mkN (p.map fun x:Nat=>(x:Int)) (d:Nat) v):=by
 intro v;induction v with
 |zero=>intro _ _ d h;cases h
 |succ v ih=>
  intro hv hu d hd;have ih:=ih aA (fun u h=>hu u aA);have hlv:=hu v aA;have hpv:(p.map fun x:Nat=>(x:Int))[v]? =some ((p.getD v 0:Nat):Int):=by
   rw[aX,aG aA,aJ,aG aA];rfl
  rw[zu,hpv];have a4y:∀d,(clsP p v).length<=d->mkN (p.map fun x:Nat=>(x:Int)) (d:Nat) v=0:=fun d hd=>by
   apply fA;intro i;rw[Nat.zero_testBit];show bit _ i=false;rw[Wa];have:∀w,w<=v->∀u,u<w->p.getD u 0<(clsP p w).length:=by
    intro w;induction w with
    |zero=>intro _ u h;cases h
    |succ w ihw=>
     intro hw u h;show _<(u0 _ _ _).length;rw[Pm];have rU:=hu w aA;by_cases e:u=w
     ·subst e;split<;>omega
     ·have:=ihw aA u aA;split<;>omega
   by_cases hi:i<v
   ·have qB:=this v (aS _) i hi;have:(p.map fun x:Nat=>(x:Int))[i]? =some ((p.getD i 0:Nat):Int):=by
     rw[aX,aG aA,aJ,aG aA];rfl
    rw[this];have:¬(some ((p.getD i 0:Nat):Int)=some (d:Int)):=fun e=>by injection e with e;omega
    rw[decide_eq_false this,Bool.and_false]
   ·simp[hi]
  change d<(u0 (clsP p v) v (p.getD v 0)).length at hd;rw[Pm]at hd;show(u0 (clsP p v) v (p.getD v 0))[d]? =_;unfold u0;split at hd
  ·rename_i hl;rw[if_pos hl,List.getElem?_modify,ih d hd];by_cases e:p.getD v 0=d
   ·rw[if_pos (by rw[e])];show some (if p.getD v 0=d then _ else _)=_;rw[if_pos e]
   ·rw[if_neg (fun h=>e (by injection h with h;omega))];show some (if p.getD v 0=d then _ else _)=_;rw[if_neg e]
  ·rename_i hl;rw[if_neg hl];by_cases e:p.getD v 0=d
   ·rw[if_pos (by rw[e]),aN aA,a4y d aA,show d-(clsP p v).length=0 from aA];simp[e]
   ·rw[if_neg (fun h=>e (by injection h with h;omega)),aM aA];exact ih d aA
def c9D {S:Nat} {F G:Nat->Nat} (h:∀s,F s<=G s):sbT S F<=sbT S G:=by
 unfold sbT;induction sbs S with
 |nil=>exact aS _
 |cons a l ih=>simp only[bI,eP];have:=h a;omega
def c3m {ft gt:Nat->Bool} (h:∀s,ft s=true->gt s=true):∀k S,Ae ft k S<=Ae gt k S:=by
 intro k;induction k with
 |zero=>intro S;exact aS _
 |succ k ih=>
  intro S;unfold Ae;split
  ·exact aS _
  ·refine c9D fun s=> ?_;split
   ·rename_i hs;rw[if_pos (h _ hs)];exact ih _
   ·exact bK _
end Go.GS
namespace Go.Z
open Proofs.Tryz RowKit RX GS
section
variable {H:PH} {u v w:Value}
def QL:n8 prog 161=true:=aB
def QM {s:Nat}:Con prog 115 [uv s] H fun u H'=>∃b,H b=none/\H'=H.or (Bj b s)/\u= .func (.func 161) #[] #[.pointer (some ⟨b,0,none⟩)]:=by
 refine g5 mixed d5D ?_;refine b4 (el_u64.vcells s) ?_;refine o0 (cs:= #[uv s]) rfl fun b hb=> ?_;refine y8 (Ai (vs:=[.pointer (some ⟨b,0,none⟩)]) rfl rfl) rfl ?_;exact d4 rfl ⟨b,hb,PH.put_or hb,rfl⟩
def QN {b S:Nat} {Ro:PH} (hS:S<M64):ItC prog 161 [.pointer (some ⟨b,0,none⟩)] Ro (Bj b S) (fun pre xs=>∃s,(sbs S)[pre.length]? =some s/\xs=[uv s]) (fun xs _=>xs.length=(sbs S).length) (fun _ _=>True):=by
 intro l J Jx uV hr X hX hd w hw;refine(s7 (H:=X.or (Bj b S)) (V:=fun _ H'=>∃X' K',Pl (X'.or K') H'/\Disj X' K'/\((∃xs,xs.length=(sbs S).length/\J xs X')\/(∃pre,True/\Jx pre X'))) mixed c9s aB rfl ?_ w hw).mono fun e w' ⟨v,H',he,rB,hV⟩=>⟨v,H',he,rB,hV⟩;have hb:=PH.or_right hd (Zy b S);refine g9 Ox rfl rfl hb rfl rfl ?_;refine r7 (α:=Nat×Nat×List Nat×PH) (fun⟨s,f,pre,X'⟩=>[uv s]) (fun⟨s,f,pre,X'⟩=>fun H'=>s<=S/\s<f/\H'=X'.or (Bj b S)/\Disj X' (Bj b S)/\pre++Hq S f s=sbs S/\J (pre.map fun y:Nat=>[uv y]) X') (fun⟨s,f,pre,X'⟩=>f) ((S,S+1,[],X)) rfl (⟨aS _,bW _,rfl,hd,rfl,hX⟩) fun⟨s,f,pre,X'⟩ H' hQ=> ?_;obtain⟨h1,h2,rfl,qS,qD,hJ⟩:=hQ;obtain⟨f,rfl⟩:∃m,f=m+1:=⟨f-1,aA⟩;have hs:s<M64:=bO h1 hS;unfold Hq at qD;refine Vu (hr _ [uv s] X' (Bj b S) ⟨_,by rw[<-qD,aR,aN (aS _),dS];rfl,rfl⟩ hJ qS) rfl rfl rfl rfl rfl fun v X2 qH hV=> ?_;obtain⟨bb,rfl,qU,qZ⟩:∃bb,v= .bool bb/\(bb=true->J ((pre.map fun y:Nat=>[uv y])++[[uv s]]) X2)/\(bb=false->Jx ((pre.map fun y:Nat=>[uv y])++[[uv s]]) X2):=by
  rcases hV with⟨rfl,h⟩|⟨rfl,h⟩
  ·exact⟨true,rfl,fun _=>h,(fun h=>nomatch h)⟩
  ·exact⟨false,rfl,(fun h=>nomatch h),fun _=>h⟩
 refine b9 ?_;refine g6 (b:= !bb) rfl (fun qM=> ?_) (fun qM=> ?_)
 ·skip
  exact d4 rfl ⟨X2,Bj b S,Pl.refl _,qH,.inr ⟨_,trivial,qZ (by simpa using qM)⟩⟩
 ·skip
  refine b9 ?_;refine y5 (p:=(s=0)) (bE0 s) (fun h=> ?_) fun h=> ?_
  ·rw[if_pos h]at qD;exact d4 rfl ⟨X2,Bj b S,Pl.refl _,qH,.inl ⟨pre.map (fun y:Nat=>[uv y])++[[uv s]],by rw[<-qD];simp,qU (by simpa using qM)⟩⟩
  ·rw[if_neg h]at qD;have qZ:=PH.or_right qH (Zy b S);refine g9 Ox rfl rfl qZ rfl rfl ?_;have pY:(s-1)&&&S<=s-1:=iI;refine b9 ?_;exact⟨((s-1)&&&S,f,pre++[s],X2),bW f,(p6 (Io (Vx (B:=1) rfl rfl hs aA) rfl aA hS)),⟨jR,(by show(s-1)&&&S<f;omega),rfl,qH,by rw[<-qD,bL];rfl,by rw[bM];exact qU (by simpa using qM)⟩⟩
def c9E {l:List Nat} (hu:SU H u l) (hl:l.length<=1000000):Con prog 162 [u] H fun r H'=>Pl H H'/\SO H H' 49 1 (fun s:Nat=>[uv s]) r l:=by
 refine g5 mixed d5B ?_;obtain⟨q1,a,c,rfl,q2,q3,q4⟩:=id hu;refine j8 ((c8z (p:=a) (n:=l.length) (c:=c) rfl rfl rfl el_u64.und).rds _) rfl ?_;refine b9 ?_;refine g6 (b:=a.isNone) rfl (fun h=> ?_) (fun h=> ?_)
 ·skip
  have h0:l.length=0:=by
   rcases q4 with h|⟨_,_,_,_,_,h,_⟩
   ·exact h
   ·subst h;cases h
  have a4z:l=[]:=aT h0;subst a4z;exact d4 rfl ⟨Pl.refl _,SO.nil _ _ _ _ _⟩
 ·skip
  refine b5s el_u64 rfl rfl fun v2 H1 l1 o1 _=> ?_;refine LW el_u64 rfl rfl rfl l1 o1 (hu.mono l1) (by simp only[bX];omega) rfl rfl fun v3 H2 l2 o2 _=> ?_;exact d4 rfl ⟨l2,by rw[dA]at o2;exact o2⟩
def c9F {cs:List Nat} {n l:Nat} (hu:SU H u cs) (hc:∀c∈cs,c<M64) (hn:n<64) (hl:l<=cs.length) (hl8:cs.length<=1000):Con prog 117 [u,ii (n:Nat),ii (l:Nat)] H fun r H'=>Pl H H'/\SO H H' 49 1 (fun s:Nat=>[uv s]) r (u0 cs n l):=by
 refine g5 mixed d5F ?_;have hp:=Dp hn;refine f0 (c9E hu aA) rfl ?_;rintro v3 H1 ⟨l1,o1⟩;refine nmI ?_;refine Dc el_u64 rfl rfl o1.se rfl ?_;refine b9 (b9 ?_);refine y5 (p:=(((l:Nat):Int)=(cs.length:Nat))) (bE _ _) (fun h=> ?_) fun h=> ?_
 ·refine Cf el_u64 rfl rfl rfl aF aF l1 o1 aA rfl aF rfl fun p v6 H2 l2 o2=> ?_;have hlc:l=cs.length:=aA;have rV:(cs++[0])[l]? =some 0:=by rw[hlc,aN (aS _),dS];rfl
  refine Ac el_u64 rfl rfl rfl rfl aF o2.se rV rfl aF fun _=> ?_;refine b4 ⟨_,_,rfl⟩ ?_;refine b4 (show(0:Int)<=((n:Nat):Int) by omega) ?_;refine b9 ?_;refine Ee el_u64 (a:=0|||2^n) rfl rfl rfl rfl aF aF l2 o2 (by rw[aL];simp;omega) rfl (fun _=>i0 rfl (Hk rfl (Hl rfl hn) aC hp)) rfl fun p2 u2 H3 l3 o3 _=> ?_;have e:(cs++[0]).set l (0|||2^n)=cs++[2^n]:=by rw[hlc,List.set_append_right _ _ (aS _),dS,Nat.zero_or];rfl
  rw[e]at o3;exact d4 rfl ⟨l3,by unfold u0;rw[if_neg aA];exact o3⟩
 ·have hlc:l<cs.length:=aA;obtain⟨c,rV,_⟩:=q8 hlc;have sR:=hc c (aK rV);refine Ac el_u64 rfl rfl rfl rfl aF o1.se rV rfl aF fun _=> ?_;refine b4 ⟨_,_,rfl⟩ ?_;refine b4 (show(0:Int)<=((n:Nat):Int) by omega) ?_;refine b9 ?_;refine Ee el_u64 (a:=c|||2^n) rfl rfl rfl rfl aF aF l1 o1 hlc rfl (fun _=>i0 rfl (Hk rfl (Hl rfl hn) sR hp)) rfl fun p2 u2 H3 l3 o3 _=> ?_;have e:cs.set l (c|||2^n)=cs.modify l (· |||2^n):=by rw[List.modify_eq_set,rV];rfl
  rw[e]at o3;exact d4 rfl ⟨l3,by unfold u0;rw[if_pos hlc];exact o3⟩
end
end Go.Z

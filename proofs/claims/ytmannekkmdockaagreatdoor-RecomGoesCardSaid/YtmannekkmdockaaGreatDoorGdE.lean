/- Lemmas: chapter 32. -/
import Derived.Test.YtmannekkmdockaaGreatDoorGsQ
open Array renaming getD_eq_getD_getElem?->dD
open Bool renaming and_eq_true->aF
open Classical renaming propDecidable->dU
open Int renaming toNat_natCast->bB
open List renaming append_assoc->bG,filter_cons->bX,getD_eq_getElem?_getD->aB,getElem?_eq_getElem->aA,getElem?_eq_none->aW,getElem?_eq_some_iff->aC,getElem?_inj->gZ,getElem?_map->aO,getElem?_mapIdx->mC,getElem?_toArray->lU,idxOf_append->mY,length_append->aJ,length_cons->bA,length_map->aR,map_append->aX,map_cons->aM,mem_append->aV,mem_cons->aL,mem_iff_getElem?->bP,mem_map->aH,mem_of_getElem?->aI,mem_range->cK,nodup_cons->dF,nodup_nil->dO,nodup_range->fJ,range->bL,range_succ->gQ,replicate->bC
open List.Nodup renaming idxOf_getElem->oO,length_le_of_subset->iT
open List.Pairwise renaming filter->mO
open Nat renaming le_refl->aN,le_trans->aS,one_mul->dS,pow_le_pow_right->aU,two_pow_pos->fF,zero_add->bM,zero_le->bI
open Option renaming some->bZ
open Option.some renaming injEq->aD
namespace Go.Proofs.Z
open Go.Proofs.Tryz
open Go.RowKit Go.RX Go.GS
theorem Fq:prog.underlying 140=some (.map 3 3):=by kernel_rfl
theorem Gh:prog.underlying 3=some (.int .i64):=by kernel_rfl
theorem Ko:∀w,(zeroValue 3).run prog w= .ok (.int .i64 0) w:=fun w=>by
 have h:(prog.info? 3).bind (·.zero)=some (.int .i64 0):=by kernel_rfl
 cases hi:prog.info? 3 with
 |none=>rw[hi]at h;cases h
 |some i=>
  rw[hi]at h;simp only[Option.bind_some]at h;simp[zeroValue,typeInfo,hi,h]
section
variable {H:PH} {u w:Value} {n x c set til left bw m:Nat} {es:List (Nat×Nat)} {l:List Nat}
theorem c8n (hu:SI H u (l.map fun y:Nat=>(y:Int))) (h0:0<l.length) (hl:l.length<=100000):Con prog 185 [u] H fun r H'=>PH.le H H'/\OI H H' r ((u0 l).map fun y:Nat=>(y:Int)):=by
 refine j3 mixed d2U ?_;have pR:(l.map fun y:Nat=>(y:Int)).length=l.length:=aR _;have hat:∀{i y:Nat},l[i]? =some y->(l.map fun y:Nat=>(y:Int))[i]? =some ((y:Nat):Int):=fun h=>by rw[aO,h];rfl
 refine r4 (NA rfl) rfl ?_;rintro v1 H1 ⟨l1,m1⟩;refine nmI ?_;simp only[cA,nA];refine j7 el_int (hu.mono l1) ?_;simp only[cA,nA];rw[pR];refine s9 (α:=Nat×List (Int×Int)) (fun⟨i,L⟩=>[ii (i:Nat)]) (fun⟨i,L⟩=>fun H'=>i<=l.length/\PH.le H H'/\MO H H' v1 L/\∀x y:Int,(x,y)∈L↔∃p j:Nat,x=p/\y=j/\Ep l i p=some j) (fun⟨i,L⟩=>l.length-i) ((0,[])) rfl (⟨bI _,l1,m1,fun x y=>by simp[Ep]⟩) fun⟨i,L⟩ H' hQ=> ?_;simp only[cA,nA];obtain⟨hi,l2,m2,hL⟩:=hQ;refine d4 (d4 ?_);refine i0 (b:=decide (((i:Nat):Int)<(l.length:Nat))) rfl (fun h=> ?_) (fun h=> ?_)
 ·replace h:=oDt h;have pW:i<l.length:=by omega
  obtain⟨y,hy,_⟩:=t7 pW;refine j8 el_int (hu.mono l2) (hat hy) fun _=> ?_;simp only[cA,nA];refine r4 (yu (B:=H) (vs:=[v1,ii (y:Nat),ii (i:Nat)]) (m:=v1) (k:=(y:Int)) (v:=(i:Int)) rfl rfl rfl rfl Fq Gh l2 m2) rfl ?_;rintro u3 H3 ⟨rfl,l3,m3,_⟩;refine nmI ?_;simp only[cA,nA];exact⟨(i+1,Dw L (y:Int) (i:Int)),by show l.length-(i+1)<l.length-i;omega,(z8 (i9 rfl (by omega))),⟨pW,l3,m3,fun a b=>by
   rw[MY m2.1];constructor
   ·rintro(⟨rfl,rfl⟩|⟨h1,h2⟩)
    ·exact⟨y,i,rfl,rfl,by simp only[Ep,if_pos hy]⟩
    ·obtain⟨p,j,rfl,rfl,h3⟩:=(hL a b).1 h2;exact⟨p,j,rfl,rfl,by simp only[Ep];rw[if_neg (fun e=>h1 (by rw[hy]at e;rw[bZ.inj e]))];exact h3⟩
   ·rintro⟨p,j,rfl,rfl,h3⟩;by_cases e:y=p
    ·subst e;simp only[Ep,if_pos hy,aD]at h3;subst h3;exact .inl ⟨rfl,rfl⟩
    ·refine .inr ⟨fun e2=>e (by omega),(hL _ _).2 ⟨p,j,rfl,rfl,?_⟩⟩;simp only[Ep]at h3;rwa[if_neg (fun e2=>e (by rw[hy]at e2;exact bZ.inj e2))]at h3⟩⟩
 ·replace h:=oDf h;have he:i=l.length:=by omega
  subst he;obtain⟨a0,ha0,_⟩:=t7 h0;refine j8 el_int (hu.mono l2) (hat ha0) fun _=> ?_;simp only[cA,nA];refine On el_int rfl rfl rfl fun v6 H4 l4 o4 _=> ?_;simp only[cA,nA];refine j8 el_int (hu.mono (l2.trans l4)) (hat ha0) fun _=> ?_;simp only[cA,nA];have sN:l.getD 0 0=a0:=by rw[aB,ha0];rfl
  obtain⟨j0,hj0,_⟩:=Zz ha0 h0;refine s9 (α:=Nat×Nat×List Nat×Value) (fun⟨f,y,out,v⟩=>[ii (y:Nat),v]) (fun⟨f,y,out,v⟩=>fun H5=>out++Hj l f y=u0 l/\out.length+f<=l.length+1/\(∃j,Ep l l.length y=some j/\l.length<=f+j)/\PH.le H' H5/\OI H' H5 v (out.map fun y:Nat=>(y:Int))) (fun⟨f,y,out,v⟩=>f) ((l.length,a0,[a0],v6)) rfl (⟨by unfold u0;rw[sN];rfl,by show 1+l.length<=l.length+1;omega,⟨j0,hj0,by omega⟩,l4,o4⟩) fun⟨f,y,out,v⟩ H5 hQ5=> ?_;simp only[cA,nA];obtain⟨hE,hof,⟨j,hj,hfj⟩,l5,o5⟩:=hQ5;obtain⟨hj1,xM,_⟩:=Ss hj;refine j7 el_int (hu.mono (l2.trans l5)) ?_;simp only[cA,nA];rw[pR];obtain⟨z,hz,_⟩:=t7 (show l.length-1<l.length by omega);refine d4 ?_;refine Do el_int rfl rfl rfl rfl (fun _=>rfl) (hu.mono (l2.trans l5)) (hat hz) (j4 rfl ((Rn (x:=((l.length:Nat):Int)) (y:=1) rfl rfl (by omega) (by omega)).trans (by show ii _=ii _;congr 1;omega))) (fun _=>rfl) fun _=> ?_;simp only[cA,nA];refine d4 (d4 ?_);refine r9 (p:=(y≠z)) (by show Value.bool (((y:Nat):Int) !=((z:Nat):Int))=_;rw[bN];congr 1;apply decide_eq_decide.2;omega) (fun hyz=> ?_) fun hyz=> ?_
  ·have hx:l[l.length-1]?≠some y:=fun e=>by rw[hz]at e;exact hyz (bZ.inj e).symm
   obtain⟨y2,j2,k1,k2,k3,k4⟩:=zm hx hj;refine r7 (c3m (vs:=[v1,ii (y:Nat)]) (m:=v1) (k:=(y:Int)) (u:=(j:Int)) rfl rfl rfl Fq Gh Ko (m2.mi.mono l5) ((hL _ _).2 ⟨y,j,rfl,rfl,hj⟩)) rfl ?_;simp only[cA,nA];refine d4 ?_;refine Do el_int rfl rfl rfl rfl (fun _=>rfl) (hu.mono (l2.trans l5)) (hat k1) (j4 rfl (i9 rfl (by omega))) (fun _=>rfl) fun _=> ?_;simp only[cA,nA];obtain⟨f,rfl⟩:∃g,f=g+1:=⟨f-1,by omega⟩;refine Iz el_int rfl rfl rfl (fun _=>rfl) (fun _=>rfl) l5 o5 (by rw[aR];omega) rfl (fun _=>rfl) rfl fun p7 v7 H7 l7 o7=> ?_;simp only[cA,nA];exact⟨(f,y2,out++[y2],v7),by show f<f+1;omega,(j4 rfl rfl),⟨by rw[<-hE,zo hx hj k2,bG];rfl,by show(out++[y2]).length+f<=l.length+1;rw[aJ];simp only[bA,List.length_nil];omega,⟨j2,k3,by show l.length<=f+j2;omega⟩,l7,by rw[aX];exact o7⟩⟩
  ·have a5r:y=z:=by omega
   rw[zn (by rw[hz,a5r]),List.append_nil]at hE;exact g8 rfl ⟨l2.trans l5,by rw[<-hE];exact SO.less o5 l2⟩
theorem c8o {set:Nat} (hw:SG H w es) (hs:set<M64):Asks prog 183 [gv n w,uv set] H (.bool (decide (set<2^n))):=by
 refine j3 mixed d2Y ?_;refine d9 (Ap hw) ?_;refine Am (Yi set hs) rfl ?_;have vY:(((Go.WD.blen set:Nat):Int)<=((n:Nat):Int))↔set<2^n:=by
  constructor
  ·intro hh;apply Nat.lt_of_not_le;intro h2;have:=Go.WD.blen_ge h2;omega
  ·intro hh;have:=Go.WD.blen_le hh;omega
 refine d4 (d4 ?_);exact g8 rfl ⟨rfl,congrArg Value.bool (decide_eq_decide.2 vY)⟩
end
end Go.Proofs.Z
/- Chapter 30: the matrix of a graph: what adds to its entries. -/
namespace Go.Proofs.Z
open Go.Proofs.Tryz
open Go.RowKit Go.RX Go.GS
open Go.WD (BP Bf)
set_option maxRecDepth 100000
theorem d4v {n:Nat} {w:Value} (h1:Dx w=true):s8 (Value.cells (.agg #[ii n,w])):=fun c hc=>by
 simp[Value.cells]at hc;rcases hc with hc|hc
 ·subst hc;rfl
 ·subst hc;exact h1
theorem OU {H:PH} {n s:Nat} {w:Value} (hw:w.cells= #[w]) (h1:Dx w=true):Con prog 119 [gv n w,GS.uv s] H fun u H'=>∃b j,b≠j/\H'=H.or (Hi b j (ii n) w 37 s)/\Disj H (Hi b j (ii n) w 37 s)/\u= .func (.func 190) #[] #[.pointer (some ⟨b,0,none⟩),.pointer (some ⟨j,0,none⟩)]:=by
 refine j3 mixed d3O ?_;refine d9 ⟨rfl,d4v h1⟩ ?_;refine Ee (cs:= #[ii (n:Nat),w]) rfl fun b hb=> ?_;refine d9 ⟨rfl,fun c hc=>by simp[D,Value.cells,GS.uv]at hc;subst hc;rfl⟩ ?_;refine Ee (cs:= #[GS.uv s]) rfl fun j hj=> ?_;refine He (La (vs:=[.pointer (some ⟨b,0,none⟩),.pointer (some ⟨j,0,none⟩)]) rfl rfl) rfl ?_;have tL:b≠j:=fun e=>by subst e;rw[PH.put_self]at hj;cases hj
 have rG:H j=none:=by rwa[PH.put_ne _ _ (fun e=>tL e.symm)]at hj
 exact g8 rfl ⟨b,j,tL,by unfold Hi;rw[PH.put_or hb,PH.or_put (X:=H) rG],Yr (Yr (vv H) hb) rG,rfl⟩
def plL (V:List Nat):List (Int×Int):=(bL V.length).map fun i=>(((V.getD i 0:Nat):Int),(i:Int))
theorem d4w {V:List Nat} {a i:Nat} (h:V[i]? =some a):((a:Int),(i:Int))∈plL V:=by
 unfold plL;refine aH.2 ⟨i,cK.2 (aC.1 h).1,?_⟩;rw[aB,h];rfl
theorem c8p (V:List Nat):(plL V).map (·.1)=V.map fun x:Nat=>(x:Int):=by
 unfold plL;rw[List.map_map];apply List.ext_getElem?;intro i;rw[aO,aO];by_cases h:i<V.length
 ·rw[List.getElem?_range h,aA h];simp[aB,aA h]
 ·rw[aW (by simp;omega),aW (by omega)];rfl
theorem OV {V:List Nat} {a:Nat} (h:a∉V):((a:Nat):Int)∉(plL V).map (·.1):=by
 rw[c8p];intro hh;obtain⟨x,hx,e⟩:=aH.1 hh;have:x=a:=by omega
 exact h (this ▸ hx)
theorem c8q (V:List Nat) (x:Nat):plL (V++[x])=plL V++[((x:Int),(V.length:Int))]:=by
 unfold plL;rw[aJ,List.length_singleton,gQ,aX];congr 1
 ·refine List.map_congr_left fun i hi=> ?_;rw[cK]at hi;simp[aB,List.getElem?_append_left hi]
 ·simp[aB]
theorem zp (V:List Nat):(plL V).length=V.length:=by unfold plL;simp
theorem d4x {V:List Nat} {x:Nat} (h:x∉V):Dw (plL V) (x:Int) (V.length:Int)=plL (V++[x]):=by
 unfold Dw;rw[if_neg (OV h),c8q]
def addZ (V:List Nat) (Z:Nat->Nat->Int) (a b:Nat) (z:Int) (i k:Nat):Int:=if V[i]? =some a/\V[k]? =some b then Z i k+z else Z i k
theorem Sv:Sc prog 140:=⟨by kernel_rfl,by kernel_rfl,by kernel_rfl⟩
theorem We:Sc prog 201:=⟨by kernel_rfl,by kernel_rfl,by kernel_rfl⟩
theorem kz:Au prog 123=true:=by kernel_rfl
section
variable {X0 X H:PH} {gs:List Nat} {n pb qb a b:Nat} {mp v:Value} {V:List Nat} {M:Nat->Nat->LV} {Z:Nat->Nat->Int} {Tp Tq:TypeId} {z:Int} {fz:Nat×Nat}
theorem Vl.addZ (h:Vl X n 0 M Z) (hn:V.Nodup) {i k:Nat} {x:LV} (hi:V[i]? =some a) (hk:V[k]? =some b) (hx:Lw X (lv x) (Z i k+z)):Vl X n 0 (putM M i k x) (addZ V Z a b z):=by
 refine h.put (by unfold Go.Proofs.Z.addZ;rw[if_pos ⟨hi,hk⟩];exact hx) fun c d _ _ _ _ pT=> ?_;unfold Go.Proofs.Z.addZ;rw[if_neg];rintro⟨h1,h2⟩;exact pT ⟨(gZ (aC.1 h1).1 hn).1 (h1.trans hi.symm),(gZ (aC.1 h2).1 hn).1 (h2.trans hk.symm)⟩
theorem OW (h:a∉V\/b∉V):addZ V Z a b z=Z:=by
 funext i k;unfold addZ;rw[if_neg];rintro⟨h1,h2⟩;rcases h with h|h
 ·exact h (aI h1)
 ·exact h (aI h2)
theorem lj (ht:Mt X0 X H gs n 0 M Z) (hp:X0 pb=some (.cells #[mp] Tp fz)) (hq:X0 qb=some (.cells #[v] Tq fz)) (hm:MI X0 mp (plL V)) (hv:SE X0 1 (fun s:Slc=>[vs s]) v (gs.map (rsl n))) (hn:gs.length=n) (hVn:V.length=n) (sJ:V.Nodup) (hz: -2<=z/\z<=2) (hZ:∀i k,Lm (Z i k)):
  Con prog 123 [ii (a:Nat),ii (b:Nat),ii z,.pointer (some ⟨pb,0,none⟩),.pointer (some ⟨qb,0,none⟩)] H fun _ H'=>∃X' M',PH.le X X'/\Mt X0 X' H' gs n 0 M' (addZ V Z a b z):=by
 refine j3 mixed c7Q ?_;have hp':=(ht.x0.trans ht.xh) _ _ hp;have vM:=(ht.x0.trans ht.xh) _ _ hq;have tR:=hm.mono (ht.x0.trans ht.xh);have zX:=hv.mono (ht.x0.trans ht.xh);have huk:prog.underlying 3=some (.int .i64):=Gh;have look:∀{c:Nat},∃(u:Int) (bb:Bool),((bb=false/\u=0/\((c:Nat):Int)∉(plL V).map (·.1))\/(bb=true/\(((c:Nat):Int),u)∈plL V))/\(bb=false/\c∉V\/bb=true/\∃i:Nat,u=(i:Int)/\V[i]? =some c):=fun{c}=>by
  by_cases h:c∈V
  ·obtain⟨i,hi⟩:=bP.1 h;exact⟨(i:Int),true,.inr ⟨rfl,d4w hi⟩,.inr ⟨rfl,i,rfl,hi⟩⟩
  ·exact⟨0,false,.inl ⟨rfl,rfl,OV h⟩,.inl ⟨rfl,h⟩⟩
 obtain⟨u1,b1,rN,sG⟩:=look (c:=a);obtain⟨u2,b2,rK,rD⟩:=look (c:=b);have off1:b1=false->a∉V:=fun e=>by
  rcases sG with⟨_,h⟩|⟨h,_⟩
  ·exact h
  ·rw[e]at h;cases h
 have off2:b2=false->b∉V:=fun e=>by
  rcases rD with⟨_,h⟩|⟨h,_⟩
  ·exact h
  ·rw[e]at h;cases h
 have on1:b1=true->∃i:Nat,u1=(i:Int)/\V[i]? =some a:=fun e=>by
  rcases sG with⟨h,_⟩|⟨_,h⟩
  ·rw[e]at h;cases h
  ·exact h
 have on2:b2=true->∃i:Nat,u2=(i:Int)/\V[i]? =some b:=fun e=>by
  rcases rD with⟨h,_⟩|⟨_,h⟩
  ·rw[e]at h;cases h
  ·exact h
 refine w9 Sv rfl rfl hp' rfl rfl ?_;simp only[cA,nA];refine r7 (Zv (k:=(a:Nat)) (vs:=[mp,ii (a:Nat)]) rfl rfl rfl Fq Gh Ko tR rN) rfl ?_;simp only[cA,nA];refine i8 (i8 ?_);refine w9 Sv rfl rfl hp' rfl rfl ?_;simp only[cA,nA];refine r7 (Zv (k:=(b:Nat)) (vs:=[mp,ii (b:Nat)]) rfl rfl rfl Fq Gh Ko tR rK) rfl ?_;simp only[cA,nA];refine i8 (i8 (d4 ?_));refine i0 (b:=b1) rfl (fun h1=> ?_) (fun h1=> ?_)
 ·skip
  refine d4 ?_;refine i0 (b:=b2) rfl (fun h2=> ?_) (fun h2=> ?_)
  ·skip
   obtain⟨i,rfl,hi⟩:=on1 h1;obtain⟨k,rfl,hk⟩:=on2 h2;have pY:i<n:=by have:=(aC.1 hi).1;omega
   have rQ:k<n:=by have:=(aC.1 hk).1;omega
   obtain⟨g,hg⟩:=zl hn pY;refine w9 We rfl rfl vM rfl rfl ?_;simp only[cA,nA];refine j8 Gt zX (Nj hg) fun _=> ?_;simp only[cA,nA];refine w9 We rfl rfl vM rfl rfl ?_;simp only[cA,nA];refine j8 Gt zX (Nj hg) fun _=> ?_;simp only[cA,nA];refine j8 el_long (ht.mx.se hg) (Sr rQ) fun _=> ?_;simp only[cA,nA];refine Px (Rf z (by omega) (by omega)) ht.xh rfl fun w1 X5 H5 a5 w5 b5 c5 d5=> ?_;simp only[cA,nA];replace ht:=ht.grow a5 b5 c5 d5;refine Px (Yo ((ht.vl i k (bI _) (bI _) pY rQ)) w5 (hZ i k) (by unfold Lm;have:=Bf (i:=1) (j:=10000) (by decide);rw[Go.WD.BP_succ,Go.WD.BP_zero]at this;omega)) ht.xh rfl fun w2 X6 H6 a6 w6 b6 c6 d6=> ?_;simp only[cA,nA];replace ht:=ht.grow a6 b6 c6 d6;obtain⟨x6,rfl⟩:=Sm w6;refine Dp el_long (a:=x6) rfl rfl rfl rfl (fun _=>rfl) (fun _=>rfl) (Jb H6 g) (ht.mx.row i g hg).2 (show k<(Fe M n i).length by rw[OM];exact rQ) rfl (fun _=>rfl) rfl fun p9 u9 H9 l9 o9 _=> ?_;simp only[cA,nA];exact g8 rfl ⟨X6,putM M i k x6,a5.trans a6,⟨ht.x0,(ht.mx.cut hg ht.xh).trans l9,ht.mx.put hg l9 o9,ht.vl.addZ sJ hi hk w6⟩⟩
  ·skip
   exact g8 rfl ⟨X,M,PH.le.refl _,by rw[OW (.inr (off2 (by simpa using h2)))];exact ht⟩
 ·skip
  exact g8 rfl ⟨X,M,PH.le.refl _,by rw[OW (.inl (off1 (by simpa using h1)))];exact ht⟩
end
end Go.Proofs.Z
/- Chapter 32: a step of the chain, in plain terms. -/
namespace Go.GS
def Ie:List Int->List Int->List Int
 |_,[]=>[]
 |F,x::r=>if x∈F then((F.idxOf x:Nat):Int)::Ie F r else((F.length:Nat):Int)::Ie (F++[x]) r
def n8 (p:List Int):List Int:=Ie [] p
def Eh:List Int->List Int->List Int
 |F,[]=>F
 |F,x::r=>if x∈F then Eh F r else Eh (F++[x]) r
theorem ll:∀(r F:List Int),∃s,Eh F r=F++s
 |[],F=>⟨[],by simp[Eh]⟩
 |x::r,F=>by
  simp only[Eh];split
  ·exact ll r F
  ·obtain⟨s,h⟩:=ll r (F++[x]);exact⟨x::s,by rw[h];simp⟩
theorem Kp:∀(r F:List Int) (y:Int),y∈Eh F r↔y∈F\/y∈r
 |[],F,y=>by simp[Eh]
 |x::r,F,y=>by
  simp only[Eh];split
  ·rename_i hx;rw[Kp r F y];constructor
   ·rintro(h|h)
    ·exact .inl h
    ·exact .inr (by simp[h])
   ·rintro(h|h)
    ·exact .inl h
    ·rcases aL.1 h with rfl|h
     ·exact .inl hx
     ·exact .inr h
  ·rw[Kp r (F++[x]) y];simp only[aV,aL,List.not_mem_nil,or_false,or_assoc]
theorem af:∀(r F:List Int),F.Nodup->(Eh F r).Nodup
 |[],F,h=>by simpa[Eh]using h
 |x::r,F,h=>by
  simp only[Eh];split
  ·exact af r F h
  ·rename_i hx;refine af r (F++[x]) (List.nodup_append.2 ⟨h,by simp,fun a ha b hb=> ?_⟩);obtain rfl:=List.mem_singleton.1 hb;exact fun e=>hx (e ▸ ha)
theorem OX {F s:List Int} {x:Int} (h:x∈F):(F++s).idxOf x=F.idxOf x:=by
 rw[mY,if_pos h]
theorem zq:∀(r F:List Int),Ie F r=r.map fun x=>(((Eh F r).idxOf x:Nat):Int)
 |[],F=>by simp[Ie]
 |x::r,F=>by
  simp only[Ie,Eh];split
  ·rename_i hx;obtain⟨s,hs⟩:=ll r F;rw[aM,zq r F,hs,OX hx]
  ·rename_i hx;obtain⟨s,hs⟩:=ll r (F++[x]);rw[aM,zq r (F++[x])];congr 1;rw[hs,OX (by simp),mY,if_neg hx];simp
theorem ah (p:List Int):n8 p=p.map fun x=>(((Eh [] p).idxOf x:Nat):Int):=zq p []
theorem Ft (p:List Int):(n8 p).length=p.length:=by rw[ah,aR]
theorem mask_mem2 {p:List Int} {d:Int}:j5 p d≠0↔d∈p:=by
 constructor
 ·intro h;obtain⟨x,h1,h2⟩:=Ru (a:=0) (b:=j5 p d) (fun e=>h e.symm) (fun y hy=>by rw[Bz]at hy;cases hy);unfold j5 at h1;rw[jd,aF]at h1;exact aI (oDt h1.2)
 ·intro h e;obtain⟨i,hi⟩:=bP.1 h;have pO:=(aC.1 hi).1;have:bit (j5 p d) i=true:=by unfold j5;rw[jd,oDd pO,oDd hi];rfl
  rw[e,Bz]at this;cases this
theorem OY {p:List Int} {k:Nat} (hL:LabOk p (k:Nat)) (hU:Ak p k):(Eh [] p).length=k:=by
 have hn:=af p [] dO;have hr:((bL k).map fun i:Nat=>(i:Int)).Nodup:=by
  rw[List.nodup_iff_pairwise_ne,List.pairwise_map];exact(fJ (n:=k)).imp fun h e=>h (by omega)
 have h1:=iT hn (l₂:=(bL k).map fun i:Nat=>(i:Int)) fun x hx=>by
  have hx:=((Kp p [] x).1 hx).resolve_left (by simp);have:=hL.1 x hx;exact aH.2 ⟨x.toNat,cK.2 (by omega),by omega⟩
 have h2:=iT hr (l₂:=Eh [] p) fun x hx=>by
  obtain⟨d,hd,rfl⟩:=aH.1 hx;exact(Kp p [] _).2 (.inr (mask_mem2.1 (hU d (cK.1 hd))))
 rw[aR,List.length_range]at h1 h2;omega
theorem Sz {p:List Int} {k:Nat} (hL:LabOk p (k:Nat)) (hU:Ak p k):LabOk (n8 p) (k:Nat):=by
 refine⟨fun x hx=> ?_,by rw[Ft];exact hL.2.1,by rw[Ft];exact hL.2.2⟩;rw[ah]at hx;obtain⟨y,hy,rfl⟩:=aH.1 hx;have:=List.idxOf_lt_length_of_mem ((Kp p [] y).2 (.inr hy));rw[OY hL hU]at this;omega
theorem Wg {p:List Int} {k:Nat} (hL:LabOk p (k:Nat)) (hU:Ak p k):Ak (n8 p) k:=fun d hd=>by
 rw[mask_mem2,ah];have hl:=OY hL hU;have qB:d<(Eh [] p).length:=by omega
 refine aH.2 ⟨(Eh [] p)[d],((Kp p [] _).1 (List.getElem_mem qB)).resolve_left (by simp),?_⟩;rw[oO (af p [] dO) d qB]
def rcV (i k:Int) (a m:Nat) (x:Int):Int:=if x=i\/x=k then(if bit a m=true then i else k)else x
def Bj (p:List Int) (i k:Int) (a:Nat):List Int:=p.mapIdx fun m x=>rcV i k a m x
theorem lp {p:List Int} {i k:Int} {a m:Nat} {x:Int} (h:p[m]? =some x):(Bj p i k a)[m]? =some (rcV i k a m x):=by
 unfold Bj;rw[mC,h];rfl
theorem Jj (p:List Int) (i k:Int) (a:Nat):(Bj p i k a).length=p.length:=by unfold Bj;rw[List.length_mapIdx]
theorem zt {p:List Int} {i k:Int} {a:Nat} {m:Int} (hL:LabOk p m) (hi:0<=i/\i<m) (hk:0<=k/\k<m):LabOk (Bj p i k a) m:=by
 refine⟨fun x hx=> ?_,by rw[Jj];exact hL.2.1,by rw[Jj];exact hL.2.2⟩;obtain⟨j,hj⟩:=bP.1 hx;unfold Bj at hj;rw[mC]at hj;obtain⟨y,hy,rfl⟩:=Option.map_eq_some_iff.1 hj;unfold rcV;split
 ·split
  ·exact hi
  ·exact hk
 ·exact hL.1 y (aI hy)
def btB (a b:Nat) (e:Nat×Nat):Bool:=bit a e.1&&bit b e.2||bit a e.2&&bit b e.1
def Br (es:List (Nat×Nat)) (a b:Nat):Nat:=(es.filter (btB a b)).length
theorem c3N (es:List (Nat×Nat)) (e:Nat×Nat) (a b:Nat):Br (es++[e]) a b=if btB a b e=true then Br es a b+1 else Br es a b:=by
 unfold Br;rw[List.filter_append,bX,List.filter_nil];split
 ·simp
 ·simp
def Hk (i j:Nat):List (Nat×Nat):=(bL (j-(i+1))).map fun d=>(i,i+1+d)
def prI (k i:Nat):List (Nat×Nat):=(bL i).flatMap fun a=>Hk a k
def i7 (k:Nat):List (Nat×Nat):=prI k k
theorem OZ (k i:Nat):prI k (i+1)=prI k i++Hk i k:=by unfold prI;rw[gQ,List.flatMap_append];simp
theorem c3O {i j:Nat} (h:i+1<=j):Hk i (j+1)=Hk i j++[(i,j)]:=by
 unfold Hk;rw[show j+1-(i+1)=(j-(i+1))+1 by omega,gQ,aX,aM,List.map_nil,show i+1+(j-(i+1))=j by omega]
theorem c8r (i:Nat):Hk i (i+1)=[]:=by unfold Hk;rw[Nat.sub_self];rfl
theorem PC (i j:Nat):(Hk i j).length=j-(i+1):=by simp[Hk]
theorem lu (k:Nat):∀i,(prI k i).length<=i*k
 |0=>by simp[prI]
 |i+1=>by
  rw[OZ,aJ,PC];have:=lu k i;rw[Nat.add_mul,dS];omega
theorem Ta {k:Nat} {e:Nat×Nat} (h:e∈i7 k):e.1<e.2/\e.2<k:=by
 unfold i7 prI Hk at h;obtain⟨a,ha,h⟩:=List.mem_flatMap.1 h;obtain⟨d,hd,rfl⟩:=aH.1 h;rw[cK]at ha hd;simp only;omega
theorem PD:∀k:Fin 9,2<=k.val->0<(i7 k.val).length:=by decide
theorem c8s:i7 1=[]:=by decide
theorem zu (k:Nat) (h:k<=8):(i7 k).length<=64:=aS (lu k k) (Nat.mul_le_mul h h)
noncomputable def sdP (es:List (Nat×Nat)) (set:Nat) (t:List Int) (k:Int):Nat×Nat:= @ite _ (TreeOk es set t) (dU _) (y9 es set t k,sdf set (y9 es set t k)) (0,0)
noncomputable def sdE (es:List (Nat×Nat)) (set:Nat) (t:List Int):Int:= @ite _ (TreeOk es set t) (dU _) 0 300
theorem PE {es:List (Nat×Nat)} {set n:Nat} {t:List Int} (qK:n<=64) (h0:set≠0/\set<2^n) (k:Int):(sdP es set t k).1<2^n/\(sdP es set t k).2<2^n:=by
 unfold sdP;have hs:set<M64:=Nat.lt_of_lt_of_le h0.2 (aU (n:=2) (by decide) qK);split
 ·rename_i ht;have qM:=jr hs h0.1 ht k;exact⟨Sj h0.2 qM,Sj h0.2 fun y hy=>by rw[Ad,aF]at hy;exact hy.1⟩
 ·exact⟨fF n,fF n⟩
noncomputable def Gu (es:List (Nat×Nat)) (wl:List Int) (lo hi:Int) (set:Nat) (t l:List Int):List Int:=l.filter fun k=>alB es wl lo hi (sdP es set t k).1&&alB es wl lo hi (sdP es set t k).2
noncomputable def stC (es:List (Nat×Nat)) (q:List Int) (pr:Nat×Nat) (ab:Nat×Nat) (c:Nat):Nat ⊕ (List Int×Bool×Nat):=
 if(j9 c (Br es ab.1 ab.2)).2.2≠0 then .inl (j9 c (Br es ab.1 ab.2)).2.2
 else if(j9 c (Br es ab.1 ab.2)).1≠0 then .inr (q,false,(j9 c (Br es ab.1 ab.2)).2.1)
 else .inr (n8 (Bj q (pr.1:Nat) (pr.2:Nat) ab.1),!decide (q=n8 (Bj q (pr.1:Nat) (pr.2:Nat) ab.1)),(j9 c (Br es ab.1 ab.2)).2.1)
noncomputable def stB (n:Nat) (es:List (Nat×Nat)) (wl:List Int) (lo hi:Int) (q:List Int) (pr:Nat×Nat) (set:Nat) (t:List Int) (c:Nat):Nat ⊕ (List Int×Bool×Nat):=
 if(j9 c (n-1)).2.2≠0 then .inl (j9 c (n-1)).2.2
 else if(Gu es wl lo hi set t t).length<=(j9 c (n-1)).1 then .inr (q,false,(j9 c (n-1)).2.1)
 else stC es q pr (sdP es set t ((Gu es wl lo hi set t t).getD (j9 c (n-1)).1 0)) (j9 c (n-1)).2.1
noncomputable def stA (n:Nat) (es:List (Nat×Nat)) (wl:List Int) (lo hi:Int) (q:List Int) (pr:Nat×Nat) (set c:Nat):Nat ⊕ (List Int×Bool×Nat):=
 if cnB es set=true then match Ea es set n n (2^(els set).headD 64) [] c 10000 with
  | .inl e=> .inl e
  | .inr (tr,c2)=>stB n es wl lo hi q pr set (Dc tr) c2
 else .inr (q,false,c)
def Av (q:List Int) (pr:Nat×Nat):Nat:=j5 q (pr.1:Nat)|||j5 q (pr.2:Nat)
noncomputable def stP (n:Nat) (es:List (Nat×Nat)) (wl:List Int) (lo hi:Int) (k:Nat) (q:List Int) (c:Nat):Nat ⊕ (List Int×Bool×Nat):=
 if k=1 then .inr (q,false,c)
 else if(j9 c (i7 k).length).2.2≠0 then .inl (j9 c (i7 k).length).2.2
 else stA n es wl lo hi q ((i7 k).getD (j9 c (i7 k).length).1 (0,0)) (Av q ((i7 k).getD (j9 c (i7 k).length).1 (0,0))) (j9 c (i7 k).length).2.1
end Go.GS
/- How many edges a small set has. -/
namespace Go.GS
def prs:List Nat->List (Nat×Nat)
 |[]=>[]
 |a::r=>r.map (fun b=>(a,b))++prs r
def tri:Nat->Nat
 |0=>0
 |n+1=>n+tri n
theorem d4y (l:List Nat):(prs l).length=tri l.length:=by
 induction l with
 |nil=>rfl
 |cons a r ih=>simp only[prs,aJ,aR,bA,tri,ih]
theorem c8t {m n:Nat} (h:m<=n):tri m<=tri n:=by
 induction h with
 |refl=>exact aN _
 |step _ ih=>exact aS ih (Nat.le_add_left _ _)
theorem d4z {l:List Nat} (hl:l.Pairwise (· < ·)) {x y:Nat} (hx:x∈l) (hy:y∈l) (tC:x<y):(x,y)∈prs l:=by
 induction l with
 |nil=>cases hx
 |cons a r ih=>
  rw[List.pairwise_cons]at hl;simp only[prs,aV,aH];rcases aL.1 hx with hxa|hx
  ·subst hxa;rcases aL.1 hy with hya|hy
   ·omega
   ·exact .inl ⟨y,hy,rfl⟩
  ·rcases aL.1 hy with hya|hy
   ·have:=hl.1 x hx;omega
   ·exact .inr (ih hl.2 hx hy)
theorem ai {α:Type} [DecidableEq α]:∀{l m:List α},l.Nodup->(∀x∈l,x∈m)->l.length<=m.length:=by
 intro l;induction l with
 |nil=>intro m _ _;exact bI _
 |cons a l ih=>
  intro m hn hs;rw[dF]at hn;have ha:=hs a (by simp);have:=ih (m:=m.erase a) hn.2 fun x hx=>(List.mem_erase_of_ne (fun e:x=a=>by subst e;exact hn.1 hx)).2 (hs x (List.mem_cons_of_mem _ hx));rw[List.length_erase_of_mem ha]at this;have:=List.length_pos_of_mem ha;rw[bA];omega
theorem c8u {n:Nat} {es:List (Nat×Nat)} (hg:GV n es) {set:Nat} (hs:set<M64):Bh es set 0<=tri (card set):=by
 unfold Bh;rw[List.drop_zero,show card set=(els set).length from rfl,<-d4y];have sJ:es.Nodup:=hg.ord.imp fun h e=>by subst e;rcases h with h|h<;>omega
 refine ai (mO _ sJ) fun e he=> ?_;rw[List.mem_filter]at he;have h1:=hg.ed e he.1;have h2:=he.2;unfold inB at h2;rw[aF]at h2;exact d4z (Vb set) ((Gf hs).2 h2.1) ((Gf hs).2 h2.2) h1.1
theorem PG {n:Nat} {es:List (Nat×Nat)} (hg:GV n es) {set:Nat} (hs:set<M64) (h9:card set<=9):Bh es set 0<=36:=
 aS (c8u hg hs) (c8t h9)
theorem d4A {s i:Nat}:card (s|||2^i)<=card s+1:=by
 unfold card els;have:∀l:List Nat,l.Nodup->(l.filter (bit (s|||2^i))).length<=(l.filter (bit s)).length+1:=by
  intro l;induction l with
  |nil=>intro _;simp
  |cons a l ih=>
   intro hn;rw[dF]at hn;have ih:=ih hn.2;rw[bX,bX];by_cases ha:i=a
   ·subst ha;have e:l.filter (bit (s|||2^i))=l.filter (bit s):=by
     apply List.filter_congr;intro y hy;have:i≠y:=fun e=>hn.1 (e ▸ hy);rw[Ac,Ae];simp[this]
    rw[e];split<;>split<;>simp<;>omega
   ·have e:bit (s|||2^i) a=bit s a:=by rw[Ac,Ae];simp[ha]
    rw[e];split
    ·simp only[bA];omega
    ·exact ih
 exact this _ fJ
end Go.GS
/- Chapter 32: all spanning trees, part 2. -/
namespace Go.Proofs.Z
open Go.Proofs.Tryz
open Go.RowKit Go.RX Go.GS
section
variable {H:PH} {n:Nat} {w:Value} {es:List (Nat×Nat)} {set:Nat}
def Trs (H0 H:PH) (es:List (Nat×Nat)) (set:Nat) (r:Value) (l:List Slc):Prop:=
 SO H0 H 32 1 (fun s:Slc=>[vs s]) r l/\(∀s∈l,∃t,SO H0 H 3 1 (fun z:Int=>[ii z]) (vs s) t/\TreeOk es set t)/\l.length<=68719476736
theorem b9u (hw:SG H w es) (hg:GV n es) (hs:set<2^n) (h0:set≠0) (h9:card set<=9):Con prog 42 [gv n w,uv set] H fun r H'=>PH.le H H'/\∃l,Trs H H' es set r l/\(Cn es set->l≠[]):=by
 refine j3 mixed c3b ?_;have h36:=PG hg (Ci hg.n64 hs) h9;refine d9 (Ap hw) ?_;refine i6 (b9r hg hs h0 h36 _ [] (.slice none 0 0) H (aN _) hw (SE.nil _ _ _) (Beg.nil _ _)) rfl ?_;rintro r H1 ⟨l1,l,h1,h2,h3,h4⟩;refine nmI ?_;exact g8 rfl ⟨l1,l,⟨h1,h2,aS h3 (aS (aU (by decide) h36) (by decide))⟩,fun hc=>h4 (Spn.start hc)⟩
end
end Go.Proofs.Z
/- Chapter 32: drafts: labels of a forest. -/
namespace Go.Proofs.Z
open Go.Proofs.Tryz
open Go.RowKit Go.RX Go.GS
theorem d4B {n i:Nat} (h:i<n):(bC i (-1:Int)++bC (n-i) 0).set i (-1)=bC (i+1) (-1)++bC (n-(i+1)) 0:=by
 obtain⟨k,hk⟩:∃k,n-i=k+1:=⟨n-i-1,by omega⟩;rw[hk,show n-(i+1)=k by omega,List.replicate_succ,List.replicate_succ',bG];simp[List.set_append]
end Go.Proofs.Z
/- Chapter 32: drafts: weights. -/
namespace Go.Proofs.Z
open Go.Proofs.Tryz
open Go.RowKit Go.RX Go.GS
def arI (l:List Int):Value:= .agg (l.map ii).toArray
theorem zw (l:List Int):(arI l).cells=(l.map ii).toArray:=rfl
theorem lw {ρ:List Value} {x i:SV} {l:List Int} {d:Nat} {y:Int} (hx:D prog ρ x=arI l) (hi:D prog ρ i=ii (d:Nat)) (hd:l[d]? =some y):D prog ρ (.cell x 0 1 i)=ii y:=by
 show(D prog ρ x).cells.getD (0+1*z6 (D prog ρ i)) undef=_;rw[hx,hi,zw];show((l.map ii).toArray).getD (0+1*((d:Nat):Int).toNat) undef=_;rw[bB,bM,dS,dD,lU,aO,hd];rfl
theorem c8w {ρ:List Value} {x y i:SV} {l:List Int} {d:Nat} {z:Int} (hx:D prog ρ x=arI l) (hy:D prog ρ y=ii z) (hi:D prog ρ i=ii (d:Nat)):D prog ρ (.put x 0 1 y 1 i)=arI (l.set d z):=by
 show Value.agg (spl (D prog ρ x).cells (0+1*z6 (D prog ρ i)) (D prog ρ y).cells.toList)=_;rw[hx,hi,hy,zw];show Value.agg (spl (l.map ii).toArray (0+1*((d:Nat):Int).toNat) [ii z])=_;rw[bB,bM,dS];show Value.agg ((l.map ii).toArray.setIfInBounds d (ii z))=Value.agg _;congr 1;rw[<-Array.toList_inj];simp[List.map_set]
theorem z_8:s7 prog 167=arI (bC 8 0):=by kernel_rfl
theorem PI {ρ:List Value} {x:SV} {l:List Int} {y:Int} (hx:D prog ρ x=arI l) (hd:l[0]? =some y):D prog ρ (.cell x 0 0 noI)=ii y:=by
 show(D prog ρ x).cells.getD (0+0*z6 (D prog ρ noI)) undef=_;rw[hx,zw,Nat.zero_mul,dD,lU,aO,hd];rfl
theorem d7R {ρ:List Value} {a b:SV} {x y:Int} (ha:D prog ρ a=ii x) (hb:D prog ρ b=ii y):D prog ρ (.op2 .add .i64 a b)=ii (IntKind.i64.wrap (x+y)):=by
 show t8 .add .i64 (intOf (D prog ρ a)) (intOf (D prog ρ b))=_;rw[ha,hb];rfl
end Go.Proofs.Z
/- Chapter 32: the reference's trees by number. -/
namespace Go.Proofs.Z
open Go.Proofs.Tryz
open Go.RowKit Go.RX Go.GS
open Go.WD (wd toI iw)
section
variable {H:PH} {n:Nat} {w:Value} {es:List (Nat×Nat)} {set:Nat}
theorem PK (a:Nat):(wd a).cells.size=8/\s8 (wd a).cells:=⟨Go.WD.words_size a,Go.WD.words_one a⟩
end
end Go.Proofs.Z

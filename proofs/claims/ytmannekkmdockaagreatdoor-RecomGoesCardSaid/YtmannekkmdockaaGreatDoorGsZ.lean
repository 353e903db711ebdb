/- Trees of functions. -/
import Derived.Test.YtmannekkmdockaaGreatDoorGsX
open Bool renaming and_eq_true->aF,eq_iff_iff->bH,or_eq_true->bW
open Classical renaming byContradiction->aP
open List renaming ext_getElem?->cU,filter_map->nP,getElem?_eq_getElem->aA,getElem?_eq_none->aW,getElem?_eq_some_iff->aC,getElem?_map->aO,getElem_idxOf->jS,getElem_mem->eH,idxOf_cons->nQ,idxOf_lt_length_of_mem->iJ,length_flatMap->iH,length_map->aR,map_cons->aM,mem_append->aV,mem_cons->aL,mem_filter->bJ,mem_flatMap->eY,mem_iff_getElem?->bP,mem_map->aH,mem_of_getElem?->aI,mem_range->cK,mem_singleton->aQ,nodup_nil->dO,range->bL,sum_cons->gB
open List.Pairwise renaming imp_of_mem->jV
open Option.some renaming injEq->aD
open Prod renaming ext->lK,mk->pD
open Prod.mk renaming injEq->eB
namespace Go.GS
variable {es:List (Nat×Nat)} {S A n:Nat}
open Classical in
noncomputable def trL (es:List (Nat×Nat)) (S:Nat):Nat->Nat->List Int->List (List Int)
 |0,_,t=>if TreeOk es S t then[t]else[]
 |f+1,j,t=>trL es S f (j+1) t++if inI es S (j:Nat)=true/\lab (etl es t) (Ed es (j:Nat)).1≠lab (etl es t) (Ed es (j:Nat)).2 then trL es S f (j+1) (t++[(j:Int)])else[]
theorem BC (hs:S<M64) (h0:S≠0):∀(f j:Nat) (t:List Int),es.length-j=f->Beg es S t->(∀i∈t,i<(j:Int))->((trL es S f j t).length:Int)=trN es S t j
 |0,j,t,hf,hB,pO=>by
  unfold trN;rw[OB (by omega),OA (Lb.lab _) hs h0 (Ib hB.inn)];unfold trL;have hl:(etl es t).length=t.length:=aR _;by_cases h:cnt (lab (etl es t)) S=1
  ·have h1:=nc hs h0 hB.inn ((Zs (Lb.lab _) hs h0 (Ib hB.inn)).1 h);have h2:=hB.len hs h0;rw[if_pos h,if_pos (hB.tree (by omega))];rfl
  ·rw[if_neg h,if_neg (fun hT=>h ((Zs (Lb.lab _) hs h0 (Ib hB.inn)).2 (hT.one hs h0)))];rfl
 |f+1,j,t,hf,hB,pO=>by
  have hj:j<es.length:=by omega
  have ih:=BC hs h0 f (j+1) t (by omega) hB (fun i hi=>by have:=pO i hi;omega);unfold trL;rw[List.length_append];cases hb:inB S (Ed es (j:Nat))with
  |false=>
   rw[if_neg (fun h=>by have:=h.1;unfold inI at this;rw[hb]at this;cases this),OD (Fo hj) hb,<-ih];rfl
  |true=>
   rw[OF hs h0 hB.inn hj hb];unfold trH;by_cases hl:lab (etl es t) (Ed es (j:Nat)).1=lab (etl es t) (Ed es (j:Nat)).2
   ·rw[if_neg (fun h=>h.2 hl),if_pos hl,<-ih];rfl
   ·have ih2:=BC hs h0 f (j+1) (t++[(j:Int)]) (by omega) (hB.add pO hj hb hl) (fun i hi=>by
     rcases aV.1 hi with h|h
     ·have:=pO i h;omega
     ·rw[aQ.1 h];omega)
    rw[if_pos ⟨hb,hl⟩,if_neg hl,<-ih,<-ih2]
    push_cast;rfl
theorem Wu:∀(f j:Nat) (t:List Int),es.length-j=f->∀x,x∈trL es S f j t↔TreeOk es S x/\∃r,x=t++r/\∀i∈r,(j:Int)<=i
 |0,j,t,hf,x=>by
  unfold trL;constructor
  ·intro h;split at h
   ·rename_i hT;rw[aQ.1 h];exact⟨hT,[],by simp,fun i hi=>by cases hi⟩
   ·cases h
  ·rintro⟨hT,r,rfl,hr⟩;cases r with
   |nil=>rw[List.append_nil]at hT⊢;rw[if_pos hT];exact aQ.2 rfl
   |cons y r=>
    have h1:=hr y (by simp);have h2:=(hT.ok y (by simp)).2.1;omega
 |f+1,j,t,hf,x=>by
  unfold trL;rw[aV,Wu f (j+1) t (by omega)];constructor
  ·rintro(⟨hT,r,rfl,hr⟩|h)
   ·exact⟨hT,r,rfl,fun i hi=>by have:=hr i hi;omega⟩
   ·split at h
    ·obtain⟨hT,r,rfl,hr⟩:=(Wu f (j+1) _ (by omega) x).1 h;refine⟨hT,(j:Int)::r,by simp,fun i hi=> ?_⟩;rcases aL.1 hi with rfl|hi
     ·omega
     ·have:=hr i hi;omega
    ·cases h
  ·rintro⟨hT,r,rfl,hr⟩;cases r with
   |nil=>exact .inl ⟨hT,[],rfl,fun i hi=>by cases hi⟩
   |cons y r=>
    have hy:=hr y (by simp);have a1w:=hT.asc;rw[List.pairwise_append,List.pairwise_cons]at a1w;by_cases hyj:y=(j:Int)
    ·subst hyj;right;have pS:=hT.ok (j:Int) (by simp);have yM:=hT.acy t.length (Ed es (j:Nat)) (by simp) (by rw[jo (x:=(j:Int))];simp);rw[MG,List.take_left']at yM
     ·rw[if_pos ⟨by unfold inI inB;rw[pS.2.2.1,pS.2.2.2];rfl,yM⟩,Wu f (j+1) _ (by omega)];exact⟨by simpa using hT,r,by simp,fun i hi=>by have:=a1w.2.1.1 i hi;omega⟩
     ·rfl
    ·refine .inl ⟨hT,y::r,rfl,fun i hi=> ?_⟩;rcases aL.1 hi with rfl|hi
     ·omega
     ·have:=a1w.2.1.1 i hi;omega
theorem BD:∀(f j:Nat) (t:List Int),es.length-j=f->(trL es S f j t).Nodup
 |0,j,t,hf=>by
  unfold trL;split
  ·simp
  ·exact dO
 |f+1,j,t,hf=>by
  unfold trL;rw[List.nodup_append];refine⟨BD f (j+1) t (by omega),?_,fun x hx y hy e=> ?_⟩
  ·split
   ·exact BD f (j+1) _ (by omega)
   ·exact dO
  ·subst e;obtain⟨_,r,rfl,hr⟩:=(Wu f (j+1) t (by omega) x).1 hx;split at hy
   ·obtain⟨_,r',h,hr'⟩:=(Wu f (j+1) _ (by omega) _).1 hy;rw[List.append_assoc,List.append_cancel_left_eq]at h;subst h;have:=hr (j:Int) (by simp);omega
   ·cases hy
noncomputable def trees (es:List (Nat×Nat)) (S:Nat):List (List Int):=trL es S es.length 0 []
theorem trees_mem {x:List Int}:x∈trees es S↔TreeOk es S x:=by
 unfold trees;rw[Wu es.length 0 [] (by omega)];refine⟨fun h=>h.1,fun h=>⟨h,x,rfl,fun i hi=> ?_⟩⟩;have:=(h.ok i hi).1;omega
theorem BE:(trees es S).Nodup:=BD _ _ _ (by omega)
theorem RR (hs:S<M64) (h0:S≠0):((trees es S).length:Int)=trN es S [] 0:=BC hs h0 _ _ _ (by omega) (Beg.nil es S) (fun i hi=>by cases hi)
theorem Tm {α β:Type} {l:List α} {f:α->β} (hn:l.Nodup) (hi:∀x∈l,∀y∈l,f x=f y->x=y):(l.map f).Nodup:=by
 rw[List.Nodup,List.pairwise_map];exact jV (fun ha hb h e=>h (hi _ ha _ hb e)) hn
theorem nh {α β:Type} [DecidableEq β] {l:List α} {m:List β} (f:α->β) (hn:l.Nodup) (hi:∀x∈l,∀y∈l,f x=f y->x=y) (hm:∀x∈l,f x∈m):l.length<=m.length:=by
 have:=ai (Tm hn hi) (m:=m) (fun y hy=>by obtain⟨x,hx,rfl⟩:=aH.1 hy;exact hm x hx)
 rwa[aR]at this
theorem Wv {α β:Type} {l:List α} {f:α->List β} (g:β->α) (hn:l.Nodup) (hf:∀x∈l,(f x).Nodup) (hg:∀x∈l,∀y∈f x,g y=x):(l.flatMap f).Nodup:=by
 rw[List.Nodup,List.pairwise_flatMap];refine⟨hf,jV (fun ha hb h x hx y hy e=>h ?_) hn⟩;subst e;rw[<-hg _ ha _ hx,<-hg _ hb _ hy]
theorem ni {α:Type} {c:Nat}:∀l:List α,(l.map fun _=>c).sum=l.length*c
 |[]=>by simp
 |a::l=>by rw[aM,gB,ni l,List.length_cons,Nat.succ_mul];omega
noncomputable def Gv (es:List (Nat×Nat)) (S A:Nat):List (List Int×Int):=(trees es S).flatMap fun t=>(t.filter fun k=>decide (y9 es S t k=A)).map fun k=>(t,k)
def crs (es:List (Nat×Nat)) (A B:Nat):List Int:=((bL es.length).map fun j:Nat=>(j:Int)).filter fun k=>btB A B (Ed es k)
noncomputable def Ww (es:List (Nat×Nat)) (A B:Nat):List ((List Int×List Int)×Int):=(trees es A).flatMap fun a=>(trees es B).flatMap fun b=>(crs es A B).map fun k=>((a,b),k)
theorem d8s (es:List (Nat×Nat)):((bL es.length).map fun j:Nat=>Ed es (j:Int))=es:=by
 apply cU;intro i;by_cases h:i<es.length
 ·rw[Fo h];simp[h]
 ·rw[aW (by simp;omega),aW (by omega)]
theorem BF (A B:Nat):(crs es A B).length=Br es A B:=by
 unfold crs Br
 conv=>rhs;rw[<-d8s es]
 rw[nP,nP,aR,aR];rfl
theorem crs_mem {A B:Nat} {k:Int}:k∈crs es A B↔0<=k/\k.toNat<es.length/\btB A B (Ed es k)=true:=by
 unfold crs;rw[bJ,aH];constructor
 ·rintro⟨⟨j,hj,rfl⟩,h⟩;exact⟨by omega,by simpa using hj,h⟩
 ·rintro⟨h1,h2,h3⟩;exact⟨⟨k.toNat,by simpa using h2,by omega⟩,h3⟩
theorem d8t (A B:Nat):(crs es A B).Nodup:=by
 exact(Tm List.nodup_range fun x _ y _ h=>by have h:(x:Int)=(y:Int):=h;omega).filter _
theorem cutL_mem {x:List Int×Int}:x∈Gv es S A↔TreeOk es S x.1/\x.2∈x.1/\y9 es S x.1 x.2=A:=by
 unfold Gv;rw[eY];constructor
 ·rintro⟨t,ht,h⟩;obtain⟨k,hk,rfl⟩:=aH.1 h;rw[bJ,oDi]at hk;exact⟨trees_mem.1 ht,hk⟩
 ·rintro⟨h1,h2,h3⟩;exact⟨x.1,trees_mem.2 h1,aH.2 ⟨x.2,bJ.2 ⟨h2,oDd h3⟩,rfl⟩⟩
theorem RS:(Gv es S A).Nodup:=by
 unfold Gv;refine Wv Prod.fst BE (fun t ht=>Tm ((trees_mem.1 ht).nd.filter _) fun x _ y _ h=>(pD.inj h).2) fun t ht y hy=> ?_;obtain⟨k,_,rfl⟩:=aH.1 hy;rfl
theorem prdL_mem {B:Nat} {x:(List Int×List Int)×Int}:x∈Ww es A B↔TreeOk es A x.1.1/\TreeOk es B x.1.2/\x.2∈crs es A B:=by
 unfold Ww;rw[eY];constructor
 ·rintro⟨a,ha,h⟩;obtain⟨b,hb,h⟩:=eY.1 h;obtain⟨k,hk,rfl⟩:=aH.1 h;exact⟨trees_mem.1 ha,trees_mem.1 hb,hk⟩
 ·rintro⟨h1,h2,h3⟩;exact⟨_,trees_mem.2 h1,eY.2 ⟨_,trees_mem.2 h2,aH.2 ⟨_,h3,rfl⟩⟩⟩
theorem d4Y (A B:Nat):(Ww es A B).Nodup:=by
 unfold Ww;refine Wv (fun x=>x.1.1) BE (fun a _=>Wv (fun x=>x.1.2) BE (fun b _=>Tm (d8t A B) fun x _ y _ h=>(pD.inj h).2) fun b _ y hy=> ?_) fun a _ y hy=> ?_
 ·obtain⟨k,_,rfl⟩:=aH.1 hy;rfl
 ·obtain⟨b,_,h⟩:=eY.1 hy;obtain⟨k,_,rfl⟩:=aH.1 h;rfl
theorem c8V (A B:Nat):(Ww es A B).length=(trees es A).length*((trees es B).length*Br es A B):=by
 unfold Ww;rw[iH];have h:∀a:List Int,((trees es B).flatMap fun b=>(crs es A B).map fun k=>((a,b),k)).length=(trees es B).length*Br es A B:=fun a=>by
  rw[iH];simp only[aR,BF];exact ni _
 simp only[h];exact ni _
theorem RU (hs:S<M64) (h0:S≠0) (qM:∀y,bit A y=true->bit S y=true) (vU:bit A (lst S)=true):(Gv es S A).length=(trees es A).length*((trees es (sdf S A)).length*Br es A (sdf S A)):=by
 rw[<-c8V];refine Nat.le_antisymm ?_ ?_
 ·refine nh (fun x=>((x.1.filter (inI es A),x.1.filter (inI es (sdf S A))),x.2)) RS (fun x hx y hy e=> ?_) fun x hx=> ?_
  ·obtain⟨x1,x2,x3⟩:=cutL_mem.1 hx;obtain⟨y1,y2,y3⟩:=cutL_mem.1 hy;have cx:=ng hs h0 x1 x2 x3;have cy:=ng hs h0 y1 y2 y3;simp only[eB]at e;obtain⟨⟨e1,e2⟩,e3⟩:=e;have hp:=cx.perm;rw[e1,e2,e3]at hp;exact lK (BA x1.asc y1.asc (hp.trans cy.perm.symm)) e3
  ·obtain⟨x1,x2,x3⟩:=cutL_mem.1 hx;have cx:=ng hs h0 x1 x2 x3;have ho:=x1.ok _ x2;exact prdL_mem.2 ⟨cx.ta,cx.tb,crs_mem.2 ⟨ho.1,ho.2.1,cx.bt⟩⟩
 ·refine nh (fun x=>(Dc (x.2::(x.1.1++x.1.2)),x.2)) (d4Y _ _) (fun x hx y hy e=> ?_) fun x hx=> ?_
  ·obtain⟨x1,x2,x3⟩:=prdL_mem.1 hx;obtain⟨y1,y2,y3⟩:=prdL_mem.1 hy;obtain⟨x4,x5,x6⟩:=crs_mem.1 x3;obtain⟨y4,y5,y6⟩:=crs_mem.1 y3;have cx:=BB hs h0 qM vU x1 x2 x4 x5 x6;have cy:=BB hs h0 qM vU y1 y2 y4 y5 y6;simp only[eB]at e;obtain⟨e1,e2⟩:=e;have ha:=cx.2.2.1;have hb:=cx.2.2.2.1;rw[e1]at ha hb;exact lK (lK (ha.symm.trans cy.2.2.1) (hb.symm.trans cy.2.2.2.1)) e2
  ·obtain⟨x1,x2,x3⟩:=prdL_mem.1 hx;obtain⟨x4,x5,x6⟩:=crs_mem.1 x3;have cx:=BB hs h0 qM vU x1 x2 x4 x5 x6;exact cutL_mem.2 ⟨cx.1,cx.2.2.2.2,cx.2.1⟩
noncomputable def nj (es:List (Nat×Nat)) (S:Nat):List (List Int×Int):=(trees es S).flatMap fun t=>t.map fun k=>(t,k)
theorem c8W:(nj es S).length=(trees es S).length*(card S-1):=by
 unfold nj;rw[iH,<-ni];congr 1;refine List.map_congr_left fun t ht=> ?_;have:=(trees_mem.1 ht).len;simp only[aR];omega
theorem allC_mem {x:List Int×Int}:x∈nj es S↔TreeOk es S x.1/\x.2∈x.1:=by
 unfold nj;rw[eY];constructor
 ·rintro⟨t,ht,h⟩;obtain⟨k,hk,rfl⟩:=aH.1 h;exact⟨trees_mem.1 ht,hk⟩
 ·rintro⟨h1,h2⟩;exact⟨x.1,trees_mem.2 h1,aH.2 ⟨x.2,h2,rfl⟩⟩
theorem BG {l:List Nat} (hn:l.Nodup):(l.map fun A=>(Gv es S A).length).sum<=(trees es S).length*(card S-1):=by
 have e:(l.map fun A=>(Gv es S A).length).sum=(l.flatMap (Gv es S)).length:=by rw[iH]
 rw[e,<-c8W];refine ai (Wv (fun x=>y9 es S x.1 x.2) hn (fun A _=>RS) fun A _ y hy=>(cutL_mem.1 hy).2.2) fun x hx=> ?_;obtain⟨A,_,h⟩:=eY.1 hx;exact allC_mem.2 ⟨(cutL_mem.1 h).1,(cutL_mem.1 h).2.1⟩
theorem d4Z {l:List Nat} (hn:l.Nodup) {t:List Int} {k:Int} (hT:TreeOk es S t) (hk:k∈t) (hl:y9 es S t k∉l):(l.map fun A=>(Gv es S A).length).sum<(trees es S).length*(card S-1):=by
 have h1:=BG (es:=es) (S:=S) (l:=y9 es S t k::l) (List.nodup_cons.2 ⟨hl,hn⟩);have h2:0<(Gv es S (y9 es S t k)).length:=List.length_pos_of_mem (cutL_mem.2 ⟨hT,hk,rfl⟩:(t,k)∈Gv es S (y9 es S t k));rw[aM,gB]at h1;omega
end Go.GS
/- Plans by their districts: what is cut anew, canonical labels. -/
namespace Go.GS
theorem Eb (p:List Int) (d:Int) (i:Nat):bit (j5 p d) i=decide (p[i]? =some d):=by
 unfold j5;rw[jd];by_cases h:p[i]? =some d
 ·have:=(aC.1 h).1;simp[h,this]
 ·simp[h]
theorem c4u {p:List Int} {d e:Int} (h:j5 p d=j5 p e) (h0:j5 p d≠0):d=e:=by
 obtain⟨i,hi⟩:=bP.1 (mask_mem2.1 h0);have h1:bit (j5 p d) i=true:=by rw[Eb];exact oDd hi
 rw[h,Eb,oDi,hi]at h1
 injection h1
def SamD (p q:List Int):Prop:=∀i j:Nat,i<p.length->j<p.length->(p[i]? =p[j]?↔q[i]? =q[j]?)
theorem BH {f:Int->Int}:∀(r F:List Int),(∀x y,x∈F\/x∈r->y∈F\/y∈r->f x=f y->x=y)->Ie (F.map f) (r.map f)=Ie F r
 |[],F,_=>rfl
 |x::r,F,h=>by
  have hm:f x∈F.map f↔x∈F:=by
   rw[aH];refine⟨fun⟨y,hy,e⟩=> ?_,fun hx=>⟨x,hx,rfl⟩⟩;rw[<-h y x (.inl hy) (.inr (by simp)) e];exact hy
  have hi:∀G:List Int,(∀y∈G,y∈F)->(G.map f).idxOf (f x)=G.idxOf x:=fun G hG=>by
   induction G with
   |nil=>rfl
   |cons y G ih=>
    rw[aM,nQ,nQ,ih (fun z hz=>hG z (by simp[hz]))];by_cases e:y=x
    ·subst e;simp
    ·have:f y≠f x:=fun e'=>e (h y x (.inl (hG y (by simp))) (.inr (by simp)) e');rw[beq_false_of_ne e,beq_false_of_ne this]
  have h2:∀a b,a∈F\/a∈r->b∈F\/b∈r->f a=f b->a=b:=fun a b ha hb=>h a b (ha.imp id fun h=>by simp[h]) (hb.imp id fun h=>by simp[h]);rw[aM];simp only[Ie];by_cases hx:x∈F
  ·rw[if_pos (hm.2 hx),if_pos hx,BH r F h2,hi F fun y hy=>hy]
  ·rw[if_neg (fun e=>hx (hm.1 e)),if_neg hx,aR];have:=BH (f:=f) r (F++[x]) (fun a b ha hb=>h a b (by
    rcases ha with ha|ha
    ·rcases aV.1 ha with ha|ha
     ·exact .inl ha
     ·exact .inr (by simp at ha;simp[ha])
    ·exact .inr (by simp[ha])) (by
    rcases hb with hb|hb
    ·rcases aV.1 hb with hb|hb
     ·exact .inl hb
     ·exact .inr (by simp at hb;simp[hb])
    ·exact .inr (by simp[hb])))
   rw[List.map_append,aM,List.map_nil]at this;rw[this]
theorem nk {p q:List Int} (hl:q.length=p.length) (h:SamD p q):n8 q=n8 p:=by
 let f:Int->Int:=fun d=>q.getD (p.idxOf d) 0
 have hf:∀i x,p[i]? =some x->q[i]? =some (f x):=fun i x hx=>by
  have hi:=(aC.1 hx).1;have hxm:=aI hx;have h1:=iJ hxm;have h2:p[p.idxOf x]? =some x:=by rw[aA h1,jS h1]
  have h3:=(h i (p.idxOf x) hi h1).1 (by rw[hx,h2]);rw[h3];show _=some (q.getD (p.idxOf x) 0);rw[List.getD_eq_getElem?_getD,aA (by omega)];rfl
 have hq:q=p.map f:=by
  apply cU;intro i;by_cases hi:i<p.length
  ·rw[hf i _ (aA hi),aO,aA hi];rfl
  ·rw[aW (by omega),aW (by simp;omega)]
 have:=BH (f:=f) p [] (fun x y hx hy e=>by
  have hx:=hx.resolve_left (by simp);have hy:=hy.resolve_left (by simp);obtain⟨i,hi⟩:=bP.1 hx;obtain⟨j,hj⟩:=bP.1 hy;have h1:=(h i j (aC.1 hi).1 (aC.1 hj).1).2 (by rw[hf i x hi,hf j y hj,e]);rw[hi,hj]at h1
  injection h1)
 unfold n8;rw[hq];exact this
theorem SamD.symm {p q:List Int} (hl:q.length=p.length) (h:SamD p q):SamD q p:=fun i j hi hj=>(h i j (by omega) (by omega)).symm
theorem RV {p:List Int} {i:Nat} {x:Int} (h:p[i]? =some x):(n8 p)[i]? =some (((Eh [] p).idxOf x:Nat):Int):=by
 rw[ah,aO,h];rfl
theorem d5a {p:List Int} {x y:Int} (hx:x∈p) (hy:y∈p) (h:(Eh [] p).idxOf x=(Eh [] p).idxOf y):x=y:=by
 have h1:=iJ ((Kp p [] x).2 (.inr hx));have h2:=iJ ((Kp p [] y).2 (.inr hy));rw[<-jS h1,<-jS h2];simp only[h]
theorem nl (p:List Int):SamD p (n8 p):=fun i j hi hj=>by
 rw[RV (aA hi),RV (aA hj),aA hi,aA hj];constructor
 ·intro h;injection h with h;rw[h]
 ·intro h
  injection h with h
  rw[d5a (eH hi) (eH hj) (by omega)]
theorem b2r {p q:List Int} (hl:q.length=p.length) (h:n8 q=n8 p):SamD p q:=fun i j hi hj=>by
 rw[nl p i j hi hj,<-h];exact(nl q i j (by omega) (by omega)).symm
theorem RY (p:List Int):n8 (n8 p)=n8 p:=nk (Ft p) (nl p)
theorem mem_masks {p:List Int} {k m:Nat}:m∈masks p k↔∃d:Nat,d<k/\m=j5 p (d:Nat):=by
 unfold masks Ia;rw[aH];constructor
 ·rintro⟨d,hd,rfl⟩;exact⟨d,cK.1 hd,rfl⟩
 ·rintro⟨d,hd,rfl⟩;exact⟨d,cK.2 hd,rfl⟩
theorem SA {p:List Int} {k:Nat} (hL:LabOk p (k:Nat)) {i:Nat} {x:Int} (hx:p[i]? =some x):j5 p x∈masks p k:=by
 have:=hL.1 x (aI hx);exact mem_masks.2 ⟨x.toNat,by omega,by rw[show((x.toNat:Nat):Int)=x by omega]⟩
theorem b9A {p q:List Int} {k:Nat} (hL:LabOk p (k:Nat)) (tK:LabOk q (k:Nat)) (hl:q.length=p.length) (h1:∀m∈masks p k,m∈masks q k) (h2:∀m∈masks q k,m∈masks p k):SamD p q:=fun i j hi hj=>by
 have f:∀{p q:List Int},LabOk p (k:Nat)->q.length=p.length->(∀m∈masks p k,m∈masks q k)->∀i j:Nat,i<p.length->j<p.length->p[i]? =p[j]?->q[i]? =q[j]?:=by
  intro p q hL hl h1 i j hi hj h;have hx:=aA hi;obtain⟨d,_,hd⟩:=mem_masks.1 (h1 _ (SA hL hx));have b1:bit (j5 p p[i]) i=true:=by rw[Eb];exact oDd hx
  have b2:bit (j5 p p[i]) j=true:=by rw[Eb];exact oDd (h.symm.trans hx)
  rw[hd,Eb,oDi]at b1 b2;rw[b1,b2]
 exact⟨f hL hl h1 i j hi hj,f tK hl.symm h2 i j (by omega) (by omega)⟩
theorem BI {p q:List Int} {k:Nat} (hL:LabOk p (k:Nat)) (hU:Ak p k) (tK:LabOk q (k:Nat)) (hl:q.length=p.length) (h:SamD p q):∀m∈masks p k,m∈masks q k:=fun m hm=>by
 obtain⟨d,hd,rfl⟩:=mem_masks.1 hm;obtain⟨i,hi⟩:=bP.1 (mask_mem2.1 (hU d hd));have hil:=(aC.1 hi).1;have hq:=aA (show i<q.length by omega);have e:j5 p (d:Nat)=j5 q q[i]:=Ax fun y=>by
  rw[bH,Eb,Eb,oDi,oDi,<-hi,<-hq];by_cases hy:y<p.length
  ·exact h y i hy hil
  ·rw[aW (show p.length<=y by omega),aW (show q.length<=y by omega)];rw[aA hil,aA (show i<q.length by omega)];simp
 rw[e];exact SA tK hq
theorem SB {p:List Int} {k:Nat} (hL:LabOk p (k:Nat)) (hU:Ak p k) (m:Nat):m∈masks (n8 p) k↔m∈masks p k:=by
 have h1:=nl p;have tK:=Sz hL hU;have hU2:=Wg hL hU;exact⟨BI tK hU2 hL (Ft p).symm (h1.symm (Ft p)) m,BI hL hU tK (Ft p) h1 m⟩
section
variable {p:List Int} {k i j a:Nat}
theorem BJ {d:Nat} (sA:i<j) (h1:d≠i) (h2:d≠j):j5 (Bj p (i:Nat) (j:Nat) a) (d:Nat)=j5 p (d:Nat):=Ax fun y=>by
 rw[bH,Eb,Eb,oDi,oDi];by_cases hy:y<p.length
 ·have hx:=aA hy;rw[lp hx,hx];unfold rcV;by_cases h:p[y]=(i:Int)\/p[y]=(j:Int)
  ·rw[if_pos h];simp only[aD];constructor
   ·intro e;split at e<;>omega
   ·intro e;omega
  ·rw[if_neg h]
 ·rw[aW (show(Bj p (i:Nat) (j:Nat) a).length<=y by rw[Jj];omega),aW (show p.length<=y by omega)]
theorem BK (hs:∀y,bit a y=true->bit (j5 p (i:Nat)|||j5 p (j:Nat)) y=true) (sA:i<j):j5 (Bj p (i:Nat) (j:Nat) a) (i:Nat)=a:=Ax fun y=>by
 rw[bH,Eb,oDi];by_cases hy:y<p.length
 ·have hx:=aA hy;rw[lp hx];have hs:=hs y;rw[Ac,Eb,Eb,hx]at hs;unfold rcV;simp only[aD,bW,oDi]at hs⊢;by_cases h:p[y]=(i:Int)\/p[y]=(j:Int)
  ·rw[if_pos h];cases hb:bit a y with
   |true=>simp
   |false=>simp;omega
  ·rw[if_neg h];exact⟨fun e=>absurd (.inl e) h,fun e=>absurd (hs e) h⟩
 ·have hs:=hs y;rw[Ac,Eb,Eb]at hs;rw[aW (show(Bj p (i:Nat) (j:Nat) a).length<=y by rw[Jj];omega)];rw[aW (show p.length<=y by omega)]at hs;simp only[reduceCtorEq,decide_false,Bool.or_self]at hs⊢;exact⟨fun h=>h.elim,fun h=>absurd (hs h) (by simp)⟩
theorem BL (sA:i<j):j5 (Bj p (i:Nat) (j:Nat) a) (j:Nat)=sdf (j5 p (i:Nat)|||j5 p (j:Nat)) a:=Ax fun y=>by
 rw[bH,Eb,oDi,Ad,Ac,Eb,Eb];by_cases hy:y<p.length
 ·have hx:=aA hy;rw[lp hx,hx];unfold rcV;simp only[aD,aF,bW,oDi];by_cases h:p[y]=(i:Int)\/p[y]=(j:Int)
  ·rw[if_pos h];cases hb:bit a y with
   |true=>simp[h];omega
   |false=>simp[h]
  ·rw[if_neg h];exact⟨fun e=>absurd (.inr e) h,fun e=>absurd e.1 h⟩
 ·rw[aW (show(Bj p (i:Nat) (j:Nat) a).length<=y by rw[Jj];omega),aW (show p.length<=y by omega)];simp
theorem c8X (hU:Ak p k) (sA:i<j) (hs:∀y,bit a y=true->bit (j5 p (i:Nat)|||j5 p (j:Nat)) y=true) (ha:a≠0) (hb:sdf (j5 p (i:Nat)|||j5 p (j:Nat)) a≠0):Ak (Bj p (i:Nat) (j:Nat) a) k:=fun d hd=>by
 by_cases h1:d=i
 ·subst h1;rw[BK hs sA];exact ha
 ·by_cases h2:d=j
  ·subst h2;rw[BL sA];exact hb
  ·rw[BJ sA h1 h2];exact hU d hd
theorem SC (sA:i<j) (hj:j<k) (hs:∀y,bit a y=true->bit (j5 p (i:Nat)|||j5 p (j:Nat)) y=true) (m:Nat):m∈masks (Bj p (i:Nat) (j:Nat) a) k↔m=a\/m=sdf (j5 p (i:Nat)|||j5 p (j:Nat)) a\/∃d:Nat,d<k/\d≠i/\d≠j/\m=j5 p (d:Nat):=by
 rw[mem_masks];constructor
 ·rintro⟨d,hd,rfl⟩;by_cases h1:d=i
  ·subst h1;exact .inl (BK hs sA)
  ·by_cases h2:d=j
   ·subst h2;exact .inr (.inl (BL sA))
   ·exact .inr (.inr ⟨d,hd,h1,h2,BJ sA h1 h2⟩)
 ·rintro(rfl|rfl|⟨d,hd,h1,h2,rfl⟩)
  ·exact⟨i,by omega,(BK hs sA).symm⟩
  ·exact⟨j,hj,(BL sA).symm⟩
  ·exact⟨d,hd,(BJ sA h1 h2).symm⟩
end
theorem e0k {a b y:Nat} (h:bit (a|||b) y=true):bit a y=true\/bit b y=true:=by rw[Ac,bW]at h;exact h
theorem e1j {a b y:Nat} (h:bit a y=true):bit (a|||b) y=true:=by rw[Ac,h];rfl
theorem bg {p:List Int} {d e:Int} {y:Nat} (h1:bit (j5 p d) y=true) (h2:bit (j5 p e) y=true):d=e:=by
 rw[Eb,oDi]at h1 h2;rw[h1]at h2
 injection h2
theorem SD {a:Nat} (h:a≠0):∃x,bit a x=true:=by
 obtain⟨x,h1,_⟩:=Ru (a:=0) (b:=a) (fun e=>h e.symm) (fun y hy=>by rw[Bz]at hy;cases hy);exact⟨x,h1⟩
theorem BM {a b:Nat} (h:∀y,bit a y=true->bit b y=false):sdf (a|||b) a=b:=Ax fun y=>by
 rw[Ad,Ac];cases ha:bit a y with
 |true=>rw[h y ha];simp
 |false=>simp
theorem SH {a b:Nat} (h:∀y,bit a y=true->bit b y=false):sdf (a|||b) b=a:=Ax fun y=>by
 rw[Ad,Ac];cases ha:bit a y with
 |true=>rw[h y ha];simp
 |false=>simp
theorem d5b {S a:Nat} (h:∀y,bit a y=true->bit S y=true):sdf S (sdf S a)=a:=Ax fun y=>by
 rw[Ad,Ad];cases ha:bit a y with
 |true=>rw[h y ha];simp
 |false=>cases hS:bit S y<;>simp
theorem SJ {p:List Int} {k i j a:Nat} (hL:LabOk p (k:Nat)) (sA:i<j) (hj:j<k) (hs:∀y,bit a y=true->bit (j5 p (i:Nat)|||j5 p (j:Nat)) y=true) (h:a=j5 p (i:Nat)\/a=j5 p (j:Nat)):n8 (Bj p (i:Nat) (j:Nat) a)=n8 p:=by
 have hd:∀y,bit (j5 p (i:Nat)) y=true->bit (j5 p (j:Nat)) y=false:=fun y hy=>by
  cases hb:bit (j5 p (j:Nat)) y with
  |false=>rfl
  |true=>have:=bg hy hb;omega
 have hm:∀m,m∈masks (Bj p (i:Nat) (j:Nat) a) k↔m∈masks p k:=fun m=>by
  rw[SC sA hj hs,mem_masks];have e:(a=j5 p (i:Nat)/\sdf (j5 p (i:Nat)|||j5 p (j:Nat)) a=j5 p (j:Nat))\/(a=j5 p (j:Nat)/\sdf (j5 p (i:Nat)|||j5 p (j:Nat)) a=j5 p (i:Nat)):=by
   rcases h with h|h
   ·exact .inl ⟨h,by rw[h];exact BM hd⟩
   ·exact .inr ⟨h,by rw[h];exact SH hd⟩
  constructor
  ·rintro(rfl|rfl|⟨d,hd,_,_,rfl⟩)
   ·rcases e with⟨e,_⟩|⟨e,_⟩
    ·exact⟨i,by omega,e⟩
    ·exact⟨j,by omega,e⟩
   ·rcases e with⟨_,e⟩|⟨_,e⟩
    ·exact⟨j,by omega,e⟩
    ·exact⟨i,by omega,e⟩
   ·exact⟨d,hd,rfl⟩
  ·rintro⟨d,hd,rfl⟩;by_cases h1:d=i
   ·subst h1;rcases e with⟨e,_⟩|⟨_,e⟩
    ·exact .inl e.symm
    ·exact .inr (.inl e.symm)
   ·by_cases h2:d=j
    ·subst h2;rcases e with⟨_,e⟩|⟨e,_⟩
     ·exact .inr (.inl e.symm)
     ·exact .inl e.symm
    ·exact .inr (.inr ⟨d,hd,h1,h2,rfl⟩)
 refine nk (Jj ..) (b9A hL (zt hL ⟨by omega,by omega⟩ ⟨by omega,by omega⟩) (Jj ..) (fun m h=>(hm m).2 h) fun m h=>(hm m).1 h)
structure Prt (p:List Int) (k i j a:Nat):Prop where
 lab:LabOk p (k:Nat)
 used:Ak p k
 ij:i<j
 jk:j<k
 sub:∀y,bit a y=true->bit (j5 p (i:Nat)|||j5 p (j:Nat)) y=true
 a0:a≠0
 b0:sdf (j5 p (i:Nat)|||j5 p (j:Nat)) a≠0
section
variable {p:List Int} {k i j a:Nat}
theorem Prt.rlab (h:Prt p k i j a):LabOk (Bj p (i:Nat) (j:Nat) a) (k:Nat):=zt h.lab ⟨by omega,by have:=h.ij;have:=h.jk;omega⟩ ⟨by omega,by have:=h.jk;omega⟩
theorem Prt.rused (h:Prt p k i j a):Ak (Bj p (i:Nat) (j:Nat) a) k:=c8X h.used h.ij h.sub h.a0 h.b0
theorem Prt.dis (h:Prt p k i j a):∀y,bit (j5 p (i:Nat)) y=true->bit (j5 p (j:Nat)) y=false:=fun y hy=>by
 cases hb:bit (j5 p (j:Nat)) y with
 |false=>rfl
 |true=>have:=bg hy hb;have:=h.ij;omega
theorem Prt.masks (h:Prt p k i j a) (m:Nat):m∈masks (n8 (Bj p (i:Nat) (j:Nat) a)) k↔m=a\/m=sdf (j5 p (i:Nat)|||j5 p (j:Nat)) a\/∃d:Nat,d<k/\d≠i/\d≠j/\m=j5 p (d:Nat):=by
 rw[SB h.rlab h.rused,SC h.ij h.jk h.sub]
theorem Prt.news (h:Prt p k i j a) (pT:n8 (Bj p (i:Nat) (j:Nat) a)≠n8 p):a∉Go.GS.masks p k/\sdf (j5 p (i:Nat)|||j5 p (j:Nat)) a∉Go.GS.masks p k:=by
 have key:∀c:Nat,c≠0->(∀y,bit c y=true->bit (j5 p (i:Nat)|||j5 p (j:Nat)) y=true)->c∈Go.GS.masks p k->c=j5 p (i:Nat)\/c=j5 p (j:Nat):=fun c hc hs hm=>by
  obtain⟨d,_,rfl⟩:=mem_masks.1 hm;obtain⟨y,hy⟩:=SD hc;rcases e0k (hs y hy)with h1|h1
  ·rw[bg hy h1];exact .inl rfl
  ·rw[bg hy h1];exact .inr rfl
 refine⟨fun hm=>pT (SJ h.lab h.ij h.jk h.sub (key a h.a0 h.sub hm)),fun hm=> ?_⟩;have h2:=key _ h.b0 (fun y hy=>by rw[Ad,aF]at hy;exact hy.1) hm;refine pT (SJ h.lab h.ij h.jk h.sub ?_);have e:a=sdf (j5 p (i:Nat)|||j5 p (j:Nat)) (sdf (j5 p (i:Nat)|||j5 p (j:Nat)) a):=(d5b h.sub).symm;rcases h2 with h2|h2
 ·exact .inr (e.trans (by rw[h2];exact BM h.dis))
 ·exact .inl (e.trans (by rw[h2];exact SH h.dis))
theorem Prt.uniq {i2 j2 a2 x x2:Nat} (h:Prt p k i j a) (h2:Prt p k i2 j2 a2) (pT:n8 (Bj p (i:Nat) (j:Nat) a)≠n8 p) (he:n8 (Bj p (i:Nat) (j:Nat) a)=n8 (Bj p (i2:Nat) (j2:Nat) a2)) (hx:bit a x=true) (rR:bit a2 x2=true) (hxx:j5 p (i:Nat)|||j5 p (j:Nat)=j5 p (i2:Nat)|||j5 p (j2:Nat)->x=x2):i=i2/\j=j2/\a=a2:=by
 have a6l:n8 (Bj p (i2:Nat) (j2:Nat) a2)≠n8 p:=by rw[<-he];exact pT
 have hn:=h.news pT;have rW:=h2.news a6l;have hm:=h.masks;have uM:=h2.masks;rw[<-he]at uM;have key:∀{i j a i2 j2 a2:Nat},Prt p k i j a->Prt p k i2 j2 a2->a∉Go.GS.masks p k->sdf (j5 p (i:Nat)|||j5 p (j:Nat)) a∉Go.GS.masks p k->(∀m,(m=a2\/m=sdf (j5 p (i2:Nat)|||j5 p (j2:Nat)) a2\/∃d:Nat,d<k/\d≠i2/\d≠j2/\m=j5 p (d:Nat))->(m=a\/m=sdf (j5 p (i:Nat)|||j5 p (j:Nat)) a\/∃d:Nat,d<k/\d≠i/\d≠j/\m=j5 p (d:Nat)))->∀d:Nat,d<k->d=i\/d=j->d=i2\/d=j2:=by
  intro i j a i2 j2 a2 h h2 n1 n2 hm d hd hdi;refine aP fun hnn=> ?_;have hnn:=not_or.1 hnn;rcases hm (j5 p (d:Nat)) (.inr (.inr ⟨d,hd,hnn.1,hnn.2,rfl⟩))with e|e|⟨d2,qE,e1,e2,e⟩
  ·exact n1 (e ▸ mem_masks.2 ⟨d,hd,rfl⟩)
  ·exact n2 (e ▸ mem_masks.2 ⟨d,hd,rfl⟩)
  ·have:=c4u e (h.used d hd);omega
 have k1:=key h h2 hn.1 hn.2 (fun m tR=>(hm m).1 ((uM m).2 tR));have a1:=h.ij;have a2':=h.jk;have a3:=h2.ij;have a4:=h2.jk;have b1:=k1 i (by omega) (.inl rfl);have b2:=k1 j (by omega) (.inr rfl);have hi:i=i2:=by omega
 have hj:j=j2:=by omega
 subst hi;subst hj;obtain rfl:=hxx rfl;refine⟨rfl,rfl,?_⟩;rcases(uM a).1 ((hm a).2 (.inl rfl))with e|e|⟨d,hd,_,_,e⟩
 ·exact e
 ·rw[e,Ad,rR]at hx;simp at hx
 ·exact absurd (mem_masks.2 ⟨d,hd,e⟩) hn.1
end
end Go.GS

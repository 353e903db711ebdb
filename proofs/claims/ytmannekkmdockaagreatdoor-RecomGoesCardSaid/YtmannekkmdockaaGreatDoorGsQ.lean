/- Lemmas of the proof. -/
import Derived.Test.YtmannekkmdockaaGreatDoorGsV
import Derived.Test.YtmannekkmdockaaGreatDoorLgC
open List renaming ext_getElem?->cU,foldl_append->fO,getD_eq_getElem?_getD->aB,getElem?_eq_getElem->aA,getElem?_eq_none->aW,getElem?_map->aO,getElem?_range->eA,length_append->aJ,length_cons->bA,length_map->aR,length_nil->dM,map_append->aX,map_cons->aM,map_map->cC,mem_append->aV,mem_cons->aL,mem_of_getElem?->aI,mem_singleton->aQ,nodup_append->eO,range->bL,range_succ->gQ,reverse_append->mK
open List.Nodup renaming length_le_of_subset->iT,sublist->pJ
open List.Pairwise renaming nil->iF
open List.Perm renaming refl->oK
open Nat renaming le_refl->aN,lt_of_lt_of_le->bK,lt_of_not_le->nO,pow_le_pow_right->aU,testBit_lt_two_pow->jE
open Option renaming some->bZ
open Option.some renaming injEq->aD
open Prod.mk renaming injEq->eB
namespace Go.GS
def blk (k:Nat):List Nat:=(bL k).reverse
theorem OG (k:Nat):blk (k+1)=k::blk k:=by unfold blk;rw[gQ,mK];rfl
theorem kq (k:Nat):(blk k).length=k:=by unfold blk;simp
def gk (F:Nat->Nat->Int) (k i j:Nat):Int:=dt (j::blk k) (F i::(blk k).map F)
def pk (F:Nat->Nat->Int) (k:Nat):Int:=dt (blk k) ((blk k).map F)
section
variable {F:Nat->Nat->Int} {k i j n:Nat}
theorem kr (F:Nat->Nat->Int) (k:Nat):gk F k k k=pk F (k+1):=by unfold gk pk;rw[OG];rfl
theorem OH (F:Nat->Nat->Int):pk F 0=1:=rfl
theorem d4r (F:Nat->Nat->Int) (i j:Nat):gk F 0 i j=F i j:=by simp[gk,blk,dt,dx]
theorem d4s:pk F k*gk F (k+1) i j=gk F k i j*gk F k k k-gk F k i k*gk F k k j:=by
 have:=d4h (blk k) ((blk k).map F) (F k) (F i) k j;unfold gk pk;rw[OG,aM,this]
 grind
theorem d7M (h:pk F k≠0):(gk F k i j*gk F k k k-gk F k i k*gk F k k j)/pk F k=gk F (k+1) i j:=by
 rw[<-d4s,Int.mul_ediv_cancel_left _ h]
theorem c8g {B:Nat} (h:∀i j,(F i j).natAbs<=B) (k i j:Nat):(gk F k i j).natAbs<=((k+1)*B)^(k+1):=by
 have:=zi (B:=B) (j::blk k) (F i::(blk k).map F) (k+1) (by simp[kq]) (fun r hr c hc=>by
  rcases aL.1 hr with rfl|hr
  ·exact h _ _
  ·obtain⟨x,_,rfl⟩:=List.mem_map.1 hr;exact h _ _)
 unfold gk;simpa[kq]using this
end
theorem OJ {C R:Type} (φ:R->C) (c:R) (cs:List R) (ih:∀l:List (C->Int),dt (cs.map φ) l=dt cs (l.map fun r x=>r (φ x))):∀(l p:List (C->Int)),dx (φ c) (dt (cs.map φ)) p l=dx c (dt cs) (p.map fun r x=>r (φ x)) (l.map fun r x=>r (φ x))
 |[],_=>rfl
 |x::l,p=>by
  simp only[aM,dx];rw[ih,OJ φ c cs ih l (p++[x]),aX,aX];rfl
theorem OK {C R:Type} (φ:R->C):∀(cs:List R) (l:List (C->Int)),dt (cs.map φ) l=dt cs (l.map fun r x=>r (φ x))
 |[],[]=>rfl
 |[],_::_=>rfl
 |c::cs,l=>OJ φ c cs (OK φ cs) l []
def Ni (E:List (Nat×Nat)) (lab:Nat->Nat) (V:List Nat) (i j:Nat):Int:=Fm E (cv lab (V.getD i 0)) (cv lab (V.getD j 0))
theorem c8i (V:List Nat) {k:Nat} (hk:k<=V.length):(blk k).map (fun i=>V.getD i 0)=(V.take k).reverse:=by
 unfold blk;rw[List.map_reverse];congr 1;apply cU;intro i;rw[aO,List.getElem?_take];by_cases h:i<k
 ·rw[eA h,if_pos h,Option.map_some,aB,aA (by omega)];rfl
 ·rw[if_neg h,aW (by simp;omega)];rfl
theorem OL (E:List (Nat×Nat)) (lab:Nat->Nat) (V:List Nat) {k:Nat} (hk:k<=V.length):pk (Ni E lab V) k=Dg E lab (V.take k).reverse:=by
 unfold Dg Dv;rw[<-c8i V hk,cC,cC,OK,cC];rfl
theorem zj (E:List (Nat×Nat)) (lab:Nat->Nat) (V:List Nat):pk (Ni E lab V) V.length=Dg E lab V.reverse:=by
 rw[OL E lab V (aN _),List.take_length]
theorem c3J (E:List (Nat×Nat)) (lab:Nat->Nat) {V:List Nat} (hn:V.Nodup) {k:Nat} (hk:k<=V.length) (h:pk (Ni E lab V) k=0):Dg E lab V.reverse=0:=by
 rw[OL E lab V hk]at h;have e:V.reverse=(V.drop k).reverse++(V.take k).reverse:=by rw[<-mK,List.take_append_drop]
 rw[e];refine Vz E lab _ _ ?_ h;rw[<-e];unfold List.Nodup;rw[List.pairwise_reverse];exact hn.imp fun h hh=>h hh.symm
theorem zk (E:List (Nat×Nat)) (lab:Nat->Nat) (V:List Nat) (i j:Nat):(Ni E lab V i j).natAbs<=E.length:=NW lab _ _ E
end Go.GS
/- Chapter 30: determinants of matrices of long integers. -/
namespace Go.RX
open Go.RowKit
theorem Px {P:Program} {G:Value->PH->Prop} {nx:List (List Value->PH->Prop)} {ρ:List Value} {X H:PH} {pf:Bool} {f:FuncId} {args:List SV} {t:Tree} {vs:List Value} {W:Value->PH->Prop} (hc:Con P f vs X fun u X'=>PH.le X X'/\W u X') (hX:PH.le X H) (ha:args.map (D P ρ)=vs)
  (n:∀u X' H',PH.le X X'->W u X'->PH.le X' H'->PH.le H H'->(∀k,H k≠none->X k=none->X' k=none)->den P G t nx (ρ++[u]) H'):den P G (.call pf f args t) nx ρ H:=by
 refine i6 (hc.frame hX) ha ?_;rintro u H' ⟨X',⟨h1,h2⟩,h3,h4⟩;have pP:PH.le H H':=fun k ob hk=>by
  cases e:X k with
  |none=>exact(h4 k ob hk e).2
  |some o2=>
   have:=hX _ _ e;rw[this]at hk;rw[<-hk];exact h3 _ _ (h1 _ _ e)
 exact⟨fun _=>pP,n u X' H' h1 h2 h3 pP fun k hk e=>by
  obtain⟨ob,hk⟩:=Option.ne_none_iff_exists'.1 hk;exact(h4 k ob hk e).1⟩
end Go.RX
namespace Go.Proofs.Z
open Go.Proofs.Tryz
open Go.RowKit Go.RX Go.GS Go.WD
set_option maxRecDepth 100000
abbrev LV:=Bool×Slc
def lc (x:LV):List Value:=[.bool x.1,vs x.2]
def lv (x:LV):Value:= .agg #[.bool x.1,vs x.2]
theorem el_long:El prog 202 116 2 true lc lv where
 und:=by kernel_rfl
 has:=by kernel_rfl
 cel:=by kernel_rfl
 agg:=by kernel_rfl
 pos:=by decide
 one1:=fun h=>(nomatch h)
 small:=by decide
 inf:=⟨(prog.info? 116).getD default,lv (false,(none,0,0)),by kernel_rfl,by kernel_rfl,by kernel_rfl,rfl,oDt (by kernel_rfl)⟩
 len:=fun _=>rfl
 val:=fun _=>rfl
 cells:=fun _=>rfl
 one:=fun x c hc=>by simp[lc]at hc;rcases hc with rfl|rfl<;>rfl
theorem Gt:El prog 201 202 1 false (fun s:Slc=>[vs s]) vs where
 und:=by kernel_rfl
 has:=by kernel_rfl
 cel:=by kernel_rfl
 agg:=by kernel_rfl
 pos:=by decide
 one1:=fun _=>rfl
 small:=by decide
 inf:=⟨(prog.info? 202).getD default,vs (none,0,0),by kernel_rfl,by kernel_rfl,by kernel_rfl,rfl,oDt (by kernel_rfl)⟩
 len:=fun _=>rfl
 val:=fun _=>rfl
 cells:=fun _=>rfl
 one:=fun x c hc=>by simp at hc;subst hc;rfl
theorem Sm {H:PH} {v:Value} {z:Int} (h:Lw H v z):∃x,v=lv x:=by
 obtain⟨w,rfl,l,⟨⟨_,a,c,rfl,_⟩,_⟩,_⟩:=h;exact⟨(_,(a,l.length,c)),rfl⟩
theorem e0c:s7 prog 116=lv (false,(none,0,0)):=by kernel_rfl
theorem d4t (H:PH):Lw H (lv (false,(none,0,0))) 0:=⟨.slice none 0 0,rfl,[],⟨⟨rfl,none,0,rfl,aN _,by simp[maxLen],.inl rfl⟩,fun d hd=>by cases hd⟩,fun i hi=>by simp at hi⊢,rfl⟩
def Fe (M:Nat->Nat->LV) (n i:Nat):List LV:=(bL n).map (M i)
theorem Sr {M:Nat->Nat->LV} {n i j:Nat} (h:j<n):(Fe M n i)[j]? =some (M i j):=by unfold Fe;rw[aO,eA h];rfl
theorem OM (M:Nat->Nat->LV) (n i:Nat):(Fe M n i).length=n:=by unfold Fe;simp
def putM (M:Nat->Nat->LV) (i j:Nat) (x:LV):Nat->Nat->LV:=fun a b=>if a=i/\b=j then x else M a b
theorem c8j (M:Nat->Nat->LV) (n i j:Nat) (x:LV):Fe (putM M i j x) n i=(Fe M n i).set j x:=by
 apply cU;intro b;unfold Fe putM;rw[List.getElem?_set,aO,aO];by_cases hb:b<n
 ·rw[eA hb];by_cases e:b=j
  ·subst e;simp[hb]
  ·have e':¬j=b:=fun h=>e h.symm;simp[e,e']
 ·rw[aW (by simp;omega)];by_cases e:j=b
  ·subst e;simp[hb]
  ·simp[e]
theorem c8k {M:Nat->Nat->LV} {n i a j:Nat} {x:LV} (h:a≠i):Fe (putM M i j x) n a=Fe M n a:=by
 unfold Fe putM;exact List.map_congr_left fun b _=>if_neg fun hh=>h hh.1
def rsl (n g:Nat):Slc:=(some ⟨g,0,none⟩,n,n)
structure MX (X H:PH) (gs:List Nat) (n:Nat) (M:Nat->Nat->LV):Prop where
 nd:gs.Nodup
 n64:n<=64
 row:∀(i g:Nat),gs[i]? =some g->X g=none/\SO (j1 H g) H 116 2 lc (vs (rsl n g)) (Fe M n i)
theorem ku (H:PH) (g:Nat):j1 H g g=none:=if_pos rfl
theorem Wa {α:Type} {e:TypeId} {sz:Nat} {ce:α->List Value} {H H':PH} {g n:Nat} {l:List α} (h:SO (j1 H g) H e sz ce (vs (rsl n g)) l) (hk:∀ob,H g=some ob->H' g=some ob):SO (j1 H' g) H' e sz ce (vs (rsl n g)) l:=by
 obtain⟨h1,⟨h2,h3⟩|⟨g',cap,cur,h2,h3,h4,h5⟩⟩:=h
 ·cases h2
 ·simp only[vs,rsl,Value.slice.injEq,aD,Addr.mk.injEq]at h2;obtain⟨⟨rfl,-,-⟩,h6,h7⟩:=h2;exact⟨h1,.inr ⟨g,cap,cur,by simp only[vs,rsl];rw[<-h6,<-h7],ku _ _,hk _ h4,h5⟩⟩
section
variable {X H X' H':PH} {gs:List Nat} {n i j g:Nat} {M:Nat->Nat->LV} {x:LV} {v:Value} {z:Int}
theorem MX.se (h:MX X H gs n M) (hg:gs[i]? =some g):SE H 2 lc (vs (rsl n g)) (Fe M n i):=(h.row i g hg).2.se
theorem MX.bound (h:MX X H gs n M) (hg:gs[i]? =some g):∃ob,H g=some ob:=by
 obtain⟨h1,⟨h2,h3⟩|⟨g',cap,cur,h2,h3,h4,h5⟩⟩:=(h.row i g hg).2
 ·cases h2
 ·simp only[vs,rsl,Value.slice.injEq,aD,Addr.mk.injEq]at h2;obtain⟨⟨rfl,-,-⟩,h6,h7⟩:=h2;exact⟨_,h4⟩
theorem MX.mono (h:MX X H gs n M) (hl:PH.le H H') (hk:∀k,H k≠none->X k=none->X' k=none):MX X' H' gs n M:=
 ⟨h.nd,h.n64,fun i g hg=>by
  obtain⟨ob,hb⟩:=h.bound hg;exact⟨hk g (by rw[hb];simp) (h.row i g hg).1,Wa (h.row i g hg).2 fun o ho=>hl _ _ ho⟩⟩
theorem MX.put (h:MX X H gs n M) (hg:gs[i]? =some g) (hl:PH.le (j1 H g) H') (ho:SO (j1 H g) H' 116 2 lc (vs (rsl n g)) ((Fe M n i).set j x)):MX X H' gs n (putM M i j x):=
 ⟨h.nd,h.n64,fun a b hb=>by
  by_cases e:a=i
  ·subst e;obtain rfl:g=b:=bZ.inj (hg.symm.trans hb);refine⟨(h.row a g hg).1,?_⟩;rw[c8j];have hc:j1 (j1 H g) g=j1 H g:=by
    funext k;unfold j1;split<;>simp_all
   have:SO (j1 H' g) H' 116 2 lc (vs (rsl n g)) ((Fe M n a).set j x):=by
    obtain⟨h1,⟨h2,h3⟩|⟨g',cap,cur,h2,h3,h4,h5⟩⟩:=ho
    ·cases h2
    ·simp only[vs,rsl,Value.slice.injEq,aD,Addr.mk.injEq]at h2;obtain⟨⟨rfl,-,-⟩,h6,h7⟩:=h2;exact⟨h1,.inr ⟨g,cap,cur,by simp only[vs,rsl];rw[<-h6,<-h7],ku _ _,h4,h5⟩⟩
   exact this
  ·have pT:b≠g:=fun hh=>by
    subst hh;have l1:=(List.getElem?_eq_some_iff.1 hg).1;exact e ((List.getElem?_inj l1 h.nd).1 (hg.trans hb.symm)).symm
   obtain⟨h1,h2⟩:=h.row a b hb;rw[c8k e];exact⟨h1,Wa h2 fun ob sC=>hl _ _ (by unfold j1;rw[if_neg pT];exact sC)⟩⟩
theorem MX.cut (h:MX X H gs n M) (hg:gs[i]? =some g) (hX:PH.le X H):PH.le X (j1 H g):=fun k ob hk=>by
 unfold j1;rw[if_neg (fun e=>by subst e;rw[(h.row i k hg).1]at hk;cases hk)];exact hX _ _ hk
end
def Vl (X:PH) (n k:Nat) (M:Nat->Nat->LV) (Z:Nat->Nat->Int):Prop:=∀i j,k<=i->k<=j->i<n->j<n->Lw X (lv (M i j)) (Z i j)
theorem Vl.mono {X X':PH} {n k:Nat} {M:Nat->Nat->LV} {Z:Nat->Nat->Int} (h:Vl X n k M Z) (hl:PH.le X X'):Vl X' n k M Z:=fun i j a b c d=>(h i j a b c d).mono hl
theorem Vl.put {X:PH} {n k i j:Nat} {M:Nat->Nat->LV} {Z Z':Nat->Nat->Int} {x:LV} (h:Vl X n k M Z) (hx:Lw X (lv x) (Z' i j)) (hz:∀a b,k<=a->k<=b->a<n->b<n->¬(a=i/\b=j)->Z' a b=Z a b):Vl X n k (putM M i j x) Z':=fun a b h1 h2 h3 h4=>by
 unfold putM;by_cases e:a=i/\b=j
 ·rw[if_pos e,e.1,e.2];exact hx
 ·rw[if_neg e,hz a b h1 h2 h3 h4 e];exact h a b h1 h2 h3 h4
def Zk (F:Nat->Nat->Int) (k r c i j:Nat):Int:=if k<i/\(i<r\/i=r/\j<c)then(gk F k i j*gk F k k k-gk F k i k*gk F k k j)/pk F k else gk F k i j
def SmZ (z:Int):Prop:=z.natAbs<BP 100
theorem SmZ.lm {z:Int} (h:SmZ z):Lm z:=bK h (Bf (by decide))
theorem SmZ.mul {y z:Int} (hy:SmZ y) (hz:SmZ z):(y*z).natAbs<BP 200:=by
 rw[Int.natAbs_mul,show 200=100+100 from rfl,ZY];exact Nat.mul_lt_mul'' hy hz
theorem ON {z:Int} (h:z.natAbs<BP 200):Lm z:=bK h (Bf (by decide))
theorem d7O {y z:Int} (hy:y.natAbs<BP 200) (hz:z.natAbs<BP 200):Lm (y-z):=by
 have h:BP 201<=BP 10000:=Bf (by decide);rw[BP_succ]at h;unfold Lm;omega
theorem Nj {gs:List Nat} {n i g:Nat} (h:gs[i]? =some g):(gs.map (rsl n))[i]? =some (rsl n g):=by rw[aO,h];rfl
theorem zl {gs:List Nat} {i n:Nat} (hn:gs.length=n) (h:i<n):∃g,gs[i]? =some g:=⟨_,aA (by omega)⟩
structure Mt (X0 X H:PH) (gs:List Nat) (n k:Nat) (M:Nat->Nat->LV) (Z:Nat->Nat->Int):Prop where
 x0:PH.le X0 X
 xh:PH.le X H
 mx:MX X H gs n M
 vl:Vl X n k M Z
theorem Mt.grow {X0 X H X' H':PH} {gs:List Nat} {n k:Nat} {M:Nat->Nat->LV} {Z:Nat->Nat->Int} (h:Mt X0 X H gs n k M Z) (a:PH.le X X') (b:PH.le X' H') (c:PH.le H H') (d:∀k,H k≠none->X k=none->X' k=none):Mt X0 X' H' gs n k M Z:=⟨h.x0.trans a,b,h.mx.mono c d,h.vl.mono a⟩
theorem e0d {F:Nat->Nat->Int} (hb:∀k i j,k<=64->SmZ (gk F k i j)) {k:Nat} (hk:k<=64):SmZ (pk F k):=by
 cases k with
 |zero=>
  rw[OH];show(1:Nat)<BP 100;have:BP 0<BP 100:=BP_lt_iff.2 (by decide);rw[BP_zero]at this;exact this
 |succ k=>rw[<-kr];exact hb k k k (by omega)
theorem Wb {F:Nat->Nat->Int} {k r c i j:Nat} (h:¬(k<i/\(i<r\/i=r/\j<c))):Zk F k r c i j=gk F k i j:=if_neg h
theorem d7P {F:Nat->Nat->Int} {k r c i j:Nat} (h:¬(i=r/\j=c)):Zk F k r (c+1) i j=Zk F k r c i j:=by
 unfold Zk;split<;>split<;>(first|rfl|omega)
theorem d7Q {F:Nat->Nat->Int} {k r c i j:Nat} (h:k<=j) (hj:j<c):Zk F k (r+1) k i j=Zk F k r c i j:=by
 unfold Zk;split<;>split<;>(first|rfl|omega)
theorem sgI_zeroG {z:Int}:(sgI z 0==0)=true↔z=0:=by
 unfold sgI;rw[beq_iff_eq];split<;>(try split)<;>simp<;>omega
theorem c8l {H X:PH} {v:Value} {gs:List Nat} {n:Nat} {M:Nat->Nat->LV} {F:Nat->Nat->Int} (hX:PH.le X H) (hv:SE X 1 (fun s:Slc=>[vs s]) v (gs.map (rsl n))) (hM:MX X H gs n M) (hn:gs.length=n) (hF:Vl X n 0 M F) (hb:∀k i j,k<=64->SmZ (gk F k i j)) (hc:∀k,k<=n->pk F k=0->pk F n=0):
  Con prog 125 [v] H fun u H'=>∃X',PH.le X X'/\PH.le X' H'/\Lw X' u (pk F n):=by
 refine j3 mixed d3P ?_;have qK:=hM.n64;refine Px (Rf 1 (by omega) (by omega)) hX rfl fun v1 X1 H1 a1 w1 b1 c1 d1=> ?_;simp only[cA,nA];replace hM:=hM.mono c1 d1;obtain⟨x1,rfl⟩:=Sm w1;refine d9 w1.rq ?_;refine j7 Gt (hv.mono (a1.trans b1)) ?_;simp only[cA,nA];rw[aR,hn];refine s9 (α:=Nat×Value×LV) (fun⟨k,y,l⟩=>[ii (k:Nat),y,lv l]) (fun⟨k,y,l⟩=>fun H'=>k<=n/\∃X' M',Mt X X' H' gs n k M' (gk F k)/\Lw X' (lv l) (pk F k)/\pk F k≠0) (fun⟨k,y,l⟩=>n+1-k) ((0,s7 prog 116,x1)) rfl (⟨Nat.zero_le _,X1,M,⟨a1,b1,hM,fun i j h1 h2 h3 h4=>by rw[d4r];exact(hF i j h1 h2 h3 h4).mono a1⟩,w1,by rw[OH];omega⟩) fun⟨k,y,l⟩ H2 ⟨hk,X2,M2,t2,tI,rE⟩=> ?_;simp only[cA,nA];refine d4 (d4 ?_);refine i0 (b:=decide (((k:Nat):Int)<(n:Nat))) rfl (fun h=> ?_) (fun h=> ?_)
 ·replace h:=oDt h;have rQ:k<n:=by omega
  obtain⟨g,hg⟩:=zl hn rQ;refine j8 Gt (hv.mono (t2.x0.trans t2.xh)) (Nj hg) fun _=> ?_;simp only[cA,nA];refine j8 el_long (t2.mx.se hg) (Sr rQ) fun _=> ?_;simp only[cA,nA];refine i6 (Ut ((t2.vl k k (aN _) (aN _) rQ rQ).mono t2.xh)) rfl ?_;rintro _ _ ⟨rfl,rfl⟩;refine nmI ?_;simp only[cA,nA];refine d4 ?_;refine i0 (b:=(sgI (gk F k k k) 0==0)) rfl (fun h2=> ?_) (fun h2=> ?_)
  ·skip
   refine Px (Rf 0 (by omega) (by omega)) t2.xh rfl fun v11 X3 H3 a3 w3 b3 c3 d3=> ?_;simp only[cA,nA];obtain⟨x3,rfl⟩:=Sm w3;refine d9 w3.rq ?_;exact g8 rfl ⟨X3,t2.x0.trans a3,b3,by rw[hc (k+1) rQ (by rw[<-kr];exact sgI_zeroG.1 h2)];exact w3⟩
  ·skip
   have a5p:gk F k k k≠0:=fun e=>by rw[sgI_zeroG.2 e]at h2;cases h2
   refine s9 (α:=Nat) (fun r=>[ii (r:Nat),y,lv l]) (fun r=>fun H'=>k<r/\r<=n/\∃X' M',Mt X X' H' gs n k M' (Zk F k r k)/\Lw X' (lv l) (pk F k)) (fun r=>n+1-r) (k+1) (Cc (i9 rfl (by omega)) rfl rfl) (⟨by omega,by omega,X2,M2,⟨t2.x0,t2.xh,t2.mx,fun i j h1 h2 h3 h4=>by rw[Wb (by omega)];exact t2.vl i j h1 h2 h3 h4⟩,tI⟩) fun r H3 ⟨zD,hr2,X3,M3,t3,vS⟩=> ?_;simp only[cA,nA];refine j7 Gt (hv.mono (t3.x0.trans t3.xh)) ?_;simp only[cA,nA];rw[aR,hn];refine d4 (d4 ?_);refine i0 (b:=decide (((r:Nat):Int)<(n:Nat))) rfl (fun h3=> ?_) (fun h3=> ?_)
   ·replace h3:=oDt h3;have hrn:r<n:=by omega
    obtain⟨g2,hg2⟩:=zl hn hrn;refine j8 Gt (hv.mono (t3.x0.trans t3.xh)) (Nj hg2) fun _=> ?_;simp only[cA,nA];refine j8 el_long (t3.mx.se hg2) (Sr rQ) fun _=> ?_;simp only[cA,nA];generalize hf:M3 r k=f;have hf3:Lw X3 (lv f) (gk F k r k):=by rw[<-hf,<-Wb (F:=F) (k:=k) (r:=r) (c:=k) (i:=r) (j:=k) (by omega)];exact t3.vl r k (by omega) (aN _) hrn rQ
    refine d9 (el_long.vcells f) ?_;refine s9 (α:=Nat) (fun c=>[ii (c:Nat)]) (fun c=>fun H'=>k<=c/\c<=n/\∃X' M',Mt X X' H' gs n k M' (Zk F k r c)/\Lw X' (lv l) (pk F k)/\Lw X' (lv f) (gk F k r k)) (fun c=>n+1-c) (k) rfl (⟨aN _,by omega,X3,M3,t3,vS,hf3⟩) fun c H4 ⟨sG,rD,X4,M4,t4,hl4,hf4⟩=> ?_;simp only[cA,nA];refine j7 Gt (hv.mono (t4.x0.trans t4.xh)) ?_;simp only[cA,nA];rw[aR,hn];refine d4 (d4 ?_);refine i0 (b:=decide (((c:Nat):Int)<(n:Nat))) rfl (fun h4=> ?_) (fun h4=> ?_)
    ·replace h4:=oDt h4;have tA:c<n:=by omega
     refine j8 Gt (hv.mono (t4.x0.trans t4.xh)) (Nj hg2) fun _=> ?_;simp only[cA,nA];refine j8 el_long (t4.mx.se hg2) (Sr tA) fun _=> ?_;simp only[cA,nA];refine j8 Gt (hv.mono (t4.x0.trans t4.xh)) (Nj hg) fun _=> ?_;simp only[cA,nA];refine j8 el_long (t4.mx.se hg) (Sr rQ) fun _=> ?_;simp only[cA,nA];refine j8 Gt (hv.mono (t4.x0.trans t4.xh)) (Nj hg) fun _=> ?_;simp only[cA,nA];refine j8 el_long (t4.mx.se hg) (Sr tA) fun _=> ?_;simp only[cA,nA];have e1:Lw X4 (lv (M4 r c)) (gk F k r c):=by rw[<-Wb (F:=F) (k:=k) (r:=r) (c:=c) (i:=r) (j:=c) (by omega)];exact t4.vl r c (by omega) sG hrn tA
     have e2:Lw X4 (lv (M4 k k)) (gk F k k k):=by rw[<-Wb (F:=F) (k:=k) (r:=r) (c:=c) (i:=k) (j:=k) (by omega)];exact t4.vl k k (by omega) (aN _) rQ rQ
     have e3:Lw X4 (lv (M4 k c)) (gk F k k c):=by rw[<-Wb (F:=F) (k:=k) (r:=r) (c:=c) (i:=k) (j:=c) (by omega)];exact t4.vl k c (by omega) sG rQ tA
     have s1:=hb k r c (by omega);have s2:=hb k k k (by omega);have s3:=hb k k c (by omega);have s4:=hb k r k (by omega);refine Px (Ls e1 e2 s1.lm s2.lm) t4.xh rfl fun u1 X5 H5 a5 w5 b5 c5 d5=> ?_;simp only[cA,nA];replace t4:=t4.grow a5 b5 c5 d5;refine Px (Ls (hf4.mono a5) (e3.mono a5) s4.lm s3.lm) t4.xh rfl fun u2 X6 H6 a6 w6 b6 c6 d6=> ?_;simp only[cA,nA];replace t4:=t4.grow a6 b6 c6 d6;refine Px (IE (w5.mono a6) w6 (ON (s1.mul s2)) (ON (s4.mul s3))) t4.xh rfl fun u3 X7 H7 a7 w7 b7 c7 d7=> ?_;simp only[cA,nA];replace t4:=t4.grow a7 b7 c7 d7;obtain⟨x7,rfl⟩:=Sm w7;refine d9 w7.rq ?_;refine j8 Gt (hv.mono (t4.x0.trans t4.xh)) (Nj hg2) fun _=> ?_;simp only[cA,nA];refine Px ((ux w7 (hl4.mono (a5.trans (a6.trans a7))) (d7O (s1.mul s2) (s4.mul s3)) (e0d hb (by omega)).lm rE)) t4.xh rfl fun u4 X8 H8 a8 w8 b8 c8 d8=> ?_;simp only[cA,nA];replace t4:=t4.grow a8 b8 c8 d8;obtain⟨qa,qb,rfl,q1,q2⟩:=w8;obtain⟨x8,rfl⟩:=Sm q1;refine i8 (i8 ?_);refine Dp el_long (a:=x8) rfl rfl rfl rfl (fun _=>rfl) (fun _=>rfl) (Jb H8 g2) (t4.mx.row r g2 hg2).2 (show c<(Fe M4 n r).length by rw[OM];exact tA) rfl (fun _=>rfl) rfl fun p9 u9 H9 l9 o9 _=> ?_;simp only[cA,nA];exact⟨c+1,by omega,(z8 (i9 rfl (by omega))),⟨by omega,by omega,X8,putM M4 r c x8,⟨t4.x0,(t4.mx.cut hg2 t4.xh).trans l9,t4.mx.put hg2 l9 o9,t4.vl.put (by show Lw X8 (lv x8) (Zk F k r (c+1) r c);unfold Zk;rw[if_pos (by omega)];exact q1) (fun i j h1 h2 h3 h4 h5=>d7P h5)⟩,hl4.mono (a5.trans (a6.trans (a7.trans a8))),hf4.mono (a5.trans (a6.trans (a7.trans a8)))⟩⟩
    ·replace h4:=oDf h4;exact⟨r+1,by omega,(Cc (i9 rfl (by omega)) rfl rfl),⟨by omega,by omega,X4,M4,⟨t4.x0,t4.xh,t4.mx,fun i j h1 h2 h3 h4=>by have:=t4.vl i j h1 h2 h3 h4;rw[d7Q (c:=c) h2 (by omega)];exact this⟩,hl4⟩⟩
   ·replace h3:=oDf h3;have hrn:r=n:=by omega
    refine j8 Gt (hv.mono (t3.x0.trans t3.xh)) (Nj hg) fun _=> ?_;simp only[cA,nA];refine j8 el_long (t3.mx.se hg) (Sr rQ) fun _=> ?_;simp only[cA,nA];refine d9 (el_long.vcells _) ?_;exact⟨(k+1,y,M3 k k),by show n+1-(k+1)<n+1-k;omega,(Cc (i9 rfl (by omega)) rfl rfl),⟨rQ,X3,M3,⟨t3.x0,t3.xh,t3.mx,fun i j h1 h2 h3 h4=>by have:=t3.vl i j (by omega) (by omega) h3 h4;rw[<-d7M rE];unfold Zk at this;rw[if_pos (by omega)]at this;exact this⟩,by rw[<-kr,<-Wb (F:=F) (k:=k) (r:=r) (c:=k) (i:=k) (j:=k) (by omega)];exact t3.vl k k (aN _) (aN _) rQ rQ,by rw[<-kr];exact a5p⟩⟩
 ·replace h:=oDf h;have wW:k=n:=by omega
  subst wW;exact g8 rfl ⟨X2,t2.x0,t2.xh,tI⟩
end Go.Proofs.Z
/- Chapter 32: walks without loops, and the trees that are drawn with them. -/
namespace Go.GS
def Ep (l:List Nat):Nat->Nat->Option Nat
 |0,_=>none
 |i+1,x=>if l[i]? =some x then some i else Ep l i x
theorem Ss {l:List Nat} {x:Nat}:∀{i j:Nat},Ep l i x=some j->j<i/\l[j]? =some x/\∀k,j<k->k<i->l[k]?≠some x
 |i+1,j,h=>by
  simp only[Ep]at h;split at h
  ·rename_i hx;simp only[aD]at h;subst h;exact⟨by omega,hx,fun k h1 h2=>by omega⟩
  ·rename_i hx;obtain⟨h1,h2,h3⟩:=Ss h;refine⟨by omega,h2,fun k g1 g2=> ?_⟩;by_cases e:k=i
   ·subst e;exact hx
   ·exact h3 k g1 (by omega)
theorem Zz {l:List Nat} {x k:Nat} (hk:l[k]? =some x):∀{i:Nat},k<i->∃j,Ep l i x=some j/\k<=j
 |i+1,h=>by
  simp only[Ep];split
  ·exact⟨i,rfl,by omega⟩
  ·rename_i hx;have:k≠i:=fun e=>by subst e;exact hx hk
   exact Zz hk (by omega)
def Hj (l:List Nat):Nat->Nat->List Nat
 |0,_=>[]
 |f+1,x=>if l[l.length-1]? =some x then[]else match Ep l l.length x with
  |none=>[]
  |some j=>l.getD (j+1) 0::Hj l f (l.getD (j+1) 0)
def u0 (l:List Nat):List Nat:=l.getD 0 0::Hj l l.length (l.getD 0 0)
theorem zm {l:List Nat} {x j:Nat} (hx:l[l.length-1]?≠some x) (hj:Ep l l.length x=some j):∃y j',l[j+1]? =some y/\l.getD (j+1) 0=y/\Ep l l.length y=some j'/\j+1<=j':=by
 obtain⟨h1,h2,_⟩:=Ss hj;have h3:j+1<l.length:=by
  apply Nat.lt_of_le_of_ne h1;intro e;exact hx (by rw[show l.length-1=j by omega];exact h2)
 have hy:=aA h3;obtain⟨j',h4,h5⟩:=Zz hy h3;exact⟨_,j',hy,by rw[aB,hy];rfl,h4,h5⟩
theorem zn {l:List Nat} {x:Nat} (h:l[l.length-1]? =some x) (f:Nat):Hj l f x=[]:=by
 cases f with
 |zero=>rfl
 |succ f=>simp only[Hj,if_pos h]
theorem zo {l:List Nat} {x j f y:Nat} (hx:l[l.length-1]?≠some x) (hj:Ep l l.length x=some j) (hy:l.getD (j+1) 0=y):Hj l (f+1) x=y::Hj l f y:=by
 simp only[Hj,if_neg hx,hj,hy]
theorem OO {pre:List Nat} {z til:Nat} (pV:∀y∈pre,bit til y=false):∀(f x j:Nat),Ep (pre++[z]) (pre++[z]).length x=some j->(pre++[z]).length<=f+j->
  (x::Hj (pre++[z]) f x).Nodup/\(∀y∈x::Hj (pre++[z]) f x,∃j',Ep (pre++[z]) (pre++[z]).length y=some j'/\j<=j')/\∃r,x::Hj (pre++[z]) f x=r++[z]/\∀y∈r,bit til y=false:=by
 have a0m:(pre++[z])[(pre++[z]).length-1]? =some z:=by simp
 intro f;induction f with
 |zero=>intro x j hj hf;have:=(Ss hj).1;omega
 |succ f ih=>
  intro x j hj hf;by_cases hx:(pre++[z])[(pre++[z]).length-1]? =some x
  ·rw[zn hx];have e:z=x:=by rw[a0m]at hx;exact bZ.inj hx
   subst e;refine⟨by simp,fun y hy=> ?_,[],rfl,fun y hy=>by cases hy⟩;obtain rfl:=aQ.1 hy;exact⟨j,hj,aN _⟩
  ·obtain⟨y,j',h1,h2,h3,h4⟩:=zm hx hj;rw[zo hx hj h2];obtain⟨g1,g2,r,g3,g4⟩:=ih y j' h3 (by omega);refine⟨List.nodup_cons.2 ⟨fun hm=> ?_,g1⟩,fun w hw=> ?_,x::r,by rw[g3];rfl,fun w hw=> ?_⟩
   ·obtain⟨j2,k1,k2⟩:=g2 x hm;rw[hj]at k1;simp only[aD]at k1;omega
   ·rcases aL.1 hw with rfl|hw
    ·exact⟨j,hj,aN _⟩
    ·obtain⟨j2,k1,k2⟩:=g2 w hw;exact⟨j2,k1,by omega⟩
   ·rcases aL.1 hw with rfl|hw
    ·have hm:=aI (Ss hj).2.1;rcases aV.1 hm with hm|hm
     ·exact pV _ hm
     ·obtain rfl:=aQ.1 hm;exact absurd a0m hx
    ·exact g4 w hw
theorem OQ {n:Nat} {es:List (Nat×Nat)} (hg:GV n es) (qK:n<=64) {set til:Nat} (hs:set<M64):∀(k:Nat) (pre:List Nat) (x c:Nat) {l:List Nat} {c' k':Nat},(∀y∈pre,bit til y=false)->(∀y∈pre++[x],y<n)->Dj es set til k (pre++[x]) x c= .inr (l,c',k')->
  ∃pre' z,l=pre'++[z]/\(∀y∈pre',bit til y=false)/\bit til z=true/\(∀y∈l,y<n)/\l.length+k'=pre.length+1+k:=by
 intro k;induction k with
 |zero=>
  intro pre x c l c' k' hp hn h;by_cases hb:bit til x=true
  ·rw[ym hb]at h;simp only[Sum.inr.injEq,eB]at h;obtain⟨rfl,rfl,rfl⟩:=h;exact⟨pre,x,rfl,hp,hb,hn,by simp⟩
  ·rw[LY (by simpa using hb)]at h;cases h
 |succ k ih=>
  intro pre x c l c' k' hp hn h;by_cases hb:bit til x=true
  ·rw[ym hb]at h;simp only[Sum.inr.injEq,eB]at h;obtain⟨rfl,rfl,rfl⟩:=h;exact⟨pre,x,rfl,hp,hb,hn,by simp⟩
  ·simp only[Dj,if_neg hb]at h;split at h
   ·rename_i h0;have hm:(nbl es set x).getD (j9 c (nbl es set x).length).1 0<n:=by
     rw[aB,aA (Na h0)];exact MA hg qK hs (List.getElem_mem _)
    obtain⟨pre',z,h1,h2,h3,h4,h5⟩:=ih (pre++[x]) _ _ (fun y hy=>by
     rcases aV.1 hy with hy|hy
     ·exact hp y hy
     ·obtain rfl:=aQ.1 hy;simpa using hb) (fun y hy=>by
     rcases aV.1 hy with hy|hy
     ·exact hn y hy
     ·obtain rfl:=aQ.1 hy;exact hm) h
    exact⟨pre',z,h1,h2,h3,h4,by rw[h5];simp;omega⟩
   ·cases h
def orL (d:Nat) (w:List Nat):Nat:=w.foldl (fun d y=>d|||2^y) d
theorem Su (d:Nat) (w:List Nat) (y:Nat):orL d (w++[y])=orL d w|||2^y:=by unfold orL;rw[fO];rfl
theorem aa (a b x:Nat):bit (a|||b) x=(bit a x||bit b x):=Nat.testBit_or _ _ _
theorem OR (y x:Nat):bit (2^y) x=decide (y=x):=Nat.testBit_two_pow
theorem ac (w:List Nat) (d x:Nat):bit (orL d w) x=(bit d x||decide (x∈w)):=by
 induction w using Hy with
 |nil=>simp[orL]
 |snoc w y ih=>
  rw[Su,aa,ih,OR];by_cases h:y=x
  ·subst h;simp
  ·have h':¬x=y:=fun e=>h e.symm;simp[h,h']
theorem OS {n:Nat} (w:List Nat) (d:Nat) (hd:d<2^n) (hw:∀y∈w,y<n):orL d w<2^n:=by
 induction w using Hy with
 |nil=>exact hd
 |snoc w y ih=>
  rw[Su];exact Nat.or_lt_two_pow (ih fun z hz=>hw z (by simp[hz])) (Nat.pow_lt_pow_right (by decide) (hw y (by simp)))
theorem c8m {a b:Nat} (h:∀y,bit a y=true->bit b y=true) (hb:b<M64):card a<=card b:=by
 by_cases e:a=b
 ·rw[e];exact aN _
 ·obtain⟨x,h1,h2⟩:=Ru e h;have hx:x<64:=by
   apply nO;intro hh;have:b.testBit x=false:=jE (bK hb (aU (n:=2) (by decide) hh));unfold bit at h1;rw[this]at h1;cases h1
  exact Nat.le_of_lt (Vj h h1 h2 hx)
theorem kw (w:List Nat) (d:Nat) (hn:w.Nodup) (hw:∀y∈w,bit d y=false/\y<64):card d+w.length<=card (orL d w):=by
 induction w using Hy with
 |nil=>exact aN _
 |snoc w y ih=>
  obtain⟨h1,h2,h3⟩:=eO.1 hn;have:=ih h1 fun z hz=>hw z (by simp[hz]);obtain⟨hy,a5q⟩:=hw y (by simp);have pO:card (orL d w)<card (orL d (w++[y])):=Vj (x:=y) (fun z hz=>by rw[Su,aa,hz];rfl) (by rw[Su,aa,OR];simp) (by
   rw[ac,hy];simp only[Bool.false_or,decide_eq_false_iff_not];exact fun hm=>h3 y hm y (by simp) rfl) a5q
  simp only[aJ,bA,dM];omega
theorem kx {d n:Nat} (h:d<2^n) (qK:n<=64):card d<=n:=by
 have hd:d<M64:=bK h (aU (n:=2) (by decide) qK);have sJ:(els d).Nodup:=by
  unfold els;exact pJ List.filter_sublist List.nodup_range
 have:=iT sJ (l₂:=bL n) fun x hx=>by
  rw[List.mem_range];apply nO;intro hh;have h1:=(Gf hd).1 hx;have:d.testBit x=false:=jE (bK h (aU (n:=2) (by decide) hh));unfold bit at h1;rw[this]at h1;cases h1
 rwa[List.length_range]at this
def edW (es:List (Nat×Nat)) (w:List Nat) (i:Nat):List Int:=(bL i).flatMap fun i=>if i=0 then[]else[Il es (min (w.getD i 0) (w.getD (i-1) 0),max (w.getD i 0) (w.getD (i-1) 0))]
theorem ky (es:List (Nat×Nat)) (w:List Nat) (i:Nat):edW es w (i+1)=edW es w i++if i=0 then[]else[Il es (min (w.getD i 0) (w.getD (i-1) 0),max (w.getD i 0) (w.getD (i-1) 0))]:=by
 unfold edW;rw[gQ,List.flatMap_append];simp
theorem ae (es:List (Nat×Nat)) (w:List Nat):∀i,(edW es w i).length=i-1
 |0=>rfl
 |i+1=>by
  rw[ky,aJ,ae es w i];by_cases h:i=0
  ·subst h;rfl
  ·rw[if_neg h];simp;omega
def Ea (es:List (Nat×Nat)) (set n:Nat):Nat->Nat->List Int->Nat->Nat->Nat ⊕ (List Int×Nat)
 |0,_,tr,c,_=> .inr (tr,c)
 |k+1,d,tr,c,left=>if bit set (n-(k+1))=true/\bit d (n-(k+1))=false then
   match Dj es set d left [n-(k+1)] (n-(k+1)) c with
   | .inl e=> .inl e
   | .inr (l,c',left')=>Ea es set n k (orL d (u0 l)) (tr++edW es (u0 l) (u0 l).length) c' left'
  else Ea es set n k d tr c left
def Dc (l:List Int):List Int:=l.foldl Vi []
theorem Wc (l:List Int):(Dc l).Perm l/\(Dc l).Pairwise (· <= ·):=by
 induction l using Hy with
 |nil=>exact⟨oK _,iF⟩
 |snoc l x ih=>
  have e:Dc (l++[x])=Vi (Dc l) x:=by unfold Dc;rw[fO];rfl
  rw[e];exact⟨(c2f _ _).trans (ih.1.append_right [x]),d3j ih.2⟩
theorem OT {n:Nat} {es:List (Nat×Nat)} (hg:GV n es) (qK:n<=64) {set d left x c:Nat} (hs:set<M64) (hx:x<n) (hd:d<2^n) {l:List Nat} {c' k':Nat} (h:Dj es set d left [x] x c= .inr (l,c',k')):
  0<l.length/\l.length+k'=1+left/\(∀y∈u0 l,y<n)/\card d+(u0 l).length<=card (orL d (u0 l))+1/\orL d (u0 l)<2^n:=by
 obtain⟨pre,z,rfl,h2,h3,h4,h5⟩:=OQ hg qK hs left [] x c (fun y hy=>by cases hy) (fun y hy=>by obtain rfl:=aQ.1 hy;exact hx) h;have pR:0<(pre++[z]).length:=by simp
 obtain⟨j,hj,_⟩:=Zz (aA pR) pR;have h0:(pre++[z]).getD 0 0=(pre++[z])[0]:=by rw[aB,aA pR];rfl
 obtain⟨g1,g2,r,g3,g4⟩:=OO (z:=z) h2 (pre++[z]).length _ j hj (by omega);have he:u0 (pre++[z])=r++[z]:=by unfold u0;rw[h0];exact g3
 have hm:∀y∈u0 (pre++[z]),y<n:=fun y hy=>by
  rw[he,<-g3]at hy;obtain⟨j',k1,_⟩:=g2 y hy;exact h4 y (aI (Ss k1).2.1)
 have pO:=OS (u0 (pre++[z])) d hd hm;refine⟨pR,by rw[h5];rfl,hm,?_,pO⟩;rw[g3]at g1;rw[he]at pO hm⊢;have xO:=kw r d (eO.1 g1).1 fun y hy=>⟨g4 y hy,by have:=hm y (by simp[hy]);omega⟩;have qM:=c8m (a:=orL d r) (b:=orL d (r++[z])) (fun y hy=>by rw[Su,aa,hy];rfl) (bK pO (aU (n:=2) (by decide) qK));simp only[aJ,bA,dM];omega
end Go.GS

/- Lemmas: chapter 32. -/
import Derived.Test.YtmannekkmdockaaGreatDoorGdB
open Int renaming tmod->lC
open List renaming getElem?_set_ne->fP,getElem?_set_self->fJ,getElem?_toArray->mK,length_replicate->mL,replicate->eK,replicate_succ->nC,replicate_zero->nD
open List.Nodup renaming idxOf_getElem->pB
open List.Pairwise renaming nil->gV
open Nat renaming lt_succ_iff_lt_or_eq->fO,pos_of_ne_zero->kR,sub_self->jI
open Prod.mk renaming injEq->jT
open Go.IntKind renaming wrap->wQ
namespace Go.Z
open Proofs.Tryz RowKit RX GS
structure LbI (n:Nat) (e:Nat×Nat) (x next:Nat) (p:List Int):Prop where
 len:p.length=n
 lo:∀(y:Nat) (z:Int),p[y]? =some z-> -1<=z/\z<(next:Int)
 done:∀(y:Nat) (z:Int),y<x->p[y]? =some z->0<=z
 nx:next<=x
 ka:e.1<x->next<x\/∃z,p[e.2]? =some z/\0<=z
 kb:e.2<x->next<x
structure LbJ (n:Nat) (e:Nat×Nat) (x next i:Nat) (p:List Int):Prop where
 len:p.length=n
 lo:∀(y:Nat) (z:Int),p[y]? =some z-> -1<=z/\z<(next:Int)+1
 done:∀(y:Nat) (z:Int),y<x+1->p[y]? =some z->0<=z
 nx:next<=x
 at_:p[x]? =some (next:Int)
 ka:e.1<x->next<x\/∃z,p[e.2]? =some z/\0<=z
 kb:e.2<x->next<x
 kc:e.1=x->0<i->∃z,p[e.2]? =some z/\0<=z
 kd:e.2=x->next<x
theorem LbI.skip {n:Nat} {e:Nat×Nat} {x next:Nat} {p:List Int} {z:Int} (h:LbI n e x next p) (hz:p[x]? =some z) (h0:0<=z):LbI n e (x+1) next p where
 len:=h.len
 lo:=h.lo
 done:=fun y z' hy sE=>by
  rcases fO.1 hy with hy|rfl
  ·exact h.done y z' hy sE
  ·rw[hz]at sE;cases sE;exact h0
 nx:=Nat.le_succ_of_le h.nx
 ka:=fun _=> .inl (by have:=h.nx;omega)
 kb:=fun _=>by have:=h.nx;omega
theorem LbI.begin {n:Nat} {e:Nat×Nat} {x next:Nat} {p:List Int} {z:Int} (h:LbI n e x next p) (he:e.1<e.2) (hz:p[x]? =some z) (h0:z<0):LbJ n e x next 0 (p.set x (next:Int)) where
 len:=by rw[cJ];exact h.len
 lo:=fun y z' sE=>by
  rw[dH]at sE;split at sE
  ·split at sE
   ·cases sE;omega
   ·cases sE
  ·have:=h.lo y z' sE;omega
 done:=fun y z' hy sE=>by
  rw[dH]at sE;split at sE
  ·split at sE
   ·cases sE;omega
   ·cases sE
  ·exact h.done y z' aA sE
 nx:=h.nx
 at_:=fJ (aH.1 hz).1
 ka:=fun hx=>by
  rcases h.ka hx with h1|⟨z',h1,h2⟩
  ·exact .inl h1
  ·right;by_cases rG:x=e.2
   ·subst rG;rw[hz]at h1;cases h1;omega
   ·exact⟨z',by rw[fP rG];exact h1,h2⟩
 kb:=h.kb
 kc:=fun _ h=>by omega
 kd:=fun hx=>by
  rcases h.ka aA with h1|⟨z',h1,h2⟩
  ·exact h1
  ·rw[hx,hz]at h1;cases h1;omega
theorem LbJ.end {n:Nat} {e:Nat×Nat} {x next i:Nat} {p:List Int} (h:LbJ n e x next i p) (hi:e.1=x->0<i):LbI n e (x+1) (next+1) p where
 len:=h.len
 lo:=fun y z hz=>by have:=h.lo y z hz;omega
 done:=h.done
 nx:=Nat.succ_le_succ h.nx
 ka:=fun hx=>by
  rcases fO.1 hx with hx|hx
  ·rcases h.ka hx with h1|h1
   ·left;omega
   ·exact .inr h1
  ·exact .inr (h.kc hx (hi hx))
 kb:=fun hx=>by
  rcases fO.1 hx with hx|hx
  ·have:=h.kb hx;omega
  ·have:=h.kd hx;omega
theorem LbJ.put {n:Nat} {e:Nat×Nat} {x next i y:Nat} {p:List Int} (h:LbJ n e x next i p) (hy:y<n):LbJ n e x next i (p.set y (next:Int)) where
 len:=by rw[cJ];exact h.len
 lo:=fun y' z' sE=>by
  rw[dH]at sE;split at sE
  ·split at sE
   ·cases sE;omega
   ·cases sE
  ·exact h.lo y' z' sE
 done:=fun y' z' tP sE=>by
  rw[dH]at sE;split at sE
  ·split at sE
   ·cases sE;omega
   ·cases sE
  ·exact h.done y' z' tP sE
 nx:=h.nx
 at_:=by
  by_cases e1:y=x
  ·subst e1;exact fJ (by rw[h.len];exact hy)
  ·rw[fP e1];exact h.at_
 ka:=fun hx=>(h.ka hx).imp (fun h=>h) fun⟨z,h1,h2⟩=>by
  by_cases e1:y=e.2
  ·subst e1;exact⟨next,fJ (aH.1 h1).1,aA⟩
  ·exact⟨z,by rw[fP e1];exact h1,h2⟩
 kb:=h.kb
 kc:=fun hx hi=>by
  obtain⟨z,h1,h2⟩:=h.kc hx hi;by_cases e1:y=e.2
  ·subst e1;exact⟨next,fJ (aH.1 h1).1,aA⟩
  ·exact⟨z,by rw[fP e1];exact h1,h2⟩
 kd:=h.kd
theorem LbJ.inc {n:Nat} {e:Nat×Nat} {x next i:Nat} {p:List Int} (h:LbJ n e x next i p) (hk:e.1=x->i=0->∃z,p[e.2]? =some z/\0<=z):LbJ n e x next (i+1) p where
 len:=h.len
 lo:=h.lo
 done:=h.done
 nx:=h.nx
 at_:=h.at_
 ka:=h.ka
 kb:=h.kb
 kc:=fun hx _=>by
  cases i with
  |zero=>exact hk hx rfl
  |succ i=>exact h.kc hx (Nat.succ_pos _)
 kd:=h.kd
theorem c4X (n:Nat) (e:Nat×Nat):LbI n e 0 0 (eK n (-1)) where
 len:=aD
 lo:=fun y z hz=>by
  rw[dX]at hz;split at hz
  ·cases hz;omega
  ·cases hz
 done:=fun y z hy=>by omega
 nx:=aS _
 ka:=fun h=>by omega
 kb:=fun h=>by omega
theorem d5e {n i:Nat} (h:i<n):(eK i (-1:Int)++eK (n-i) 0).set i (-1)=eK (i+1) (-1)++eK (n-(i+1)) 0:=by
 obtain⟨k,hk⟩:∃k,n-i=k+1:=⟨n-i-1,aA⟩;rw[hk,show n-(i+1)=k by omega,nC,List.replicate_succ',bH];simp[List.set_append]
section
variable {H:PH} {u w:Value} {t:List Int} {n:Nat} {es:List (Nat×Nat)} {e:Nat×Nat}
theorem c0h (hw:SG H w es) (hg:GV n es) (hu:SI H u t) (ht:∀i∈t,0<=i/\i.toNat<es.length) (hl:t.length<=64) (he:e.1<e.2) (hf:∀y,t[0]? =some y->Ed es y=e) (h0:t=[]->n<=e.1):Con prog 43 [gv n w,u] H fun r H'=>Pl H H'/\∃p next,SI H' r p/\LbI n e n next p:=by
 refine i9 mixed c4a ?_;have rM:=hg.n64;refine d4 (t8 hw) ?_;refine Uu el_plan (z:=(0:Int)) Vd rfl rfl rfl aA rfl fun v H1 l1 o1 _=> ?_;simp only[cA,nA];refine s8 (α:=Nat) (fun i=>[ii (i:Nat)]) (fun i=>fun H'=>i<=n/\Pl H H'/\SO H H' 3 1 (fun z:Int=>[ii z]) v (eK i (-1)++eK (n-i) 0)) (fun i=>n-i) (0) rfl (⟨bI _,l1,o1⟩) fun i H' hQ=> ?_;simp only[cA,nA];obtain⟨hi,l2,o2⟩:=hQ;refine d9 (d9 ?_);refine g7 (b:=decide (((i:Nat):Int)<(n:Nat))) rfl (fun h=> ?_) (fun h=> ?_)
 ·replace h:=oDt h;refine Dp el_plan (a:=(-1:Int)) rfl rfl rfl rfl aE aE l2 o2 (by simp;omega) rfl aE rfl fun q u' H3 l3 o3 _=> ?_;simp only[cA,nA];exact⟨i+1,aA,(z8 (i6 rfl aA)),⟨aA,l3,by rw[d5e aA]at o3;exact o3⟩⟩
 ·replace h:=oDf h;have uZ:i=n:=aA;subst uZ;rw[jI,nD,bQ]at o2;refine s8 (α:=Nat×Nat×List Int) (fun⟨next,x,p⟩=>[ii (next:Nat),ii (x:Nat),gv i w]) (fun⟨next,x,p⟩=>fun H2=>x<=i/\Pl H H2/\SO H H2 3 1 (fun z:Int=>[ii z]) v p/\LbI i e x next p) (fun⟨next,x,p⟩=>i-x) ((0,0,eK i (-1))) rfl (⟨bI _,l2,o2,c4X i e⟩) fun⟨next,x,p⟩ H2 xQ=> ?_;simp only[cA,nA];obtain⟨hx,l3,o3,hI⟩:=xQ;refine d9 (d9 ?_);refine g7 (b:=decide (((x:Nat):Int)<(i:Nat))) rfl (fun h=> ?_) (fun h=> ?_)
  ·replace h:=oDt h;have sH:x<i:=aA;obtain⟨z,hz⟩:∃z,p[x]? =some z:=⟨_,aJ (by rw[hI.len];exact sH)⟩;refine Ey el_plan rfl rfl rfl rfl aE o3.se hz rfl aE fun _=> ?_;simp only[cA,nA];refine d9 ?_;refine g7 (b:=decide (z≥0)) rfl (fun h2=> ?_) (fun h2=> ?_)
   ·replace h2:=oDt h2;exact⟨(next,x+1,p),by show i-(x+1)<i-x;omega,(Bo rfl (i6 rfl aA) rfl),⟨sH,l3,o3,hI.skip hz h2⟩⟩
   ·replace h2:=oDf h2;refine Dp el_plan (a:=(next:Int)) rfl rfl rfl rfl aE aE l3 o3 (by rw[hI.len];exact sH) rfl aE rfl fun q u' H3 l4 o4 _=> ?_;simp only[cA,nA];have uY:=hI.nx;have hJ0:=hI.begin he hz aA;have uE:t.length*t.length<=64*64:=bU hl hl;have hDl:∀ρ:List Value,D prog ρ (.v 12)=ii (t.length:Nat)->D prog ρ (.v 13)=ii (t.length:Nat)->D prog ρ (.op2 .mul .i64 (.v 12) (.v 13))=ii ((t.length*t.length:Nat):Int):=fun ρ a b=>by
     show Aa .mul .i64 (intOf (D prog ρ (.v 12))) (intOf (D prog ρ (.v 13)))=_;rw[a,b];show Value.int .i64 (wQ .i64 (((t.length:Nat):Int)*((t.length:Nat):Int)))=Value.int .i64 _;congr 1;rw[<-eG,LK aA]
    refine s8 (α:=Nat×List Int) (fun⟨j,p'⟩=>[ii (j:Nat)]) (fun⟨j,p'⟩=>fun H4=>j<=t.length*t.length/\Pl H H4/\SO H H4 3 1 (fun z:Int=>[ii z]) v p'/\LbJ i e x next j p') (fun⟨j,p'⟩=>t.length*t.length-j) ((0,p.set x (next:Int))) rfl (⟨bI _,l4,o4,hJ0⟩) fun⟨j,p'⟩ H4 hQ4=> ?_;simp only[cA,nA];obtain⟨hj,l5,o5,hJ⟩:=hQ4;refine j1 el_int (hu.mono l5) ?_;refine j1 el_int (hu.mono l5) ?_;refine d9 (d9 (d9 ?_));refine j8 (p:=(((j:Nat):Int)<(t.length*t.length:Nat))) (by show Value.bool (decide (((j:Nat):Int)<intOf (D prog _ (.op2 .mul .i64 (.v 12) (.v 13)))))=_;rw[hDl _ rfl rfl];rfl) (fun h3=> ?_) fun h3=> ?_
    ·have htl:0<t.length:=kR fun e=>by rw[e]at h3;simp at h3;omega
     refine j1 el_int (hu.mono l5) ?_;refine d9 ?_;refine d4 (by show((t.length:Nat):Int)≠0;omega) ?_;have xK:j%t.length<t.length:=cO _ htl;obtain⟨y,hy,_⟩:=m7 xK;refine Ey el_int rfl rfl rfl rfl aE (hu.mono l5) hy (i7 rfl (by show Value.int .i64 (lC ((j:Nat):Int) ((t.length:Nat):Int))=Value.int .i64 _;congr 1)) aE fun _=> ?_;simp only[cA,nA];obtain⟨hy1,vL⟩:=ht y (aG hy);obtain⟨m,rfl⟩:∃m:Nat,y=(m:Int):=⟨y.toNat,aA⟩;rw[aV]at vL;have tR:=Fa (es:=es) vL;have hed:=hg.mem tR;refine j4 el_edge (hw.mono l5) tR fun _=> ?_;simp only[cA,nA];refine d4 (el_edge.vcells (Ed es (m:Nat))) ?_;have qD:=hJ.len;obtain⟨za,hza⟩:∃z,p'[(Ed es (m:Nat)).1]? =some z:=⟨_,aJ aA⟩;obtain⟨zb,hzb⟩:∃z,p'[(Ed es (m:Nat)).2]? =some z:=⟨_,aJ aA⟩;have a0o:j=0->Ed es (m:Nat)=e:=fun xZ=>hf _ (by rw[<-hy,xZ,Nat.zero_mod]);have a1b:LbJ i e x next (j+1) ((p'.set (Ed es (m:Nat)).1 (next:Int)).set (Ed es (m:Nat)).2 (next:Int)):=((hJ.put (y:=(Ed es (m:Nat)).1) aA).put (y:=(Ed es (m:Nat)).2) aA).inc fun _ xZ=>⟨next,by rw[a0o xZ]at hed⊢;exact fJ (by rw[cJ];omega),aA⟩;refine Ey el_plan rfl rfl rfl rfl aE o5.se hza rfl aE fun _=> ?_;simp only[cA,nA];refine d9 (d9 ?_);refine j8 (p:=(za=(next:Int))) (bE _ _) (fun h4=> ?_) fun h4=> ?_
     ·refine Dp el_plan (a:=(next:Int)) rfl rfl rfl rfl aE aE l5 o5 aA rfl aE rfl fun q5 u5 H5 l6 o6 _=> ?_;simp only[cA,nA];refine Dp el_plan (a:=(next:Int)) rfl rfl rfl rfl aE aE l6 o6 (by rw[cJ];omega) rfl aE rfl fun q6 u6 H6 l7 o7 _=> ?_;simp only[cA,nA];exact⟨(j+1,(p'.set (Ed es (m:Nat)).1 (next:Int)).set (Ed es (m:Nat)).2 (next:Int)),by show t.length*t.length-(j+1)<t.length*t.length-j;omega,(z8 (i6 rfl aA)),⟨by show j+1<=_;omega,l7,o7,a1b⟩⟩
     ·refine Ey el_plan rfl rfl rfl rfl aE o5.se hzb rfl aE fun _=> ?_;simp only[cA,nA];refine d9 ?_;refine j8 (p:=(zb=(next:Int))) (bE _ _) (fun h5=> ?_) fun h5=> ?_
      ·refine Dp el_plan (a:=(next:Int)) rfl rfl rfl rfl aE aE l5 o5 aA rfl aE rfl fun q5 u5 H5 l6 o6 _=> ?_;simp only[cA,nA];refine Dp el_plan (a:=(next:Int)) rfl rfl rfl rfl aE aE l6 o6 (by rw[cJ];omega) rfl aE rfl fun q6 u6 H6 l7 o7 _=> ?_;simp only[cA,nA];exact⟨(j+1,(p'.set (Ed es (m:Nat)).1 (next:Int)).set (Ed es (m:Nat)).2 (next:Int)),by show t.length*t.length-(j+1)<t.length*t.length-j;omega,(z8 (i6 rfl aA)),⟨by show j+1<=_;omega,l7,o7,a1b⟩⟩
      ·exact⟨(j+1,p'),by show t.length*t.length-(j+1)<t.length*t.length-j;omega,(z8 (i6 rfl aA)),⟨by show j+1<=_;omega,l5,o5,hJ.inc fun rG xZ=>absurd (by have:=hJ.at_;rw[<-rG,<-a0o xZ,hza]at this;exact Option.some.inj this) h4⟩⟩
    ·have a0b:=hJ.end (fun rG=>kR fun xZ=>by have:t=[]:=aI (by subst xZ;have:t.length*t.length=0:=aA;rcases Nat.mul_eq_zero.1 this with h|h<;>exact h);have:=h0 this;omega);refine d9 ?_;exact⟨(next+1,x+1,p'),by show i-(x+1)<i-x;omega,(Bo (i6 rfl aA) (i6 rfl aA) rfl),⟨sH,l5,o5,a0b⟩⟩
  ·replace h:=oDf h;have hxe:x=i:=aA;subst hxe;exact g6 rfl ⟨l3,p,next,o3.se,hI⟩
end
def arI (l:List Int):Value:= .agg (l.map ii).toArray
theorem BF (l:List Int):(arI l).cells=(l.map ii).toArray:=rfl
theorem oa {ρ:List Value} {x i:SV} {l:List Int} {d:Nat} {y:Int} (hx:D prog ρ x=arI l) (hi:D prog ρ i=ii (d:Nat)) (hd:l[d]? =some y):D prog ρ (.cell x 0 1 i)=ii y:=by
 show(D prog ρ x).cells.getD (0+1*t6 (D prog ρ i)) undef=_;rw[hx,hi,BF];show((l.map ii).toArray).getD (0+1*((d:Nat):Int).toNat) undef=_;rw[aV,bK,cM,cR,mK,bO,hd];rfl
theorem c9B {ρ:List Value} {x y i:SV} {l:List Int} {d:Nat} {z:Int} (hx:D prog ρ x=arI l) (hy:D prog ρ y=ii z) (hi:D prog ρ i=ii (d:Nat)):D prog ρ (.put x 0 1 y 1 i)=arI (l.set d z):=by
 show Value.agg (spl (D prog ρ x).cells (0+1*t6 (D prog ρ i)) (D prog ρ y).cells.toList)=_;rw[hx,hi,hy,BF];show Value.agg (spl (l.map ii).toArray (0+1*((d:Nat):Int).toNat) [ii z])=_;rw[aV,bK,cM];show Value.agg ((l.map ii).toArray.setIfInBounds d (ii z))=Value.agg _;congr 1;rw[<-cI];simp[List.map_set]
theorem z_8:r8 prog 167=arI (eK 8 0):=aB
theorem QR {ρ:List Value} {x:SV} {l:List Int} {y:Int} (hx:D prog ρ x=arI l) (hd:l[0]? =some y):D prog ρ (.cell x 0 0 noI)=ii y:=by
 show(D prog ρ x).cells.getD (0+0*t6 (D prog ρ noI)) undef=_;rw[hx,BF,cD,cR,mK,bO,hd];rfl
theorem d8q {ρ:List Value} {a b:SV} {x y:Int} (ha:D prog ρ a=ii x) (hb:D prog ρ b=ii y):D prog ρ (.op2 .add .i64 a b)=ii (wQ .i64 (x+y)):=by
 show Aa .add .i64 (intOf (D prog ρ a)) (intOf (D prog ρ b))=_;rw[ha,hb];rfl
section
variable {H:PH} {u wts:Value} {p wl:List Int} {lo hi:Int} {k:Nat}
theorem c0i (hu:SI H u p) (qO:SI H wts wl) (qD:p.length<=wl.length) (hp:∀x∈p,0<=x/\x<8) (hk:k<=8):Con prog 44 [bv wts lo hi (k:Nat),u] H fun r H'=>H'=H/\∃a b,r= .tuple #[ii a,ii b]:=by
 refine i9 mixed c4b ?_;have qS:=hu.len;refine d4 (Cj (u0 qO) _ _ _) ?_;refine Bf (α:=Nat×List Int) (fun⟨i,l⟩=>[ii (i:Nat),arI l]) (fun⟨i,l⟩=>i<=p.length/\l.length=8) (fun⟨i,l⟩=>p.length-i) ((0,eK 8 0)) (i7 rfl z_8) (⟨bI _,rfl⟩) fun⟨i,l⟩ hQ=> ?_;obtain⟨qB,hl⟩:=hQ;refine j1 el_plan hu ?_;refine d9 (d9 ?_);refine g7 (b:=decide (((i:Nat):Int)<(p.length:Nat))) rfl (fun h=> ?_) (fun h=> ?_)
 ·replace h:=oDt h;have tA:i<p.length:=aA;obtain⟨x,hx,_⟩:=m7 tA;obtain⟨hx0,hx8⟩:=hp x (aG hx);obtain⟨d,rfl⟩:∃d:Nat,x=(d:Int):=⟨x.toNat,aA⟩;have hd:l[d]? =some l[d]:=aJ aA;refine j4 el_plan hu hx fun _=> ?_;refine j4 el_plan hu hx fun _=> ?_;refine d4 ⟨_,_,rfl⟩ ?_;refine d4 ⟨hx0,hx8⟩ ?_;refine j4 el_int qO (aJ (show i<wl.length by omega)) fun _=> ?_;refine d4 ⟨_,oa rfl rfl hd⟩ ?_;refine d9 ?_;refine d4 ⟨_,_,rfl⟩ ?_;refine d4 ⟨hx0,hx8⟩ ?_;exact⟨(i+1,l.set d (wQ .i64 (l[d]+wl[i]))),by show p.length-(i+1)<p.length-i;omega,(i7 (i6 rfl aA) (c9B rfl (d8q (oa rfl rfl hd) rfl) rfl)),⟨⟨tA,by rw[cJ];exact hl⟩,rfl⟩⟩
 ·replace h:=oDf h;have h0:l[0]? =some l[0]:=aJ aA;refine Bf (α:=Nat×Int×Int) (fun⟨d,a,b⟩=>[ii a,ii b,ii (d:Nat)]) (fun⟨d,a,b⟩=>d<=8) (fun⟨d,a,b⟩=>8-d) ((1,l[0],l[0])) (Bo (QR rfl h0) (QR rfl h0) rfl) ((show 1<=8 by decide)) fun⟨d,a,b⟩ hQ=> ?_;refine d9 (d9 ?_);refine g7 (b:=decide (((d:Nat):Int)<(k:Nat))) rfl (fun h2=> ?_) (fun h2=> ?_)
  ·replace h2:=oDt h2;have hd:l[d]? =some l[d]:=aJ aA;refine d4 ⟨_,_,rfl⟩ ?_;refine d4 ⟨by show(0:Int)<=((d:Nat):Int);omega,by show((d:Nat):Int)<8;omega⟩ ?_;refine j7 ((zn (vs:=[ii a,ii l[d]]) rfl rfl rfl).rds _) (i7 rfl (oa rfl rfl hd)) ?_;refine j7 ((zo (vs:=[ii b,ii l[d]]) rfl rfl rfl).rds _) (i7 rfl (oa rfl rfl hd)) ?_;exact⟨(d+1,_,_),by show 8-(d+1)<8-d;omega,(Bo rfl rfl (i6 rfl aA)),⟨by show d+1<=8;omega,rfl⟩⟩
  ·replace h2:=oDf h2;exact g6 rfl ⟨rfl,a,b,rfl⟩
end
open Go.WD (wd toI iw)
section
variable {H:PH} {n:Nat} {w:Value} {es:List (Nat×Nat)} {set:Nat}
theorem QS (a:Nat):(wd a).cells.size=8/\o0 (wd a).cells:=⟨Go.WD.words_size a,Go.WD.words_one a⟩
end
def bc (e:Nat×Nat):List Value:=[.int .u8 (e.1:Nat),.int .u8 (e.2:Nat)]
theorem BG:El prog 23 27 2 true bc (fun e=> .agg (bc e).toArray) where
 und:=aB
 has:=aB
 cel:=aB
 agg:=aB
 pos:=aC
 one1:=fun h=>by cases h
 small:=aC
 inf:=⟨(prog.info? 27).getD default,.agg #[.int .u8 0,.int .u8 0],aB,aB,aB,rfl,oDt aB⟩
 len:=fun _=>rfl
 val:=fun _=>rfl
 cells:=fun _=>rfl
 one:=fun x c hc=>by simp[bc]at hc;rcases hc with rfl|rfl<;>rfl
theorem e0q:Sc prog 5:=⟨aB,aB,aB⟩
theorem QT:Ar prog 27 5 2:=⟨aB,aB,aB,aB,e0q⟩
def dv (a b c:Int) (s:Value):Value:= .agg #[.int .u8 a,.int .u8 b,.int .u16 c,s]
theorem QU:r8 prog 35= .slice none 0 0:=aB
theorem BH {ρ:List Value} {a b c d e:SV} {x y z u v:Value} (h:D prog ρ a=x) (h2:D prog ρ b=y) (h3:D prog ρ c=z) (h4:D prog ρ d=u) (h5:D prog ρ e=v):[a,b,c,d,e].map (D prog ρ)=[x,y,z,u,v]:=by rw[aN,h,Hz h2 h3 h4 h5]
theorem Kx (z:Int):(ii z).cells.size=1/\o0 (ii z).cells:=⟨rfl,fun x hx=>by rw[show(ii z).cells= #[ii z]from rfl]at hx;simp at hx;subst hx;rfl⟩
theorem d8s {s:Value} (h:Dm s=true) (a b c:Int):(dv a b c s).cells.size=4/\o0 (dv a b c s).cells:=by
 refine⟨rfl,fun x hx=> ?_⟩;rw[dv,Fj]at hx;simp only[aP,bP,or_false]at hx;rcases hx with rfl|rfl|rfl|rfl
 ·rfl
 ·rfl
 ·rfl
 ·exact h
theorem oc {ρ:List Value} {x:SV} {a m:Nat} {mi:Int} (hx:D prog ρ x= .int .u8 (a:Nat)) (hmi:mi=(m:Nat)) (hm:m<1000) (h0:0<m):D prog ρ (.op2 .add .i64 (.k (.int .i64 1)) (.cv .i64 (.op2 .rem .u8 x (.k (.int .u8 mi)))))=ii ((1+a%m:Nat):Int):=by
 subst hmi;show Aa .add .i64 1 (wQ .i64 (lC (intOf (D prog ρ x)) (m:Nat)))=_;rw[hx];show Value.int .i64 (wQ .i64 (1+wQ .i64 (lC ((a:Nat):Int) (m:Nat))))=_;rw[<-Int.ofNat_tmod];have:=cO a h0;congr 1;rw[IntKind.wrap_i64,IntKind.wrap_i64];omega
theorem od {ρ:List Value} {x y:SV} {a b:Nat} (hx:D prog ρ x=ii (a:Nat)) (hy:D prog ρ y=ii (b:Nat)) (h:a*b<9223372036854775808):D prog ρ (.op2 .mul .i64 x y)=ii ((a*b:Nat):Int):=by
 show Aa .mul .i64 (intOf (D prog ρ x)) (intOf (D prog ρ y))=_;rw[hx,hy];show Value.int .i64 (wQ .i64 (((a:Nat):Int)*((b:Nat):Int)))=_;rw[<-eG];congr 1;rw[IntKind.wrap_i64];omega
theorem b6f (x:Int):0<=wQ .u64 x:=by rw[IntKind.wrap_u64];omega
theorem Ky {ρ:List Value} {x y:SV} {a b:Nat} (hx:D prog ρ x=ii (a:Nat)) (hy:D prog ρ y=ii (b:Nat)):D prog ρ (.put (.put (.z 99) 0 1 x 0 noI) 1 1 y 0 noI)=ev2 (a,b):=by
 show Value.agg (spl (Value.agg (spl (r8 prog 99).cells (0+0*t6 (D prog ρ noI)) (D prog ρ x).cells.toList)).cells (1+0*t6 (D prog ρ noI)) (D prog ρ y).cells.toList)=_;rw[z_2,hx,hy,cD];rfl
theorem QV {ρ:List Value} {x y:SV} {n:Nat} {w u:Value} (hx:D prog ρ x=gv n w) (hy:D prog ρ y=u) (hc:u.cells= #[u]):D prog ρ (.cat (.sub x 0 1 0 noI) 1 y)=gv n u:=by
 show Value.agg ((Value.agg ((D prog ρ x).cells.extract (0+0*t6 (D prog ρ noI)) (0+0*t6 (D prog ρ noI)+1))).cells++(D prog ρ y).cells)=_;rw[hx,hy,hc,cD];rfl
def Upto (a b:Nat) (es:List (Nat×Nat)):Prop:=es.Pairwise elt/\∀e∈es,e.1<e.2/\elt e (a,b)
theorem Upto.row {a b:Nat} {es:List (Nat×Nat)} (h:Upto a b es):Upto (a+1) (a+2) es:=⟨h.1,fun e he=>⟨(h.2 e he).1,.inl (by rcases(h.2 e he).2 with h1|⟨h1,_⟩<;>simp only at h1<;>omega)⟩⟩
theorem Upto.skip {a b:Nat} {es:List (Nat×Nat)} (h:Upto a b es):Upto a (b+1) es:=⟨h.1,fun e he=>⟨(h.2 e he).1,by rcases(h.2 e he).2 with h1|⟨h1,h2⟩;exact .inl h1;exact .inr ⟨h1,by simp only at h2;show e.2<b+1;omega⟩⟩⟩
theorem Upto.put {a b:Nat} {es:List (Nat×Nat)} (h:Upto a b es) (uD:a<b):Upto a (b+1) (es++[(a,b)]):=by
 refine⟨dW.2 ⟨h.1,List.pairwise_singleton _ _,fun e he f hf=> ?_⟩,fun e he=> ?_⟩
 ·rw[aL]at hf;subst hf;exact(h.2 e he).2
 ·rcases aQ.1 he with he|he
  ·exact h.skip.2 e he
  ·rw[aL]at he;subst he;exact⟨uD,.inr ⟨rfl,by show b<b+1;omega⟩⟩
section
variable {H:PH} {s:Value} {more:List (Nat×Nat)} {da db dc:Nat}
abbrev og (H:PH):List Value->PH->Prop:=fun l H'=>H'=H/\∃p:Bool,l=[.bool p]
set_option maxHeartbeats 2000000 in
theorem c0j (hs:SE H 2 bc s more):Con prog 39 [dv (da:Nat) (db:Nat) (dc:Nat) s] H fun r H'=>Pl H H'/\∃w es,r=gv ((1+da%4)*(1+db%3)) w/\SO H H' 99 2 ec w es/\GV ((1+da%4)*(1+db%3)) es:=by
 refine i9 mixed c3D ?_;have hw4:1+da%4<=4:=by have:=cO da (show 0<4 by decide);omega
 have hh3:1+db%3<=3:=by have:=cO db (show 0<3 by decide);omega
 have vQ:(1+da%4)*(1+db%3)<=12:=bU hw4 hh3;have vV:1<=(1+da%4)*(1+db%3):=eE aA aA;generalize hn:(1+da%4)*(1+db%3)=n at vQ vV;obtain⟨zg,hzg⟩:∃zg,r8 prog 37=zg:=⟨_,rfl⟩;refine d4 (d8s (u0 hs) _ _ _) ?_;refine d9 (d9 ?_);refine s8 (α:=Int×Nat×Value×List (Nat×Nat)) (fun⟨c,a,w,es⟩=>[ii c,ii (a:Nat),dv (da:Nat) (db:Nat) (dc:Nat) s,zg,gv n w]) (fun⟨c,a,w,es⟩=>fun H'=>Pl H H'/\a<=n/\SO H H' 99 2 ec w es/\Upto a (a+1) es/\es.length<=a*12/\∀e∈es,e.2<n) (fun⟨c,a,w,es⟩=>n-a) ((0,0,.slice none 0 0,[])) (by rw[<-hn];refine BH rfl rfl rfl hzg ?_;show Value.agg ((D prog _ (.op2 .mul .i64 _ _)).cells++(r8 prog 35).cells)=_;rw[QU,od (oc (m:=4) (mi:=4) rfl rfl aC aC) (oc (m:=3) (mi:=3) rfl rfl aC aC) aA];rfl) (⟨Pl.refl _,bI _,SO.nil _ _ _ _ _,⟨gV,fun _ h=>nomatch h⟩,bI _,fun _ h=>nomatch h⟩) fun⟨c,a,w,es⟩ H' hQ=> ?_;obtain⟨l1,han,o1,hU,qD,hed⟩:=hQ;have yQ:=hs.mono l1;refine d9 (d9 ?_);refine g7 (b:=decide (((a:Nat):Int)<(n:Nat))) rfl (fun h=> ?_) (fun h=> ?_)
 ·replace h:=oDt h;have a7d:a<n:=aA;refine s8 (α:=Int×Nat×Value×List (Nat×Nat)) (fun⟨c2,b,w2,es2⟩=>[ii c2,ii (b:Nat),gv n w2]) (fun⟨c2,b,w2,es2⟩=>fun H''=>Pl H H''/\a<b/\b<=n/\SO H H'' 99 2 ec w2 es2/\Upto a b es2/\es2.length<=a*12+b/\∀e∈es2,e.2<n) (fun⟨c2,b,w2,es2⟩=>n-b) ((c,a+1,w,es)) (Bo rfl (i6 rfl aA) rfl) (⟨l1,aA,aA,o1,hU,aA,hed⟩) fun⟨c2,b,w2,es2⟩ H2 xQ=> ?_;obtain⟨l2,uD,hbn,o2,hU2,a1c,a1u⟩:=xQ;have wX:=hs.mono l2;refine d9 (d9 ?_);refine g7 (b:=decide (((b:Nat):Int)<(n:Nat))) rfl (fun h2=> ?_) (fun h2=> ?_)
  ·replace h2:=oDt h2;have a5n:b<n:=aA;refine⟨(og H2),?_,?_⟩
   ·skip
    refine g7 (b:=_) rfl (fun h3=> ?_) (fun h3=> ?_)
    ·skip
     exact⟨rfl,_,rfl⟩
    ·skip
     refine g7 (b:=_) rfl (fun h4=> ?_) (fun h4=> ?_)
     ·skip
      refine d4 (by show intOf (D prog _ _)≠0;rw[oc (m:=4) (mi:=4) rfl rfl aC aC];show((1+da%4:Nat):Int)≠0;omega) ?_;exact⟨rfl,_,rfl⟩
     ·skip
      exact⟨rfl,_,rfl⟩
   rintro _ H2 _ ⟨rfl,p,rfl⟩;simp only[cA,nA];refine⟨(fun l H'=>H'=H2/\∃(c:Int) (p:Bool),l=[ii c,.bool p]),?_,?_⟩
   ·skip
    refine d9 ?_;refine g7 (b:=p) rfl (fun h3=> ?_) (fun h3=> ?_)
    ·skip
     refine⟨(og H2),?_,?_⟩
     ·skip
      refine d9 ?_;refine g7 (b:=_) rfl (fun h4=> ?_) (fun h4=> ?_)
      ·skip
       refine d9 ?_;refine d4 (b6f _) ?_;exact⟨rfl,_,rfl⟩
      ·skip
       exact⟨rfl,_,rfl⟩
     rintro _ H2 _ ⟨rfl,p4,rfl⟩;simp only[cA,nA];refine⟨(og H2),?_,?_⟩
     ·skip
      refine d9 ?_;refine g7 (b:=p4) rfl (fun h4=> ?_) (fun h4=> ?_)
      ·skip
       exact⟨rfl,_,rfl⟩
      ·skip
       exact⟨rfl,_,rfl⟩
     rintro _ H2 _ ⟨rfl,p5,rfl⟩;simp only[cA,nA];refine d9 ?_;exact⟨rfl,_,_,rfl⟩
    ·skip
     exact⟨rfl,_,_,rfl⟩
   rintro _ H2 _ ⟨rfl,c3,p3,rfl⟩;simp only[cA,nA];refine Bf (α:=Bool×Nat) (fun⟨p6,i⟩=>[.bool p6,ii (i:Nat)]) (fun⟨p6,i⟩=>i<=3) (fun⟨p6,i⟩=>3-i) ((p3,0)) rfl (bI _) fun⟨p6,i⟩ hQ=> ?_;refine⟨(fun l H'=>H'=H2/\∃q:Bool,l=[.bool q]/\(q=true->i<more.length/\i<3)),?_,?_⟩
   ·skip
    refine j1 BG wX ?_;refine d9 (d9 ?_);refine g7 (b:=decide (((i:Nat):Int)<(more.length:Nat))) rfl (fun h3=> ?_) (fun h3=> ?_)
    ·replace h3:=oDt h3;exact⟨rfl,decide (((i:Nat):Int)<3),rfl,fun e=>⟨aA,by have:=oDt e;omega⟩⟩
    ·replace h3:=oDf h3;exact⟨rfl,false,rfl,fun e=>nomatch e⟩
   rintro _ H2 _ ⟨rfl,q,rfl,hq⟩;simp only[cA,nA];refine d9 ?_;refine g7 (b:=q) rfl (fun h3=> ?_) (fun h3=> ?_)
   ·skip
    obtain⟨hi1,tA⟩:=hq h3;have hm:=aJ hi1;refine LY BG (c:=(.int .u8 ((more[i]).1:Nat))) QT aC rfl rfl rfl rfl rfl rfl aE aE aE wX hm rfl aE (fun _ _=>rfl) fun _ _=> ?_;refine d9 ?_;refine d4 (show((n:Nat):Int)≠0 by omega) ?_;refine LY BG (c:=(.int .u8 ((more[i]).2:Nat))) QT aC rfl rfl rfl rfl rfl rfl aE aE aE wX hm rfl aE (fun _ _=>rfl) fun _ _=> ?_;refine d9 ?_;refine⟨(og H2),?_,?_⟩
    ·skip
     refine d9 ?_;refine g7 (b:=p6) rfl (fun h4=> ?_) (fun h4=> ?_)
     ·skip
      exact⟨rfl,_,rfl⟩
     ·skip
      refine g7 (b:=_) rfl (fun h5=> ?_) (fun h5=> ?_)
      ·skip
       refine g7 (b:=_) rfl (fun h6=> ?_) (fun h6=> ?_)
       ·skip
        exact⟨rfl,_,rfl⟩
       ·skip
        refine g7 (b:=_) rfl (fun h7=> ?_) (fun h7=> ?_)
        ·skip
         exact⟨rfl,_,rfl⟩
        ·skip
         exact⟨rfl,_,rfl⟩
      ·skip
       refine g7 (b:=_) rfl (fun h6=> ?_) (fun h6=> ?_)
       ·skip
        exact⟨rfl,_,rfl⟩
       ·skip
        exact⟨rfl,_,rfl⟩
    rintro _ H2 _ ⟨rfl,p7,rfl⟩;simp only[cA,nA];refine d9 ?_;exact⟨(p7,i+1),by show 3-(i+1)<3-i;omega,(i7 rfl (i6 rfl aA)),⟨by show i+1<=3;omega,rfl⟩⟩
   ·skip
    refine d9 ?_;refine g7 (b:=p6) rfl (fun h4=> ?_) (fun h4=> ?_)
    ·skip
     refine d4 (Kx _) ?_;refine d4 (Kx _) ?_;refine Dk el_edge rfl rfl rfl aE aE l2 o2 aA (z8 (Ky rfl rfl)) aE rfl fun q2 w3 H3 l3 o3=> ?_;have a3e:=o3.se;refine d4 a3e.one ?_;exact⟨(c3,b+1,w3,es2++[(a,b)]),by show n-(b+1)<n-b;omega,(Bo rfl (i6 rfl aA) (QV rfl rfl a3e.cells)),⟨l3,by show a<b+1;omega,by show b+1<=n;omega,o3,hU2.put uD,by show(es2++[(a,b)]).length<=a*12+(b+1);rw[aM];simp only[aO,bX];omega,fun e he=>by rcases aQ.1 he with he|he;exact a1u e he;rw[aL]at he;subst he;exact a5n⟩⟩
    ·skip
     exact⟨(c3,b+1,w2,es2),by show n-(b+1)<n-b;omega,(Bo rfl (i6 rfl aA) rfl),⟨l2,by show a<b+1;omega,by show b+1<=n;omega,o2,hU2.skip,by show es2.length<=a*12+(b+1);omega,a1u⟩⟩
  ·replace h2:=oDf h2;exact⟨(c2,a+1,w2,es2),by show n-(a+1)<n-a;omega,(BH rfl (i6 rfl aA) rfl rfl rfl),⟨l2,by show a+1<=n;omega,o2,hU2.row,by show es2.length<=(a+1)*12;omega,a1u⟩⟩
 ·replace h:=oDf h;exact g6 rfl ⟨l1,w,es,rfl,o1,vV,aA,aA,fun e he=>⟨(hU.2 e he).1,hed e he⟩,hU.1⟩
end
section
variable {H H0:PH} {u v w wts:Value} {p wl t:List Int} {n:Nat} {es:List (Nat×Nat)} {lo hi ds k:Int} {set x:Nat}
theorem SO.putM {α:Type} {e:TypeId} {sz:Nat} {ce:α->List Value} {v:Value} {l:List α} {X H:PH} {r:Nat} {E:Array MapEntry} {c:Nat} (h:SO X H e sz ce v l) (hr:H r=some (.map E c)) (ob:Obj):SO X (H.put r ob) e sz ce v l:=by
 obtain⟨qD,hv⟩:=h;refine⟨qD,hv.imp id ?_⟩;rintro⟨g,cap,cur,h3,rZ,hg,h4⟩;exact⟨g,cap,cur,h3,rZ,by rw[PH.put_ne _ _ (fun e=>by subst e;rw[hr]at hg;cases hg)];exact hg,h4⟩
theorem SO.splitM {α:Type} {e:TypeId} {sz:Nat} {ce:α->List Value} {v:Value} {l:List α} {B H:PH} (h:SO B H e sz ce v l) (hl:Pl B H):∃Bi,Pl Bi H/\SO Bi H e sz ce v l/\Pl B Bi/\∀r E c,H r=some (.map E c)->Bi r=some (.map E c):=by
 obtain⟨qD,hv⟩:=h;rcases hv with⟨rfl,h0⟩|⟨g,cap,cur,rfl,rZ,hg,h4⟩
 ·exact⟨H,Pl.refl _,⟨qD,.inl ⟨rfl,h0⟩⟩,hl,fun _ _ _ h=>h⟩
 ·refine⟨j9 H g,Vk _ _,⟨qD,.inr ⟨g,cap,cur,rfl,by unfold j9;rw[if_pos rfl],hg,h4⟩⟩,fun k o hk=> ?_,fun r E c hr=> ?_⟩
  ·unfold j9;rw[if_neg (fun e=>by subst e;rw[rZ]at hk;cases hk)];exact hl _ _ hk
  ·unfold j9;rw[if_neg (fun e=>by subst e;rw[hg]at hr;cases hr)];exact hr
theorem MO.tr {B H H2:PH} {m:Value} {L:List (Int×Int)} (h:MO B H m L) (h2:∀r E c,H r=some (.map E c)->H2 r=some (.map E c)):MO B H2 m L:=by
 obtain⟨h0,r,es,c,h1,h4,h3,h5⟩:=h;exact⟨h0,r,es,c,h1,h4,h2 _ _ _ h3,h5⟩
theorem QW {done r:List Int} {i:Nat} {y z:Int} (h:done.length=i):(done++z::r).set i y=(done++[y])++r:=by
 subst h;rw[List.set_append_right _ _ (aS _),jI];simp
theorem oh (hu:SI H u p) (hL:LabOk p 8):Con prog 21 [u] H fun r H'=>Pl H H'/\∃z,r= .tuple #[z,ii 0]/\OI H H' z (j6 p):=by
 refine i9 mixed d3x ?_;have hl:=hu.len;have wM:=hL.2.2;refine s6 (zh hu 8) rfl ?_;refine d9 ?_;refine r9 (by show Value.bool (!decide (LabOk p 8))=_;rw[oDd hL];rfl) ?_;refine t7 (c4S rfl) rfl ?_;rintro v2 H1 ⟨l1,m1⟩;refine nmI ?_;refine j1 el_plan (hu.mono l1) ?_;refine Uu el_plan (z:=(0:Int)) Vd rfl rfl rfl aA rfl fun v4 H2 l2 o2 _=> ?_;refine j1 el_plan (hu.mono (l1.trans l2)) ?_;refine s8 (α:=Nat×List Int×List (Int×Int)×List Int) (fun⟨i,F,L,done⟩=>[ii (i:Nat)]) (fun⟨i,F,L,done⟩=>fun H'=>i<=p.length/\done.length=i/\done++Fb F (p.drop i)=j6 p/\L.length=F.length/\F.Nodup/\(∀a b:Int,(a,b)∈L↔∃j:Nat,F[j]? =some a/\b=j)/\Pl H H'/\MO H H' v2 L/\OI H H' v4 (done++eK (p.length-i) 0)) (fun⟨i,F,L,done⟩=>p.length-i) ((0,[],[],[])) rfl (⟨bI _,rfl,rfl,rfl,dG,fun a b=>aD,l1.trans l2,m1.mono l2,SO.less o2 l1⟩) fun⟨i,F,L,done⟩ H' hQ=> ?_;obtain⟨hi,hdl,hR,hLF,hF,vX,l3,m3,o3⟩:=hQ;refine d9 (d9 ?_);refine g7 (b:=decide (((i:Nat):Int)<(p.length:Nat))) rfl (fun h=> ?_) (fun h=> ?_)
 ·replace h:=oDt h;have qB:i<p.length:=aA;obtain⟨x,hx,tK⟩:=m7 qB;have a3f:eK (p.length-i) (0:Int)=0::eK (p.length-(i+1)) 0:=by rw[show p.length-i=(p.length-(i+1))+1 by omega,nC]
  refine j4 el_plan (hu.mono l3) hx fun _=> ?_;have hmF:∀y:Int,y∈F↔y∈L.map (·.1):=fun y=>by
   constructor
   ·intro h;obtain⟨j,hj⟩:=cN.1 h;exact aY.2 ⟨(y,(j:Int)),(vX _ _).2 ⟨j,hj,rfl⟩,rfl⟩
   ·intro h;obtain⟨q,hq,rfl⟩:=aY.1 h;obtain⟨j,hj,_⟩:=(vX q.1 q.2).1 hq;exact aG hj
  have yJ:(decide (x∈F)=false/\((if x∈F then F.idxOf x else 0:Nat):Int)=0/\x∉L.map (·.1))\/(decide (x∈F)=true/\(x,((if x∈F then F.idxOf x else 0:Nat):Int))∈L):=by
   by_cases zF:x∈F
   ·obtain⟨j,hj⟩:=cN.1 zF;have hjl:=(aH.1 hj).1;have a5o:F.idxOf x=j:=by
     obtain⟨_,e⟩:=aH.1 hj;rw[<-e];exact pB hF j hjl
    exact .inr ⟨oDd zF,by rw[if_pos zF,a5o];exact(vX _ _).2 ⟨j,hj,rfl⟩⟩
   ·exact .inl ⟨decide_eq_false zF,by rw[if_neg zF];rfl,fun h=>zF ((hmF x).2 h)⟩
  refine j7 (AZ (vs:=[v2,ii x]) (m:=v2) (k:=x) rfl rfl rfl Nv Qf BD m3.mi yJ) rfl ?_;refine i8 (i8 (d9 ?_));refine g7 (b:= !decide (x∈F)) rfl (fun hb=> ?_) (fun hb=> ?_)
  ·skip
   have zF:x∉F:=by simpa using hb
   refine j7 (nl (m:=v2) rfl rfl Nv m3.mi) rfl ?_;refine t7 (QE (B:=H) (vs:=[v2,ii x,ii (L.length:Nat)]) (m:=v2) (k:=x) (v:=(L.length:Nat)) rfl rfl rfl rfl Nv Qf l3 m3) rfl ?_;rintro u4 H4 ⟨rfl,l4,m4,g,ob,E,cc,hgB,uU,rfl⟩;refine nmI ?_;have o4:=SO.putM o3 uU ob;obtain⟨Bi,g1,g2,g3,g4⟩:=SO.splitM o4 l4;refine Dp el_plan (a:=((L.length:Nat):Int)) rfl rfl rfl rfl aE aE g1 g2 (by rw[aM,mL];omega) rfl aE rfl fun q u' H5 l5 o5 _=> ?_;have hxL:x∉L.map (·.1):=fun h=>zF ((hmF x).2 h);rw[a3f,QW hdl,hLF]at o5;exact⟨(i+1,F++[x],Kw L x (L.length:Nat),done++[((F.length:Nat):Int)]),by show p.length-(i+1)<p.length-i;omega,(z8 (i6 rfl aA)),⟨qB,by rw[aM,hdl];rfl,by rw[<-hR,tK];simp only[Fb,if_neg zF];rw[bH];rfl,by unfold Kw;rw[if_neg hxL];simp[hLF],cQ.2 ⟨hF,aD,fun a ha b hb=>by obtain rfl:=aL.1 hb;exact fun e=>zF (e ▸ ha)⟩,by
    intro a b;unfold Kw;rw[if_neg hxL,aQ,vX,aL,jT,hLF];constructor
    ·rintro(⟨j,h1,h2⟩|⟨rfl,rfl⟩)
     ·exact⟨j,by rw[bS (aH.1 h1).1];exact h1,h2⟩
     ·exact⟨F.length,aD,rfl⟩
    ·rintro⟨j,h1,h2⟩;by_cases hj:j<F.length
     ·rw[bS hj]at h1;exact .inl ⟨j,h1,h2⟩
     ·have vG:=(aH.1 h1).1;simp only[aM,aO,bX]at vG;have e:j=F.length:=aA;subst e;rw[bV (aS _),jI]at h1;simp only[List.getElem?_cons_zero,dM]at h1;exact .inr ⟨h1.symm,h2⟩,g3.trans l5,MO.tr m4 fun r E c hr=>l5 _ _ (g4 r E c hr),SO.less o5 g3⟩⟩
  ·skip
   have zF:x∈F:=by simpa using hb
   obtain⟨Bi,g1,g2,g3,g4⟩:=SO.splitM o3 l3;rw[if_pos zF];refine Dp el_plan (a:=((F.idxOf x:Nat):Int)) rfl rfl rfl rfl aE aE g1 g2 (by rw[aM,mL];omega) rfl aE rfl fun q u' H5 l5 o5 _=> ?_;rw[a3f,QW hdl]at o5;exact⟨(i+1,F,L,done++[((F.idxOf x:Nat):Int)]),by show p.length-(i+1)<p.length-i;omega,(z8 (i6 rfl aA)),⟨qB,by rw[aM,hdl];rfl,by rw[<-hR,tK];simp only[Fb,if_pos zF];rw[bH];rfl,hLF,hF,vX,g3.trans l5,MO.tr m3 fun r E c hr=>l5 _ _ (g4 r E c hr),SO.less o5 g3⟩⟩
 ·replace h:=oDf h;have he:i=p.length:=aA;subst he;rw[List.drop_length]at hR;simp only[Fb,bQ]at hR;rw[jI,nD,bQ,hR]at o3;exact g6 rfl ⟨l3,v4,rfl,o3⟩
end
end Go.Z

/- Lemmas: chapter 32. -/
import Derived.Test.YtmannekkmdockaaGreatDoorGtD
import Derived.Test.YtmannekkmdockaaGreatDoorSsA
open Go.IntKind renaming wrap->wZ
open Int renaming tmod->eD,toNat_natCast->bB
open List renaming getD_eq_getElem?_getD->aB,getElem?_eq_getElem->aA,getElem_mem->eH,length_append->aJ,length_drop->cX,length_map->aR,length_set->bD,length_take->cB,map_append->aX,mem_append->aV,mem_of_getElem?->aI,nil_append->bV,replicate->bC
open Nat renaming mod_lt->bO,mul_le_mul->cI,sub_lt->pI,two_pow_pos->fF,zero_le->bI
open Option renaming some->bZ
set_option maxRecDepth 100000
namespace Go.Proofs.Z
open Go.Proofs.Tryz
open Go.RowKit Go.RX Go.GS
section
variable {H:PH} {u w wts:Value} {t:List Int} {n:Nat} {es:List (Nat×Nat)}
theorem e0p {j:Nat} (h:j<t.length) {y:Int} (hy:t[j]? =some y):(etl es t).getD j (0,0)=Ed es y:=by
 rw[aB,jo hy];rfl
theorem b5Y (hw:SG H w es) (hg:GV n es) (hu:SI H u t) (ht:∀i∈t,0<=i/\i.toNat<es.length) (hl:t.length<=64):Con prog 43 [gv n w,u] H fun r H'=>PH.le H H'/\∃p next,SI H' r p/\LabA n (etl es t) n next p:=by
 refine j3 mixed c3e ?_;have qK:=hg.n64;refine d9 (Ap hw) ?_;refine Ux el_plan (z:=(0:Int)) Rr rfl rfl rfl (by omega) rfl fun v H1 l1 o1 _=> ?_;refine s9 (α:=Nat) (fun i=>[ii (i:Nat)]) (fun i=>fun H'=>i<=n/\PH.le H H'/\SO H H' 3 1 (fun z:Int=>[ii z]) v (bC i (-1)++bC (n-i) 0)) (fun i=>n-i) (0) rfl (⟨bI _,l1,o1⟩) fun i H' hQ=> ?_;obtain⟨hi,l2,o2⟩:=hQ;refine d4 (d4 ?_);refine i0 (b:=decide (((i:Nat):Int)<(n:Nat))) rfl (fun h=> ?_) (fun h=> ?_)
 ·replace h:=oDt h;refine Dp el_plan (a:=(-1:Int)) rfl rfl rfl rfl (fun _=>rfl) (fun _=>rfl) l2 o2 (by simp;omega) rfl (fun _=>rfl) rfl fun q u' H3 l3 o3 _=> ?_;exact⟨i+1,by omega,(z8 (i9 rfl (by omega))),⟨by omega,l3,by rw[d4B (by omega)]at o3;exact o3⟩⟩
 ·replace h:=oDf h;have uF:i=n:=by omega
  subst uF;rw[Nat.sub_self,List.replicate_zero,List.append_nil]at o2;refine s9 (α:=Nat×Nat×List Int) (fun⟨next,x,p⟩=>[ii (next:Nat),ii (x:Nat),gv i w]) (fun⟨next,x,p⟩=>fun H2=>x<=i/\PH.le H H2/\SO H H2 3 1 (fun z:Int=>[ii z]) v p/\LabA i (etl es t) x next p) (fun⟨next,x,p⟩=>i-x) ((0,0,bC i (-1))) rfl (⟨bI _,l2,o2,LabA.start i (etl es t)⟩) fun⟨next,x,p⟩ H2 wI=> ?_;obtain⟨hx,l3,o3,hI⟩:=wI;refine d4 (d4 ?_);refine i0 (b:=decide (((x:Nat):Int)<(i:Nat))) rfl (fun h=> ?_) (fun h=> ?_)
  ·replace h:=oDt h;have rZ:x<i:=by omega
   obtain⟨z,hz⟩:∃z,p[x]? =some z:=⟨_,aA (by rw[hI.len];exact rZ)⟩;refine Do el_plan rfl rfl rfl rfl (fun _=>rfl) o3.se hz rfl (fun _=>rfl) fun _=> ?_;refine d4 ?_;refine i0 (b:=decide (z≥0)) rfl (fun h2=> ?_) (fun h2=> ?_)
   ·replace h2:=oDt h2;exact⟨(next,x+1,p),by show i-(x+1)<i-x;omega,(Cc rfl (i9 rfl (by omega)) rfl),⟨rZ,l3,o3,hI.skip hz h2⟩⟩
   ·replace h2:=oDf h2;refine Dp el_plan (a:=(next:Int)) rfl rfl rfl rfl (fun _=>rfl) (fun _=>rfl) l3 o3 (by rw[hI.len];exact rZ) rfl (fun _=>rfl) rfl fun q u' H3 l4 o4 _=> ?_;have wP:=hI.nx;have hJ0:=hI.begin hz (by omega);have rJ:(etl es t).length=t.length:=aR _;have xK:t.length*t.length<=64*64:=cI hl hl;have hDl:∀ρ:List Value,D prog ρ (.v 12)=ii (t.length:Nat)->D prog ρ (.v 13)=ii (t.length:Nat)->D prog ρ (.op2 .mul .i64 (.v 12) (.v 13))=ii ((t.length*t.length:Nat):Int):=fun ρ a b=>by
     show t8 .mul .i64 (intOf (D prog ρ (.v 12))) (intOf (D prog ρ (.v 13)))=_;rw[a,b];show Value.int .i64 (wZ .i64 (((t.length:Nat):Int)*((t.length:Nat):Int)))=Value.int .i64 _;congr 1;rw[<-Int.natCast_mul,we (by omega)]
    refine s9 (α:=Nat×List Int) (fun⟨j,p'⟩=>[ii (j:Nat)]) (fun⟨j,p'⟩=>fun H4=>j<=t.length*t.length/\PH.le H H4/\SO H H4 3 1 (fun z:Int=>[ii z]) v p'/\LabB i (etl es t) x next j p') (fun⟨j,p'⟩=>t.length*t.length-j) ((0,p.set x (next:Int))) rfl (⟨bI _,l4,o4,hJ0⟩) fun⟨j,p'⟩ H4 hQ4=> ?_;obtain⟨hj,l5,o5,hJ⟩:=hQ4;refine j7 el_int (hu.mono l5) ?_;refine j7 el_int (hu.mono l5) ?_;refine d4 (d4 (d4 ?_));refine r9 (p:=(((j:Nat):Int)<(t.length*t.length:Nat))) (by show Value.bool (decide (((j:Nat):Int)<intOf (D prog _ (.op2 .mul .i64 (.v 12) (.v 13)))))=_;rw[hDl _ rfl rfl];rfl) (fun h3=> ?_) fun h3=> ?_
    ·have zK:0<t.length:=Nat.pos_of_ne_zero fun e=>by rw[e]at h3;simp at h3;omega
     simp only[cA,nA];refine j7 el_int (hu.mono l5) ?_;refine d4 ?_;refine d9 (by show((t.length:Nat):Int)≠0;omega) ?_;have zC:j%t.length<t.length:=bO _ zK;obtain⟨y,hy,_⟩:=t7 zC;simp only[cA,nA];refine Do el_int rfl rfl rfl rfl (fun _=>rfl) (hu.mono l5) hy (j4 rfl (by show Value.int .i64 (eD ((j:Nat):Int) ((t.length:Nat):Int))=Value.int .i64 _;congr 1)) (fun _=>rfl) fun _=> ?_;obtain⟨hy1,wC⟩:=ht y (aI hy);obtain⟨m,rfl⟩:∃m:Nat,y=(m:Int):=⟨y.toNat,by omega⟩;rw[bB]at wC;have sD:=Fo (es:=es) wC;have hed:=hg.mem sD;simp only[cA,nA];refine j8 el_edge (hw.mono l5) sD fun _=> ?_;refine d9 (el_edge.vcells (Ed es (m:Nat))) ?_;have pR:=hJ.len;obtain⟨za,hza⟩:∃z,p'[(Ed es (m:Nat)).1]? =some z:=⟨_,aA (by omega)⟩;obtain⟨zb,hzb⟩:∃z,p'[(Ed es (m:Nat)).2]? =some z:=⟨_,aA (by omega)⟩;have tG:(etl es t).getD (j%(etl es t).length) (0,0)=Ed es (m:Nat):=by rw[rJ];exact e0p zC hy
     have a0r:p'[(Ed es (m:Nat)).1]? =some (next:Int)\/p'[(Ed es (m:Nat)).2]? =some (next:Int)->LabB i (etl es t) x next (j+1) ((p'.set (Ed es (m:Nat)).1 (next:Int)).set (Ed es (m:Nat)).2 (next:Int)):=hJ.step qK tG (Ip (aI hy)) (by omega) (by omega) (by omega);simp only[cA,nA];refine Do el_plan rfl rfl rfl rfl (fun _=>rfl) o5.se hza rfl (fun _=>rfl) fun _=> ?_;refine d4 (d4 ?_);refine r9 (p:=(za=(next:Int))) (bE _ _) (fun h4=> ?_) fun h4=> ?_
     ·refine Dp el_plan (a:=(next:Int)) rfl rfl rfl rfl (fun _=>rfl) (fun _=>rfl) l5 o5 (by omega) rfl (fun _=>rfl) rfl fun q5 u5 H5 l6 o6 _=> ?_;refine Dp el_plan (a:=(next:Int)) rfl rfl rfl rfl (fun _=>rfl) (fun _=>rfl) l6 o6 (by rw[bD];omega) rfl (fun _=>rfl) rfl fun q6 u6 H6 l7 o7 _=> ?_;exact⟨(j+1,(p'.set (Ed es (m:Nat)).1 (next:Int)).set (Ed es (m:Nat)).2 (next:Int)),by show t.length*t.length-(j+1)<t.length*t.length-j;omega,(z8 (i9 rfl (by omega))),⟨by show j+1<=_;omega,l7,o7,a0r (.inl (by rw[hza,h4]))⟩⟩
     ·simp only[cA,nA];refine Do el_plan rfl rfl rfl rfl (fun _=>rfl) o5.se hzb rfl (fun _=>rfl) fun _=> ?_;refine d4 ?_;refine r9 (p:=(zb=(next:Int))) (bE _ _) (fun h5=> ?_) fun h5=> ?_
      ·refine Dp el_plan (a:=(next:Int)) rfl rfl rfl rfl (fun _=>rfl) (fun _=>rfl) l5 o5 (by omega) rfl (fun _=>rfl) rfl fun q5 u5 H5 l6 o6 _=> ?_;refine Dp el_plan (a:=(next:Int)) rfl rfl rfl rfl (fun _=>rfl) (fun _=>rfl) l6 o6 (by rw[bD];omega) rfl (fun _=>rfl) rfl fun q6 u6 H6 l7 o7 _=> ?_;exact⟨(j+1,(p'.set (Ed es (m:Nat)).1 (next:Int)).set (Ed es (m:Nat)).2 (next:Int)),by show t.length*t.length-(j+1)<t.length*t.length-j;omega,(z8 (i9 rfl (by omega))),⟨by show j+1<=_;omega,l7,o7,a0r (.inr (by rw[hzb,h5]))⟩⟩
      ·exact⟨(j+1,p'),by show t.length*t.length-(j+1)<t.length*t.length-j;omega,(z8 (i9 rfl (by omega))),⟨by show j+1<=_;omega,l5,o5,hJ.pass qK tG (by omega) (by omega) ⟨(by rw[hza];exact fun e=>h4 (bZ.inj e)),by rw[hzb];exact fun e=>h5 (bZ.inj e)⟩⟩⟩
    ·have vT:j=(etl es t).length*(etl es t).length:=by rw[rJ];omega
     rw[vT]at hJ;have wB:=hJ.end (by omega) (Vw hg ht);refine d4 ?_;exact⟨(next+1,x+1,p'),by show i-(x+1)<i-x;omega,(Cc (i9 rfl (by omega)) (i9 rfl (by omega)) rfl),⟨rZ,l5,o5,wB⟩⟩
  ·replace h:=oDf h;have hxe:x=i:=by omega
   subst hxe;exact g8 rfl ⟨l3,p,next,o3.se,hI⟩
end
end Go.Proofs.Z
/- Chapter 32: drafts: the plan is allowed. -/
namespace Go.GS
theorem UE {es:List (Nat×Nat)} {t:List Int} (pS:∀z∈t,0<=z/\z.toNat<es.length):∀e∈etl es t,e∈es:=fun e he=>by
 obtain⟨i,hi,rfl⟩:=Eu he;have ho:=(pS i hi).2;unfold Ed;rw[aB,aA ho];exact eH ho
theorem UF {n:Nat} {es:List (Nat×Nat)} {t:List Int} (hg:GV n es) (pS:∀z∈t,0<=z/\z.toNat<es.length):Inn (2^n-1) (etl es t):=fun e he=>by
 have:=hg.ed e (UE pS e he);have hb:∀y,bit (2^n-1) y=decide (y<n):=fun y=>Nat.testBit_two_pow_sub_one n y;rw[hb,hb];exact⟨oDd (by omega),oDd this.2⟩
theorem UG (p wl:List Int) (d:Nat):∀i,dsm p wl i d=(((List.range i).filter fun x=>decide (p.getD x 0=(d:Int))).map fun x=>wl.getD x 0).sum
 |0=>rfl
 |i+1=>by
  rw[dsm,UG p wl d i,List.range_succ,List.filter_append,aX,List.sum_append];congr 1;by_cases h:p.getD i 0=(d:Int)
  ·rw[if_pos h,List.filter_cons_of_pos (by simpa using h)];simp
  ·rw[if_neg h,List.filter_cons_of_neg (by simpa using h)];rfl
theorem c9j {p wl:List Int} {n d:Nat} (hl:p.length=n) (hn:n<=64):Oy wl (j5 p (d:Nat))=dsm p wl n d:=by
 rw[UG];unfold Oy;congr 2;refine wb (Vb _) (List.pairwise_lt_range.filter _) fun x=> ?_;have hM:j5 p (d:Nat)<M64:=Zh p _ (by omega);rw[Gf hM,Eb,List.mem_filter,List.mem_range,oDi,oDi];constructor
 ·intro h;have:=(List.getElem?_eq_some_iff.1 h).1;exact⟨by omega,by rw[aB,h];rfl⟩
 ·rintro⟨h1,h2⟩;rw[aB,aA (by omega)]at h2;rw[aA (by omega)];exact congrArg some h2
theorem d5F {n k:Nat} {L es:List (Nat×Nat)} {wl p:List Int} {lo hi:Int} (hL:LabA n L n k p) (hLe:∀e∈L,e∈es) (hn:n<=64) (h1:1<=n) (tH:1<=k) (uN:k<=8) (hw:∀d,d<k->lo<=dsm p wl n d/\dsm p wl n d<=hi):y8 n es wl lo hi (k:Nat) p=true:=by
 obtain⟨a,b⟩:=UD hL hn h1;unfold y8;rw[Bool.and_eq_true];refine⟨oDd ?_,List.all_eq_true.2 fun m hm=> ?_⟩
 ·unfold plE;rw[if_neg (by omega),if_pos ⟨hL.len,a,by rw[bB];exact b⟩]
 ·rw[bB]at hm;obtain⟨d,hd,rfl⟩:=mem_masks.1 hm;have:=hw d hd;unfold alB;rw[cnB_iff.2 (d8M hL hLe hd),c9j hL.len hn,oDd (show dsm p wl n d≥lo from this.1),oDd this.2];rfl
end Go.GS
namespace Go.Proofs.Z
open Go.Proofs.Tryz
open Go.RowKit Go.RX Go.GS
def d8N (H:PH) (r:Value):Prop:=∃(n:Nat) (w:Value) (es:List (Nat×Nat)) (wts:Value) (wl:List Int) (lo hi:Int) (k:Nat) (u:Value) (p:List Int),
 r= .tuple #[gv n w,bv wts lo hi (k:Nat),u]/\SG H w es/\GV n es/\n<=9/\Cn es (2^n-1)/\SI H wts wl/\1<=k/\k<=4/\SI H u p/\bdE n wl lo hi (k:Nat)=0/\y8 n es wl lo hi (k:Nat) p=true
section
variable {H:PH} {s wv cu:Value} {more:List (Nat×Nat)} {wl0 cuts:List Nat} {da db dc dk s0 s1 tr:Nat}
set_option maxHeartbeats 4000000 in
theorem b5Z (hs:SE H 2 bc s more) (hwv:SE H 1 c8 wv wl0) (hcu:SE H 1 c8 cu cuts) (vI:∀c∈cuts,c<256) (wJ:tr<256):Con prog 8 [cv da db dc s wv cu dk s0 s1 tr] H fun r H'=>PH.le H H'/\d8N H' r:=by
 refine j3 mixed c3d ?_;refine d9 (PR (Af hs) (Af hwv) (Af hcu) _ _ _ _ _ _ _) ?_;refine d4 ?_;refine i6 (b9v (da:=da%3) (db:=db) (dc:=dc) hs) (z8 (d4D rfl hs.cells)) ?_;rintro _ H1 ⟨l1,w0,es0,rfl,o1,sN⟩;refine nmI ?_;have hn9:(1+da%3%4)*(1+db%3)<=9:=cI (show 1+da%3%4<=3 by omega) (show 1+db%3<=3 by omega);generalize (1+da%3%4)*(1+db%3)=n0 at sN hn9;have tW:=sN.n1;have rE:2^n0-1<2^n0:=pI (fF n0) (by decide);have hpM:2^n0<M64:=An (by omega);refine d9 (Ap o1.se) ?_;refine Am (Jc (n:=n0) (by omega)) rfl ?_;have hD1:∀ρ,D prog ρ (.v 2)=uv (2^n0)->D prog ρ (.op2 .sub .u64 (.v 2) (.k (.int .u64 1)))=uv (2^n0-1):=fun ρ h=>Yz (B:=1) h rfl hpM (fF n0);refine d4 ?_;refine x9 (b5t o1.se sN rE) (j4 rfl (hD1 _ rfl)) fun H2 l2=> ?_;refine d4 ?_;refine⟨(fun l H'=>PH.le H H'/\∃n w es,l=[uv (2^n-1),gv n w]/\SG H' w es/\GV n es/\n<=9/\Cn es (2^n-1)),?_,?_⟩
 ·skip
  refine i0 (b:= !cnB es0 (2^n0-1)) rfl (fun h=> ?_) (fun h=> ?_)
  ·skip
   refine Hu el_edge (l:=Im) (vs:=[ev2 (0,1),ev2 (0,2),ev2 (1,3),ev2 (2,3)]) rfl (by decide) (by decide) rfl rfl (Ot (Kq (a:=0) (b:=1) rfl rfl) (Kq (a:=0) (b:=2) rfl rfl) (Kq (a:=1) (b:=3) rfl rfl) (Kq (a:=2) (b:=3) rfl rfl)) fun v H4 l4 o4 _=> ?_;refine d9 o4.se.one ?_;exact⟨(l1.trans l2).trans l4,4,v,Im,j4 rfl (by show Value.agg (#[ii 4]++v.cells)=_;rw[o4.se.cells];rfl),o4.se,c8C,by decide,c8D⟩
  ·skip
   exact⟨l1.trans l2,n0,w0,es0,j4 (hD1 _ rfl) rfl,o1.se.mono l2,sN,hn9,cnB_iff.1 (by simpa using h)⟩
 rintro _ H3 _ ⟨l3,n,w,es,rfl,hw,hg,hn,hC⟩;simp only[cA,nA];have tW:=hg.n1;have zI:=hg.len;have wX:=c8B ⟨n,by omega⟩;simp only at wX;have pT:2^n-1≠0:=by have:=Nat.pow_le_pow_right (n:=2) (by decide) tW;omega
 have rE:2^n-1<2^n:=pI (fF n) (by decide);refine i6 (b9u hw hg rE pT (by omega)) rfl ?_;rintro v6 H4 ⟨l4,sl,⟨o6,a6s,hsl⟩,zP⟩;refine nmI ?_;have yA:0<sl.length:=List.length_pos_iff.2 (zP hC);refine d4 ?_;refine Om Zu rfl rfl o6.se rfl ?_;refine d4 ?_;refine d9 (show((sl.length:Nat):Int)≠0 by omega) ?_;have htm:tr%sl.length<sl.length:=bO _ yA;have hsa:=aA htm;refine Do Zu rfl rfl rfl rfl (fun _=>rfl) o6.se hsa (j4 rfl (PT rfl wJ rfl)) (fun _=>rfl) fun _=> ?_;obtain⟨t0,ot,hT⟩:=a6s _ (aI hsa);have zK:=hT.len;refine d4 (d4 ?_);refine⟨(fun l H'=>H'=H4/\∃k:Nat,l=[ii (k:Nat)]/\1<=k/\k<=4/\k<=n),?_,?_⟩
 ·skip
  have hdk:=bO dk (show 0<4 by decide);have hDk:∀ρ:List Value,D prog ρ (.v 0)=cv da db dc s wv cu dk s0 s1 tr->D prog ρ (.op2 .add .i64 (.k (.int .i64 1)) (.cv .i64 (.op2 .rem .u8 (.cell (.v 0) 6 0 noI) (.k (.int .u8 4)))))=ii ((1+dk%4:Nat):Int):=fun ρ h=>lz (m:=4) (mi:=4) (by show(D prog ρ (.v 0)).cells.getD _ undef=_;rw[h];rfl) rfl (by decide) (by decide);refine r9 (p:=(((1+dk%4:Nat):Int)>(n:Nat))) (by show Value.bool (decide (intOf (D prog _ (.op2 .add .i64 _ _))>_))=_;rw[hDk _ rfl];rfl) (fun h=> ?_) fun h=> ?_
  ·exact⟨rfl,n,rfl,tW,by omega,Nat.le_refl _⟩
  ·exact⟨rfl,1+dk%4,z8 (hDk _ rfl),by omega,by omega,by omega⟩
 rintro _ H4 _ ⟨rfl,k,rfl,tH,xF,rQ⟩;simp only[cA,nA];have lH4:=l3.trans l4;refine s9 (α:=List Int×Value×Nat) (fun⟨t,u,i⟩=>[u,ii (i:Nat)]) (fun⟨t,u,i⟩=>fun H'=>PH.le H4 H'/\SI H' u t/\i<=k-1/\t.length+1+i=n/\(∀z∈t,0<=z/\z.toNat<es.length)/\Acy (etl es t) (etl es t).length) (fun⟨t,u,i⟩=>k-i) ((t0,vs sl[tr%sl.length],0)) rfl (⟨PH.le.refl _,ot.se,bI _,by omega,(fun z hz=>⟨(hT.ok z hz).1,(hT.ok z hz).2.1⟩),by rw[show(etl es t0).length=t0.length from aR _];exact hT.acy⟩) fun⟨t,u,i⟩ H' hQ=> ?_;obtain⟨l5,hu,hi,pR,pS,yM⟩:=hQ;have a3v:=hcu.mono (lH4.trans l5);refine d4 (d4 ?_);refine r9 (p:=(((i:Nat):Int)<((k:Nat):Int)-1)) (by show Value.bool (decide (((i:Nat):Int)<wZ .i64 (((k:Nat):Int)-1)))=_;rw[show wZ .i64 (((k:Nat):Int)-1)=((k:Nat):Int)-1 by rw[IntKind.wrap_i64];omega]) (fun h=> ?_) fun h=> ?_
 ·refine j7 md a3v ?_;refine d4 ?_;refine⟨(fun l H''=>H''=H'/\∃j:Nat,l=[ii (j:Nat)]/\j<t.length),?_,?_⟩
  ·skip
   refine i0 (b:=decide (((i:Nat):Int)<(cuts.length:Nat))) rfl (fun h2=> ?_) (fun h2=> ?_)
   ·replace h2:=oDt h2;have uG:i<cuts.length:=by omega
    refine j8 md a3v (aA uG) fun _=> ?_;refine d4 ?_;refine j7 el_int hu ?_;refine d4 ?_;refine d9 (show((t.length:Nat):Int)≠0 by omega) ?_;exact⟨rfl,cuts[i]%t.length,z8 (PT rfl (vI _ (eH uG)) rfl),bO _ (by omega)⟩
   ·replace h2:=oDf h2;exact⟨rfl,0,rfl,by omega⟩
  rintro _ H' _ ⟨rfl,j,rfl,hj⟩;simp only[cA,nA];refine gq el_int rfl rfl fun v15 H6 l6 o6 _=> ?_;obtain⟨u2,wC,hs2⟩:=U0 el_int (vs:=[u,ii (j:Nat)]) (k:= .i64) (j:=j) a9w rfl rfl (hu.mono l6) (by omega);refine r7 (wC.rds _) rfl ?_;have tI:(t.take j).length<=64:=by rw[cB];omega
  refine Lu el_int rfl rfl rfl l6 o6 hs2 (by simp only[List.length_nil];omega) rfl rfl fun v17 H7 l7 o7 _=> ?_;obtain⟨u3,hy3,hs3⟩:=U1 el_int (vs:=[u,ii ((j+1:Nat):Int)]) (k:= .i64) (j:=j+1) a9x rfl rfl (hu.mono l7) (by omega);refine d4 ?_;refine r7 (hy3.rds _) (j4 rfl (i9 rfl (by omega))) ?_;have vS:(t.drop (j+1)).length<=64:=by rw[cX];omega
  refine Lu el_int rfl rfl rfl l7 o7 hs3 (by rw[bV];omega) rfl rfl fun v19 H8 l8 o8 _=> ?_;rw[bV]at o8;have a0n:(t.take j++t.drop (j+1)).length+1+(i+1)=n:=by rw[aJ,cB,cX];omega
  have a6t:∀z∈t.take j++t.drop (j+1),0<=z/\z.toNat<es.length:=fun z hz=>pS z ((aV.1 hz).elim List.mem_of_mem_take List.mem_of_mem_drop);have a6u:Acy (etl es (t.take j++t.drop (j+1))) (etl es (t.take j++t.drop (j+1))).length:=by
   have e:etl es (t.take j++t.drop (j+1))=(etl es t).take j++(etl es t).drop (j+1):=by unfold etl;rw[aX,List.map_take,List.map_drop]
   rw[e];exact c9i (UF hg pS) yM j
  exact⟨(t.take j++t.drop (j+1),v19,i+1),by show k-(i+1)<k-i;omega,(j4 rfl (i9 rfl (by omega))),⟨l5.trans l8,o8.se,by show i+1<=k-1;omega,a0n,a6t,a6u⟩⟩
 ·have uF:i=k-1:=by omega
  have hw5:SG H' w es:=hw.mono (l4.trans l5);refine i6 (b5Y hw5 hg hu pS (by omega)) rfl ?_;rintro v13 H9 ⟨l9,p,nx,hp,hL⟩;refine nmI ?_;have rJ:(etl es t).length=t.length:=aR _;have hnk:k=nx:=by
   have:=d5E hL (by omega) (UF hg pS) wX yM;omega
  subst hnk;obtain⟨hlo,hus⟩:=UD hL (by omega) tW;have qN:=hL.len;have hp8:∀x∈p,0<=x/\x<8:=fun x hx=>by have:=hlo.1 x hx;omega
  refine d9 (aj _) ?_;have lH9:=(lH4.trans l5).trans l9;refine s9 (α:=Nat×Value×List Int) (fun⟨x,wt,wl⟩=>[ii (x:Nat),bv wt 0 0 (k:Nat)]) (fun⟨x,wt,wl⟩=>fun H'=>PH.le H9 H'/\x<=n/\SO H9 H' 3 1 (fun z:Int=>[ii z]) wt wl/\wl.length=x/\(∀z∈wl,0<=z/\z<=9)) (fun⟨x,wt,wl⟩=>n-x) ((0,.slice none 0 0,[])) (j4 rfl (e1i rfl)) (⟨PH.le.refl _,bI _,SO.nil _ _ _ _ _,rfl,fun z hz=>by cases hz⟩) fun⟨x,wt,wl⟩ H10 a6v=> ?_;obtain⟨l10,hx,o10,hwl,hz9⟩:=a6v;have a3w:=hwv.mono (lH9.trans l10);refine d4 ?_;refine i0 (b:=decide (((x:Nat):Int)<(n:Nat))) rfl (fun h2=> ?_) (fun h2=> ?_)
  ·replace h2:=oDt h2;refine j7 md a3w ?_;refine d4 ?_;refine⟨(fun l H''=>H''=H10/\∃z:Int,l=[ii z]/\0<=z/\z<=9),?_,?_⟩
   ·skip
    refine i0 (b:=decide (((x:Nat):Int)<(wl0.length:Nat))) rfl (fun h3=> ?_) (fun h3=> ?_)
    ·replace h3:=oDt h3;refine j8 md a3w (aA (show x<wl0.length by omega)) fun _=> ?_;have hrm:=bO wl0[x] (show 0<10 by decide);refine d4 ?_;exact⟨rfl,_,z8 (d5C rfl),by omega,by omega⟩
    ·replace h3:=oDf h3;exact⟨rfl,1,rfl,by decide,by decide⟩
   rintro _ H10 _ ⟨rfl,z,rfl,uO,hz1⟩;simp only[cA,nA];refine Iz el_int rfl rfl rfl (fun _=>rfl) (fun _=>rfl) l10 o10 (by omega) rfl (fun _=>rfl) rfl fun q v19 H11 l11 o11=> ?_;refine d9 o11.se.one ?_;exact⟨(x+1,v19,wl++[z]),by show n-(x+1)<n-x;omega,(j4 (i9 rfl (by omega)) (d7Y rfl rfl o11.se.cells)),⟨l11,by show x+1<=n;omega,o11,by show(wl++[z]).length=x+1;rw[aJ,hwl];rfl,fun y hy=>by rcases aV.1 hy with hy|hy;exact hz9 y hy;rw[List.mem_singleton]at hy;subst hy;exact⟨uO,hz1⟩⟩⟩
  ·replace h2:=oDf h2;have hxn:x=n:=by omega
   refine i6 (b5W (lo:=0) (hi:=0) (k:=k) hz9 (by omega) tH (hp.mono l10) o10.se (by omega) hp8 (by omega)) rfl ?_;rintro _ _ ⟨rfl,a,b,rfl,ha0,rL,vE,zW⟩;refine nmI ?_;have hlh:=e0o (s0:=s0) (s1:=s1) ha0 rL vE;refine i8 (i8 (d4 (d4 ?_)));refine r7 ((yh (vs:=[ii 0,ii (wZ .i64 (a-wZ .i64 (eD ((s0:Nat):Int) 6)))]) rfl rfl rfl).rds _) rfl ?_;have hB:∀(lo':Int) (ρ:List Value),D prog ρ (.v 0)=cv da db dc s wv cu dk s0 s1 tr->D prog ρ (.v 15)=bv wt 0 0 (k:Nat)->D prog ρ (.v 16)= .tuple #[ii a,ii b]->D prog ρ (.v 17)=ii lo'->D prog ρ (.cat (.sub (.v 15) 0 1 0 noI) 1 (.cat (.v 17) 1 (.cat (.op2 .add .i64 (.proj (.v 16) 1) (.cv .i64 (.op2 .rem .u8 (.cell (.v 0) 8 0 noI) (.k (.int .u8 6))))) 1 (.sub (.sub (.v 15) 2 2 0 noI) 1 1 0 noI))))=bv wt lo' (wZ .i64 (b+wZ .i64 (eD ((s1:Nat):Int) 6))) (k:Nat):=fun lo' ρ h0 h1 h2 h3=>d7Z h1 h3 (by show t8 .add .i64 (intOf (match D prog ρ (.v 16)with| .tuple vs=>vs.getD 1 undef|_=>undef)) (wZ .i64 (eD (intOf ((D prog ρ (.v 0)).cells.getD (8+0*z6 (D prog ρ noI)) undef)) 6))=_;rw[h0,h2,Nat.zero_mul];rfl);refine d4 (d4 ?_);refine d9 (aj _) ?_;refine d9 (by show(D prog _ (.cat _ 1 (.cat _ 1 (.cat _ 1 _)))).cells.size=4/\_;rw[hB _ _ rfl rfl rfl rfl];exact Gs (Af o10.se) _ _ _) ?_;have hwk:Oz wl:=fun z hz=>by have:=hz9 z hz;omega
   have uZ:bdE n wl (if wZ .i64 (a-wZ .i64 (eD ((s0:Nat):Int) 6))>0 then wZ .i64 (a-wZ .i64 (eD ((s0:Nat):Int) 6))else 0) (wZ .i64 (b+wZ .i64 (eD ((s1:Nat):Int) 6))) (k:Nat)=0:=if_pos ⟨by omega,hlh.1,by omega,by omega,by omega,hwk⟩;have hft:=d5F (es:=es) (wl:=wl) (lo:=(if wZ .i64 (a-wZ .i64 (eD ((s0:Nat):Int) 6))>0 then wZ .i64 (a-wZ .i64 (eD ((s0:Nat):Int) 6))else 0)) (hi:=wZ .i64 (b+wZ .i64 (eD ((s1:Nat):Int) 6))) hL (UE pS) (by omega) tW tH (by omega) (fun d hd=>by have:=zW d hd;rw[qN]at this;omega);exact g8 (by show Value.tuple #[_,D prog _ (.cat _ 1 (.cat _ 1 (.cat _ 1 _))),_]=_;rw[hB _ _ rfl rfl rfl rfl];rfl) ⟨lH9.trans l10,n,w,es,wt,wl,_,_,k,v13,p,rfl,hw5.mono (l9.trans l10),hg,hn,hC,o10.se,tH,xF,hp.mono l10,uZ,hft⟩
end
end Go.Proofs.Z
/- MADE BY rxgen.py (mkGT.py): trees of chapter 32. -/
namespace Go.Proofs.Z
open Go.Proofs.Tryz
open Go.RowKit Go.RX
theorem d5G:tree prog [999998] [] [⟨0,6,[],[]⟩] [⟨12,[0,0,0,0,0,24,56,0,0,384,896,0,123,4219,14331,30719,63487,131071],[0,0,0,0,0,9,9,0,0,9,9,0,10,0,10,10,0,10],[0,0,0,0,0,0,0,0,0,0,0,0,0,0,0,0,0,0],[],[0,1,2,3,4,5,6,7,8,9,10,11,12,13,14,15,16,17]⟩] 22=some (.call false 64 [V0,V1]
(.ri V2
(.br (.io .neq V2 (.ki 0)) (.ret [(.k (.bool false)),V2])
(.ef false f22 4 0 []
(.ef false f22 4 1 []
(.pm f22 5 1 [V0]
(.loop [(.k (.bool false)),(.ki 0),(.ki 0)]
(.ri V8
(.ri V5
(.br (.io .lss V8 V5)
(.pm f22 7 1 [V0,V8]
(.pm f22 7 2 [V9]
(.pm f22 8 2 [V3,V10]
(.rq (.tup 0 V11) (.rq (.tup 1 V11)
(.pm f22 9 3 [V1,V8]
(.pm f22 9 4 [V12]
(.pm f22 9 5 [V4,V13]
(.rq (.tup 0 V14) (.rq (.tup 1 V14) (.rq (.bool (.proj V11 1)) (.rq (.bool (.proj V14 1)) (.br (.eqb true (.proj V11 1) (.proj V14 1)) (.ret [(.k (.bool false)),(.ki 0)]) (.br (.proj V11 1)
(.pm f22 10 9 [V1,V8]
(.pm f22 10 10 [V15]
(.rq (.int .i64 (.proj V11 0))
(.ri V16
(.br (.io .neq (.proj V11 0) V16) (.ret [(.k (.bool false)),(.ki 0)]) (.rq (.int .i64 (.proj V14 0))
(.ri V10
(.br (.io .neq (.proj V14 0) V10) (.ret [(.k (.bool false)),(.ki 0)])
(.pm f22 12 5 [V1,V8]
(.pm f22 12 6 [V17]
(.pm f22 12 9 [V1,V8]
(.pm f22 12 10 [V19]
(.ef false f22 12 12 [V3,V10]
(.rq (.tup 1 V21)
(.ef false f22 12 14 [V3,(.proj V21 1),V20]
(.ef false f22 12 15 [V4,V18]
(.rq (.tup 1 V23)
(.ef false f22 12 17 [V4,(.proj V23 1),V10]
(.next 0 [V6,V7,(.io .add V8 (.ki 1))])))))))))))))))))))
(.pm f22 12 5 [V1,V8]
(.pm f22 12 6 [V15]
(.pm f22 12 9 [V1,V8]
(.pm f22 12 10 [V17]
(.ef false f22 12 12 [V3,V10]
(.rq (.tup 1 V19)
(.ef false f22 12 14 [V3,(.proj V19 1),V18]
(.ef false f22 12 15 [V4,V16]
(.rq (.tup 1 V21)
(.ef false f22 12 17 [V4,(.proj V21 1),V10]
(.next 0 [V6,V7,(.io .add V8 (.ki 1))]))))))))))))))))))))))))) (.ret [(.k (.bool true)),(.ki 0)]))))))))))):=by kernel_rfl
theorem d5H:tree prog [] [] [] [] 64=some (.call false 63 [V0,(.ki 8)]
(.rq (.bool V2) (.br (.nt V2) (.ret [(.ki 210)]) (.call false 63 [V1,(.ki 8)]
(.rq (.bool V3) (.br (.nt V3) (.ret [(.ki 210)])
(.pm f64 3 1 [V0]
(.pm f64 3 3 [V1]
(.ri V4
(.ri V5
(.br (.io .neq V4 V5) (.ret [(.ki 2)]) (.ret [(.ki 0)])))))))))))):=by kernel_rfl
theorem d8O:tree prog [] [] [⟨0,6,[],[]⟩,⟨0,11,[],[1]⟩] [⟨8,[0,0,0,0,12,28,0,64,252,0,512,2044,4095,8191],[0,0,0,0,1,1,0,0,0,0,5,0,1,8],[0,0,0,0,0,0,0,0,0,0,3,0,0,0],[0,1,2,3,4,5,6,7,8,9,10,11,12],[13]⟩,⟨24,[0,0,0,1,11,31],[0,0,5,0,0,6],[0,0,4,0,0,1],[0,1,2,3,4],[5]⟩] 4=some (.rq (.cells 10 V0) (.rq (.cells 1 V1) (.call false 7 []
(.rq (.bool V3) (.br (.nt V3) (.ret [(.k (.bool false))]) (.call false 8 [(.ag V0)]
(.rq (.tup 0 V4) (.rq (.tup 1 V4) (.rq (.tup 2 V4) (.rq (.cells 2 (.proj V4 0)) (.rq (.cells 4 (.proj V4 1)) (.call false 18 [(.proj V4 2)]
(.pm f4 5 1 [V5]
(.loop [(.ki 0)]
(.ri V7
(.ri V6
(.br (.io .lss V7 V6)
(.pm f4 8 4 [V5,V7]
(.pm f4 8 5 [V8]
(.rq (.int .u8 V2)
(.ri V9
(.rq (.int .i64 (.cell (.proj V4 1) 3 0 noI)) (.rq (.nz (.cell (.proj V4 1) 3 0 noI))
(.pm f4 8 12 [V5,V7]
(.ef false f4 8 13 [V10,(.io .rem (.io .add V9 (.cv .i64 V2)) (.cell (.proj V4 1) 3 0 noI))]
(.next 0 [(.io .add V7 (.ki 1))]))))))))) (.loop [(.k (.bool false)),(.proj V4 2),V5,(.ki 0),V1]
(.ri V11
(.br (.io .lss V11 (.ki 5)) (.call false 19 [(.ag (.proj V4 0)),(.ag (.proj V4 1)),V9,(.ag V12)]
(.rq (.tup 0 V13) (.rq (.tup 1 V13) (.rq (.tup 2 V13) (.rq (.tup 3 V13) (.rq (.cells 1 (.proj V13 2)) (.call false 19 [(.ag (.proj V4 0)),(.ag (.proj V4 1)),V10,(.ag V12)]
(.rq (.tup 0 V14) (.rq (.tup 1 V14) (.rq (.tup 2 V14) (.rq (.tup 3 V14) (.rq (.cells 1 (.proj V14 2)) (.rq (.int .i64 (.proj V13 3)) (.rq (.int .i64 (.proj V14 3)) (.br (.io .neq (.proj V13 3) (.proj V14 3)) (.ret [(.k (.bool false))]) (.call false 20 [(.proj V13 0),(.proj V14 0)]
(.rq (.bool V15) (.br (.nt V15) (.ret [(.k (.bool false))]) (.rq (.bool (.proj V13 1)) (.rq (.bool (.proj V14 1)) (.br (.eqb true (.proj V13 1) (.proj V14 1)) (.ret [(.k (.bool false))])
(.pm f4 14 17 [(.ag (.proj V13 2)),(.ag (.proj V14 2))]
(.rq (.bool V16) (.br V16
(.ret [(.k (.bool false))]) (.br (.io .neq (.proj V13 3) (.ki 0)) (.ret [(.io .eql (.proj V13 3) (.ki 9))]) (.call false 21 [(.proj V13 0)]
(.rq (.tup 0 V17) (.rq (.tup 1 V17) (.call false 22 [(.proj V13 0),V9]
(.rq (.tup 0 V18) (.rq (.tup 1 V18) (.call false 16 [(.ag (.proj V4 0)),(.ag (.proj V4 1)),V9,(.proj V13 0)]
(.rq (.tup 0 V19) (.rq (.tup 1 V19) (.rq (.cells 16 (.proj V19 0)) (.call false 23 [(.ag (.proj V19 0))]
(.rq (.tup 0 V20) (.rq (.tup 1 V20) (.rq (.int .i64 (.proj V17 1)) (.br (.io .neq (.proj V17 1) (.ki 0)) (.ret [(.k (.bool false))]) (.rq (.int .i64 (.proj V18 1)) (.br (.io .neq (.proj V18 1) (.ki 0)) (.ret [(.k (.bool false))]) (.rq (.int .i64 (.proj V19 1)) (.br (.io .neq (.proj V19 1) (.ki 0)) (.ret [(.k (.bool false))]) (.rq (.int .i64 (.proj V20 1)) (.br (.io .neq (.proj V20 1) (.ki 0)) (.ret [(.k (.bool false))]) (.call false 20 [(.proj V17 0),(.proj V13 0)]
(.rq (.bool V21) (.br (.nt V21) (.ret [(.k (.bool false))]) (.rq (.bool (.proj V18 0)) (.br (.eqb false (.proj V18 0) (.proj V13 1)) (.ret [(.k (.bool false))]) (.rq (.int .i64 (.proj V20 0)) (.br (.io .neq (.proj V20 0) (.ki 1)) (.ret [(.k (.bool false))]) (.call false 24 [(.ag (.proj V4 0)),(.ag (.proj V4 1)),(.proj V13 0)]
(.rq (.bool V22) (.br (.nt V22) (.ret [(.k (.bool false))]) (.next 1 [V8,(.proj V13 0),(.proj V13 0),(.io .add V11 (.ki 1)),(.ag (.proj V13 2))]))))))))))))))))))))))))))))))))))))))))))))))))))))))))) (.ret [(.k (.bool true))]))))))))))))))))))))):=by kernel_rfl
end Go.Proofs.Z
/- Chapter 32: the law RecomFormula returns true. -/
namespace Go.Proofs.Z
open Go.Proofs.Tryz
open Go.RowKit Go.RX Go.GS Go.RZ
open Go.WD (BP Bf wd iw rs toI HM sgI Rb Gy)
section
variable {H:PH} {u v w wts:Value} {l:List Nat} {p wl:List Int} {n k:Nat} {es:List (Nat×Nat)} {lo hi:Int}
theorem UH (hg:GV n es) (hn:n<=9) (h1:1<=k) (h4:k<=4) (hf:y8 n es wl lo hi (k:Nat) p=true):SitO es n k (n8 p)/\LabOk p (k:Nat)/\Ak p k/\p.length=n:=by
 obtain⟨k',he,_,_,hl,hL,hU,_⟩:=nu hf;obtain rfl:k=k':=by omega
 exact⟨⟨hg,hn,Sz hL hU,Wg hL hU,RY p,by rw[Ft];exact hl,h1,h4⟩,hL,hU,hl⟩
theorem od (hb:bdE n wl lo hi (k:Nat)=0) (hn:n<=12) (l:List (List Int)) (hf:∀p∈l,y8 n es wl lo hi (k:Nat) p=true):smE n es wl lo hi (k:Nat) l=0:=by
 unfold smE;rw[if_neg (by rw[hb];simp),if_neg (by omega),if_neg];rw[List.any_eq_true];rintro⟨p,hp,h⟩;rw[hf p hp]at h;cases h
end
end Go.Proofs.Z

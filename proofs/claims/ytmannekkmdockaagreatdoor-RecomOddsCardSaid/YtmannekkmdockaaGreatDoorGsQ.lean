/- Lemmas: chapter 32. -/
import Derived.Test.YtmannekkmdockaaGreatDoorGsL
open Int renaming le_refl->nX
open List renaming filter_cons->eO,filter_nil->jB,range->eP,take_length->kZ,take_zero->jJ
open List.Nodup renaming length_le_of_subset->jP,sublist->pQ
open List.Pairwise renaming nil->gV
open List.Perm renaming refl->pN
namespace Go.Z
open Proofs.Tryz RowKit RX GS
section
variable {H H0:PH} {u v w wts:Value} {p wl t:List Int} {n:Nat} {es:List (Nat×Nat)} {lo hi ds k:Int} {set x:Nat}
theorem c4k (hT:Tb H) (hw:SG H w es) (hg:GV n es) (hu:SI H u t) (h0:set≠0/\set<2^n) (ht:TreeOk es set t) (hk:k∈t):Ae prog 114 [gv n w,uv set,u,ii k] H (.tuple #[uv (p8 es set t k),uv (sdf set (p8 es set t k)),ii 0]):=by
 refine i9 mixed d4k ?_;have hs:=By hg.n64 h0.2;obtain⟨x,r,tB,hx,uL,hlx⟩:=Jm hs h0.1;have hsd:p8 es set t k=Fz (etb es t k) x:=by unfold p8;rw[tB];rfl
 have uH:=Ku (L:=etb es t k) (x:=x) (Vp hg fun i hi=>by have:=ht.ok i (bT.1 hi).1;exact⟨this.1,this.2.1⟩) uL;refine d4 (t8 hw) ?_;refine y9 (NV hw hg hs hu) rfl fun H1 l1=> ?_;rw[Vm h0 ht];refine d9 ?_;refine r9 (bF (p:=(0:Int)≠0) aD) ?_;refine s6 (d3O (hu.mono l1) k) rfl ?_;refine d9 ?_;refine r9 (by show Value.bool (!t.contains k)=_;rw[List.contains_iff_mem.2 hk];rfl) ?_;refine s6 (kg (hT.mono l1) hs) rfl ?_;rw[show tz set=x from by simp[tz,tB]];refine s6 (c9i (hw.mono l1) hg (hu.mono l1) (fun i hi=>⟨(ht.ok i hi).1,(ht.ok i hi).2.1⟩) uL) rfl ?_;refine d9 (d9 ?_);exact g6 rfl ⟨l1,by rw[hsd];show Value.tuple #[_,D prog _ (.op2 .andNot .u64 (.v 1) (.v 7)),_]=_;rw[Uy rfl rfl hs uH.1];rfl⟩
theorem c9j (hc:Chn H n w wts es wl) (hu:SI H u t) (h0:set≠0/\set<2^n) (ht:TreeOk es set t):Con prog 84 [chv wts lo hi ds n w,uv set,u] H fun r H'=>Pl H H'/\SI H' r (z7 es wl lo hi set t t):=by
 refine i9 mixed d3U ?_;have hl:=hu.len;have hs:=By hc.ok.n64 h0.2;have vP:=Jk set;have htl:=ht.len;refine d4 (Vh (u0 hc.wt) (u0 hc.gr) _ _ _ _) ?_;refine j1 el_int hu ?_;refine s8 (α:=Nat×Value) (fun⟨i,v⟩=>[v,ii (i:Nat)]) (fun⟨i,v⟩=>fun H'=>i<=t.length/\Pl H H'/\SO H H' 3 1 (fun z:Int=>[ii z]) v (z7 es wl lo hi set t (t.take i))) (fun⟨i,v⟩=>t.length-i) ((0,.slice none 0 0)) rfl (⟨bI _,Pl.refl _,SO.nil _ _ _ _ _⟩) fun⟨i,v⟩ H' hQ=> ?_;obtain⟨qB,l1,o1⟩:=hQ;refine d9 (d9 ?_);refine g7 (b:=decide (((i:Nat):Int)<(t.length:Nat))) rfl (fun h=> ?_) (fun h=> ?_)
 ·replace h:=oDt h;have tZ:i<t.length:=aA;obtain⟨x,hx,tK⟩:=m7 tZ;have qD:(z7 es wl lo hi set t (t.take i)).length<=i:=bD (cC _ _) (by rw[bM];omega);have qT:=Zy hs h0.1 ht x;have hA:=Ss h0.2 qT;have hB:sdf set (p8 es set t x)<2^n:=Ss h0.2 fun y hy=>by rw[z6,bA]at hy;exact hy.1
  have qI:z7 es wl lo hi set t (t.take (i+1))=if alB es wl lo hi (p8 es set t x)&&alB es wl lo hi (sdf set (p8 es set t x))then z7 es wl lo hi set t (t.take i)++[x]else z7 es wl lo hi set t (t.take i):=by
   rw[take_snoc hx];unfold z7;rw[dP,eO,jB];split
   ·rfl
   ·rw[bQ]
  refine j4 el_int (hu.mono l1) hx fun _=> ?_;refine y9 (c4k (k:=x) (hc.tb.mono l1) (hc.gr.mono l1) hc.ok (hu.mono l1) h0 ht (aG hx)) rfl fun H2 l2=> ?_;refine i8 (i8 (i8 ?_));refine y9 (Zr (lo:=lo) (hi:=hi) (ds:=ds) (hc.mono (l1.trans l2)) hA) rfl fun H3 l3=> ?_;refine d9 ?_;refine g7 (b:=alB es wl lo hi (p8 es set t x)) rfl (fun b1=> ?_) (fun b1=> ?_)
  ·skip
   refine y9 (Zr (lo:=lo) (hi:=hi) (ds:=ds) (hc.mono ((l1.trans l2).trans l3)) hB) rfl fun H4 l4=> ?_;refine d9 ?_;refine g7 (b:=alB es wl lo hi (sdf set (p8 es set t x))) rfl (fun b2=> ?_) (fun b2=> ?_)
   ·skip
    refine Dk el_int rfl rfl rfl aE aE (((l1.trans l2).trans l3).trans l4) (o1.mono ((l2.trans l3).trans l4)) aA rfl aE rfl fun q v2 H5 l5 o5=> ?_;exact⟨(i+1,v2),by show t.length-(i+1)<t.length-i;omega,(i7 rfl (i6 rfl aA)),⟨tZ,l5,by rw[qI,b1,b2];exact o5⟩⟩
   ·skip
    exact⟨(i+1,v),by show t.length-(i+1)<t.length-i;omega,(i7 rfl (i6 rfl aA)),⟨tZ,((l1.trans l2).trans l3).trans l4,by rw[qI,b1,b2];exact o1.mono ((l2.trans l3).trans l4)⟩⟩
  ·skip
   exact⟨(i+1,v),by show t.length-(i+1)<t.length-i;omega,(i7 rfl (i6 rfl aA)),⟨tZ,(l1.trans l2).trans l3,by rw[qI,b1];exact o1.mono (l2.trans l3)⟩⟩
 ·replace h:=oDf h;rw[aF aA]at o1;exact g6 rfl ⟨l1,o1.se⟩
def e1u (H:PH) (n:Nat) (es:List (Nat×Nat)) (wl:List Int) (lo hi ds:Int) (set:Nat) (t:List Int) (r:Value):Prop:=
 ∃v l e,r= .tuple #[v,ii e]/\SI H v l/\e=(if bdE n wl lo hi ds≠0 then bdE n wl lo hi ds else trE n es set t)/\l=(if e≠0 then[]else z7 es wl lo hi set t t)
theorem NW (hT:Tb H) (hw:SG H w es) (hg:GV n es) (qO:SI H wts wl) (hu:SI H u t) (hs:set<M64):Con prog 37 [gv n w,bv wts lo hi ds,uv set,u] H fun r H'=>Pl H H'/\e1u H' n es wl lo hi ds set t r:=by
 refine i9 mixed d3W ?_;refine d4 (t8 hw) ?_;refine d4 (Cj (u0 qO) _ _ _) ?_;refine y9 (ly hw hg qO) rfl fun H1 l1=> ?_;refine d9 ?_;refine j8 (p:=(bdE n wl lo hi ds≠0)) (bN _ _) (fun h=> ?_) fun h=> ?_
 ·exact g6 rfl ⟨l1,_,[],_,rfl,SE.nil _ _ _,(if_pos h).symm,by rw[if_pos h]⟩
 ·have h0:bdE n wl lo hi ds=0:=bB h;have hb:=Ni h0;refine y9 (NV (hw.mono l1) hg hs (hu.mono l1)) rfl fun H2 l2=> ?_;refine d9 ?_;refine j8 (p:=(trE n es set t≠0)) (bN _ _) (fun h2=> ?_) fun h2=> ?_
  ·exact g6 rfl ⟨l1.trans l2,_,[],_,rfl,SE.nil _ _ _,(if_neg h).symm,by rw[if_pos h2]⟩
  ·have h2:trE n es set t=0:=bB h2;obtain⟨zB,hok⟩:=c9h h2;refine g9 (c9j (lo:=lo) (hi:=hi) (ds:=ds) (u:=u) (t:=t) (⟨hT.mono (l1.trans l2),hw.mono (l1.trans l2),hg,qO.mono (l1.trans l2),hb.1,hb.2.2.2.2.2⟩:Chn H2 n w wts es wl) (hu.mono (l1.trans l2)) zB hok) rfl ?_;rintro r H3 ⟨l3,hr⟩;refine nmI ?_;exact g6 rfl ⟨(l1.trans l2).trans l3,_,_,0,rfl,hr,by rw[if_neg h,h2],by rw[if_neg aD]⟩
theorem c0a (hw:SG H w es) (hg:GV n es) (hs:set<M64):Asks prog 245 [gv n w,uv set] H (ii (if set≠0/\set<2^n then 0 else 2)):=by
 refine i9 mixed c3K ?_;refine d4 (t8 hw) ?_;refine s6 (Zw hw hg) rfl ?_;refine d9 ?_;refine r9 (bF (p:=(0:Int)≠0) aD) ?_;refine d9 ?_;refine j8 (p:=(set=0)) (bE0 _) (fun h0=> ?_) fun h0=> ?_
 ·exact g6 rfl ⟨rfl,by rw[if_neg (fun e=>e.1 h0)];rfl⟩
 ·refine s6 (b9T hw hg hs) rfl ?_;exact g6 rfl ⟨rfl,by by_cases h1:set<2^n;(rw[if_pos h1,if_pos ⟨h0,h1⟩];rfl);(rw[if_neg h1,if_neg (fun e=>h1 e.2)];rfl)⟩
theorem zy (hw:SG H w es) (hg:GV n es) (hs:set<M64) (i:Int):Asks prog 142 [gv n w,uv set,ii i] H (.bool (decide (OkI es set i))):=by
 refine i9 mixed c3L ?_;have rM:=hg.n64;refine d4 (t8 hw) ?_;refine d9 ?_;refine g7 (b:=decide (i≥0)) rfl (fun h=> ?_) (fun h=> ?_)
 ·replace h:=oDt h;refine j1 el_edge hw ?_;refine d9 ?_;refine g7 (b:=decide (i<(es.length:Nat))) rfl (fun h2=> ?_) (fun h2=> ?_)
  ·replace h2:=oDt h2;obtain⟨m,rfl⟩:∃m:Nat,i=(m:Int):=⟨i.toNat,aA⟩;have tR:=Fa (es:=es) (m:=m) aA;have hed:=hg.mem tR;refine Kt rfl rfl rfl rfl rfl aE aE aE hw tR rfl aE (fun _ _=>rfl) fun _ _=> ?_;refine y8 (Dq hs aA) rfl ?_;refine d9 ?_;refine g7 (b:=bit set (Ed es (m:Nat)).1) rfl (fun b1=> ?_) (fun b1=> ?_)
   ·skip
    refine Nk rfl rfl rfl rfl rfl aE aE aE hw tR rfl aE (fun _ _=>rfl) fun _ _=> ?_;refine y8 (Dq hs aA) rfl ?_;exact g6 rfl ⟨rfl,by refine congrArg Value.bool ?_;rw[bC,oDi];exact⟨fun hb=>⟨aA,by rw[aV];omega,b1,hb⟩,fun hk=>hk.2.2.2⟩⟩
   ·skip
    exact g6 rfl ⟨rfl,by rw[decide_eq_false (fun hk:OkI es set (m:Nat)=>by rw[hk.2.2.1]at b1;cases b1)];rfl⟩
  ·replace h2:=oDf h2;exact g6 rfl ⟨rfl,by rw[decide_eq_false (fun hk:OkI es set i=>by have:=hk.1;have:=hk.2.1;omega)];rfl⟩
 ·replace h:=oDf h;exact g6 rfl ⟨rfl,by rw[decide_eq_false (fun hk:OkI es set i=>by have:=hk.1;omega)];rfl⟩
theorem md (hw:SG H w es) (hg:GV n es) (hu:SI H u t) (ht:∀i∈t,0<=i/\i.toNat<es.length) (hx:x<64):Asks prog 143 [gv n w,u,ii (x:Nat)] H (uv (Fz (etl es t) x)):=by
 refine i9 mixed c3M ?_;have rM:=hg.n64;have hl:=hu.len;have hL:=Vp hg ht;refine d4 (t8 hw) ?_;refine y8 (Jl hx) rfl ?_;simp only[cA,nA];refine Bf (α:=Nat) (fun r=>[uv (Ab full (etl es t) r (2^x)),ii (r:Nat)]) (fun r=>r<=64) (fun r=>64-r) (0) rfl (bI _) fun r hQ=> ?_;simp only[cA,nA];refine d9 ?_;refine g7 (b:=decide (((r:Nat):Int)<64)) rfl (fun h=> ?_) (fun h=> ?_)
 ·replace h:=oDt h;have hS:=(Nj (set:=full) hL (Aq hx) r).1;generalize hSe:Ab full (etl es t) r (2^x)=S at hS;refine Bf (α:=Nat) (fun j=>[uv (rnd full (etl es (t.take j)) S),ii (j:Nat)]) (fun j=>j<=t.length) (fun j=>t.length-j) (0) rfl (bI _) fun j xQ=> ?_;simp only[cA,nA];refine j1 el_int hu ?_;refine d9 (d9 ?_);refine g7 (b:=decide (((j:Nat):Int)<(t.length:Nat))) rfl (fun h2=> ?_) (fun h2=> ?_)
  ·replace h2:=oDt h2;have sU:j<t.length:=aA;obtain⟨y,hy,wO⟩:=m7 sU;obtain⟨hy1,vL⟩:=ht y (aG hy);obtain⟨m,rfl⟩:∃m:Nat,y=(m:Int):=⟨y.toNat,aA⟩;rw[aV]at vL;have tR:=Fa (es:=es) (m:=m) aA;have hed:=hg.mem tR;have hR:=Zt (set:=full) (Vp hg (t:=t.take j) fun i hi=>ht i (cG hi)) hS;have qI:rnd full (etl es (t.take (j+1))) S=rst full (rnd full (etl es (t.take j)) S) (Ed es (m:Nat)):=by rw[take_snoc hy,Py,zp]
   rw[NU aA aA,<-Nat.or_assoc]at qI;generalize rnd full (etl es (t.take j)) S=R at hR qI;refine j4 el_int hu hy fun _=> ?_;simp only[cA,nA];refine Kt rfl rfl rfl rfl rfl aE aE aE hw tR rfl aE (fun _ _=>rfl) fun _ _=> ?_;simp only[cA,nA];refine j4 el_int hu hy fun _=> ?_;simp only[cA,nA];refine Nk rfl rfl rfl rfl rfl aE aE aE hw tR rfl aE (fun _ _=>rfl) fun _ _=> ?_;simp only[cA,nA];refine y8 (Dq hR aA) rfl ?_;simp only[cA,nA];refine d9 ?_;refine g7 (b:=bit R (Ed es (m:Nat)).1) rfl (fun b3=> ?_) (fun b3=> ?_)
   ·skip
    refine y8 (Jl (n:=(Ed es (m:Nat)).1) aA) rfl ?_;simp only[cA,nA];refine d9 (d9 ?_);refine y8 (Jl (n:=(Ed es (m:Nat)).2) aA) rfl ?_;simp only[cA,nA];refine d9 ?_;exact⟨j+1,aA,(i7 (by rw[qI,if_pos (by rw[b3];rfl)];exact Du (Du rfl rfl hR (Aq aA)) rfl (Hy hR (Aq aA)) (Aq aA)) (i6 rfl aA)),⟨aA,rfl⟩⟩
   ·skip
    refine y8 (Dq hR aA) rfl ?_;simp only[cA,nA];refine d9 ?_;refine g7 (b:=bit R (Ed es (m:Nat)).2) rfl (fun b4=> ?_) (fun b4=> ?_)
    ·skip
     refine y8 (Jl (n:=(Ed es (m:Nat)).1) aA) rfl ?_;simp only[cA,nA];refine d9 (d9 ?_);refine y8 (Jl (n:=(Ed es (m:Nat)).2) aA) rfl ?_;simp only[cA,nA];refine d9 ?_;exact⟨j+1,aA,(i7 (by rw[qI,if_pos (by rw[b3,b4];rfl)];exact Du (Du rfl rfl hR (Aq aA)) rfl (Hy hR (Aq aA)) (Aq aA)) (i6 rfl aA)),⟨aA,rfl⟩⟩
    ·skip
     exact⟨j+1,aA,(i7 (by rw[qI,if_neg (by rw[b3,b4];decide)];rfl) (i6 rfl aA)),⟨aA,rfl⟩⟩
  ·replace h2:=oDf h2;have hje:t.take j=t:=aF aA;exact⟨r+1,aA,(i7 (by rw[show Ab full (etl es t) (r+1) (2^x)=rnd full (etl es t) S from by rw[<-hSe];rfl,hje];rfl) (i6 rfl aA)),⟨aA,rfl⟩⟩
 ·replace h:=oDf h;have hre:r=64:=aA;exact g6 rfl ⟨rfl,by rw[hre];rfl⟩
theorem NX (hs:set<M64) (h0:set≠0):Asks prog 218 [uv set] H (ii ((els set).headD 64:Nat)):=by
 refine i9 mixed c3N ?_;obtain⟨x,r,tB,hx,uL,hlx⟩:=Jm hs h0;rw[tB];refine Bf (α:=Nat) (fun i=>[ii (i:Nat)]) (fun i=>i<=x) (fun i=>x-i) (0) rfl (bI _) fun i hQ=> ?_;refine y8 (Dq hs aA) rfl ?_;refine d9 ?_;refine g7 (b:= !bit set i) rfl (fun h1=> ?_) (fun h1=> ?_)
 ·skip
  have qC:i≠x:=fun e=>by rw[e,hx]at h1;cases h1
  refine d9 ?_;exact⟨i+1,aA,(z8 (i6 rfl aA)),⟨aA,rfl⟩⟩
 ·skip
  have he:i=x:=bB fun e=>by rw[hlx i aA]at h1;cases h1
  exact g6 rfl ⟨rfl,by rw[he];rfl⟩
theorem c0b (hw:SG H w es) (hg:GV n es) (hu:SI H u t) (h0:set≠0/\set<2^n):Con prog 246 [gv n w,uv set,u] H fun r H'=>H'=H/\∃b,r= .bool b/\(b=true↔TreeOk es set t):=by
 refine i9 mixed c3O ?_;have hl:=hu.len;have hs:=By hg.n64 h0.2;obtain⟨x,r,tB,hx0,uL,hlx⟩:=Jm hs h0.1;refine d4 (t8 hw) ?_;refine Bf (α:=Nat×Value) (fun⟨i,z⟩=>[z,ii (i:Nat)]) (fun⟨i,z⟩=>i<=t.length/\(∀a∈t.take i,OkI es set a)/\(t.take i).Pairwise (· < ·)/\(∀m a b,i=m+1->t[m]? =some b->a∈t.take i->a<=b)) (fun⟨i,z⟩=>t.length-i) ((0,.bool false)) rfl (⟨bI _,(fun a ha=>by cases ha),gV,(fun m a b hm=>by cases hm)⟩) fun⟨i,z⟩ hQ=> ?_;simp only[cA,nA];obtain⟨hi,hok,xC,hmx⟩:=hQ;refine j1 el_int hu ?_;refine d9 (d9 ?_);refine g7 (b:=decide (((i:Nat):Int)<(t.length:Nat))) rfl (fun h=> ?_) (fun h=> ?_)
 ·replace h:=oDt h;have qB:i<t.length:=aA;obtain⟨y,hy,wO⟩:=m7 qB;have hym:=aG hy;refine j4 el_int hu hy fun _=> ?_;simp only[cA,nA];refine s6 (zy hw hg hs y) rfl ?_;simp only[cA,nA];refine d9 ?_;refine g7 (b:= !decide (OkI es set y)) rfl (fun h2=> ?_) (fun h2=> ?_)
  ·skip
   exact g6 rfl ⟨rfl,false,rfl,(fun hh=>nomatch hh),fun hT=>by rw[oDd (hT.ok y hym)]at h2;cases h2⟩
  ·skip
   have h2:OkI es set y:=by simpa using h2
   refine g7 (b:=decide (((i:Nat):Int)>0)) rfl (fun h3=> ?_) (fun h3=> ?_)
   ·replace h3:=oDt h3;obtain⟨m,rfl⟩:∃m,i=m+1:=⟨i-1,aA⟩;have tQ:t[m]? =some t[m]:=aJ aA;refine j4 el_int hu hy fun _=> ?_;simp only[cA,nA];refine Ey el_int rfl rfl rfl rfl aE hu tQ (i7 rfl (by rw[Ks (x:=((m+1:Nat):Int)) (y:=1) rfl rfl aA aA];show ii _=ii _;congr 1;omega)) aE fun _=> ?_;simp only[cA,nA];refine d9 (d9 ?_);refine g7 (b:=decide (y<=t[m])) rfl (fun h4=> ?_) (fun h4=> ?_)
    ·replace h4:=oDt h4;exact g6 rfl ⟨rfl,false,rfl,(fun hh=>nomatch hh),fun hT=>by have:=NS hT.asc (List.mem_take_iff_getElem.2 ⟨m,aA,rfl⟩) hy;omega⟩
    ·replace h4:=oDf h4;exact⟨(m+1+1,z),by show t.length-(m+1+1)<t.length-(m+1);omega,(i7 rfl (i6 rfl aA)),⟨⟨qB,by rw[take_snoc hy];intro a ha;rw[aQ,aL]at ha;rcases ha with ha|rfl;(exact hok a ha);exact h2,by rw[take_snoc hy];exact mc xC fun a ha=>by have:=hmx m a _ rfl tQ ha;omega,fun m' a b hm hb ha=>by have hm:m+1+1=m'+1:=hm;have:m'=m+1:=aA;subst this;rw[hy]at hb;cases hb;rw[take_snoc hy,aQ,aL]at ha;rcases ha with ha|rfl;(have:=hmx m a _ rfl tQ ha;omega);exact nX _⟩,rfl⟩⟩
   ·replace h3:=oDf h3;have hi0:i=0:=aA;subst hi0;exact⟨(0+1,z),by show t.length-(0+1)<t.length-0;omega,(i7 rfl (i6 rfl aA)),⟨⟨qB,by rw[take_snoc hy];intro a ha;rw[jJ,cB,aL]at ha;subst ha;exact h2,by rw[take_snoc hy,jJ,cB];exact List.pairwise_singleton _ _,fun m' a b hm hb ha=>by have hm:0+1=m'+1:=hm;have:m'=0:=aA;subst this;rw[hy]at hb;cases hb;rw[take_snoc hy,jJ,cB,aL]at ha;subst ha;exact nX _⟩,rfl⟩⟩
 ·replace h:=oDf h;rw[aF aA]at hok xC;have vP:=Jk set;have qP:Inn set (etl es t):=by
   intro e he;unfold etl at he;rw[aY]at he;obtain⟨i,hi,rfl⟩:=he;exact(hok i hi).2.2
  refine j1 el_int hu ?_;refine s6 (NM hs) rfl ?_;simp only[cA,nA];refine d9 (d9 ?_);refine j8 (p:=(t.length+1=card set)) (by show Value.bool (((t.length:Nat):Int)==intOf (D prog _ (.op2 .sub .i64 (.v 7) (.k (.int .i64 1)))))=_;rw[Ks (x:=(card set:Nat)) (y:=1) rfl rfl aA aA];show Value.bool (((t.length:Nat):Int)==((card set:Nat):Int)-1)=_;rw[bE];congr 1;apply decide_eq_decide.2;omega) (fun h6=> ?_) fun h6=> ?_
  ·refine s6 (NX hs h0.1) rfl ?_;simp only[cA,nA];rw[tB];refine s6 (md hw hg hu (fun i hi=>⟨(hok i hi).1,(hok i hi).2.1⟩) uL) rfl ?_;simp only[cA,nA];have law:=c4i hs qP hx0 (by rw[show(etl es t).length=t.length from aX _];exact h6);rw[show(etl es t).length=t.length from aX _]at law;refine d9 (d9 ?_);exact g6 rfl ⟨rfl,decide (Fz (etl es t) x=set),by show Value.bool (((Fz (etl es t) x:Nat):Int)==((set:Nat):Int))=_;rw[bE];exact congrArg Value.bool (decide_eq_decide.2 aA),fun hb=>⟨xC,hok,law.2 (oDt hb),h6⟩,fun hT=>oDd (law.1 hT.acy)⟩
  ·exact g6 rfl ⟨rfl,false,rfl,(fun hh=>nomatch hh),fun hT=>absurd hT.len h6⟩
theorem c0c (hw:SG H w es) (hg:GV n es) (hs:set<M64) (hu:SI H u t):Asks prog 216 [gv n w,uv set,u] H (ii (trE n es set t)):=by
 refine i9 mixed c3P ?_;refine d4 (t8 hw) ?_;refine s6 (c0a hw hg hs) rfl ?_;refine d9 ?_;refine j8 (p:=(¬(set≠0/\set<2^n))) (by show Value.bool ((if set≠0/\set<2^n then(0:Int)else 2) !=0)=_;by_cases hh:set≠0/\set<2^n;(rw[if_pos hh,decide_eq_false (fun e=>e hh)];rfl);(rw[if_neg hh,oDd hh];rfl)) (fun h0=> ?_) fun h0=> ?_
 ·exact g6 rfl ⟨rfl,by rw[NR h0];show ii (if set≠0/\set<2^n then(0:Int)else 2)=_;rw[if_neg h0]⟩
 ·have h0:set≠0/\set<2^n:=bB h0;refine g9 (c0b hw hg hu h0) rfl ?_;rintro _ _ ⟨rfl,b,rfl,hb⟩;refine nmI ?_;refine d9 ?_;refine g7 (b:= !b) rfl (fun h2=> ?_) (fun h2=> ?_)
  ·skip
   exact g6 rfl ⟨rfl,by rw[Vn h0 fun hT=>by rw[hb.2 hT]at h2;cases h2];rfl⟩
  ·skip
   exact g6 rfl ⟨rfl,by rw[Vm h0 (hb.1 (by simpa using h2))];rfl⟩
theorem c0d (hu:SI H u t) (hb:t.length<=1000000) (k:Int):Con prog 217 [u,ii k] H fun r H'=>Pl H H'/\SI H' r (t.filter fun i=>decide (i≠k)):=by
 refine i9 mixed c3S ?_;refine s8 (α:=Nat×Value) (fun⟨i,v⟩=>[v,ii (i:Nat)]) (fun⟨i,v⟩=>fun H'=>i<=t.length/\Pl H H'/\SO H H' 3 1 (fun z:Int=>[ii z]) v ((t.take i).filter fun i=>decide (i≠k))) (fun⟨i,v⟩=>t.length-i) ((0,.slice none 0 0)) rfl (⟨bI _,Pl.refl _,SO.nil _ _ _ _ _⟩) fun⟨i,v⟩ H' hQ=> ?_;obtain⟨qB,l1,o1⟩:=hQ;refine j1 el_int (hu.mono l1) ?_;refine d9 (d9 ?_);refine g7 (b:=decide (((i:Nat):Int)<(t.length:Nat))) rfl (fun h=> ?_) (fun h=> ?_)
 ·replace h:=oDt h;have tZ:i<t.length:=aA;obtain⟨x,hx,tK⟩:=m7 tZ;have qD:((t.take i).filter fun i=>decide (i≠k)).length<=i:=bD (cC _ _) (by rw[bM];omega);refine j4 el_int (hu.mono l1) hx fun _=> ?_;refine d9 (d9 ?_);refine j8 (p:=(x≠k)) (bN _ _) (fun h2=> ?_) fun h2=> ?_
  ·refine j4 el_int (hu.mono l1) hx fun _=> ?_;refine Dk el_int rfl rfl rfl aE aE l1 o1 aA rfl aE rfl fun q v2 H5 l5 o5=> ?_;exact⟨(i+1,v2),by show t.length-(i+1)<t.length-i;omega,(i7 rfl (i6 rfl aA)),⟨tZ,l5,by rw[take_snoc hx,dP,eO,if_pos (oDd h2)];exact o5⟩⟩
  ·exact⟨(i+1,v),by show t.length-(i+1)<t.length-i;omega,(i7 rfl (i6 rfl aA)),⟨tZ,l1,by rw[take_snoc hx,dP,eO,if_neg (by simpa using h2),jB,bQ];exact o1⟩⟩
 ·replace h:=oDf h;rw[aF aA]at o1;exact g6 rfl ⟨l1,o1.se⟩
theorem NY (hw:SG H w es) (hg:GV n es) (hu:SI H u t) (h0:set≠0/\set<2^n) (ht:TreeOk es set t) (hk:k∈t):Ae prog 168 [gv n w,uv set,u,ii k] H (.tuple #[uv (p8 es set t k),uv (sdf set (p8 es set t k)),ii 0]):=by
 refine i9 mixed c3T ?_;have hs:=By hg.n64 h0.2;have vP:=Jk set;have htl:=ht.len;obtain⟨x,r,tB,hx,uL,hlx⟩:=Jm hs h0.1;have hsd:p8 es set t k=Fz (etl es (t.filter fun i=>decide (i≠k))) x:=by unfold p8;rw[tB];rfl
 have rH:∀i∈(t.filter fun i=>decide (i≠k)),0<=i/\i.toNat<es.length:=fun i hi=>by have:=ht.ok i (bT.1 hi).1;exact⟨this.1,this.2.1⟩
 have uH:=Ku (Vp hg rH) uL;have a7c:(t.filter fun i=>decide (i≠k)).length<t.length:=List.length_filter_lt_length_iff_exists.2 ⟨k,hk,aD⟩;refine d4 (t8 hw) ?_;refine s6 (c0c hw hg hs hu) rfl ?_;simp only[cA,nA];rw[Vm h0 ht];refine d9 ?_;refine r9 (bF (p:=(0:Int)≠0) aD) ?_;refine g9 (c0d hu aA k) rfl ?_;rintro z H1 ⟨l1,hz⟩;refine nmI ?_;simp only[cA,nA];refine j1 el_int hz ?_;refine j1 el_int (hu.mono l1) ?_;refine d9 (d9 ?_);refine r9 (by show Value.bool ((((t.filter fun i=>decide (i≠k)).length:Nat):Int)==((t.length:Nat):Int))=_;rw[bE];exact congrArg Value.bool (decide_eq_false aA)) ?_;refine s6 (NX hs h0.1) rfl ?_;simp only[cA,nA];rw[tB];refine s6 (md (hw.mono l1) hg hz rH uL) rfl ?_;simp only[cA,nA];have qT:=Zy hs h0.1 ht k;rw[hsd]at qT;refine d9 (d9 ?_);exact g6 rfl ⟨l1,by rw[hsd,<-d4z hs qT];show Value.tuple #[_,D prog _ (.op2 .sub .u64 (.v 1) (.v 9)),_]=_;rw[Zg rfl rfl hs (sub_le qT)];rfl⟩
theorem c0e (hc:Chn H n w wts es wl) (hu:SI H u t) (h0:set≠0/\set<2^n) (ht:TreeOk es set t):Con prog 166 [gv n w,bv wts lo hi ds,uv set,u] H fun r H'=>Pl H H'/\SI H' r (z7 es wl lo hi set t t):=by
 refine i9 mixed c3X ?_;have hl:=hu.len;have hs:=By hc.ok.n64 h0.2;have vP:=Jk set;have htl:=ht.len;refine d4 (t8 hc.gr) ?_;refine d4 (Cj (u0 hc.wt) _ _ _) ?_;refine s8 (α:=Nat×Value) (fun⟨i,v⟩=>[v,ii (i:Nat)]) (fun⟨i,v⟩=>fun H'=>i<=t.length/\Pl H H'/\SO H H' 3 1 (fun z:Int=>[ii z]) v (z7 es wl lo hi set t (t.take i))) (fun⟨i,v⟩=>t.length-i) ((0,.slice none 0 0)) rfl (⟨bI _,Pl.refl _,SO.nil _ _ _ _ _⟩) fun⟨i,v⟩ H' hQ=> ?_;obtain⟨qB,l1,o1⟩:=hQ;refine j1 el_int (hu.mono l1) ?_;refine d9 (d9 ?_);refine g7 (b:=decide (((i:Nat):Int)<(t.length:Nat))) rfl (fun h=> ?_) (fun h=> ?_)
 ·replace h:=oDt h;have tZ:i<t.length:=aA;obtain⟨x,hx,tK⟩:=m7 tZ;have qD:(z7 es wl lo hi set t (t.take i)).length<=i:=bD (cC _ _) (by rw[bM];omega);have qT:=Zy hs h0.1 ht x;have hA:=Ss h0.2 qT;have hB:sdf set (p8 es set t x)<2^n:=Ss h0.2 fun y hy=>by rw[z6,bA]at hy;exact hy.1
  have qI:z7 es wl lo hi set t (t.take (i+1))=if alB es wl lo hi (p8 es set t x)&&alB es wl lo hi (sdf set (p8 es set t x))then z7 es wl lo hi set t (t.take i)++[x]else z7 es wl lo hi set t (t.take i):=by
   rw[take_snoc hx];unfold z7;rw[dP,eO,jB];split
   ·rfl
   ·rw[bQ]
  refine j4 el_int (hu.mono l1) hx fun _=> ?_;refine y9 (NY (k:=x) (hc.gr.mono l1) hc.ok (hu.mono l1) h0 ht (aG hx)) rfl fun H2 l2=> ?_;refine i8 (i8 (i8 ?_));refine y9 (zu (lo:=lo) (hi:=hi) (ds:=ds) (hc.gr.mono (l1.trans l2)) hc.ok (hc.wt.mono (l1.trans l2)) hc.len hc.wok hA) rfl fun H3 l3=> ?_;refine d9 ?_;refine g7 (b:=alB es wl lo hi (p8 es set t x)) rfl (fun b1=> ?_) (fun b1=> ?_)
  ·skip
   refine y9 (zu (lo:=lo) (hi:=hi) (ds:=ds) (hc.gr.mono ((l1.trans l2).trans l3)) hc.ok (hc.wt.mono ((l1.trans l2).trans l3)) hc.len hc.wok hB) rfl fun H4 l4=> ?_;refine d9 ?_;refine g7 (b:=alB es wl lo hi (sdf set (p8 es set t x))) rfl (fun b2=> ?_) (fun b2=> ?_)
   ·skip
    refine Ey el_int rfl rfl rfl rfl aE (hu.mono (((l1.trans l2).trans l3).trans l4)) hx rfl aE fun _=> ?_;refine Dk el_int rfl rfl rfl aE aE (((l1.trans l2).trans l3).trans l4) (o1.mono ((l2.trans l3).trans l4)) aA rfl aE rfl fun q v2 H5 l5 o5=> ?_;exact⟨(i+1,v2),by show t.length-(i+1)<t.length-i;omega,(i7 rfl (i6 rfl aA)),⟨tZ,l5,by rw[qI,b1,b2];exact o5⟩⟩
   ·skip
    exact⟨(i+1,v),by show t.length-(i+1)<t.length-i;omega,(i7 rfl (i6 rfl aA)),⟨tZ,((l1.trans l2).trans l3).trans l4,by rw[qI,b1,b2];exact o1.mono ((l2.trans l3).trans l4)⟩⟩
  ·skip
   exact⟨(i+1,v),by show t.length-(i+1)<t.length-i;omega,(i7 rfl (i6 rfl aA)),⟨tZ,(l1.trans l2).trans l3,by rw[qI,b1];exact o1.mono (l2.trans l3)⟩⟩
 ·replace h:=oDf h;rw[aF aA]at o1;exact g6 rfl ⟨l1,o1.se⟩
end
end Go.Z
namespace Go.GS
def inB (set:Nat) (e:Nat×Nat):Bool:=bit set e.1&&bit set e.2
def Aw (es:List (Nat×Nat)) (set i:Nat):Nat:=((es.drop i).filter (inB set)).length
theorem zz {es:List (Nat×Nat)} {set i:Nat} {e:Nat×Nat} (h:es[i]? =some e) (hb:inB set e=true):Aw es set i=Aw es set (i+1)+1:=by
 obtain⟨hi,rfl⟩:=aH.1 h;unfold Aw;rw[cV hi,eO,if_pos hb];rfl
theorem me (es:List (Nat×Nat)) (set i:Nat):Aw es set (i+1)<=Aw es set i:=by
 unfold Aw;by_cases hi:i<es.length
 ·rw[cV hi,eO];split
  ·simp
  ·exact aS _
 ·rw[eD aA,eD aA];exact aS _
theorem NZ (es:List (Nat×Nat)) (set:Nat) {i j:Nat} (h:i<=j):Aw es set j<=Aw es set i:=by
 induction h with
 |refl=>exact aS _
 |step _ ih=>exact bD (me es set _) ih
def Spn (es:List (Nat×Nat)) (set:Nat) (b:List Int) (j:Nat):Prop:=∀x y,bit set x=true->bit set y=true->Rch (etl es b++(es.drop j).filter (inB set)) set x y
theorem mf {L L':List (Nat×Nat)} {set:Nat} (h:∀e∈L,bit set e.1=true->bit set e.2=true->Rch L' set e.1 e.2) {x y:Nat} (hx:bit set x=true) (hr:Rch L set x y):Rch L' set x y:=by
 induction hr with
 |base=>exact .base
 |step h1 ha hz ih=>
  have hy:=h1.mem hx;obtain⟨e,he,⟨rfl,rfl⟩|⟨rfl,rfl⟩⟩:=ha
  ·exact ih.trans (h e he hy hz)
  ·exact ih.trans ((h e he hz hy).symm hz)
theorem mh {L:List (Nat×Nat)} {set:Nat} {e:Nat×Nat} (he:e∈L) (h2:bit set e.2=true):Rch L set e.1 e.2:=Rch.base.step ⟨e,he,.inl ⟨rfl,rfl⟩⟩ h2
theorem Spn.start {es:List (Nat×Nat)} {set:Nat} (h:Cn es set):Spn es set [] 0:=by
 intro x y hx hy;refine mf (fun e he h1 h2=>mh ?_ h2) hx (h.all hx hy);rw[cH,aQ];exact .inr (bT.2 ⟨he,by unfold inB;rw[h1,h2];rfl⟩)
theorem Spn.skip {es:List (Nat×Nat)} {set j:Nat} {b:List Int} {e:Nat×Nat} (h:Spn es set b j) (he:es[j]? =some e) (hn:inB set e=false):Spn es set b (j+1):=by
 obtain⟨hi,rfl⟩:=aH.1 he;intro x y hx hy;have:=h x y hx hy;rw[cV hi,eO,if_neg (by rw[hn];decide)]at this;exact this
theorem Spn.cyc {es:List (Nat×Nat)} {set j:Nat} {b:List Int} {e:Nat×Nat} (h:Spn es set b j) (he:es[j]? =some e) (hr:Rch (etl es b) set e.1 e.2):Spn es set b (j+1):=by
 obtain⟨hi,rfl⟩:=aH.1 he;intro x y hx hy;refine mf (fun a ha h1 h2=> ?_) hx (h x y hx hy);rw[cV hi,eO]at ha;have key:a∈etl es b++(es.drop (j+1)).filter (inB set)\/a=es[j]:=by
  rw[aQ]at ha⊢;rcases ha with ha|ha
  ·exact .inl (.inl ha)
  ·split at ha
   ·rcases aP.1 ha with rfl|ha
    ·exact .inr rfl
    ·exact .inl (.inr ha)
   ·exact .inl (.inr ha)
 rcases key with ha|rfl
 ·exact mh ha h2
 ·exact mf (fun a ha h1 h2=>mh (List.mem_append_left _ ha) h2) h1 hr
theorem Spn.take {es:List (Nat×Nat)} {set j:Nat} {b:List Int} (h:Spn es set b j) (hj:j<es.length):Spn es set (b++[(j:Int)]) (j+1):=by
 intro x y hx hy;refine mf (fun a ha h1 h2=>mh ?_ h2) hx (h x y hx hy);have hE:Ed es (j:Int)=es[j]:=by
  have:=Fa hj;rw[aJ hj]at this;exact(Option.some.inj this).symm
 rw[Py,hE];rw[cV hj,eO]at ha;simp only[aQ,aL]at ha⊢;rcases ha with ha|ha
 ·exact .inl (.inl ha)
 ·split at ha
  ·rcases aP.1 ha with rfl|ha
   ·exact .inl (.inr rfl)
   ·exact .inr ha
  ·exact .inr ha
theorem Spn.end {es:List (Nat×Nat)} {set j:Nat} {b:List Int} (hs:set<M64) (h0:set≠0) (h:Spn es set b j) (hj:es.length<=j) (qP:Inn set (etl es b)) (zQ:Acy (etl es b) (etl es b).length):(etl es b).length+1=card set:=by
 have h1:One (lab (etl es b)) set:=fun x y hx hy=>by
  rw[Px qP hx hy];have:=h x y hx hy;rw[eD hj,jB,bQ]at this;exact this
 have h2:=(Zv (Lb.lab (etl es b)) hs h0 (Iq qP)).2 h1;have h3:=Zu hs qP (etl es b).length (aS _);rw[kZ,h2,(ma _ (aS _)).2 zQ]at h3;omega
structure Beg (es:List (Nat×Nat)) (set:Nat) (b:List Int):Prop where
 asc:b.Pairwise (· < ·)
 ok:∀i∈b,OkI es set i
 acy:Acy (etl es b) (etl es b).length
theorem Beg.nil (es:List (Nat×Nat)) (set:Nat):Beg es set []:=⟨gV,(fun a ha=>by cases ha),(fun i e hi=>by cases hi)⟩
theorem Beg.inn {es:List (Nat×Nat)} {set:Nat} {b:List Int} (h:Beg es set b):Inn set (etl es b):=by
 intro e he;unfold etl at he;rw[aY]at he;obtain⟨i,hi,rfl⟩:=he;exact(h.ok i hi).2.2
theorem Beg.tree {es:List (Nat×Nat)} {set:Nat} {b:List Int} (h:Beg es set b) (hl:b.length+1=card set):TreeOk es set b:=
 ⟨h.asc,h.ok,by have:=h.acy;rw[show(etl es b).length=b.length from aX _]at this;exact this,hl⟩
theorem Beg.snoc {es:List (Nat×Nat)} {set:Nat} {b:List Int} {j:Nat} (hs:set<M64) (h:Beg es set b) (pX:∀i∈b,i<(j:Int)) (hok:OkI es set (j:Nat)) (hr:bit (Fz (etl es b) (Ed es (j:Nat)).1) (Ed es (j:Nat)).2=false):Beg es set (b++[(j:Int)]):=by
 refine⟨mc h.asc pX,?_,?_⟩
 ·intro i hi;rw[aQ,aL]at hi;rcases hi with hi|rfl
  ·exact h.ok i hi
  ·exact hok
 ·rw[Py,aM];refine h.acy.snoc fun he=> ?_;have hL:∀e∈etl es b,e.1<64/\e.2<64:=fun e he=>⟨Bz hs (h.inn e he).1,Bz hs (h.inn e he).2⟩;have uH:=Ku hL (Bz hs hok.2.2.1);rw[Px h.inn hok.2.2.1 hok.2.2.2,<-Vo hs h.inn hok.2.2.1,<-uH.2,hr]at he;cases he
theorem Beg.cyc {es:List (Nat×Nat)} {set:Nat} {b:List Int} {j:Nat} (hs:set<M64) (h:Beg es set b) (hok:OkI es set (j:Nat)) (hr:bit (Fz (etl es b) (Ed es (j:Nat)).1) (Ed es (j:Nat)).2=true):Rch (etl es b) set (Ed es (j:Nat)).1 (Ed es (j:Nat)).2:=by
 have hL:∀e∈etl es b,e.1<64/\e.2<64:=fun e he=>⟨Bz hs (h.inn e he).1,Bz hs (h.inn e he).2⟩;have uH:=Ku hL (Bz hs hok.2.2.1);rw[<-Vo hs h.inn hok.2.2.1];exact(uH.2 _).1 hr
theorem Beg.len {es:List (Nat×Nat)} {set:Nat} {b:List Int} (hs:set<M64) (h0:set≠0) (h:Beg es set b):b.length+1<=card set:=by
 have h3:=Zu hs h.inn (etl es b).length (aS _);rw[kZ,(ma _ (aS _)).2 h.acy,show(etl es b).length=b.length from aX _]at h3;obtain⟨x,r,_,hx,uL,_⟩:=Jm hs h0;have:0<cnt (lab (etl es b)) set:=by
  have hm:lab (etl es b) x∈((eP 64).filter fun x=>bit set x&&decide (lab (etl es b) x=x)):=by
   have qP:=Iq h.inn x hx;rw[bT];exact⟨bR.2 (Bz hs qP),by rw[qP,(Lb.lab (etl es b)).idm];simp⟩
  exact List.length_pos_of_mem hm
 omega
theorem d4A {d n:Nat} (h:d<2^n) (rM:n<=64):card d<=n:=by
 have hd:d<M64:=aU h (aR (n:=2) aC rM);have tM:(els d).Nodup:=by
  unfold els;exact pQ List.filter_sublist List.nodup_range
 have:=jP tM (l₂:=eP n) fun x hx=>by
  rw[bR];apply Nat.lt_of_not_le;intro hh;have h1:=(Jj hd).1 hx;have:d.testBit x=false:=Nat.testBit_lt_two_pow (aU h (aR (n:=2) aC hh));unfold bit at h1;rw[this]at h1;cases h1
 rwa[List.length_range]at this
def Hl (l:List Int):List Int:=l.foldl Vf []
theorem OA (l:List Int):(Hl l).Perm l/\(Hl l).Pairwise (· <= ·):=by
 induction l using Po with
 |nil=>exact⟨pN _,gV⟩
 |snoc l x ih=>
  have e:Hl (l++[x])=Vf (Hl l) x:=by unfold Hl;rw[dZ];rfl
  rw[e];exact⟨(c2W _ _).trans (ih.1.append_right [x]),d3K ih.2⟩
end Go.GS

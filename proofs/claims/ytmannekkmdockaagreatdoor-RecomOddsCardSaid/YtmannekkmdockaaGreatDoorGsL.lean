/- Spanning trees. -/
import Derived.Test.YtmannekkmdockaaGreatDoorGbB
open Classical renaming propDecidable->gR
open Int renaming le_refl->nX,toNat_of_nonneg->iI
open List renaming filter_nil->jB,range->eP
open List.Pairwise renaming nil->gV
namespace Go.GS
def Ed (es:List (Nat×Nat)) (i:Int):Nat×Nat:=es.getD i.toNat (0,0)
def etl (es:List (Nat×Nat)) (t:List Int):List (Nat×Nat):=t.map (Ed es)
def OkI (es:List (Nat×Nat)) (set:Nat) (i:Int):Prop:=0<=i/\i.toNat<es.length/\bit set (Ed es i).1=true/\bit set (Ed es i).2=true
structure TreeOk (es:List (Nat×Nat)) (set:Nat) (t:List Int):Prop where
 asc:t.Pairwise (· < ·)
 ok:∀i∈t,OkI es set i
 acy:Acy (etl es t) t.length
 len:t.length+1=card set
noncomputable def trE (n:Nat) (es:List (Nat×Nat)) (set:Nat) (t:List Int):Int:=if set≠0/\set<2^n then @ite Int (TreeOk es set t) (gR _) 0 300 else 2
theorem Vm {n:Nat} {es:List (Nat×Nat)} {set:Nat} {t:List Int} (h1:set≠0/\set<2^n) (h2:TreeOk es set t):trE n es set t=0:=by
 unfold trE;rw[if_pos h1];exact @if_pos _ (gR _) h2 _ _ _
theorem Vn {n:Nat} {es:List (Nat×Nat)} {set:Nat} {t:List Int} (h1:set≠0/\set<2^n) (h2:¬TreeOk es set t):trE n es set t=300:=by
 unfold trE;rw[if_pos h1];exact @if_neg _ (gR _) h2 _ _ _
theorem NR {n:Nat} {es:List (Nat×Nat)} {set:Nat} {t:List Int} (h1:¬(set≠0/\set<2^n)):trE n es set t=2:=if_neg h1
theorem c9h {n:Nat} {es:List (Nat×Nat)} {set:Nat} {t:List Int} (h:trE n es set t=0):(set≠0/\set<2^n)/\TreeOk es set t:=by
 unfold trE at h;split at h
 ·rename_i h1;refine⟨h1,bB fun h2=> ?_⟩;rw[@if_neg _ (gR _) h2]at h;cases h
 ·cases h
theorem Fa {es:List (Nat×Nat)} {m:Nat} (h:m<es.length):es[m]? =some (Ed es (m:Int)):=by
 unfold Ed;rw[aV,aK,aJ h];rfl
theorem zw (es:List (Nat×Nat)) (t:List Int) (i:Nat):(etl es t).take i=etl es (t.take i):=by unfold etl;rw[List.map_take]
theorem zx {es:List (Nat×Nat)} {t:List Int} {i:Nat} {x:Int} (h:t[i]? =some x):(etl es t)[i]? =some (Ed es x):=by unfold etl;rw[bO,h];rfl
theorem Py (es:List (Nat×Nat)) (t:List Int) (x:Int):etl es (t++[x])=etl es t++[Ed es x]:=by unfold etl;rw[aT];rfl
theorem NS {t:List Int} (h:t.Pairwise (· < ·)) {i:Nat} {a x:Int} (ha:a∈t.take i) (hx:t[i]? =some x):a<x:=by
 obtain⟨hi,rfl⟩:=aH.1 hx;rw[List.mem_take_iff_getElem]at ha;obtain⟨j,hj,rfl⟩:=ha;exact cU.1 h j i aA hi aA
theorem mc {t:List Int} (h:t.Pairwise (· < ·)) {x:Int} (hx:∀a∈t,a<x):(t++[x]).Pairwise (· < ·):=by
 rw[dW];exact⟨h,List.pairwise_singleton _ _,fun a ha b hb=>by rw[aL]at hb;subst hb;exact hx a ha⟩
theorem Acy.snoc {L:List (Nat×Nat)} {e:Nat×Nat} (h:Acy L L.length) (he:lab L e.1≠lab L e.2):Acy (L++[e]) (L.length+1):=by
 intro i a hi ha;by_cases hl:i<L.length
 ·rw[bS hl]at ha;rw[List.take_append_of_le_length aA];exact h i a hl ha
 ·have hi:i=L.length:=aA;subst hi;rw[bV (aS _),Nat.sub_self]at ha;cases ha;rw[List.take_left']
  ·exact he
  ·rfl
theorem TreeOk.inn {es:List (Nat×Nat)} {set:Nat} {t:List Int} (h:TreeOk es set t):Inn set (etl es t):=by
 intro e he;unfold etl at he;rw[aY]at he;obtain⟨i,hi,rfl⟩:=he;exact(h.ok i hi).2.2
def full:Nat:=18446744073709551615
theorem Zx {x:Nat} (h:x<64):bit full x=true:=by
 have:full=2^64-1:=aC;unfold bit;rw[this,Nat.testBit_two_pow_sub_one];exact oDd h
theorem or_zero {s a b:Nat}:s&&&(2^a|||2^b)=0↔bit s a=false/\bit s b=false:=by
 constructor
 ·intro h;have h1:bit (s&&&(2^a|||2^b)) a=false:=by rw[h,Dc]
  have h2:bit (s&&&(2^a|||2^b)) b=false:=by rw[h,Dc]
  rw[Gl,Ac,Ah,Ah]at h1 h2;simp at h1 h2;exact⟨h1,h2⟩
 ·rintro⟨h1,h2⟩;apply Ao;intro y;rw[Gl,Ac,Ah,Ah,Dc];by_cases e1:a=y
  ·subst e1;simp[h1]
  ·by_cases e2:b=y
   ·subst e2;simp[h2]
   ·simp[e1,e2]
theorem NT {s a b:Nat}:s&&&(2^a|||2^b)=2^a|||2^b↔bit s a=true/\bit s b=true:=by
 constructor
 ·intro h;have h1:bit (s&&&(2^a|||2^b)) a=bit (2^a|||2^b) a:=by rw[h]
  have h2:bit (s&&&(2^a|||2^b)) b=bit (2^a|||2^b) b:=by rw[h]
  rw[Gl,Ac,Ah,Ah]at h1 h2;simp at h1 h2;exact⟨h1,h2⟩
 ·rintro⟨h1,h2⟩;apply Ao;intro y;rw[Gl,Ac,Ah,Ah];by_cases e1:a=y
  ·subst e1;simp[h1]
  ·by_cases e2:b=y
   ·subst e2;simp[h2]
   ·simp[e1,e2]
theorem NU {s:Nat} {e:Nat×Nat} (h1:e.1<64) (h2:e.2<64):rst full s e=if bit s e.1||bit s e.2 then s|||(2^e.1|||2^e.2)else s:=by
 unfold rst;rw[Zx h1,Zx h2,Nat.or_assoc];rfl
theorem d4y {s a b:Nat} (h1:bit s a=true) (h2:bit s b=true):s|||(2^a|||2^b)=s:=by
 apply Ao;intro y;rw[Ac,Ac,Ah,Ah];by_cases e1:a=y
 ·subst e1;simp[h1]
 ·by_cases e2:b=y
  ·subst e2;simp[h2]
  ·simp[e1,e2]
def Fz (L:List (Nat×Nat)) (x:Nat):Nat:=Ab full L 64 (2^x)
theorem b9Z {L:List (Nat×Nat)} (hL:∀e∈L,e.1<64/\e.2<64) {x:Nat} (hx:x<64):Clo full L (Ab full L 64 (2^x)):=by
 have h:=Nj (set:=full) hL (Aq hx) 64;rcases h.2 with h2|h2
 ·exact h2
 ·intro e he _ _ _;have rC:∀y,y<64->bit (Ab full L 64 (2^x)) y=true:=by
   unfold card els at h2;have:((eP 64).filter (bit (Ab full L 64 (2^x)))).length=(eP 64).length:=Nat.le_antisymm (cC _ _) (by rw[List.length_range];exact h2);rw[List.length_filter_eq_length_iff]at this;exact fun y hy=>this y (bR.2 hy)
  exact⟨rC _ (hL e he).1,rC _ (hL e he).2⟩
theorem Ku {L:List (Nat×Nat)} (hL:∀e∈L,e.1<64/\e.2<64) {x:Nat} (hx:x<64):CL L full x (Fz L x):=
 lz (Zx hx) (Nj hL (Aq hx) 64).1 (b9Z hL hx)
theorem c4h {L:List (Nat×Nat)} (hL:∀e∈L,e.1<64/\e.2<64) {x r:Nat} (hx:x<64) (h:Clo full L (Ab full L r (2^x))):Ab full L r (2^x)=Fz L x:=
 (lz (Zx hx) (Nj hL (Aq hx) r).1 h).uniq (Ku hL hx)
theorem Vo {L:List (Nat×Nat)} {set x y:Nat} (hs:set<M64) (h:Inn set L) (hx:bit set x=true):Rch L full x y↔Rch L set x y:=by
 constructor
 ·intro hr;induction hr with
  |base=>exact .base
  |step h1 ha hz ih=>
   refine ih.step ha ?_;obtain⟨e,he,⟨_,rfl⟩|⟨_,rfl⟩⟩:=ha
   ·exact(h e he).2
   ·exact(h e he).1
 ·intro hr;induction hr with
  |base=>exact .base
  |step h1 ha hz ih=>exact ih.step ha (Zx (Bz hs hz))
theorem c4i {L:List (Nat×Nat)} {set x:Nat} (hs:set<M64) (h:Inn set L) (hx:bit set x=true) (hl:L.length+1=card set):Acy L L.length↔Fz L x=set:=by
 have h0:set≠0:=fun e=>by rw[e,Dc]at hx;cases hx
 have hL:∀e∈L,e.1<64/\e.2<64:=fun e he=>⟨Bz hs (h e he).1,Bz hs (h e he).2⟩;have uH:=Ku hL (Bz hs hx);rw[zm hs h0 h hl];constructor
 ·intro h1;apply Ao;intro y;rw[bC,uH.2,Vo hs h hx];refine⟨fun hr=>hr.mem hx,fun hy=> ?_⟩;rw[<-Px h hx hy];exact h1 x y hx hy
 ·intro he y z hy hz;have key:∀y,bit set y=true->lab L x=lab L y:=by
   intro y hy;rw[Px h hx hy,<-Vo hs h hx,<-uH.2,he];exact hy
  rw[<-key y hy,<-key z hz]
end Go.GS
namespace Go.Z
open Proofs.Tryz RowKit RX GS
section
variable {H H0:PH} {u v w wts:Value} {p wl t:List Int} {n:Nat} {es:List (Nat×Nat)} {lo hi ds but:Int} {set x:Nat}
theorem NV (hw:SG H w es) (hg:GV n es) (hs:set<M64) (hu:SI H u t):Ae prog 83 [gv n w,uv set,u] H (ii (trE n es set t)):=by
 refine i9 mixed d4i ?_;have rM:=hg.n64;have hl:=hu.len;refine d4 (t8 hw) ?_;refine y9 (NH hw hg hs) rfl fun H1 l1=> ?_;simp only[cA,nA];refine d9 ?_;refine j8 (p:=(¬(set≠0/\set<2^n))) (by show Value.bool ((if set≠0/\set<2^n then(0:Int)else 2) !=0)=_;by_cases hh:set≠0/\set<2^n;(rw[if_pos hh,decide_eq_false (fun e=>e hh)];rfl);(rw[if_neg hh,oDd hh];rfl)) (fun h0=> ?_) fun h0=> ?_
 ·exact g6 rfl ⟨l1,by rw[NR h0];show ii (if set≠0/\set<2^n then(0:Int)else 2)=_;rw[if_neg h0]⟩
 ·have h0:set≠0/\set<2^n:=bB h0;refine g9 (NE (H:=H1)) rfl ?_;rintro _ H2 ⟨l2,v,rfl,o2⟩;refine nmI ?_;simp only[cA,nA];refine d4 ⟨rfl,fun c hc=>by have hc:c∈[v]:=hc;rw[aL]at hc;subst hc;exact u0 o2.se⟩ ?_;have sC:=hu.mono l1;have hw1:=hw.mono l1;refine j1 el_int (sC.mono l2) ?_;refine s8 (α:=Nat×Int×Int×List Nat) (fun⟨i,last,z,q⟩=>[ii z,ii last,ii (i:Nat)]) (fun⟨i,last,z,q⟩=>fun H'=>i<=t.length/\Pl H1 H'/\PO H1 H' v q/\Par q (lab (etl es (t.take i)))/\(last= -1\/last∈t.take i)/\(∀a∈t.take i,a<=last)/\ -1<=last/\(t.take i).Pairwise (· < ·)/\(∀a∈t.take i,OkI es set a)/\Acy (etl es (t.take i)) (etl es (t.take i)).length) (fun⟨i,last,z,q⟩=>t.length-i) ((0,-1,0,eP 64)) rfl (⟨bI _,l2,o2,Par.id,.inl rfl,(fun a ha=>by cases ha),nX _,gV,(fun a ha=>by cases ha),(fun i e hi=>by cases hi)⟩) fun⟨i,last,z,q⟩ H' hQ=> ?_;simp only[cA,nA];obtain⟨hi,l3,o3,hP,xN,hal,qR,xC,hok,zQ⟩:=hQ;refine d9 (d9 ?_);refine g7 (b:=decide (((i:Nat):Int)<(t.length:Nat))) rfl (fun h=> ?_) (fun h=> ?_)
  ·replace h:=oDt h;have qB:i<t.length:=aA;obtain⟨x,hx,tK⟩:=m7 qB;have yI:=aG hx;refine j4 el_int (sC.mono l3) hx fun _=> ?_;simp only[cA,nA];refine d9 (d9 ?_);refine g7 (b:=decide (x<=last)) rfl (fun h2=> ?_) (fun h2=> ?_)
   ·replace h2:=oDt h2;exact g6 rfl ⟨l1.trans l3,by rw[Vn h0 fun hT=>by rcases xN with xN|xN;(have:=(hT.ok x yI).1;omega);(have:=NS hT.asc xN hx;omega)];rfl⟩
   ·replace h2:=oDf h2;obtain⟨m,rfl⟩:∃m:Nat,x=(m:Int):=⟨x.toNat,aA⟩;refine j1 el_edge (hw1.mono l3) ?_;refine d9 ?_;refine g7 (b:=decide (((m:Nat):Int)≥(es.length:Nat))) rfl (fun h3=> ?_) (fun h3=> ?_)
    ·replace h3:=oDt h3;exact g6 rfl ⟨l1.trans l3,by rw[Vn h0 fun hT=>by have:=(hT.ok _ yI).2.1;rw[aV]at this;omega];rfl⟩
    ·replace h3:=oDf h3;have tR:=Fa (es:=es) (m:=m) aA;have hed:=hg.mem tR;refine j4 el_edge (hw1.mono l3) tR fun _=> ?_;simp only[cA,nA];refine s6 (NG hs aA aA) rfl ?_;simp only[cA,nA];refine d9 ?_;refine g7 (b:= !(bit set (Ed es (m:Nat)).1&&bit set (Ed es (m:Nat)).2)) rfl (fun h4=> ?_) (fun h4=> ?_)
     ·skip
      exact g6 rfl ⟨l1.trans l3,by rw[Vn h0 fun hT=>by have:=hT.ok _ yI;simp[this.2.2.1,this.2.2.2]at h4];rfl⟩
     ·skip
      have h4:bit set (Ed es (m:Nat)).1=true/\bit set (Ed es (m:Nat)).2=true:=by simpa using h4
      refine j4 el_edge (hw1.mono l3) tR fun _=> ?_;simp only[cA,nA];refine g9 (NF l3 o3 hP aA aA) rfl ?_;rintro _ H4 ⟨rfl,l4,q4,o4,hP4⟩;refine nmI ?_;simp only[cA,nA];refine d9 ?_;refine j8 (p:=(¬(lab (etl es (t.take i)) (Ed es (m:Nat)).1≠lab (etl es (t.take i)) (Ed es (m:Nat)).2))) (by show Value.bool (!decide _)=_;congr 1;rw[bC];simp) (fun h5=> ?_) fun h5=> ?_
      ·exact g6 rfl ⟨l1.trans l4,by rw[Vn h0 fun hT=>by have:=hT.acy i _ qB (zx hx);rw[zw]at this;exact h5 this];rfl⟩
      ·have h5:=bB h5;exact⟨(i+1,(m:Int),z,q4),by show t.length-(i+1)<t.length-i;omega,(Bo rfl rfl (i6 rfl aA)),⟨qB,l4,o4,by rw[take_snoc hx,Py,Sm];exact hP4,.inr (by rw[take_snoc hx];simp),by rw[take_snoc hx];intro a ha;rw[aQ,aL]at ha;rcases ha with ha|rfl;(have:=hal a ha;show a<=(m:Int);omega);(exact nX _),by show -1<=(m:Int);omega,by rw[take_snoc hx];exact mc xC fun a ha=>by have:=hal a ha;omega,by rw[take_snoc hx];intro a ha;rw[aQ,aL]at ha;rcases ha with ha|rfl;(exact hok a ha);exact⟨aA,by rw[aV];omega,h4⟩,by rw[take_snoc hx,Py];have:=zQ.snoc h5;rw[aM];exact this⟩⟩
  ·replace h:=oDf h;have he:i=t.length:=aA;rw[aF aA]at xC hok zQ;rw[show(etl es t).length=t.length from aX _]at zQ;refine j1 el_int (sC.mono l3) ?_;refine y8 (c8B hs) rfl ?_;simp only[cA,nA];have vP:=Jk set;refine d9 (d9 ?_);refine j8 (p:=(¬t.length+1=card set)) (by show Value.bool (((t.length:Nat):Int) !=intOf (D prog _ (.op2 .sub .i64 (.v 10) (.k (.int .i64 1)))))=_;rw[Ks (x:=(card set:Nat)) (y:=1) rfl rfl aA aA];show Value.bool (((t.length:Nat):Int) !=((card set:Nat):Int)-1)=_;rw[bN];congr 1;apply decide_eq_decide.2;omega) (fun h6=> ?_) fun h6=> ?_
   ·exact g6 rfl ⟨l1.trans l3,by rw[Vn h0 fun hT=>h6 hT.len];rfl⟩
   ·exact g6 rfl ⟨l1.trans l3,by rw[Vm h0 ⟨xC,hok,zQ,bB h6⟩];rfl⟩
def etb (es:List (Nat×Nat)) (t:List Int) (but:Int):List (Nat×Nat):=etl es (t.filter fun i=>decide (i≠but))
theorem c9i (hw:SG H w es) (hg:GV n es) (hu:SI H u t) (ht:∀i∈t,0<=i/\i.toNat<es.length) (hx:x<64):Asks prog 189 [gv n w,u,ii but,ii (x:Nat)] H (uv (Fz (etb es t but) x)):=by
 refine i9 mixed d4j ?_;have rM:=hg.n64;have hl:=hu.len;have hL:∀e∈etb es t but,e.1<64/\e.2<64:=by
  intro e he;unfold etb etl at he;rw[aY]at he;obtain⟨i,hi,rfl⟩:=he;obtain⟨h1,h2⟩:=ht i (bT.1 hi).1;have:=Fa (es:=es) h2;rw[iI h1]at this;have:=hg.mem this;omega
 refine d4 (t8 hw) ?_;refine d4 ⟨_,_,rfl⟩ ?_;refine d4 (by show(0:Int)<=((x:Nat):Int);omega) ?_;refine Bf (α:=Nat×Bool) (fun⟨r,more⟩=>[uv (Ab full (etb es t but) r (2^x)),.bool more]) (fun⟨r,more⟩=>more=false->Clo full (etb es t but) (Ab full (etb es t but) r (2^x))) (fun⟨r,more⟩=>if more then 66-card (Ab full (etb es t but) r (2^x))else 0) ((0,true)) (i7 (Hg rfl hx) rfl) ((fun h=>nomatch h)) fun⟨r,more⟩ hQ=> ?_;simp only[cA,nA];refine d9 ?_;refine g7 (b:=more) rfl (fun hm=> ?_) (fun hm=> ?_)
 ·skip
  subst hm;have hS:=(Nj (set:=full) hL (Aq hx) r).1;generalize hSe:Ab full (etb es t but) r (2^x)=S at hS;refine j1 el_int hu ?_;refine Bf (α:=Nat×Bool) (fun⟨j,mo⟩=>[uv (rnd full (etb es (t.take j) but) S),.bool mo,ii (j:Nat)]) (fun⟨j,mo⟩=>j<=t.length/\(mo=false↔rnd full (etb es (t.take j) but) S=S)) (fun⟨j,mo⟩=>t.length-j) ((0,false)) rfl (⟨bI _,fun _=>rfl,fun _=>rfl⟩) fun⟨j,mo⟩ xQ=> ?_;simp only[cA,nA];obtain⟨hj,tV⟩:=xQ;refine d9 (d9 ?_);refine g7 (b:=decide (((j:Nat):Int)<(t.length:Nat))) rfl (fun h2=> ?_) (fun h2=> ?_)
  ·replace h2:=oDt h2;have sU:j<t.length:=aA;obtain⟨y,hy,wO⟩:=m7 sU;obtain⟨hy1,vL⟩:=ht y (aG hy);obtain⟨m,rfl⟩:∃m:Nat,y=(m:Int):=⟨y.toNat,aA⟩;rw[aV]at vL;have tR:=Fa (es:=es) (m:=m) aA;have hed:=hg.mem tR;have hLj:∀e∈etb es (t.take j) but,e.1<64/\e.2<64:=by
    intro e he;apply hL;unfold etb etl at he⊢;rw[aY]at he⊢;obtain⟨i,hi,rfl⟩:=he;rw[bT]at hi;exact⟨i,bT.2 ⟨cG hi.1,hi.2⟩,rfl⟩
   have hR:=Zt (set:=full) hLj hS;have hRm:∀y,bit S y=true->bit (rnd full (etb es (t.take j) but) S) y=true:=fun y hy=>Pv hy;have qI:rnd full (etb es (t.take (j+1)) but) S=if(m:Int)≠but then rst full (rnd full (etb es (t.take j) but) S) (Ed es (m:Nat))else rnd full (etb es (t.take j) but) S:=by
    rw[take_snoc hy];unfold etb;rw[dP,List.filter_cons];by_cases hb:(m:Int)≠but
    ·rw[if_pos (by simpa using hb),if_pos hb,jB,Py,zp]
    ·rw[if_neg (by simpa using hb),if_neg hb,jB,bQ]
   rw[NU aA aA]at qI;generalize hRe:rnd full (etb es (t.take j) but) S=R at hR qI tV hRm;refine j4 el_int hu hy fun _=> ?_;simp only[cA,nA];refine Kt rfl rfl rfl rfl rfl aE aE aE hw tR rfl aE (fun _ _=>rfl) fun _ _=> ?_;simp only[cA,nA];refine d4 ⟨_,_,rfl⟩ ?_;refine d4 (by show(0:Int)<=(((Ed es (m:Nat)).1:Nat):Int);omega) ?_;refine Nk rfl rfl rfl rfl rfl aE aE aE hw tR rfl aE (fun _ _=>rfl) fun _ _=> ?_;simp only[cA,nA];refine d4 ⟨_,_,rfl⟩ ?_;refine d4 (by show(0:Int)<=(((Ed es (m:Nat)).2:Nat):Int);omega) ?_;have pa:2^(Ed es (m:Nat)).1<M64:=Aq aA;have pb:2^(Ed es (m:Nat)).2<M64:=Aq aA;refine d9 (d9 ?_);refine j8 (p:=((m:Int)≠but)) (bN _ _) (fun h3=> ?_) fun h3=> ?_
   ·rw[if_pos h3]at qI;refine d9 ?_;refine j8 (p:=(¬R&&&(2^(Ed es (m:Nat)).1|||2^(Ed es (m:Nat)).2)=0)) (by show Value.bool (intOf (D prog _ (.op2 .and .u64 (.v 7) (.op2 .or .u64 (.op2 .shl .u64 (.k (.int .u64 1)) (.v 14)) (.op2 .shl .u64 (.k (.int .u64 1)) (.v 17))))) !=0)=_;rw[Gn rfl (Du (Hg rfl aA) (Hg rfl aA) pa pb) hR (Hy pa pb)];exact bN0 _) (fun h4=> ?_) fun h4=> ?_
    ·rw[or_zero]at h4;have yY:(bit R (Ed es (m:Nat)).1||bit R (Ed es (m:Nat)).2)=true:=by
      cases c1:bit R (Ed es (m:Nat)).1<;>cases c2:bit R (Ed es (m:Nat)).2<;>first|rfl|exact absurd ⟨c1,c2⟩ h4
     rw[if_pos yY]at qI;refine j8 (p:=(¬R&&&(2^(Ed es (m:Nat)).1|||2^(Ed es (m:Nat)).2)=2^(Ed es (m:Nat)).1|||2^(Ed es (m:Nat)).2)) (by show Value.bool (intOf (D prog _ (.op2 .and .u64 (.v 7) (.op2 .or .u64 (.op2 .shl .u64 (.k (.int .u64 1)) (.v 14)) (.op2 .shl .u64 (.k (.int .u64 1)) (.v 17))))) !=intOf (D prog _ (.op2 .or .u64 (.op2 .shl .u64 (.k (.int .u64 1)) (.v 14)) (.op2 .shl .u64 (.k (.int .u64 1)) (.v 17)))))=_;rw[Gn rfl (Du (Hg rfl aA) (Hg rfl aA) pa pb) hR (Hy pa pb),Du (Hg rfl aA) (Hg rfl aA) pa pb];refine(bN _ _).trans (congrArg Value.bool (decide_eq_decide.2 ?_));show ¬((_:Nat):Int)=((_:Nat):Int)↔_;rw[Int.natCast_inj]) (fun h5=> ?_) fun h5=> ?_
     ·rw[NT]at h5;exact⟨(j+1,true),by show t.length-(j+1)<t.length-j;omega,(Bo (by show _=uv (rnd full (etb es (t.take (j+1)) but) S);rw[qI];exact Du rfl (Du (Hg rfl aA) (Hg rfl aA) pa pb) hR (Hy pa pb)) rfl (i6 rfl aA)),⟨⟨sU,(fun h=>nomatch h),fun hh=>absurd (by rw[qI]at hh;have a1:bit S (Ed es (m:Nat)).1=true:=by{rw[<-hh,Ac,Ac,Ah];simp};have a2:bit S (Ed es (m:Nat)).2=true:=by{rw[<-hh,Ac,Ac,Ah,Ah];simp};exact⟨hRm _ a1,hRm _ a2⟩) h5⟩,rfl⟩⟩
     ·have h5:=bB h5;rw[NT]at h5;rw[d4y h5.1 h5.2]at qI;exact⟨(j+1,mo),by show t.length-(j+1)<t.length-j;omega,(Bo (by show _=uv (rnd full (etb es (t.take (j+1)) but) S);rw[qI];rfl) rfl (i6 rfl aA)),⟨⟨sU,by rw[qI];exact tV⟩,rfl⟩⟩
    ·have h4:=bB h4;rw[or_zero]at h4;rw[if_neg (by rw[h4.1,h4.2];simp)]at qI;exact⟨(j+1,mo),by show t.length-(j+1)<t.length-j;omega,(Bo (by show _=uv (rnd full (etb es (t.take (j+1)) but) S);rw[qI];rfl) rfl (i6 rfl aA)),⟨⟨sU,by rw[qI];exact tV⟩,rfl⟩⟩
   ·rw[if_neg h3]at qI;exact⟨(j+1,mo),by show t.length-(j+1)<t.length-j;omega,(Bo (by show _=uv (rnd full (etb es (t.take (j+1)) but) S);rw[qI];rfl) rfl (i6 rfl aA)),⟨⟨sU,by rw[qI];exact tV⟩,rfl⟩⟩
  ·replace h2:=oDf h2;have hje:t.take j=t:=aF aA;have uY:rnd full (etb es (t.take j) but) S=Ab full (etb es t but) (r+1) (2^x):=by rw[hje,<-hSe];rfl
   have hSr:Ab full (etb es t but) (r+1) (2^x)<M64:=(Nj (set:=full) hL (Aq hx) (r+1)).1;rw[uY]at tV;have hms:(if mo then 66-card (Ab full (etb es t but) (r+1) (2^x))else 0)<66-card S:=by
    have hc:=Jk S;cases mo with
    |false=>rw[if_neg aC];omega
    |true=>
     have qC:S≠Ab full (etb es t but) (r+1) (2^x):=fun e=>by have:=tV.2 e.symm;cases this
     have qT:∀y,bit S y=true->bit (Ab full (etb es t but) (r+1) (2^x)) y=true:=fun y hy=>by rw[<-uY];exact Pv hy
     obtain⟨z,yG,uI⟩:=Zn qC qT;have:=kz qT yG uI (Bz hSr yG);have:=Jk (Ab full (etb es t but) (r+1) (2^x));rw[if_pos rfl];omega
   exact⟨(r+1,mo),by refine Nat.lt_of_lt_of_eq hms (Eq.symm (if_pos ?_));simp,(i7 (by show _=uv (Ab full (etb es t but) (r+1) (2^x));rw[<-uY];rfl) rfl),⟨fun hmf=>by have e:=tV.1 hmf;rw[e];refine zk (L:=etb es t but) ?_;rw[hje]at uY;rw[uY,e],rfl⟩⟩
 ·skip
  exact g6 rfl ⟨rfl,by rw[<-c4h hL hx (hQ hm)];rfl⟩
end
end Go.Z
namespace Go.GS
theorem sub_le {a b:Nat} (h:∀y,bit b y=true->bit a y=true):b<=a:=by
 have:b=a&&&b:=Ao fun y=>by
  rw[Gl];cases hb:bit b y with
  |false=>simp
  |true=>simp[h y hb]
 rw[this];exact Nat.and_le_left
theorem d4z {a b:Nat} (ha:a<M64) (h:∀y,bit b y=true->bit a y=true):a-b=sdf a b:=by
 have pY:=sub_le h;have hs:=sdf_lt (b:=b) ha;have hb:b<M64:=aA;have h0:BitVec.ofNat 64 (sdf a b)&&&BitVec.ofNat 64 b=0#64:=by
  apply BitVec.eq_of_toNat_eq;rw[BitVec.toNat_and,BitVec.toNat_ofNat,BitVec.toNat_ofNat,cP (show sdf a b<2^64 from hs),cP (show b<2^64 from hb)];show _=0;apply Ao;intro y;rw[Gl,z6,Dc];cases bit b y<;>simp
 have h1:=congrArg BitVec.toNat (BitVec.add_eq_or_of_and_eq_zero _ _ h0);rw[BitVec.toNat_add,BitVec.toNat_or,BitVec.toNat_ofNat,BitVec.toNat_ofNat,cP (show sdf a b<2^64 from hs),cP (show b<2^64 from hb)]at h1;have h2:sdf a b|||b=a:=Ao fun y=>by
  rw[Ac,z6];cases hy:bit b y with
  |false=>simp
  |true=>simp[h y hy]
 rw[h2]at h1;simp only[M64]at hs hb ha;omega
instance (es:List (Nat×Nat)) (set:Nat) (i:Int):Decidable (OkI es set i):=inferInstanceAs (Decidable (_/\_/\_/\_))
theorem Vp {n:Nat} {es:List (Nat×Nat)} (hg:GV n es) {t:List Int} (ht:∀i∈t,0<=i/\i.toNat<es.length):∀e∈etl es t,e.1<64/\e.2<64:=by
 intro e he;have rM:=hg.n64;unfold etl at he;rw[aY]at he;obtain⟨i,hi,rfl⟩:=he;obtain⟨h1,h2⟩:=ht i hi;have:=Fa (es:=es) h2;rw[iI h1]at this;have:=hg.mem this;omega
theorem c4j {L:List (Nat×Nat)} {set x:Nat} (hs:set<M64) (h:Inn set L) (hx:bit set x=true):∀y,bit (Fz L x) y=true->bit set y=true:=by
 have hL:∀e∈L,e.1<64/\e.2<64:=fun e he=>⟨Bz hs (h e he).1,Bz hs (h e he).2⟩;intro y hy;have hr:=((Ku hL (Bz hs hx)).2 y).1 hy;rw[Vo hs h hx]at hr;exact hr.mem hx
theorem Jm {set:Nat} (hs:set<M64) (h0:set≠0):∃x r,els set=x::r/\bit set x=true/\x<64/\∀j,j<x->bit set j=false:=by
 cases h:els set with
 |nil=>exact absurd (Yz hs h) h0
 |cons x r=>obtain⟨h1,h2,h3⟩:=Za h;exact⟨x,r,rfl,h1,h2,h3⟩
def p8 (es:List (Nat×Nat)) (set:Nat) (t:List Int) (k:Int):Nat:=Fz (etl es (t.filter fun i=>decide (i≠k))) ((els set).headD 64)
noncomputable def z7 (es:List (Nat×Nat)) (wl:List Int) (lo hi:Int) (set:Nat) (t l:List Int):List Int:=l.filter fun k=>alB es wl lo hi (p8 es set t k)&&alB es wl lo hi (sdf set (p8 es set t k))
theorem Zy {es:List (Nat×Nat)} {set:Nat} {t:List Int} (hs:set<M64) (h0:set≠0) (ht:TreeOk es set t) (k:Int):∀y,bit (p8 es set t k) y=true->bit set y=true:=by
 obtain⟨x,r,tB,hx,_⟩:=Jm hs h0;unfold p8;rw[tB];refine c4j hs (fun e he=>ht.inn e ?_) hx;unfold etl at he⊢;rw[aY]at he⊢;obtain⟨i,hi,rfl⟩:=he;exact⟨i,(bT.1 hi).1,rfl⟩
theorem Ss {a b n:Nat} (hb:b<2^n) (h:∀y,bit a y=true->bit b y=true):a<2^n:=aZ (sub_le h) hb
end Go.GS

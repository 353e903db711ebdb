/- Spanning trees. -/
import Derived.Test.YtmannekkmdockaaGreatDoorGbB
open Bool renaming eq_iff_iff->bH
open Classical renaming byContradiction->aP,propDecidable->dU
open Int renaming le_refl->jQ,toNat_natCast->bB,toNat_of_nonneg->mP
open List renaming append_nil->dC,filter_append->cT,filter_cons->bX,filter_nil->kL,length_filter_le->fM,mem_append->aV,mem_filter->bJ,mem_map->aH,mem_of_getElem?->aI,mem_of_mem_take->jL,mem_singleton->aQ,range->bL,take_of_length_le->aK
open List.Pairwise renaming nil->iF
open Nat renaming or_assoc->oW,zero_le->bI
namespace Go.GS
def Ed (es:List (Nat×Nat)) (i:Int):Nat×Nat:=es.getD i.toNat (0,0)
def etl (es:List (Nat×Nat)) (t:List Int):List (Nat×Nat):=t.map (Ed es)
def OkI (es:List (Nat×Nat)) (set:Nat) (i:Int):Prop:=0<=i/\i.toNat<es.length/\bit set (Ed es i).1=true/\bit set (Ed es i).2=true
structure TreeOk (es:List (Nat×Nat)) (set:Nat) (t:List Int):Prop where
 asc:t.Pairwise (· < ·)
 ok:∀i∈t,OkI es set i
 acy:Acy (etl es t) t.length
 len:t.length+1=card set
noncomputable def trE (n:Nat) (es:List (Nat×Nat)) (set:Nat) (t:List Int):Int:=if set≠0/\set<2^n then @ite Int (TreeOk es set t) (dU _) 0 300 else 2
theorem jm {n:Nat} {es:List (Nat×Nat)} {set:Nat} {t:List Int} (h1:set≠0/\set<2^n) (h2:TreeOk es set t):trE n es set t=0:=by
 unfold trE;rw[if_pos h1];exact @if_pos _ (dU _) h2 _ _ _
theorem Vv {n:Nat} {es:List (Nat×Nat)} {set:Nat} {t:List Int} (h1:set≠0/\set<2^n) (h2:¬TreeOk es set t):trE n es set t=300:=by
 unfold trE;rw[if_pos h1];exact @if_neg _ (dU _) h2 _ _ _
theorem d3Z {n:Nat} {es:List (Nat×Nat)} {set:Nat} {t:List Int} (h1:¬(set≠0/\set<2^n)):trE n es set t=2:=if_neg h1
theorem c7Z {n:Nat} {es:List (Nat×Nat)} {set:Nat} {t:List Int} (h:trE n es set t=0):(set≠0/\set<2^n)/\TreeOk es set t:=by
 unfold trE at h;split at h
 ·rename_i h1;refine⟨h1,aP fun h2=> ?_⟩;rw[@if_neg _ (dU _) h2]at h;cases h
 ·cases h
theorem Fo {es:List (Nat×Nat)} {m:Nat} (h:m<es.length):es[m]? =some (Ed es (m:Int)):=by
 unfold Ed;rw[bB,List.getD_eq_getElem?_getD,List.getElem?_eq_getElem h];rfl
theorem MG (es:List (Nat×Nat)) (t:List Int) (i:Nat):(etl es t).take i=etl es (t.take i):=by unfold etl;rw[List.map_take]
theorem jo {es:List (Nat×Nat)} {t:List Int} {i:Nat} {x:Int} (h:t[i]? =some x):(etl es t)[i]? =some (Ed es x):=by unfold etl;rw[List.getElem?_map,h];rfl
theorem Pn (es:List (Nat×Nat)) (t:List Int) (x:Int):etl es (t++[x])=etl es t++[Ed es x]:=by unfold etl;rw[List.map_append];rfl
theorem e0b {t:List Int} (h:t.Pairwise (· < ·)) {i:Nat} {a x:Int} (ha:a∈t.take i) (hx:t[i]? =some x):a<x:=by
 obtain⟨hi,rfl⟩:=List.getElem?_eq_some_iff.1 hx;rw[List.mem_take_iff_getElem]at ha;obtain⟨j,hj,rfl⟩:=ha;exact List.pairwise_iff_getElem.1 h j i (by omega) hi (by omega)
theorem yp {t:List Int} (h:t.Pairwise (· < ·)) {x:Int} (hx:∀a∈t,a<x):(t++[x]).Pairwise (· < ·):=by
 rw[List.pairwise_append];exact⟨h,List.pairwise_singleton _ _,fun a ha b hb=>by rw[aQ]at hb;subst hb;exact hx a ha⟩
theorem Acy.snoc {L:List (Nat×Nat)} {e:Nat×Nat} (h:Acy L L.length) (he:lab L e.1≠lab L e.2):Acy (L++[e]) (L.length+1):=by
 intro i a hi ha;by_cases hl:i<L.length
 ·rw[List.getElem?_append_left hl]at ha;rw[List.take_append_of_le_length (by omega)];exact h i a hl ha
 ·have hi:i=L.length:=by omega
  subst hi;rw[List.getElem?_append_right (Nat.le_refl _),Nat.sub_self]at ha;cases ha;rw[List.take_left']
  ·exact he
  ·rfl
theorem TreeOk.inn {es:List (Nat×Nat)} {set:Nat} {t:List Int} (h:TreeOk es set t):Inn set (etl es t):=by
 intro e he;unfold etl at he;rw[aH]at he;obtain⟨i,hi,rfl⟩:=he;exact(h.ok i hi).2.2
def o0:Nat:=18446744073709551615
theorem Po {x:Nat} (h:x<64):bit o0 x=true:=by
 have:o0=2^64-1:=by decide
 unfold bit;rw[this,Nat.testBit_two_pow_sub_one];exact oDd h
theorem or_zero {s a b:Nat}:s&&&(2^a|||2^b)=0↔bit s a=false/\bit s b=false:=by
 constructor
 ·intro h;have h1:bit (s&&&(2^a|||2^b)) a=false:=by rw[h,Bz]
  have h2:bit (s&&&(2^a|||2^b)) b=false:=by rw[h,Bz]
  rw[Gq,Ac,Ae,Ae]at h1 h2;simp at h1 h2;exact⟨h1,h2⟩
 ·rintro⟨h1,h2⟩;apply Ax;intro y;rw[Gq,Ac,Ae,Ae,Bz];by_cases e1:a=y
  ·subst e1;simp[h1]
  ·by_cases e2:b=y
   ·subst e2;simp[h2]
   ·simp[e1,e2]
theorem MH {s a b:Nat}:s&&&(2^a|||2^b)=2^a|||2^b↔bit s a=true/\bit s b=true:=by
 constructor
 ·intro h;have h1:bit (s&&&(2^a|||2^b)) a=bit (2^a|||2^b) a:=by rw[h]
  have h2:bit (s&&&(2^a|||2^b)) b=bit (2^a|||2^b) b:=by rw[h]
  rw[Gq,Ac,Ae,Ae]at h1 h2;simp at h1 h2;exact⟨h1,h2⟩
 ·rintro⟨h1,h2⟩;apply Ax;intro y;rw[Gq,Ac,Ae,Ae];by_cases e1:a=y
  ·subst e1;simp[h1]
  ·by_cases e2:b=y
   ·subst e2;simp[h2]
   ·simp[e1,e2]
theorem jq {s:Nat} {e:Nat×Nat} (h1:e.1<64) (h2:e.2<64):rst o0 s e=if bit s e.1||bit s e.2 then s|||(2^e.1|||2^e.2)else s:=by
 unfold rst;rw[Po h1,Po h2,oW];rfl
theorem d4a {s a b:Nat} (h1:bit s a=true) (h2:bit s b=true):s|||(2^a|||2^b)=s:=by
 apply Ax;intro y;rw[Ac,Ac,Ae,Ae];by_cases e1:a=y
 ·subst e1;simp[h1]
 ·by_cases e2:b=y
  ·subst e2;simp[h2]
  ·simp[e1,e2]
def Jd (L:List (Nat×Nat)) (x:Nat):Nat:=Ai o0 L 64 (2^x)
theorem b9q {L:List (Nat×Nat)} (hL:∀e∈L,e.1<64/\e.2<64) {x:Nat} (hx:x<64):Clo o0 L (Ai o0 L 64 (2^x)):=by
 have h:=Jz (set:=o0) hL (An hx) 64;rcases h.2 with h2|h2
 ·exact h2
 ·intro e he _ _ _;have qG:∀y,y<64->bit (Ai o0 L 64 (2^x)) y=true:=by
   unfold card els at h2;have:((bL 64).filter (bit (Ai o0 L 64 (2^x)))).length=(bL 64).length:=Nat.le_antisymm (fM _ _) (by rw[List.length_range];exact h2);rw[List.length_filter_eq_length_iff]at this;exact fun y hy=>this y (List.mem_range.2 hy)
  exact⟨qG _ (hL e he).1,qG _ (hL e he).2⟩
theorem Pq {L:List (Nat×Nat)} (hL:∀e∈L,e.1<64/\e.2<64) {x:Nat} (hx:x<64):CL L o0 x (Jd L x):=
 Zq (Po hx) (Jz hL (An hx) 64).1 (b9q hL hx)
theorem c3j {L:List (Nat×Nat)} (hL:∀e∈L,e.1<64/\e.2<64) {x r:Nat} (hx:x<64) (h:Clo o0 L (Ai o0 L r (2^x))):Ai o0 L r (2^x)=Jd L x:=
 (Zq (Po hx) (Jz hL (An hx) r).1 h).uniq (Pq hL hx)
theorem Zt {L:List (Nat×Nat)} {set x y:Nat} (hs:set<M64) (h:Inn set L) (hx:bit set x=true):Rch L o0 x y↔Rch L set x y:=by
 constructor
 ·intro hr;induction hr with
  |base=>exact .base
  |step h1 ha hz ih=>
   refine ih.step ha ?_;obtain⟨e,he,⟨_,rfl⟩|⟨_,rfl⟩⟩:=ha
   ·exact(h e he).2
   ·exact(h e he).1
 ·intro hr;induction hr with
  |base=>exact .base
  |step h1 ha hz ih=>exact ih.step ha (Po (Db hs hz))
end Go.GS
/- Chapter 32: trees, part 2. -/
namespace Go.Proofs.Z
open Go.Proofs.Tryz
open Go.RowKit Go.RX Go.GS
section
variable {H H0:PH} {u v w wts:Value} {p wl t:List Int} {n:Nat} {es:List (Nat×Nat)} {lo hi ds but:Int} {set x:Nat}
theorem yq (hw:SG H w es) (hg:GV n es) (hs:set<M64) (hu:SI H u t):Ao prog 83 [gv n w,uv set,u] H (ii (trE n es set t)):=by
 refine j3 mixed d3M ?_;have qK:=hg.n64;have hl:=hu.len;refine d9 (Ap hw) ?_;refine x9 (LQ hw hg hs) rfl fun H1 l1=> ?_;simp only[cA,nA];refine d4 ?_;refine r9 (p:=(¬(set≠0/\set<2^n))) (by show Value.bool ((if set≠0/\set<2^n then(0:Int)else 2) !=0)=_;by_cases hh:set≠0/\set<2^n;(rw[if_pos hh,decide_eq_false (fun e=>e hh)];rfl);(rw[if_neg hh,oDd hh];rfl)) (fun h0=> ?_) fun h0=> ?_
 ·exact g8 rfl ⟨l1,by rw[d3Z h0];show ii (if set≠0/\set<2^n then(0:Int)else 2)=_;rw[if_neg h0]⟩
 ·have h0:set≠0/\set<2^n:=aP h0;refine i6 (LM (H:=H1)) rfl ?_;rintro _ H2 ⟨l2,v,rfl,o2⟩;refine nmI ?_;simp only[cA,nA];refine d9 ⟨rfl,fun c hc=>by have hc:c∈[v]:=hc;rw[aQ]at hc;subst hc;exact Af o2.se⟩ ?_;have rN:=hu.mono l1;have hw1:=hw.mono l1;refine j7 el_int (rN.mono l2) ?_;refine s9 (α:=Nat×Int×Int×List Nat) (fun⟨i,last,z,q⟩=>[ii z,ii last,ii (i:Nat)]) (fun⟨i,last,z,q⟩=>fun H'=>i<=t.length/\PH.le H1 H'/\PO H1 H' v q/\Par q (lab (etl es (t.take i)))/\(last= -1\/last∈t.take i)/\(∀a∈t.take i,a<=last)/\ -1<=last/\(t.take i).Pairwise (· < ·)/\(∀a∈t.take i,OkI es set a)/\Acy (etl es (t.take i)) (etl es (t.take i)).length) (fun⟨i,last,z,q⟩=>t.length-i) ((0,-1,0,bL 64)) rfl (⟨bI _,l2,o2,Par.id,.inl rfl,(fun a ha=>by cases ha),jQ _,iF,(fun a ha=>by cases ha),(fun i e hi=>by cases hi)⟩) fun⟨i,last,z,q⟩ H' hQ=> ?_;simp only[cA,nA];obtain⟨hi,l3,o3,hP,wS,hal,rF,wT,pS,yM⟩:=hQ;refine d4 (d4 ?_);refine i0 (b:=decide (((i:Nat):Int)<(t.length:Nat))) rfl (fun h=> ?_) (fun h=> ?_)
  ·replace h:=oDt h;have pW:i<t.length:=by omega
   obtain⟨x,hx,tB⟩:=t7 pW;have hxm:=aI hx;refine j8 el_int (rN.mono l3) hx fun _=> ?_;simp only[cA,nA];refine d4 (d4 ?_);refine i0 (b:=decide (x<=last)) rfl (fun h2=> ?_) (fun h2=> ?_)
   ·replace h2:=oDt h2;exact g8 rfl ⟨l1.trans l3,by rw[Vv h0 fun hT=>by rcases wS with wS|wS;(have:=(hT.ok x hxm).1;omega);(have:=e0b hT.asc wS hx;omega)];rfl⟩
   ·replace h2:=oDf h2;obtain⟨m,rfl⟩:∃m:Nat,x=(m:Int):=⟨x.toNat,by omega⟩;refine j7 el_edge (hw1.mono l3) ?_;refine d4 ?_;refine i0 (b:=decide (((m:Nat):Int)≥(es.length:Nat))) rfl (fun h3=> ?_) (fun h3=> ?_)
    ·replace h3:=oDt h3;exact g8 rfl ⟨l1.trans l3,by rw[Vv h0 fun hT=>by have:=(hT.ok _ hxm).2.1;rw[bB]at this;omega];rfl⟩
    ·replace h3:=oDf h3;have sD:=Fo (es:=es) (m:=m) (by omega);have hed:=hg.mem sD;refine j8 el_edge (hw1.mono l3) sD fun _=> ?_;simp only[cA,nA];refine Aq (LP hs (by omega) (by omega)) rfl ?_;simp only[cA,nA];refine d4 ?_;refine i0 (b:= !(bit set (Ed es (m:Nat)).1&&bit set (Ed es (m:Nat)).2)) rfl (fun h4=> ?_) (fun h4=> ?_)
     ·skip
      exact g8 rfl ⟨l1.trans l3,by rw[Vv h0 fun hT=>by have:=hT.ok _ hxm;simp[this.2.2.1,this.2.2.2]at h4];rfl⟩
     ·skip
      have h4:bit set (Ed es (m:Nat)).1=true/\bit set (Ed es (m:Nat)).2=true:=by simpa using h4
      refine j8 el_edge (hw1.mono l3) sD fun _=> ?_;simp only[cA,nA];refine i6 (LO l3 o3 hP (by omega) (by omega)) rfl ?_;rintro _ H4 ⟨rfl,l4,q4,o4,hP4⟩;refine nmI ?_;simp only[cA,nA];refine d4 ?_;refine r9 (p:=(¬(lab (etl es (t.take i)) (Ed es (m:Nat)).1≠lab (etl es (t.take i)) (Ed es (m:Nat)).2))) (by show Value.bool (!decide _)=_;congr 1;rw[bH];simp) (fun h5=> ?_) fun h5=> ?_
      ·exact g8 rfl ⟨l1.trans l4,by rw[Vv h0 fun hT=>by have:=hT.acy i _ pW (jo hx);rw[MG]at this;exact h5 this];rfl⟩
      ·have h5:=aP h5;exact⟨(i+1,(m:Int),z,q4),by show t.length-(i+1)<t.length-i;omega,(Cc rfl rfl (i9 rfl (by omega))),⟨pW,l4,o4,by rw[take_snoc hx,Pn,Pi];exact hP4,.inr (by rw[take_snoc hx];simp),by rw[take_snoc hx];intro a ha;rw[aV,aQ]at ha;rcases ha with ha|rfl;(have:=hal a ha;show a<=(m:Int);omega);(exact jQ _),by show -1<=(m:Int);omega,by rw[take_snoc hx];exact yp wT fun a ha=>by have:=hal a ha;omega,by rw[take_snoc hx];intro a ha;rw[aV,aQ]at ha;rcases ha with ha|rfl;(exact pS a ha);exact⟨by omega,by rw[bB];omega,h4⟩,by rw[take_snoc hx,Pn];have:=yM.snoc h5;rw[List.length_append];exact this⟩⟩
  ·replace h:=oDf h;have he:i=t.length:=by omega
   rw[aK (by omega)]at wT pS yM;rw[show(etl es t).length=t.length from List.length_map _]at yM;refine j7 el_int (rN.mono l3) ?_;refine Am (c6T hs) rfl ?_;simp only[cA,nA];have xP:=Me set;refine d4 (d4 ?_);refine r9 (p:=(¬t.length+1=card set)) (by show Value.bool (((t.length:Nat):Int) !=intOf (D prog _ (.op2 .sub .i64 (.v 10) (.k (.int .i64 1)))))=_;rw[Rn (x:=(card set:Nat)) (y:=1) rfl rfl (by omega) (by omega)];show Value.bool (((t.length:Nat):Int) !=((card set:Nat):Int)-1)=_;rw[bN];congr 1;apply decide_eq_decide.2;omega) (fun h6=> ?_) fun h6=> ?_
   ·exact g8 rfl ⟨l1.trans l3,by rw[Vv h0 fun hT=>h6 hT.len];rfl⟩
   ·exact g8 rfl ⟨l1.trans l3,by rw[jm h0 ⟨wT,pS,yM,aP h6⟩];rfl⟩
def etb (es:List (Nat×Nat)) (t:List Int) (but:Int):List (Nat×Nat):=etl es (t.filter fun i=>decide (i≠but))
theorem c8a (hw:SG H w es) (hg:GV n es) (hu:SI H u t) (ht:∀i∈t,0<=i/\i.toNat<es.length) (hx:x<64):Asks prog 189 [gv n w,u,ii but,ii (x:Nat)] H (uv (Jd (etb es t but) x)):=by
 refine j3 mixed d3N ?_;have qK:=hg.n64;have hl:=hu.len;have hL:∀e∈etb es t but,e.1<64/\e.2<64:=by
  intro e he;unfold etb etl at he;rw[aH]at he;obtain⟨i,hi,rfl⟩:=he;obtain⟨h1,h2⟩:=ht i (bJ.1 hi).1;have:=Fo (es:=es) h2;rw[mP h1]at this;have:=hg.mem this;omega
 refine d9 (Ap hw) ?_;refine d9 ⟨_,_,rfl⟩ ?_;refine d9 (by show(0:Int)<=((x:Nat):Int);omega) ?_;refine Dq (α:=Nat×Bool) (fun⟨r,more⟩=>[uv (Ai o0 (etb es t but) r (2^x)),.bool more]) (fun⟨r,more⟩=>more=false->Clo o0 (etb es t but) (Ai o0 (etb es t but) r (2^x))) (fun⟨r,more⟩=>if more then 66-card (Ai o0 (etb es t but) r (2^x))else 0) ((0,true)) (j4 (Ez rfl hx) rfl) ((fun h=>nomatch h)) fun⟨r,more⟩ hQ=> ?_;simp only[cA,nA];refine d4 ?_;refine i0 (b:=more) rfl (fun hm=> ?_) (fun hm=> ?_)
 ·skip
  subst hm;have hS:=(Jz (set:=o0) hL (An hx) r).1;generalize hSe:Ai o0 (etb es t but) r (2^x)=S at hS;refine j7 el_int hu ?_;refine Dq (α:=Nat×Bool) (fun⟨j,mo⟩=>[uv (rnd o0 (etb es (t.take j) but) S),.bool mo,ii (j:Nat)]) (fun⟨j,mo⟩=>j<=t.length/\(mo=false↔rnd o0 (etb es (t.take j) but) S=S)) (fun⟨j,mo⟩=>t.length-j) ((0,false)) rfl (⟨bI _,fun _=>rfl,fun _=>rfl⟩) fun⟨j,mo⟩ wI=> ?_;simp only[cA,nA];obtain⟨hj,uJ⟩:=wI;refine d4 (d4 ?_);refine i0 (b:=decide (((j:Nat):Int)<(t.length:Nat))) rfl (fun h2=> ?_) (fun h2=> ?_)
  ·replace h2:=oDt h2;have rG:j<t.length:=by omega
   obtain⟨y,hy,vC⟩:=t7 rG;obtain⟨hy1,wC⟩:=ht y (aI hy);obtain⟨m,rfl⟩:∃m:Nat,y=(m:Int):=⟨y.toNat,by omega⟩;rw[bB]at wC;have sD:=Fo (es:=es) (m:=m) (by omega);have hed:=hg.mem sD;have hLj:∀e∈etb es (t.take j) but,e.1<64/\e.2<64:=by
    intro e he;apply hL;unfold etb etl at he⊢;rw[aH]at he⊢;obtain⟨i,hi,rfl⟩:=he;rw[bJ]at hi;exact⟨i,bJ.2 ⟨jL hi.1,hi.2⟩,rfl⟩
   have hR:=Zp (set:=o0) hLj hS;have hRm:∀y,bit S y=true->bit (rnd o0 (etb es (t.take j) but) S) y=true:=fun y hy=>Ph hy;have qA:rnd o0 (etb es (t.take (j+1)) but) S=if(m:Int)≠but then rst o0 (rnd o0 (etb es (t.take j) but) S) (Ed es (m:Nat))else rnd o0 (etb es (t.take j) but) S:=by
    rw[take_snoc hy];unfold etb;rw[cT,bX];by_cases hb:(m:Int)≠but
    ·rw[if_pos (by simpa using hb),if_pos hb,kL,Pn,yn]
    ·rw[if_neg (by simpa using hb),if_neg hb,kL,dC]
   rw[jq (by omega) (by omega)]at qA;generalize hRe:rnd o0 (etb es (t.take j) but) S=R at hR qA uJ hRm;refine j8 el_int hu hy fun _=> ?_;simp only[cA,nA];refine Vt rfl rfl rfl rfl rfl (fun _=>rfl) (fun _=>rfl) (fun _=>rfl) hw sD rfl (fun _=>rfl) (fun _ _=>rfl) fun _ _=> ?_;simp only[cA,nA];refine d9 ⟨_,_,rfl⟩ ?_;refine d9 (by show(0:Int)<=(((Ed es (m:Nat)).1:Nat):Int);omega) ?_;refine Vu rfl rfl rfl rfl rfl (fun _=>rfl) (fun _=>rfl) (fun _=>rfl) hw sD rfl (fun _=>rfl) (fun _ _=>rfl) fun _ _=> ?_;simp only[cA,nA];refine d9 ⟨_,_,rfl⟩ ?_;refine d9 (by show(0:Int)<=(((Ed es (m:Nat)).2:Nat):Int);omega) ?_;have pa:2^(Ed es (m:Nat)).1<M64:=An (by omega);have pb:2^(Ed es (m:Nat)).2<M64:=An (by omega);refine d4 (d4 ?_);refine r9 (p:=((m:Int)≠but)) (bN _ _) (fun h3=> ?_) fun h3=> ?_
   ·rw[if_pos h3]at qA;refine d4 ?_;refine r9 (p:=(¬R&&&(2^(Ed es (m:Nat)).1|||2^(Ed es (m:Nat)).2)=0)) (by show Value.bool (intOf (D prog _ (.op2 .and .u64 (.v 7) (.op2 .or .u64 (.op2 .shl .u64 (.k (.int .u64 1)) (.v 14)) (.op2 .shl .u64 (.k (.int .u64 1)) (.v 17))))) !=0)=_;rw[Ej rfl (Cb (Ez rfl (by omega)) (Ez rfl (by omega)) pa pb) hR (Hv pa pb)];exact bN0 _) (fun h4=> ?_) fun h4=> ?_
    ·rw[or_zero]at h4;have h4':(bit R (Ed es (m:Nat)).1||bit R (Ed es (m:Nat)).2)=true:=by
      cases c1:bit R (Ed es (m:Nat)).1<;>cases c2:bit R (Ed es (m:Nat)).2<;>first|rfl|exact absurd ⟨c1,c2⟩ h4
     rw[if_pos h4']at qA;refine r9 (p:=(¬R&&&(2^(Ed es (m:Nat)).1|||2^(Ed es (m:Nat)).2)=2^(Ed es (m:Nat)).1|||2^(Ed es (m:Nat)).2)) (by show Value.bool (intOf (D prog _ (.op2 .and .u64 (.v 7) (.op2 .or .u64 (.op2 .shl .u64 (.k (.int .u64 1)) (.v 14)) (.op2 .shl .u64 (.k (.int .u64 1)) (.v 17))))) !=intOf (D prog _ (.op2 .or .u64 (.op2 .shl .u64 (.k (.int .u64 1)) (.v 14)) (.op2 .shl .u64 (.k (.int .u64 1)) (.v 17)))))=_;rw[Ej rfl (Cb (Ez rfl (by omega)) (Ez rfl (by omega)) pa pb) hR (Hv pa pb),Cb (Ez rfl (by omega)) (Ez rfl (by omega)) pa pb];refine(bN _ _).trans (congrArg Value.bool (decide_eq_decide.2 ?_));show ¬((_:Nat):Int)=((_:Nat):Int)↔_;rw[Int.natCast_inj]) (fun h5=> ?_) fun h5=> ?_
     ·rw[MH]at h5;exact⟨(j+1,true),by show t.length-(j+1)<t.length-j;omega,(Cc (by show _=uv (rnd o0 (etb es (t.take (j+1)) but) S);rw[qA];exact Cb rfl (Cb (Ez rfl (by omega)) (Ez rfl (by omega)) pa pb) hR (Hv pa pb)) rfl (i9 rfl (by omega))),⟨⟨rG,(fun h=>nomatch h),fun hh=>absurd (by rw[qA]at hh;have a1:bit S (Ed es (m:Nat)).1=true:=by{rw[<-hh,Ac,Ac,Ae];simp};have a2:bit S (Ed es (m:Nat)).2=true:=by{rw[<-hh,Ac,Ac,Ae,Ae];simp};exact⟨hRm _ a1,hRm _ a2⟩) h5⟩,rfl⟩⟩
     ·have h5:=aP h5;rw[MH]at h5;rw[d4a h5.1 h5.2]at qA;exact⟨(j+1,mo),by show t.length-(j+1)<t.length-j;omega,(Cc (by show _=uv (rnd o0 (etb es (t.take (j+1)) but) S);rw[qA];rfl) rfl (i9 rfl (by omega))),⟨⟨rG,by rw[qA];exact uJ⟩,rfl⟩⟩
    ·have h4:=aP h4;rw[or_zero]at h4;rw[if_neg (by rw[h4.1,h4.2];simp)]at qA;exact⟨(j+1,mo),by show t.length-(j+1)<t.length-j;omega,(Cc (by show _=uv (rnd o0 (etb es (t.take (j+1)) but) S);rw[qA];rfl) rfl (i9 rfl (by omega))),⟨⟨rG,by rw[qA];exact uJ⟩,rfl⟩⟩
   ·rw[if_neg h3]at qA;exact⟨(j+1,mo),by show t.length-(j+1)<t.length-j;omega,(Cc (by show _=uv (rnd o0 (etb es (t.take (j+1)) but) S);rw[qA];rfl) rfl (i9 rfl (by omega))),⟨⟨rG,by rw[qA];exact uJ⟩,rfl⟩⟩
  ·replace h2:=oDf h2;have vT:t.take j=t:=aK (by omega);have wP:rnd o0 (etb es (t.take j) but) S=Ai o0 (etb es t but) (r+1) (2^x):=by rw[vT,<-hSe];rfl
   have hSr:Ai o0 (etb es t but) (r+1) (2^x)<M64:=(Jz (set:=o0) hL (An hx) (r+1)).1;rw[wP]at uJ;have hms:(if mo then 66-card (Ai o0 (etb es t but) (r+1) (2^x))else 0)<66-card S:=by
    have hc:=Me S;cases mo with
    |false=>rw[if_neg (by decide)];omega
    |true=>
     have pT:S≠Ai o0 (etb es t but) (r+1) (2^x):=fun e=>by have:=uJ.2 e.symm;cases this
     have qM:∀y,bit S y=true->bit (Ai o0 (etb es t but) (r+1) (2^x)) y=true:=fun y hy=>by rw[<-wP];exact Ph hy
     obtain⟨z,hz1,yI⟩:=Ru pT qM;have:=Vj qM hz1 yI (Db hSr hz1);have:=Me (Ai o0 (etb es t but) (r+1) (2^x));rw[if_pos rfl];omega
   exact⟨(r+1,mo),by refine Nat.lt_of_lt_of_eq hms (Eq.symm (if_pos ?_));simp,(j4 (by show _=uv (Ai o0 (etb es t but) (r+1) (2^x));rw[<-wP];rfl) rfl),⟨fun hmf=>by have e:=uJ.1 hmf;rw[e];refine yd (L:=etb es t but) ?_;rw[vT]at wP;rw[wP,e],rfl⟩⟩
 ·skip
  exact g8 rfl ⟨rfl,by rw[<-c3j hL hx (hQ hm)];rfl⟩
end
end Go.Proofs.Z
/- Spanning trees, part 2. -/
namespace Go.GS
theorem sub_le {a b:Nat} (h:∀y,bit b y=true->bit a y=true):b<=a:=by
 have:b=a&&&b:=Ax fun y=>by
  rw[Gq];cases hb:bit b y with
  |false=>simp
  |true=>simp[h y hb]
 rw[this];exact Nat.and_le_left
instance (es:List (Nat×Nat)) (set:Nat) (i:Int):Decidable (OkI es set i):=inferInstanceAs (Decidable (_/\_/\_/\_))
theorem Vw {n:Nat} {es:List (Nat×Nat)} (hg:GV n es) {t:List Int} (ht:∀i∈t,0<=i/\i.toNat<es.length):∀e∈etl es t,e.1<64/\e.2<64:=by
 intro e he;have qK:=hg.n64;unfold etl at he;rw[aH]at he;obtain⟨i,hi,rfl⟩:=he;obtain⟨h1,h2⟩:=ht i hi;have:=Fo (es:=es) h2;rw[mP h1]at this;have:=hg.mem this;omega
theorem c3k {L:List (Nat×Nat)} {set x:Nat} (hs:set<M64) (h:Inn set L) (hx:bit set x=true):∀y,bit (Jd L x) y=true->bit set y=true:=by
 have hL:∀e∈L,e.1<64/\e.2<64:=fun e he=>⟨Db hs (h e he).1,Db hs (h e he).2⟩;intro y hy;have hr:=((Pq hL (Db hs hx)).2 y).1 hy;rw[Zt hs h hx]at hr;exact hr.mem hx
theorem Je {set:Nat} (hs:set<M64) (h0:set≠0):∃x r,els set=x::r/\bit set x=true/\x<64/\∀j,j<x->bit set j=false:=by
 cases h:els set with
 |nil=>exact absurd (Uz hs h) h0
 |cons x r=>obtain⟨h1,h2,h3⟩:=Va h;exact⟨x,r,rfl,h1,h2,h3⟩
def y9 (es:List (Nat×Nat)) (set:Nat) (t:List Int) (k:Int):Nat:=Jd (etl es (t.filter fun i=>decide (i≠k))) ((els set).headD 64)
noncomputable def Jf (es:List (Nat×Nat)) (wl:List Int) (lo hi:Int) (set:Nat) (t l:List Int):List Int:=l.filter fun k=>alB es wl lo hi (y9 es set t k)&&alB es wl lo hi (sdf set (y9 es set t k))
theorem jr {es:List (Nat×Nat)} {set:Nat} {t:List Int} (hs:set<M64) (h0:set≠0) (ht:TreeOk es set t) (k:Int):∀y,bit (y9 es set t k) y=true->bit set y=true:=by
 obtain⟨x,r,rJ,hx,_⟩:=Je hs h0;unfold y9;rw[rJ];refine c3k hs (fun e he=>ht.inn e ?_) hx;unfold etl at he⊢;rw[aH]at he⊢;obtain⟨i,hi,rfl⟩:=he;exact⟨i,(bJ.1 hi).1,rfl⟩
theorem Sj {a b n:Nat} (hb:b<2^n) (h:∀y,bit a y=true->bit b y=true):a<2^n:=Nat.lt_of_le_of_lt (sub_le h) hb
end Go.GS
/- Chapter 32: balanced edges, on both sides. -/
namespace Go.Proofs.Z
open Go.Proofs.Tryz
open Go.RowKit Go.RX Go.GS
section
variable {H H0:PH} {u v w wts:Value} {p wl t:List Int} {n:Nat} {es:List (Nat×Nat)} {lo hi ds k:Int} {set x:Nat}
theorem MJ (hT:Tb H) (hw:SG H w es) (hg:GV n es) (hu:SI H u t) (h0:set≠0/\set<2^n) (ht:TreeOk es set t) (hk:k∈t):Ao prog 114 [gv n w,uv set,u,ii k] H (.tuple #[uv (y9 es set t k),uv (sdf set (y9 es set t k)),ii 0]):=by
 refine j3 mixed LL ?_;have hs:=Ci hg.n64 h0.2;obtain⟨x,r,rJ,hx,xW,hlx⟩:=Je hs h0.1;have hsd:y9 es set t k=Jd (etb es t k) x:=by unfold y9;rw[rJ];rfl
 have uR:=Pq (L:=etb es t k) (x:=x) (Vw hg fun i hi=>by have:=ht.ok i (bJ.1 hi).1;exact⟨this.1,this.2.1⟩) xW;refine d9 (Ap hw) ?_;refine x9 (yq hw hg hs hu) rfl fun H1 l1=> ?_;rw[jm h0 ht];refine d4 ?_;refine t6 (bF (p:=(0:Int)≠0) (by simp)) ?_;refine Aq (d3p (hu.mono l1) k) rfl ?_;refine d4 ?_;refine t6 (by show Value.bool (!t.contains k)=_;rw[List.contains_iff_mem.2 hk];rfl) ?_;refine Aq (Yu (hT.mono l1) hs) rfl ?_;rw[show tz set=x from by simp[tz,rJ]];refine Aq (c8a (hw.mono l1) hg (hu.mono l1) (fun i hi=>⟨(ht.ok i hi).1,(ht.ok i hi).2.1⟩) xW) rfl ?_;refine d4 (d4 ?_);exact g8 rfl ⟨l1,by rw[hsd];show Value.tuple #[_,D prog _ (.op2 .andNot .u64 (.v 1) (.v 7)),_]=_;rw[Rk rfl rfl hs uR.1];rfl⟩
theorem c8b (hc:Chn H n w wts es wl) (hu:SI H u t) (h0:set≠0/\set<2^n) (ht:TreeOk es set t):Con prog 84 [chv wts lo hi ds n w,uv set,u] H fun r H'=>PH.le H H'/\SI H' r (Jf es wl lo hi set t t):=by
 refine j3 mixed LF ?_;have hl:=hu.len;have hs:=Ci hc.ok.n64 h0.2;have xP:=Me set;have zK:=ht.len;refine d9 (Pe (Af hc.wt) (Af hc.gr) _ _ _ _) ?_;refine j7 el_int hu ?_;refine s9 (α:=Nat×Value) (fun⟨i,v⟩=>[v,ii (i:Nat)]) (fun⟨i,v⟩=>fun H'=>i<=t.length/\PH.le H H'/\SO H H' 3 1 (fun z:Int=>[ii z]) v (Jf es wl lo hi set t (t.take i))) (fun⟨i,v⟩=>t.length-i) ((0,.slice none 0 0)) rfl (⟨bI _,PH.le.refl _,SO.nil _ _ _ _ _⟩) fun⟨i,v⟩ H' hQ=> ?_;obtain⟨pW,l1,o1⟩:=hQ;refine d4 (d4 ?_);refine i0 (b:=decide (((i:Nat):Int)<(t.length:Nat))) rfl (fun h=> ?_) (fun h=> ?_)
 ·replace h:=oDt h;have uT:i<t.length:=by omega
  obtain⟨x,hx,tB⟩:=t7 uT;have pR:(Jf es wl lo hi set t (t.take i)).length<=i:=Nat.le_trans (fM _ _) (by rw[List.length_take];omega);have qM:=jr hs h0.1 ht x;have hA:=Sj h0.2 qM;have hB:sdf set (y9 es set t x)<2^n:=Sj h0.2 fun y hy=>by rw[Ad,Bool.and_eq_true]at hy;exact hy.1
  have qA:Jf es wl lo hi set t (t.take (i+1))=if alB es wl lo hi (y9 es set t x)&&alB es wl lo hi (sdf set (y9 es set t x))then Jf es wl lo hi set t (t.take i)++[x]else Jf es wl lo hi set t (t.take i):=by
   rw[take_snoc hx];unfold Jf;rw[cT,bX,kL];split
   ·rfl
   ·rw[dC]
  refine j8 el_int (hu.mono l1) hx fun _=> ?_;refine x9 (MJ (k:=x) (hc.tb.mono l1) (hc.gr.mono l1) hc.ok (hu.mono l1) h0 ht (aI hx)) rfl fun H2 l2=> ?_;refine i8 (i8 (i8 ?_));refine x9 (Ry (lo:=lo) (hi:=hi) (ds:=ds) (hc.mono (l1.trans l2)) hA) rfl fun H3 l3=> ?_;refine d4 ?_;refine i0 (b:=alB es wl lo hi (y9 es set t x)) rfl (fun b1=> ?_) (fun b1=> ?_)
  ·skip
   refine x9 (Ry (lo:=lo) (hi:=hi) (ds:=ds) (hc.mono ((l1.trans l2).trans l3)) hB) rfl fun H4 l4=> ?_;refine d4 ?_;refine i0 (b:=alB es wl lo hi (sdf set (y9 es set t x))) rfl (fun b2=> ?_) (fun b2=> ?_)
   ·skip
    refine Iz el_int rfl rfl rfl (fun _=>rfl) (fun _=>rfl) (((l1.trans l2).trans l3).trans l4) (o1.mono ((l2.trans l3).trans l4)) (by omega) rfl (fun _=>rfl) rfl fun q v2 H5 l5 o5=> ?_;exact⟨(i+1,v2),by show t.length-(i+1)<t.length-i;omega,(j4 rfl (i9 rfl (by omega))),⟨uT,l5,by rw[qA,b1,b2];exact o5⟩⟩
   ·skip
    exact⟨(i+1,v),by show t.length-(i+1)<t.length-i;omega,(j4 rfl (i9 rfl (by omega))),⟨uT,((l1.trans l2).trans l3).trans l4,by rw[qA,b1,b2];exact o1.mono ((l2.trans l3).trans l4)⟩⟩
  ·skip
   exact⟨(i+1,v),by show t.length-(i+1)<t.length-i;omega,(j4 rfl (i9 rfl (by omega))),⟨uT,(l1.trans l2).trans l3,by rw[qA,b1];exact o1.mono (l2.trans l3)⟩⟩
 ·replace h:=oDf h;rw[aK (by omega)]at o1;exact g8 rfl ⟨l1,o1.se⟩
def e1g (H:PH) (n:Nat) (es:List (Nat×Nat)) (wl:List Int) (lo hi ds:Int) (set:Nat) (t:List Int) (r:Value):Prop:=
 ∃v l e,r= .tuple #[v,ii e]/\SI H v l/\e=(if bdE n wl lo hi ds≠0 then bdE n wl lo hi ds else trE n es set t)/\l=(if e≠0 then[]else Jf es wl lo hi set t t)
theorem MM (hT:Tb H) (hw:SG H w es) (hg:GV n es) (qV:SI H wts wl) (hu:SI H u t) (hs:set<M64):Con prog 37 [gv n w,bv wts lo hi ds,uv set,u] H fun r H'=>PH.le H H'/\e1g H' n es wl lo hi ds set t r:=by
 refine j3 mixed d3v ?_;refine d9 (Ap hw) ?_;refine d9 (Gs (Af qV) _ _ _) ?_;refine x9 (Zn hw hg qV) rfl fun H1 l1=> ?_;refine d4 ?_;refine r9 (p:=(bdE n wl lo hi ds≠0)) (bN _ _) (fun h=> ?_) fun h=> ?_
 ·exact g8 rfl ⟨l1,_,[],_,rfl,SE.nil _ _ _,(if_pos h).symm,by rw[if_pos h]⟩
 ·have h0:bdE n wl lo hi ds=0:=aP h;have hb:=Rx h0;refine x9 (yq (hw.mono l1) hg hs (hu.mono l1)) rfl fun H2 l2=> ?_;refine d4 ?_;refine r9 (p:=(trE n es set t≠0)) (bN _ _) (fun h2=> ?_) fun h2=> ?_
  ·exact g8 rfl ⟨l1.trans l2,_,[],_,rfl,SE.nil _ _ _,(if_neg h).symm,by rw[if_pos h2]⟩
  ·have h2:trE n es set t=0:=aP h2;obtain⟨xU,pS⟩:=c7Z h2;refine i6 (c8b (lo:=lo) (hi:=hi) (ds:=ds) (u:=u) (t:=t) (⟨hT.mono (l1.trans l2),hw.mono (l1.trans l2),hg,qV.mono (l1.trans l2),hb.1,hb.2.2.2.2.2⟩:Chn H2 n w wts es wl) (hu.mono (l1.trans l2)) xU pS) rfl ?_;rintro r H3 ⟨l3,hr⟩;refine nmI ?_;exact g8 rfl ⟨(l1.trans l2).trans l3,_,_,0,rfl,hr,by rw[if_neg h,h2],by rw[if_neg (by simp)]⟩
theorem MN (hw:SG H w es) (hg:GV n es) (hs:set<M64) (i:Int):Asks prog 142 [gv n w,uv set,ii i] H (.bool (decide (OkI es set i))):=by
 refine j3 mixed c2Y ?_;have qK:=hg.n64;refine d9 (Ap hw) ?_;refine d4 ?_;refine i0 (b:=decide (i≥0)) rfl (fun h=> ?_) (fun h=> ?_)
 ·replace h:=oDt h;refine j7 el_edge hw ?_;refine d4 ?_;refine i0 (b:=decide (i<(es.length:Nat))) rfl (fun h2=> ?_) (fun h2=> ?_)
  ·replace h2:=oDt h2;obtain⟨m,rfl⟩:∃m:Nat,i=(m:Int):=⟨i.toNat,by omega⟩;have sD:=Fo (es:=es) (m:=m) (by omega);have hed:=hg.mem sD;refine Vt rfl rfl rfl rfl rfl (fun _=>rfl) (fun _=>rfl) (fun _=>rfl) hw sD rfl (fun _=>rfl) (fun _ _=>rfl) fun _ _=> ?_;refine Am (Ic hs (by omega)) rfl ?_;refine d4 ?_;refine i0 (b:=bit set (Ed es (m:Nat)).1) rfl (fun b1=> ?_) (fun b1=> ?_)
   ·skip
    refine Vu rfl rfl rfl rfl rfl (fun _=>rfl) (fun _=>rfl) (fun _=>rfl) hw sD rfl (fun _=>rfl) (fun _ _=>rfl) fun _ _=> ?_;refine Am (Ic hs (by omega)) rfl ?_;exact g8 rfl ⟨rfl,by refine congrArg Value.bool ?_;rw[bH,oDi];exact⟨fun hb=>⟨by omega,by rw[bB];omega,b1,hb⟩,fun hk=>hk.2.2.2⟩⟩
   ·skip
    exact g8 rfl ⟨rfl,by rw[decide_eq_false (fun hk:OkI es set (m:Nat)=>by rw[hk.2.2.1]at b1;cases b1)];rfl⟩
  ·replace h2:=oDf h2;exact g8 rfl ⟨rfl,by rw[decide_eq_false (fun hk:OkI es set i=>by have:=hk.1;have:=hk.2.1;omega)];rfl⟩
 ·replace h:=oDf h;exact g8 rfl ⟨rfl,by rw[decide_eq_false (fun hk:OkI es set i=>by have:=hk.1;omega)];rfl⟩
theorem MP (hw:SG H w es) (hg:GV n es) (hu:SI H u t) (ht:∀i∈t,0<=i/\i.toNat<es.length) (hx:x<64):Asks prog 143 [gv n w,u,ii (x:Nat)] H (uv (Jd (etl es t) x)):=by
 refine j3 mixed c2Z ?_;have qK:=hg.n64;have hl:=hu.len;have hL:=Vw hg ht;refine d9 (Ap hw) ?_;refine Am (Jc hx) rfl ?_;simp only[cA,nA];refine Dq (α:=Nat) (fun r=>[uv (Ai o0 (etl es t) r (2^x)),ii (r:Nat)]) (fun r=>r<=64) (fun r=>64-r) (0) rfl (bI _) fun r hQ=> ?_;simp only[cA,nA];refine d4 ?_;refine i0 (b:=decide (((r:Nat):Int)<64)) rfl (fun h=> ?_) (fun h=> ?_)
 ·replace h:=oDt h;have hS:=(Jz (set:=o0) hL (An hx) r).1;generalize hSe:Ai o0 (etl es t) r (2^x)=S at hS;refine Dq (α:=Nat) (fun j=>[uv (rnd o0 (etl es (t.take j)) S),ii (j:Nat)]) (fun j=>j<=t.length) (fun j=>t.length-j) (0) rfl (bI _) fun j wI=> ?_;simp only[cA,nA];refine j7 el_int hu ?_;refine d4 (d4 ?_);refine i0 (b:=decide (((j:Nat):Int)<(t.length:Nat))) rfl (fun h2=> ?_) (fun h2=> ?_)
  ·replace h2:=oDt h2;have rG:j<t.length:=by omega
   obtain⟨y,hy,vC⟩:=t7 rG;obtain⟨hy1,wC⟩:=ht y (aI hy);obtain⟨m,rfl⟩:∃m:Nat,y=(m:Int):=⟨y.toNat,by omega⟩;rw[bB]at wC;have sD:=Fo (es:=es) (m:=m) (by omega);have hed:=hg.mem sD;have hR:=Zp (set:=o0) (Vw hg (t:=t.take j) fun i hi=>ht i (jL hi)) hS;have qA:rnd o0 (etl es (t.take (j+1))) S=rst o0 (rnd o0 (etl es (t.take j)) S) (Ed es (m:Nat)):=by rw[take_snoc hy,Pn,yn]
   rw[jq (by omega) (by omega),<-oW]at qA;generalize rnd o0 (etl es (t.take j)) S=R at hR qA;refine j8 el_int hu hy fun _=> ?_;simp only[cA,nA];refine Vt rfl rfl rfl rfl rfl (fun _=>rfl) (fun _=>rfl) (fun _=>rfl) hw sD rfl (fun _=>rfl) (fun _ _=>rfl) fun _ _=> ?_;simp only[cA,nA];refine j8 el_int hu hy fun _=> ?_;simp only[cA,nA];refine Vu rfl rfl rfl rfl rfl (fun _=>rfl) (fun _=>rfl) (fun _=>rfl) hw sD rfl (fun _=>rfl) (fun _ _=>rfl) fun _ _=> ?_;simp only[cA,nA];refine Am (Ic hR (by omega)) rfl ?_;simp only[cA,nA];refine d4 ?_;refine i0 (b:=bit R (Ed es (m:Nat)).1) rfl (fun b3=> ?_) (fun b3=> ?_)
   ·skip
    refine Am (Jc (n:=(Ed es (m:Nat)).1) (by omega)) rfl ?_;simp only[cA,nA];refine d4 (d4 ?_);refine Am (Jc (n:=(Ed es (m:Nat)).2) (by omega)) rfl ?_;simp only[cA,nA];refine d4 ?_;exact⟨j+1,by omega,(j4 (by rw[qA,if_pos (by rw[b3];rfl)];exact Cb (Cb rfl rfl hR (An (by omega))) rfl (Hv hR (An (by omega))) (An (by omega))) (i9 rfl (by omega))),⟨by omega,rfl⟩⟩
   ·skip
    refine Am (Ic hR (by omega)) rfl ?_;simp only[cA,nA];refine d4 ?_;refine i0 (b:=bit R (Ed es (m:Nat)).2) rfl (fun b4=> ?_) (fun b4=> ?_)
    ·skip
     refine Am (Jc (n:=(Ed es (m:Nat)).1) (by omega)) rfl ?_;simp only[cA,nA];refine d4 (d4 ?_);refine Am (Jc (n:=(Ed es (m:Nat)).2) (by omega)) rfl ?_;simp only[cA,nA];refine d4 ?_;exact⟨j+1,by omega,(j4 (by rw[qA,if_pos (by rw[b3,b4];rfl)];exact Cb (Cb rfl rfl hR (An (by omega))) rfl (Hv hR (An (by omega))) (An (by omega))) (i9 rfl (by omega))),⟨by omega,rfl⟩⟩
    ·skip
     exact⟨j+1,by omega,(j4 (by rw[qA,if_neg (by rw[b3,b4];decide)];rfl) (i9 rfl (by omega))),⟨by omega,rfl⟩⟩
  ·replace h2:=oDf h2;have vT:t.take j=t:=aK (by omega);exact⟨r+1,by omega,(j4 (by rw[show Ai o0 (etl es t) (r+1) (2^x)=rnd o0 (etl es t) S from by rw[<-hSe];rfl,vT];rfl) (i9 rfl (by omega))),⟨by omega,rfl⟩⟩
 ·replace h:=oDf h;have hre:r=64:=by omega
  exact g8 rfl ⟨rfl,by rw[hre];rfl⟩
end
end Go.Proofs.Z

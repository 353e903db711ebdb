/- Chapter 32: library, part 3. -/
import Derived.Test.YtmannekkmdockaaGreatDoorGsG
open Classical renaming byContradiction->aP
open Int renaming toNat_natCast->bB
open List renaming any_append->nL,any_eq_true->kJ,mem_of_getElem?->aI,take_of_length_le->aK
open Nat renaming zero_le->bI
namespace Go.Proofs.Z
open Go.Proofs.Tryz
open Go.RowKit Go.RX Go.GS
section
variable {H:PH} {u v:Value} {l:List Int}
theorem c7A {f:FuncId} {caps:List Value} {q:Int->Bool} (hu:SI H u l) (rC:Au prog f=true) (hf:∀H' x,PH.le H H'->x∈l->Ao prog f (ii x::caps) H' (.bool (q x))):Con prog 175 [u,.func (.func f) #[] caps.toArray] H fun r H'=>PH.le H H'/\∃z:Int,r=ii z/\decide (z≥0)=l.any q:=by
 refine j3 mixed W8 ?_;have hl:=hu.len;refine j7 el_int hu ?_;refine s9 (α:=Nat×Int) (fun⟨i,p⟩=>[ii p,ii (i:Nat)]) (fun⟨i,p⟩=>fun H'=>i<=l.length/\PH.le H H'/\(l.take i).any q=false) (fun⟨i,p⟩=>l.length-i) ((0,0)) rfl (⟨bI _,PH.le.refl _,rfl⟩) fun⟨i,p⟩ H' hQ=> ?_;obtain⟨hi,l1,hq⟩:=hQ;refine d4 (d4 ?_);refine i0 (b:=decide (((i:Nat):Int)<(l.length:Nat))) rfl (fun h=> ?_) (fun h=> ?_)
 ·replace h:=oDt h;have pW:i<l.length:=by omega
  obtain⟨x,hx,tB⟩:=t7 pW;refine j8 el_int (hu.mono l1) hx fun _=> ?_;refine r4 (Uh (f:=f) (caps:=caps.toArray) (vs:=[ii x]) rfl rfl rfl rC (hf _ x l1 (aI hx))) rfl ?_;rintro _ H2 ⟨l2,rfl⟩;refine nmI ?_;refine d4 ?_;refine i0 (b:=q x) rfl (fun zH=> ?_) (fun zH=> ?_)
  ·skip
   exact g8 rfl ⟨l1.trans l2,_,rfl,by rw[kJ.2 ⟨x,aI hx,zH⟩];exact oDd (by omega)⟩
  ·skip
   exact⟨(i+1,p),by show l.length-(i+1)<l.length-i;omega,(j4 rfl (i9 rfl (by omega))),⟨pW,l1.trans l2,by rw[take_snoc hx,nL,hq];simp[zH]⟩⟩
 ·replace h:=oDf h;rw[aK (by omega)]at hq;exact g8 rfl ⟨l1,_,rfl,by rw[hq];rfl⟩
theorem c2s {f:FuncId} {caps:List Value} {q:Int->Bool} (hu:SI H u l) (rC:Au prog f=true) (hf:∀H' x,PH.le H H'->x∈l->Ao prog f (ii x::caps) H' (.bool (q x))):Ao prog 104 [u,.func (.func f) #[] caps.toArray] H (.bool (l.any q)):=by
 refine j3 mixed W5 ?_;refine i6 (c7A hu rC hf) rfl ?_;rintro _ H1 ⟨l1,z,rfl,hz⟩;refine nmI ?_;refine d4 ?_;exact g8 rfl ⟨l1,hz ▸ rfl⟩
theorem c7B (hu:SI H u l) (y:Int):Con prog 230 [u,ii y] H fun r H'=>H'=H/\∃z:Int,r=ii z/\decide (z≥0)=l.contains y:=by
 refine j3 mixed Y5 ?_;have hl:=hu.len;refine j7 el_int hu ?_;refine Dq (α:=Nat×Int) (fun⟨i,p⟩=>[ii p,ii (i:Nat)]) (fun⟨i,p⟩=>i<=l.length/\(l.take i).contains y=false) (fun⟨i,p⟩=>l.length-i) ((0,0)) rfl (⟨bI _,rfl⟩) fun⟨i,p⟩ hQ=> ?_;obtain⟨hi,hq⟩:=hQ;refine d4 (d4 ?_);refine i0 (b:=decide (((i:Nat):Int)<(l.length:Nat))) rfl (fun h=> ?_) (fun h=> ?_)
 ·replace h:=oDt h;have pW:i<l.length:=by omega
  obtain⟨x,hx,tB⟩:=t7 pW;refine j8 el_int hu hx fun _=> ?_;refine d4 (d4 ?_);refine r9 (p:=(y=x)) (bE y x) (fun hyx=> ?_) fun hyx=> ?_
  ·exact g8 rfl ⟨rfl,_,rfl,by rw[List.contains_iff_mem.2 (hyx ▸ aI hx)];exact oDd (by omega)⟩
  ·exact⟨(i+1,p),by show l.length-(i+1)<l.length-i;omega,(j4 rfl (i9 rfl (by omega))),⟨⟨pW,by rw[take_snoc hx,b1w,hq];simp[hyx]⟩,rfl⟩⟩
 ·replace h:=oDf h;rw[aK (by omega)]at hq;exact g8 rfl ⟨rfl,_,rfl,by rw[hq];rfl⟩
theorem d3p (hu:SI H u l) (y:Int):Asks prog 188 [u,ii y] H (.bool (l.contains y)):=by
 refine j3 mixed Y6 ?_;refine i6 (c7B hu y) rfl ?_;rintro _ _ ⟨rfl,z,rfl,hz⟩;refine nmI ?_;refine d4 ?_;exact g8 rfl ⟨rfl,hz ▸ rfl⟩
theorem LD {m:List Int} (hu:SI H u l) (hv:SI H v m):Asks prog 38 [u,v] H (.bool (decide (l=m))):=by
 refine j3 mixed U8 ?_;have hl:=hu.len;have hm:=hv.len;refine j7 el_int hu ?_;refine j7 el_int hv ?_;refine d4 (d4 ?_);refine r9 (p:=(l.length≠m.length)) (by show Value.bool (((l.length:Nat):Int) !=((m.length:Nat):Int))=_;rw[bN];congr 1;apply decide_eq_decide.2;omega) (fun h=> ?_) fun h=> ?_
 ·exact g8 rfl ⟨rfl,by rw[decide_eq_false (fun e=>h (by rw[e]))];rfl⟩
 ·have hlm:l.length=m.length:=by omega
  refine j7 el_int hu ?_;refine Dq (α:=Nat×Value) (fun⟨i,p⟩=>[p,ii (i:Nat)]) (fun⟨i,p⟩=>i<=l.length/\l.take i=m.take i) (fun⟨i,p⟩=>l.length-i) ((0,.bool false)) rfl (⟨bI _,rfl⟩) fun⟨i,p⟩ hQ=> ?_;obtain⟨hi,hq⟩:=hQ;refine d4 (d4 ?_);refine i0 (b:=decide (((i:Nat):Int)<(l.length:Nat))) rfl (fun h2=> ?_) (fun h2=> ?_)
  ·replace h2:=oDt h2;have pW:i<l.length:=by omega
   obtain⟨x,hx,tB⟩:=t7 pW;refine j8 el_int hu hx fun _=> ?_;obtain⟨y,hy,vC⟩:=t7 (l:=m) (i:=i) (by omega);refine j8 el_int hv hy fun _=> ?_;refine d4 (d4 ?_);refine r9 (p:=(x≠y)) (bN x y) (fun tC=> ?_) fun tC=> ?_
   ·exact g8 rfl ⟨rfl,by rw[decide_eq_false (fun e=>tC (by subst e;rw[hx]at hy;exact Option.some.inj hy))];rfl⟩
   ·have tC:x=y:=aP tC;exact⟨(i+1,p),by show l.length-(i+1)<l.length-i;omega,(j4 rfl (i9 rfl (by omega))),⟨⟨pW,by rw[take_snoc hx,take_snoc hy,hq,tC]⟩,rfl⟩⟩
  ·replace h2:=oDf h2;rw[aK (by omega),aK (by omega)]at hq;exact g8 rfl ⟨rfl,by rw[oDd hq];rfl⟩
end
section
variable {H:PH} {u v:Value} {l:List Nat}
theorem c7C {f:FuncId} {caps:List Value} {q:Nat->Bool} (hu:SU H u l) (rC:Au prog f=true) (hf:∀H' x,PH.le H H'->x∈l->Ao prog f (uv x::caps) H' (.bool (q x))):Con prog 177 [u,.func (.func f) #[] caps.toArray] H fun r H'=>PH.le H H'/\∃z:Int,r=ii z/\decide (z≥0)=l.any q:=by
 refine j3 mixed W9 ?_;have hl:=hu.len;refine j7 el_u64 hu ?_;refine s9 (α:=Nat×Int) (fun⟨i,p⟩=>[ii p,ii (i:Nat)]) (fun⟨i,p⟩=>fun H'=>i<=l.length/\PH.le H H'/\(l.take i).any q=false) (fun⟨i,p⟩=>l.length-i) ((0,0)) rfl (⟨bI _,PH.le.refl _,rfl⟩) fun⟨i,p⟩ H' hQ=> ?_;obtain⟨hi,l1,hq⟩:=hQ;refine d4 (d4 ?_);refine i0 (b:=decide (((i:Nat):Int)<(l.length:Nat))) rfl (fun h=> ?_) (fun h=> ?_)
 ·replace h:=oDt h;have pW:i<l.length:=by omega
  obtain⟨x,hx,tB⟩:=t7 pW;refine j8 el_u64 (hu.mono l1) hx fun _=> ?_;refine r4 (Uh (f:=f) (caps:=caps.toArray) (vs:=[uv x]) rfl rfl rfl rC (hf _ x l1 (aI hx))) rfl ?_;rintro _ H2 ⟨l2,rfl⟩;refine nmI ?_;refine d4 ?_;refine i0 (b:=q x) rfl (fun zH=> ?_) (fun zH=> ?_)
  ·skip
   exact g8 rfl ⟨l1.trans l2,_,rfl,by rw[kJ.2 ⟨x,aI hx,zH⟩];exact oDd (by omega)⟩
  ·skip
   exact⟨(i+1,p),by show l.length-(i+1)<l.length-i;omega,(j4 rfl (i9 rfl (by omega))),⟨pW,l1.trans l2,by rw[take_snoc hx,nL,hq];simp[zH]⟩⟩
 ·replace h:=oDf h;rw[aK (by omega)]at hq;exact g8 rfl ⟨l1,_,rfl,by rw[hq];rfl⟩
theorem c2t {f:FuncId} {caps:List Value} {q:Nat->Bool} (hu:SU H u l) (rC:Au prog f=true) (hf:∀H' x,PH.le H H'->x∈l->Ao prog f (uv x::caps) H' (.bool (q x))):Ao prog 107 [u,.func (.func f) #[] caps.toArray] H (.bool (l.any q)):=by
 refine j3 mixed W6 ?_;refine i6 (c7C hu rC hf) rfl ?_;rintro _ H1 ⟨l1,z,rfl,hz⟩;refine nmI ?_;refine d4 ?_;exact g8 rfl ⟨l1,hz ▸ rfl⟩
end
section
variable {H:PH} {n:Nat} {w:Value} {es:List (Nat×Nat)} {set:Nat}
theorem c7D (hw:SG H w es) (hg:GV n es) (hs:set<M64):Ao prog 181 [gv n w,uv set] H (ii (if set<2^n then 0 else 2)):=by
 refine j3 mixed Z0 ?_;refine d9 (Ap hw) ?_;refine x9 (Za hw hg) rfl fun H1 l1=> ?_;refine d4 ?_;refine t6 (bF (p:=(0:Int)≠0) (by simp)) ?_;refine Am (Yi set hs) rfl ?_;refine d4 (d4 ?_);refine r9 (p:=(set≥2^n)) (by show Value.bool (decide (((Go.WD.blen set:Nat):Int)>((n:Nat):Int)))=_;congr 1;apply decide_eq_decide.2;constructor<;>intro hh<;>first|(have:=Go.WD.blen_ge hh;omega)|(apply Nat.le_of_not_lt;intro h2;have:=Go.WD.blen_le h2;omega)) (fun h=> ?_) fun h=> ?_
 ·exact g8 rfl ⟨l1,by rw[if_neg (by omega)];rfl⟩
 ·exact g8 rfl ⟨l1,by rw[if_pos (by omega)];rfl⟩
noncomputable def Vk (n:Nat) (es:List (Nat×Nat)) (set:Nat):Value:=if set<2^n then .tuple #[.bool (cnB es set),ii 0]else .tuple #[.bool false,ii 2]
theorem ya (hT:Tb H) (hw:SG H w es) (hg:GV n es) (hs:set<M64):Ao prog 112 [gv n w,uv set] H (Vk n es set):=by
 refine j3 mixed Z1 ?_;have hn:=hg.n64;refine d9 (Ap hw) ?_;refine x9 (c7D hw hg hs) rfl fun H1 l1=> ?_;refine d4 ?_;refine r9 (p:=(¬set<2^n)) (by show Value.bool ((if set<2^n then(0:Int)else 2) !=0)=_;by_cases hh:set<2^n<;>simp[hh]) (fun h=> ?_) fun h=> ?_
 ·exact g8 rfl ⟨l1,by unfold Vk;rw[if_neg h,if_neg h];rfl⟩
 ·have h:set<2^n:=aP h;refine i6 (c2o (hT.mono l1) (hw.mono l1) hg h) rfl ?_;rintro u H2 ⟨l2,l,hl,hc⟩;refine nmI ?_;have e:cnB es set=decide (l.length=1):=by rw[Bool.eq_iff_iff,cnB_iff,<-hc];simp
  refine j7 el_u64 hl ?_;refine d4 ?_;exact g8 rfl ⟨l1.trans l2,by rw[show Vk n es set= .tuple #[.bool (cnB es set),ii 0]from if_pos h,e];show Value.tuple #[.bool (((l.length:Nat):Int)==1),_]=_;rw[bE,show decide (((l.length:Nat):Int)=1)=decide (l.length=1)from decide_eq_decide.2 (by omega)];rfl⟩
end
end Go.Proofs.Z
/- Chapter 32: plans. -/
namespace Go.Proofs.Z
open Go.Proofs.Tryz
open Go.RowKit Go.RX Go.GS
section
variable {H:PH} {u v w:Value} {p:List Int} {n:Nat} {es:List (Nat×Nat)}
theorem Zi (hu:SI H u p) (k:Int):Asks prog 63 [u,ii k] H (.bool (decide (LabOk p k))):=by
 refine j3 mixed Z6 ?_;have hl:=hu.len;refine j7 el_plan hu ?_;refine Dq (α:=Nat×Value) (fun⟨i,z⟩=>[z,ii (i:Nat)]) (fun⟨i,z⟩=>i<=p.length/\∀x∈p.take i,0<=x/\x<k) (fun⟨i,z⟩=>p.length-i) ((0,.bool false)) rfl (⟨bI _,fun x hx=>by cases hx⟩) fun⟨i,z⟩ hQ=> ?_;obtain⟨hi,hq⟩:=hQ;refine d4 (d4 ?_);refine i0 (b:=decide (((i:Nat):Int)<(p.length:Nat))) rfl (fun h=> ?_) (fun h=> ?_)
 ·replace h:=oDt h;have pW:i<p.length:=by omega
  obtain⟨x,hx,tB⟩:=t7 pW;refine j8 el_plan hu hx fun _=> ?_;have hxm:=aI hx;refine d4 ?_;refine i0 (b:=decide (x<0)) rfl (fun h2=> ?_) (fun h2=> ?_)
  ·replace h2:=oDt h2;exact g8 rfl ⟨rfl,by rw[decide_eq_false (fun e=>by have:=e.1 x hxm;omega)];rfl⟩
  ·replace h2:=oDf h2;refine d4 ?_;refine i0 (b:=decide (x≥k)) rfl (fun h3=> ?_) (fun h3=> ?_)
   ·replace h3:=oDt h3;exact g8 rfl ⟨rfl,by rw[decide_eq_false (fun e=>by have:=e.1 x hxm;omega)];rfl⟩
   ·replace h3:=oDf h3;exact⟨(i+1,z),by show p.length-(i+1)<p.length-i;omega,(j4 rfl (i9 rfl (by omega))),⟨⟨pW,by rw[take_snoc hx];intro y hy;rw[List.mem_append,List.mem_singleton]at hy;rcases hy with hy|rfl;(exact hq y hy);omega⟩,rfl⟩⟩
 ·replace h:=oDf h;rw[aK (by omega)]at hq;refine j7 el_plan hu ?_;refine d4 ?_;refine i0 (b:=decide (((p.length:Nat):Int)>0)) rfl (fun h4=> ?_) (fun h4=> ?_)
  ·replace h4:=oDt h4;refine j7 el_plan hu ?_;refine d4 ?_;exact g8 rfl ⟨rfl,congrArg Value.bool (decide_eq_decide.2 ⟨fun h5=>⟨hq,by omega,by have h6:((p.length:Nat):Int)<=64:=h5;omega⟩,fun h5=>by have:=h5.2.2;show((p.length:Nat):Int)<=64;omega⟩)⟩
  ·replace h4:=oDf h4;exact g8 rfl ⟨rfl,by rw[decide_eq_false (fun e=>by have:=e.2.1;omega)];rfl⟩
theorem LE {k:Nat} (hk:k<=8) (hu:SI H u p) (hL:LabOk p (k:Int)):Con prog 68 [u,ii (k:Nat)] H fun r H'=>PH.le H H'/\∃z,r= .tuple #[z,.bool (decide (Ak p k))]/\(Ak p k->SU H' z (masks p k)):=by
 refine j3 mixed Z7 ?_;have hl:=hu.len;have wG:=hL.2.2;refine Ux el_u64 (z:=(0:Nat)) wz rfl rfl rfl (by omega) rfl fun v H1 l1 o1 _=> ?_;rw[<-c2p p]at o1;refine j7 el_plan (hu.mono l1) ?_;refine s9 (α:=Nat) (fun i=>[ii (i:Nat)]) (fun i=>fun H'=>i<=p.length/\PH.le H H'/\SO H H' 54 1 (fun s:Nat=>[uv s]) v (Ia p k i)) (fun i=>p.length-i) (0) rfl (⟨bI _,l1,o1⟩) fun i H' hQ=> ?_;obtain⟨hi,l2,o2⟩:=hQ;refine d4 (d4 ?_);refine i0 (b:=decide (((i:Nat):Int)<(p.length:Nat))) rfl (fun h=> ?_) (fun h=> ?_)
 ·replace h:=oDt h;have pW:i<p.length:=by omega
  obtain⟨x,hx,tB⟩:=t7 pW;refine j8 el_plan (hu.mono l2) hx fun _=> ?_;have hxk:=hL.at hx;obtain⟨d,rfl⟩:∃d:Nat,x=(d:Int):=⟨x.toNat,by omega⟩;refine Do el_u64 rfl rfl rfl rfl (fun _=>rfl) o2.se (Rw p i (show d<k by omega)) rfl (fun _=>rfl) fun _=> ?_;refine d9 ⟨_,_,rfl⟩ ?_;refine d9 (by show(0:Int)<=((i:Nat):Int);omega) ?_;refine d4 ?_;refine Dp el_u64 (a:=mkN p (d:Nat) i|||2^i) rfl rfl rfl rfl (fun _=>rfl) (fun _=>rfl) l2 o2 (by rw[je];omega) rfl (fun _=>j4 rfl (Cb rfl (Ez rfl (by omega)) (Zh _ _ (by omega)) (An (by omega)))) rfl fun p' u' H3 l4 o4 _=> ?_;rw[c2q p k hx]at o4;exact⟨i+1,by omega,(z8 (i9 rfl (by omega))),⟨pW,l4,o4⟩⟩
 ·replace h:=oDf h;have he:i=p.length:=by omega
  subst he;refine s9 (α:=Nat×Value×Value) (fun⟨d,z1,z2⟩=>[z1,z2,ii (d:Nat)]) (fun⟨d,z1,z2⟩=>fun H2=>H2=H'/\d<=k/\∀j,j<d->j5 p (j:Nat)≠0) (fun⟨d,z1,z2⟩=>k-d) ((0,.slice none 0 0,.bool false)) rfl (⟨rfl,bI _,fun j hj=>by cases hj⟩) fun⟨d,z1,z2⟩ H2 wI=> ?_;obtain⟨rfl,hd,hq⟩:=wI;refine d4 (d4 ?_);refine i0 (b:=decide (((d:Nat):Int)<(k:Nat))) rfl (fun h2=> ?_) (fun h2=> ?_)
  ·replace h2:=oDt h2;refine Do el_u64 rfl rfl rfl rfl (fun _=>rfl) o2.se (Rw p _ (show d<k by omega)) rfl (fun _=>rfl) fun _=> ?_;refine d4 ?_;refine r9 (p:=(mkN p (d:Nat) p.length=0)) (bE0 _) (fun h3=> ?_) fun h3=> ?_
   ·exact g8 rfl ⟨l2,_,by rw[decide_eq_false (fun e=>e d (by omega) h3)];rfl,fun e=>absurd h3 (e d (by omega))⟩
   ·exact⟨(d+1,z1,z2),by show k-(d+1)<k-d;omega,(Cc rfl rfl (i9 rfl (by omega))),⟨rfl,by show d+1<=k;omega,fun j hj=>by rcases Nat.lt_succ_iff_lt_or_eq.1 hj with hj|rfl;(exact hq j hj);exact h3⟩⟩
  ·replace h2:=oDf h2;have he:d=k:=by omega
   subst he;exact g8 rfl ⟨l2,v,by rw[oDd (p:=Ak p d) hq];rfl,fun _=>o2.se⟩
theorem c7E (hw:SG H w es) (hg:GV n es) (hu:SI H u p) (k:Int):Con prog 176 [gv n w,u,ii k] H fun r H'=>PH.le H H'/\∃q,r= .tuple #[q,ii (plE n p k)]:=by
 refine j3 mixed Z8 ?_;refine d9 (Ap hw) ?_;refine x9 (Za hw hg) rfl fun H1 l1=> ?_;refine d4 ?_;refine t6 (bF (p:=(0:Int)≠0) (by simp)) ?_;refine d4 ?_;refine i0 (b:=decide (k<1)) rfl (fun h=> ?_) (fun h=> ?_)
 ·replace h:=oDt h;exact g8 rfl ⟨l1,_,by rw[show plE n p k=2 from if_pos (.inl h)];rfl⟩
 ·replace h:=oDf h;refine i0 (b:=decide (k>8)) rfl (fun h2=> ?_) (fun h2=> ?_)
  ·replace h2:=oDt h2;exact g8 rfl ⟨l1,_,by rw[show plE n p k=2 from if_pos (.inr h2)];rfl⟩
  ·replace h2:=oDf h2;have hk:¬(k<1\/k>8):=by omega
   obtain⟨m,rfl⟩:∃m:Nat,k=(m:Int):=⟨k.toNat,by omega⟩;refine j7 el_plan (hu.mono l1) ?_;refine d4 (d4 ?_);refine r9 (p:=(p.length≠n)) (by show Value.bool (((p.length:Nat):Int) !=((n:Nat):Int))=_;rw[bN];congr 1;apply decide_eq_decide.2;omega) (fun h3=> ?_) fun h3=> ?_
   ·exact g8 rfl ⟨l1,_,by rw[show plE n p (m:Nat)=210 from(if_neg hk).trans (if_neg fun e=>h3 e.1)];rfl⟩
   ·refine Aq (Zi (hu.mono l1) (m:Nat)) rfl ?_;refine d4 ?_;refine i0 (b:= !decide (LabOk p (m:Nat))) rfl (fun h4=> ?_) (fun h4=> ?_)
    ·skip
     exact g8 rfl ⟨l1,_,by rw[show plE n p (m:Nat)=210 from(if_neg hk).trans (if_neg fun e=>by simp[e.2.1]at h4)];rfl⟩
    ·skip
     have hL:LabOk p (m:Nat):=by simpa using h4
     refine i6 (LE (by omega) (hu.mono l1) hL) rfl ?_;rintro _ H2 ⟨l2,z,rfl,hz⟩;refine nmI ?_;refine i8 (i8 (d4 ?_));refine i0 (b:= !decide (Ak p m)) rfl (fun h5=> ?_) (fun h5=> ?_)
     ·skip
      exact g8 rfl ⟨l1.trans l2,_,by rw[show plE n p (m:Nat)=210 from(if_neg hk).trans (if_neg fun e=>by have:=e.2.2;rw[bB]at this;simp[this]at h5)];rfl⟩
     ·skip
      have hU:Ak p m:=by simpa using h5
      refine d9 ((hu.mono l1).one) ?_;refine d9 ((hz hU).one) ?_;refine Ee (cs:=_) rfl fun b hb=> ?_;exact g8 rfl ⟨(l1.trans l2).trans (PH.le_put hb _),_,by rw[show plE n p (m:Nat)=0 from(if_neg hk).trans (if_pos ⟨by omega,hL,by rw[bB];exact hU⟩)];rfl⟩
theorem c2u (hw:SG H w es) (hg:GV n es) (hu:SI H u p) (k:Int):Ao prog 106 [gv n w,u,ii k] H (ii (plE n p k)):=by
 refine j3 mixed Z9 ?_;refine d9 (Ap hw) ?_;refine i6 (c7E hw hg hu k) rfl ?_;rintro _ H1 ⟨l1,q,rfl⟩;refine nmI ?_;refine i8 (i8 ?_);exact g8 rfl ⟨l1,rfl⟩
theorem yb (hu:SI H u p) (k:Nat) (h1:1<=k) (h8:k<=8) (hL:LabOk p (k:Nat)) (hU:Ak p k):Con prog 25 [u,ii (k:Nat)] H fun r H'=>PH.le H H'/\∃z,r= .tuple #[z,ii 0]/\SU H' z (masks p k):=by
 refine j3 mixed d2v ?_;refine d4 ?_;refine t6 (bF (p:=((k:Nat):Int)<1) (by omega)) ?_;refine t6 (bF (p:=((k:Nat):Int)>8) (by omega)) ?_;refine Aq (Zi hu (k:Nat)) rfl ?_;refine d4 ?_;refine t6 (by show Value.bool (!decide (LabOk p (k:Nat)))=_;rw[oDd hL];rfl) ?_;refine i6 (LE h8 hu hL) rfl ?_;rintro _ H2 ⟨l2,z,rfl,hz⟩;refine nmI ?_;refine i8 (i8 (d4 ?_));refine t6 (by show Value.bool (!decide (Ak p k))=_;rw[oDd hU];rfl) ?_;exact g8 rfl ⟨l2,z,rfl,hz hU⟩
end
end Go.Proofs.Z
/- What is allowed. -/
namespace Go.GS
def Oy (wl:List Int) (s:Nat):Int:=((els s).map fun x=>wl.getD x 0).sum
def Oz (wl:List Int):Prop:=∀x∈wl,0<=x/\x<=1000000000
instance (wl:List Int):Decidable (Oz wl):=inferInstanceAs (Decidable (∀x∈wl,_))
def bdE (n:Nat) (wl:List Int) (lo hi ds:Int):Int:=if wl.length=n/\0<=lo/\lo<=hi/\1<=ds/\ds<=8/\Oz wl then 0 else 320
noncomputable def alB (es:List (Nat×Nat)) (wl:List Int) (lo hi:Int) (set:Nat):Bool:=Go.GS.cnB es set&&(decide (Oy wl set≥lo)&&decide (Oy wl set<=hi))
noncomputable def y8 (n:Nat) (es:List (Nat×Nat)) (wl:List Int) (lo hi ds:Int) (p:List Int):Bool:=decide (plE n p ds=0)&&(masks p ds.toNat).all (alB es wl lo hi)
theorem Rx {n:Nat} {wl:List Int} {lo hi ds:Int} (h:bdE n wl lo hi ds=0):wl.length=n/\0<=lo/\lo<=hi/\1<=ds/\ds<=8/\Oz wl:=by
 unfold bdE at h;split at h
 ·assumption
 ·cases h
theorem c2v:∀(l:List Int),(∀x∈l,0<=x/\x<=1000000000)->0<=l.sum/\l.sum<=1000000000*l.length:=by
 intro l;induction l with
 |nil=>intro _;simp
 |cons a l ih=>
  intro h;have h1:=h a (by simp);have h2:=ih fun x hx=>h x (List.mem_cons_of_mem _ hx);rw[List.sum_cons,List.length_cons];omega
end Go.GS

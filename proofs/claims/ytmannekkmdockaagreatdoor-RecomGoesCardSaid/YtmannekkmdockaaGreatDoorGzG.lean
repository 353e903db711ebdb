/- Lemmas: chapter 32. -/
import Derived.Test.YtmannekkmdockaaGreatDoorGsZ
open Bool renaming and_eq_true->aF,true_and->jZ
open Classical renaming byContradiction->aP
open Int renaming toNat_natCast->bB
open List renaming any_eq_true->kJ,append_assoc->bG,eq_nil_of_length_eq_zero->aZ,flatMap_cons->cY,foldl_cons->eP,map_append->aX,map_map->cC,mem_cons->aL,mem_filter->bJ,mem_map->aH,mem_of_getElem?->aI,nil_append->bV,nodup_nil->dO,nodup_range->fJ
open Nat renaming and_assoc->oQ,and_self->lW,testBit_div_two_pow->lM,testBit_two_pow_mul->lL
open Prod renaming ext->lK,fst->pK,mk->pD
namespace Go.Proofs.Z
open Go.Proofs.Tryz
open Go.RowKit Go.RX Go.GS Go.RZ
open Go.WD (BP Bf wd rs toI HM sgI Rb)
theorem d8u {part rest x k:Nat} (hk:bit part k=true) (hl:∀j,j<k->bit part j=false) (hp:part&&&rest=part) (hx:x&&&rest=x) (pO:x<part):x<=(part-1)&&&rest:=by
 have hs:=JM hk hl;have qT:∀y,bit part y=true->bit rest y=true:=fun y hy=>by
  have:bit (part&&&rest) y=true:=by rw[hp];exact hy
  rw[Gq,aF]at this;exact this.2
 have hxr:∀y,bit x y=true->bit rest y=true:=fun y hy=>by
  have:bit (x&&&rest) y=true:=by rw[hx];exact hy
  rw[Gq,aF]at this;exact this.2
 have hq:∀y,bit (2^(k+1)*(part/2^(k+1))) y=(decide (k+1<=y)&&bit part y):=fun y=>by
  unfold bit;rw[lL,lM];by_cases h:k+1<=y
  ·rw[oDd h];simp only[jZ];congr 1;omega
  ·rw[decide_eq_false h];simp
 have pP:2^(k+1)*(part/2^(k+1))<=(part-1)&&&rest:=sub_le fun y hy=>by
  rw[hq,aF,oDi]at hy;rw[Gq,gx hk hl,if_neg (by omega),if_neg (by omega),hy.2,qT y hy.2];rfl
 generalize hQ:part/2^(k+1)=q at hs hq pP;have sV:2^(k+1)=2^k*2:=Nat.pow_succ ..;have qW:=Nat.two_pow_pos k;have h1:x/2^k<2*q+1:=by
  rw[Nat.div_lt_iff_lt_mul qW];have:(2*q+1)*2^k=2^(k+1)*q+2^k:=by rw[sV];grind
  omega
 by_cases e:x/2^k=2*q
 ·refine sub_le fun y hy=> ?_;rw[Gq,gx hk hl,hxr y hy,Bool.and_true];by_cases h2:y<k
  ·rw[if_pos h2]
  ·have h3:bit (2^(k+1)*q) y=true:=by
    have e2:2^(k+1)*q=2^k*(x/2^k):=by rw[e,sV];grind
    rw[e2];unfold bit;rw[lL,lM,oDd (show y≥k by omega),jZ];have:y-k+k=y:=by omega
    rw[this];exact hy
   rw[hq,aF,oDi]at h3;rw[if_neg h2,if_neg (by omega)];exact h3.2
 ·have h2:x/2^k+1<=2*q:=by omega
  have h3:=Nat.lt_mul_div_succ x qW;have h4:2^k*(x/2^k+1)<=2^k*(2*q):=Nat.mul_le_mul_left _ h2;have e2:2^(k+1)*q=2^k*(2*q):=by rw[sV];grind
  omega
theorem d5c {s:Nat} (h0:s≠0):∃k,bit s k=true/\∀j,j<k->bit s j=false:=by
 obtain⟨x,hx⟩:=SD h0;have:∀m,(∃k,k<m/\bit s k=true)->∃k,bit s k=true/\∀j,j<k->bit s j=false:=by
  intro m;induction m with
  |zero=>rintro⟨k,h,_⟩;omega
  |succ m ih=>
   rintro⟨k,h1,h2⟩;by_cases h:∃k,k<m/\bit s k=true
   ·exact ih h
   ·refine⟨k,h2,fun j hj=> ?_⟩;cases hb:bit s j with
    |false=>rfl
    |true=>exact absurd ⟨j,by omega,hb⟩ h
 exact this (x+1) ⟨x,by omega,hx⟩
theorem SK {rest least:Nat}:∀{n part x:Nat},part&&&rest=part->x&&&rest=x->x<part->part<=n->(x|||least)∈Hg rest least n part
 |0,part,x,_,_,h,hn=>by omega
 |n+1,part,x,hp,hx,h,hn=>by
  have h0:part≠0:=by omega
  obtain⟨k,hk,hl⟩:=d5c h0;have hge:=d8u hk hl hp hx h;have pP:(part-1)&&&rest<=part-1:=Nat.and_le_left;unfold Hg;rw[if_neg h0,aL];by_cases e:x=(part-1)&&&rest
  ·exact .inl (by rw[e])
  ·exact .inr (SK (by rw[oQ,lW]) hx (by omega) (by omega))
theorem SN {rest least:Nat} (hd:least&&&rest=0):∀{n part:Nat},(Hg rest least n part).Nodup
 |0,_=>dO
 |n+1,part=>by
  unfold Hg;split
  ·exact dO
  ·refine List.nodup_cons.2 ⟨fun h=> ?_,SN hd⟩;obtain⟨x,h1,h2,h3⟩:=AS h;have f:∀y,y&&&rest=y->(y|||least)&&&rest=y:=fun y hy=>by rw[Nat.and_or_distrib_right,hy,hd,Nat.or_zero]
   have e1:=f _ (show((part-1)&&&rest)&&&rest=(part-1)&&&rest by rw[oQ,lW]);rw[h3,f x h1]at e1;omega
theorem c4x {S:Nat}:Bo S&&&sdf S (Bo S)=0:=Ax fun y=>by
 rw[Gq,Ad,Bz];cases bit (Bo S) y<;>simp
theorem SQ (S:Nat):(Bd S).Nodup:=SN c4x
theorem c4y {S a:Nat} (hs:S<M64) (h0:S≠0) (qM:∀y,bit a y=true->bit S y=true) (hl:bit a (lst S)=true) (pT:a≠S):a∈Bd S:=by
 obtain⟨m,r,he,hm,_,_⟩:=Je hs h0;have hL:Bo S=2^m:=Yt hs he;have hlm:lst S=m:=by unfold lst;rw[he];rfl
 unfold Bd;rw[hL];rw[hlm]at hl;have e:a=sdf a (2^m)|||2^m:=Ax fun y=>by
  rw[Ac,Ad,Ae];by_cases hy:m=y
  ·subst hy;simp[hl]
  ·simp[hy]
 have hr:sdf a (2^m)&&&sdf S (2^m)=sdf a (2^m):=Ax fun y=>by
  rw[Gq,Ad,Ad];cases ha:bit a y with
  |true=>rw[qM y ha];simp
  |false=>simp
 have pP:sdf a (2^m)<=sdf S (2^m):=sub_le fun y hy=>by
  rw[Ad]at hy⊢;simp only[aF]at hy⊢;exact⟨qM y hy.1,hy.2⟩
 have pO:sdf a (2^m)<sdf S (2^m):=by
  rcases Nat.lt_or_ge (sdf a (2^m)) (sdf S (2^m))with h|h
  ·exact h
  ·refine absurd ?_ pT;have e3:sdf a (2^m)=sdf S (2^m):=by omega
   refine Ax fun y=> ?_;by_cases hy:m=y
   ·subst hy;rw[hl,hm]
   ·have h4:bit (sdf a (2^m)) y=bit (sdf S (2^m)) y:=by rw[e3]
    rw[Ad,Ad,Ae]at h4;simpa[hy]using h4
 rw[e];exact SK (lW _) hr pO (by omega)
noncomputable def Wx (L M:List (List Int×Rat)):List (List Int×Rat):=M.foldl (fun L x=>Df L x.1 x.2) L
theorem SR:∀{M L:List (List Int×Rat)},((L++M).map (·.1)).Nodup->Wx L M=L++M
 |[],L,_=>by simp[Wx]
 |x::M,L,h=>by
  have h1:Df L x.1 x.2=L++[x]:=by
   unfold Df;rw[if_neg];rw[aX,List.nodup_append]at h;exact fun hx=>h.2.2 _ hx x.1 (by simp) rfl
  have h2:=SR (M:=M) (L:=L++[x]) (by rw[bG];exact h);show M.foldl _ (Df L x.1 x.2)=_;rw[h1];rw[bG]at h2;exact h2
section
variable {es:List (Nat×Nat)} {wl:List Int} {lo hi:Int} {n k m:Nat} {p:List Int}
noncomputable def Nk (es:List (Nat×Nat)) (wl:List Int) (lo hi:Int) (p:List Int) (pr:Nat×Nat) (a:Nat):Bool:=alB es wl lo hi a&&(alB es wl lo hi (sdf (unP p pr) a)&& !decide (m7 p=m7 (Bl p pr a)))
noncomputable def Jm (es:List (Nat×Nat)) (n m:Nat) (p:List Int) (pr:Nat×Nat) (a:Nat):Rat:=(((tN es a:Int):Rat)*((tN es (sdf (unP p pr) a):Int):Rat))/Ks es n m (unP p pr)
noncomputable def Cd (es:List (Nat×Nat)) (wl:List Int) (lo hi:Int) (p:List Int) (pr:Nat×Nat):List Nat:=if tN es (unP p pr)=0 then[]else(Bd (unP p pr)).filter (Nk es wl lo hi p pr)
noncomputable def Em (es:List (Nat×Nat)) (wl:List Int) (lo hi:Int) (k:Nat) (p:List Int):List ((Nat×Nat)×Nat):=(i7 k).flatMap fun pr=>(Cd es wl lo hi p pr).map fun a=>(pr,a)
noncomputable def Tn (es:List (Nat×Nat)) (n m:Nat) (p:List Int) (x:(Nat×Nat)×Nat):List Int×Rat:=(m7 (Bl p x.1 x.2),Jm es n m p x.1 x.2)
theorem SS (pr:Nat×Nat):∀(l:List Nat) (L:List (List Int×Rat)),l.foldl (Gj es wl lo hi n m p pr) L=Wx L ((l.filter (Nk es wl lo hi p pr)).map fun a=>Tn es n m p (pr,a))
 |[],L=>rfl
 |a::l,L=>by
  rw[eP,SS pr l];unfold Gj;have hh:(Nk es wl lo hi p pr a=true)↔(alB es wl lo hi a=true/\alB es wl lo hi (sdf (unP p pr) a)=true/\m7 p≠m7 (Bl p pr a)):=by
   unfold Nk;simp
  by_cases h:Nk es wl lo hi p pr a=true
  ·rw[if_pos (hh.1 h),List.filter_cons_of_pos h];rfl
  ·rw[if_neg (mt hh.2 h),List.filter_cons_of_neg h]
theorem b9C:Bt es wl lo hi n k p=Wx [] ((Em es wl lo hi k p).map (Tn es n (i7 k).length p)):=by
 unfold Bt Em;generalize (i7 k).length=m;have:∀(l:List (Nat×Nat)) (L:List (List Int×Rat)),l.foldl (Et es wl lo hi n m p) L=Wx L ((l.flatMap fun pr=>(Cd es wl lo hi p pr).map fun a=>(pr,a)).map (Tn es n m p)):=by
  intro l;induction l with
  |nil=>intro L;rfl
  |cons pr l ih=>
   intro L;rw[eP,ih,cY,aX];unfold Wx;rw[List.foldl_append];congr 1;unfold Et Cd;split
   ·rfl
   ·rw[SS,cC];rfl
 exact this _ _
theorem nq (hL:LabOk p (k:Nat)) (hU:Ak p k) (qN:p.length=n) (hn:n<=64) {pr:Nat×Nat} (qT:pr∈i7 k) {a:Nat} (ha:a∈Bd (unP p pr)):Prt p k pr.1 pr.2 a/\bit a (lst (unP p pr))=true:=by
 have yJ:=Ta qT;have hS:=Wt qN hn pr;have hS0:unP p pr≠0:=fun e=>hU pr.1 (by omega) (by unfold unP at e;exact(Nat.or_eq_zero_iff.1 e).1);obtain⟨h1,h2,h3⟩:=aw (Ci hn hS) hS0 ha;obtain⟨⟨a0,a2⟩,s0,s2⟩:=ax hS hn hS0 ha;exact⟨⟨hL,hU,yJ.1,yJ.2,h1,a0,s0⟩,h2⟩
theorem idx_mem {x:(Nat×Nat)×Nat}:x∈Em es wl lo hi k p↔x.1∈i7 k/\x.2∈Bd (unP p x.1)/\tN es (unP p x.1)≠0/\alB es wl lo hi x.2=true/\alB es wl lo hi (sdf (unP p x.1) x.2)=true/\m7 p≠m7 (Bl p x.1 x.2):=by
 unfold Em;rw[List.mem_flatMap];constructor
 ·rintro⟨pr,qT,h⟩;obtain⟨a,ha,rfl⟩:=aH.1 h;unfold Cd at ha;split at ha
  ·cases ha
  ·rename_i h0;obtain⟨h1,h2⟩:=bJ.1 ha;unfold Nk at h2;simp only[aF,Bool.not_eq_true',decide_eq_false_iff_not]at h2;exact⟨qT,h1,h0,h2.1,h2.2.1,h2.2.2⟩
 ·rintro⟨h1,h2,h3,h4,h5,h6⟩;refine⟨x.1,h1,aH.2 ⟨x.2,?_,rfl⟩⟩;unfold Cd;rw[if_neg h3,bJ];unfold Nk;simp[h2,h4,h5,h6]
theorem d5e (i j:Nat):(Hk i j).Nodup:=by
 unfold Hk;exact Tm fJ fun x _ y _ h=>by have:=(pD.inj h).2;omega
theorem d5f (k:Nat):(i7 k).Nodup:=by
 unfold i7 prI;refine Wv pK fJ (fun a _=>d5e a k) fun a _ y hy=> ?_;unfold Hk at hy;obtain⟨d,_,rfl⟩:=aH.1 hy;rfl
theorem d8v:(Em es wl lo hi k p).Nodup:=by
 unfold Em;refine Wv pK (d5f k) (fun pr _=>Tm ?_ fun x _ y _ h=>(pD.inj h).2) fun pr _ y hy=> ?_
 ·unfold Cd;split
  ·exact dO
  ·exact(SQ _).filter _
 ·obtain⟨d,_,rfl⟩:=aH.1 hy;rfl
theorem nr (pr:Nat×Nat) (a:Nat):(Bl p pr a).length=p.length:=by unfold Bl;rw[Ft,Jj]
theorem d5g (hL:LabOk p (k:Nat)) (hU:Ak p k) (hc:n8 p=p) (qN:p.length=n) (hn:n<=64) {x y:(Nat×Nat)×Nat} (hx:x.1∈i7 k/\x.2∈Bd (unP p x.1)) (hy:y.1∈i7 k/\y.2∈Bd (unP p y.1)) (pT:p≠Bl p x.1 x.2) (he:Bl p x.1 x.2=Bl p y.1 y.2):x=y:=by
 obtain⟨p1,b1⟩:=nq hL hU qN hn hx.1 hx.2;obtain⟨p2,b2⟩:=nq hL hU qN hn hy.1 hy.2;obtain⟨h1,h2,h3⟩:=p1.uniq p2 (by rw[hc];exact fun e=>pT e.symm) he b1 b2 (fun e=>by unfold unP;rw[e]);exact lK (lK h1 h2) h3
theorem d8w (hL:LabOk p (k:Nat)) (hU:Ak p k) (hc:n8 p=p) (qN:p.length=n) (hn:n<=64):(((Em es wl lo hi k p).map (Tn es n m p)).map (·.1)).Nodup:=by
 rw[cC];refine Tm d8v fun x hx y hy e=> ?_;obtain⟨x1,x2,_,_,_,x6⟩:=idx_mem.1 hx;obtain⟨y1,y2,_⟩:=idx_mem.1 hy;exact d5g hL hU hc qN hn ⟨x1,x2⟩ ⟨y1,y2⟩ (fun h=>x6 (by rw[<-h])) (QR (by rw[nr,nr]) e)
theorem SX (hL:LabOk p (k:Nat)) (hU:Ak p k) (hc:n8 p=p) (qN:p.length=n) (hn:n<=64):Bt es wl lo hi n k p=(Em es wl lo hi k p).map (Tn es n (i7 k).length p):=by
 rw[b9C,SR,bV];rw[bV];exact d8w hL hU hc qN hn
end
end Go.Proofs.Z
/- Chapter 32: Go. -/
namespace Go.Proofs.Z
open Go.Proofs.Tryz
open Go.RowKit Go.RX Go.GS Go.RZ
open Go.WD (BP Bf wd rs toI HM sgI Rb)
set_option maxRecDepth 100000
section
variable {H:PH} {u v w wts:Value} {p p1 p2 wl:List Int} {n:Nat} {es:List (Nat×Nat)} {lo hi ds:Int} {l:List Slc}
theorem c8Z {f:FuncId} {caps:List Value} {q:Slc->Bool} (hu:SE H 1 (fun s:Slc=>[vs s]) u l) (rC:Au prog f=true) (hf:∀H' x,PH.le H H'->x∈l->Ao prog f (vs x::caps) H' (.bool (q x))):Con prog 144 [u,.func (.func f) #[] caps.toArray] H fun r H'=>PH.le H H'/\∃z:Int,r=ii z/\decide (z≥0)=l.any q:=by
 refine j3 mixed Y0 ?_;have hl:=hu.len;refine j7 Hl hu ?_;refine s9 (α:=Nat×Int) (fun⟨i,p⟩=>[ii p,ii (i:Nat)]) (fun⟨i,p⟩=>fun H'=>i<=l.length/\PH.le H H'/\(l.take i).any q=false) (fun⟨i,p⟩=>l.length-i) ((0,0)) rfl (⟨Nat.zero_le _,PH.le.refl _,rfl⟩) fun⟨i,p⟩ H' hQ=> ?_;obtain⟨hi,l1,hq⟩:=hQ;refine d4 (d4 ?_);refine i0 (b:=decide (((i:Nat):Int)<(l.length:Nat))) rfl (fun h=> ?_) (fun h=> ?_)
 ·replace h:=oDt h;have pW:i<l.length:=by omega
  obtain⟨x,hx,tB⟩:=t7 pW;refine j8 Hl (hu.mono l1) hx fun _=> ?_;refine r4 (Uh (f:=f) (caps:=caps.toArray) (vs:=[vs x]) rfl rfl rfl rC (hf _ x l1 (aI hx))) rfl ?_;rintro _ H2 ⟨l2,rfl⟩;refine nmI ?_;refine d4 ?_;refine i0 (b:=q x) rfl (fun zH=> ?_) (fun zH=> ?_)
  ·skip
   exact g8 rfl ⟨l1.trans l2,_,rfl,by rw[kJ.2 ⟨x,aI hx,zH⟩];exact oDd (by omega)⟩
  ·skip
   exact⟨(i+1,p),by show l.length-(i+1)<l.length-i;omega,(j4 rfl (i9 rfl (by omega))),⟨pW,l1.trans l2,by rw[take_snoc hx,List.any_append,hq];simp[zH]⟩⟩
 ·replace h:=oDf h;rw[List.take_of_length_le (by omega)]at hq;exact g8 rfl ⟨l1,_,rfl,by rw[hq];rfl⟩
theorem c4A {f:FuncId} {caps:List Value} {q:Slc->Bool} (hu:SE H 1 (fun s:Slc=>[vs s]) u l) (rC:Au prog f=true) (hf:∀H' x,PH.le H H'->x∈l->Ao prog f (vs x::caps) H' (.bool (q x))):Ao prog 87 [u,.func (.func f) #[] caps.toArray] H (.bool (l.any q)):=by
 refine j3 mixed W7 ?_;refine i6 (c8Z hu rC hf) rfl ?_;rintro _ H1 ⟨l1,z,rfl,hz⟩;refine nmI ?_;refine d4 ?_;exact g8 rfl ⟨l1,hz ▸ rfl⟩
theorem c9a:Au prog 61=true:=by kernel_rfl
theorem c4B:Au prog 88=true:=by kernel_rfl
theorem SY:Sc prog 138:=⟨by kernel_rfl,by kernel_rfl,by kernel_rfl⟩
def ns (c:Value):Value:= .func (.func 61) #[c] #[]
theorem b9D {b:Nat} {T:TypeId} (hc:Chn H n w wts es wl) (hb:H b=some (.cells #[ns (chv wts lo hi ds n w)] T (0,0))) (hu:SI H u p):Ao prog 88 [u,.pointer (some ⟨b,0,none⟩)] H (.bool (!y8 n es wl lo hi ds p)):=by
 refine j3 mixed c7K ?_;refine w9 SY rfl rfl hb rfl rfl ?_;refine r4 (Go.RZ.opn_callw (P:=prog) (ws:=[u]) (bs:= #[chv wts lo hi ds n w]) (caps:= #[]) (vs:=[ns (chv wts lo hi ds n w),u]) rfl rfl rfl c9a (jf (lo:=lo) (hi:=hi) (ds:=ds) hc hu)) rfl ?_;rintro _ H2 ⟨l2,rfl⟩;refine nmI ?_;refine d4 ?_;exact g8 rfl ⟨l2,rfl⟩
noncomputable def smE (n:Nat) (es:List (Nat×Nat)) (wl:List Int) (lo hi ds:Int) (l:List (List Int)):Int:=if bdE n wl lo hi ds≠0 then bdE n wl lo hi ds else if 12<n then 3 else if l.any (fun p=> !y8 n es wl lo hi ds p)then 8 else 0
theorem SZ {cont:Slc->List Int} (hT:Tb H) (hw:SG H w es) (hg:GV n es) (qV:SI H wts wl) (hu:SE H 1 (fun s:Slc=>[vs s]) v l) (hp:∀s∈l,SI H (vs s) (cont s)):Ao prog 46 [gv n w,bv wts lo hi ds,v] H (ii (smE n es wl lo hi ds (l.map cont))):=by
 refine j3 mixed d3D ?_;unfold smE;refine d9 (Ap hw) ?_;refine d9 (Gs (Af qV) _ _ _) ?_;refine x9 (Zn hw hg qV) rfl fun H1 l1=> ?_;refine d4 ?_;refine r9 (p:=(bdE n wl lo hi ds≠0)) (bN _ _) (fun h0=> ?_) fun h0=> ?_
 ·exact g8 rfl ⟨l1,by rw[if_pos h0];rfl⟩
 ·have h0:=aP h0;rw[if_neg (fun h=>h h0)];refine d4 ?_;refine i0 (b:=decide (((n:Nat):Int)>12)) rfl (fun h1=> ?_) (fun h1=> ?_)
  ·replace h1:=oDt h1;exact g8 rfl ⟨l1,by rw[if_pos (by omega)];rfl⟩
  ·replace h1:=oDf h1;rw[if_neg (by omega)];have hb:=Rx h0;refine He (jj rfl) rfl ?_;refine Ee (cs:= #[.nilFunc]) (by kernel_rfl) fun b qZ=> ?_;refine Oq (u:=ns (chv wts lo hi ds n w)) SY rfl rfl rfl (PH.put_self _ _ _) (by simp) rfl rfl rfl (fun h=>(nomatch h)) ?_;rw[PH.put_put];have qR:=PH.put_self H1 b (.cells #[ns (chv wts lo hi ds n w)] 138 (0,0));refine He (La (vs:=[.pointer (some ⟨b,0,none⟩)]) rfl rfl) rfl ?_;refine x9 (c4A (caps:=[.pointer (some ⟨b,0,none⟩)]) (q:=fun s=> !y8 n es wl lo hi ds (cont s)) ((hu.mono l1).mono (PH.le_put qZ _)) c4B (fun H' x pP hx=>b9D ((Chn.mono ⟨hT,hw,hg,qV,hb.1,hb.2.2.2.2.2⟩ l1).mono ((PH.le_put qZ _).trans pP)) (pP _ _ qR) ((hp x hx).mono (l1.trans ((PH.le_put qZ _).trans pP))))) rfl fun H3 l3=> ?_;have a6m:(l.map cont).any (fun p=> !y8 n es wl lo hi ds p)=l.any (fun s=> !y8 n es wl lo hi ds (cont s)):=by rw[List.any_map];rfl
   rw[a6m];refine d4 ?_;refine i0 (b:=(l.any fun s=> !y8 n es wl lo hi ds (cont s))) rfl (fun hq=> ?_) (fun hq=> ?_)
   ·skip
    exact g8 rfl ⟨l1.trans ((PH.le_put qZ _).trans l3),by rw[if_pos hq];rfl⟩
   ·skip
    exact g8 rfl ⟨l1.trans ((PH.le_put qZ _).trans l3),by rw[if_neg (by rw[hq];simp)];rfl⟩
theorem TA {q:List Int} (h1:SI H u p) (h2:SI H u q):p=q:=by
 obtain⟨a1,a,c,e1,b1,c1,d1⟩:=h1;obtain⟨a2,a',c',e2,b2,c2,d2⟩:=h2;rw[e1]at e2
 injection e2 with e3 e4 e5
 have hm:∀l:List Int,(l.flatMap fun z:Int=>[ii z])=l.map ii:=fun l=>by
  induction l with
  |nil=>rfl
  |cons a l ih=>rw[cY,ih];rfl
 rcases d1 with d1|⟨b,o,cs,T,fz,f1,f2,f3⟩
 ·rw[aZ d1,aZ (l:=q) (by omega)]
 ·rcases d2 with d2|⟨b',o',cs',T',fz',g1,g2,g3⟩
  ·rw[aZ d2,aZ (l:=p) (by omega)]
  ·rw[<-e3,f1]at g1
   injection g1 with g1
   injection g1 with g4 g5
   subst g4 g5;rw[f2]at g2
   injection g2 with g2
   injection g2 with g2
   subst g2;rw[e4]at f3;have h:=f3.symm.trans g3;rw[hm,hm]at h;exact(List.map_inj_right (f:=ii) fun x y h=>by injection h).1 h
theorem TB {k:Nat} (h:Ak p k):k<=p.length:=by
 have:=ai (l:=(List.range k).map fun d:Nat=>(d:Int)) (m:=p) (by
  rw[List.nodup_iff_pairwise_ne,List.pairwise_map];exact fJ.imp fun h e=>h (by omega)) fun x hx=>by
  obtain⟨d,hd,rfl⟩:=aH.1 hx;exact mask_mem2.1 (h d (List.mem_range.1 hd))
 simpa using this
theorem TC:∀w,(zeroValue 118).run prog w= .ok (.agg #[.bool false,.slice none 0 0,.bool false,.slice none 0 0]) w:=fun w=>by
 rfl
theorem TD {l:List (List Int)} (h:smE n es wl lo hi ds l=0):bdE n wl lo hi ds=0/\n<=12/\∀p∈l,y8 n es wl lo hi ds p=true:=by
 unfold smE at h;split at h
 ·rename_i h1;exact absurd h h1
 ·rename_i h1;split at h
  ·cases h
  ·rename_i h2;split at h
   ·cases h
   ·rename_i h3;refine⟨aP h1,by omega,fun p hp=> ?_⟩;cases hf:y8 n es wl lo hi ds p with
    |true=>rfl
    |false=>exact absurd (kJ.2 ⟨p,hp,by rw[hf];rfl⟩) h3
theorem nu (h:y8 n es wl lo hi ds p=true):∃k:Nat,ds=(k:Int)/\1<=k/\k<=8/\p.length=n/\LabOk p (k:Nat)/\Ak p k/\k<=n:=by
 unfold y8 at h;rw[aF,decide_eq_true_eq]at h;obtain⟨h1,h2,h3,h4,h5⟩:=xy h.1;obtain⟨k,rfl⟩:∃k:Nat,ds=(k:Int):=⟨ds.toNat,by omega⟩;rw[bB]at h5;exact⟨k,rfl,by omega,by omega,h3,h4,h5,h3 ▸ TB h5⟩
theorem TE {L:List (List Int×Rat)} {k:List Int} (h:k∉L.map (·.1)):vO L k=0:=by
 have:L.find? (fun x=>decide (x.1=k))=none:=List.find?_eq_none.2 fun x hx hk=>h (aH.2 ⟨x,hx,by simpa using hk⟩);unfold vO;rw[this];rfl
noncomputable def goQ (es:List (Nat×Nat)) (wl:List Int) (lo hi:Int) (n k:Nat) (p q:List Int):Rat:=vO (Ba es wl lo hi n k (n8 p)) (m7 (n8 q))
noncomputable def goR (n:Nat) (es:List (Nat×Nat)) (wl:List Int) (lo hi ds:Int) (p q:List Int):Value:=if smE n es wl lo hi ds [p,q]≠0 then .tuple #[shv 0 0,ii (smE n es wl lo hi ds [p,q])]else Fz (goQ es wl lo hi n ds.toNat p q)
theorem TF (r:Rat):∃(n d:Nat) (e:Int),Fz r= .tuple #[shv n d,ii e]:=by
 unfold Fz;split
 ·exact⟨_,_,0,rfl⟩
 ·exact⟨_,_,6,rfl⟩
theorem Wy {k:Nat}:((Ba es wl lo hi n k p).map (·.1)).Nodup:=by
 unfold Ba;split
 ·exact QY AX _ _
 ·exact AX
theorem TG {V:List (List Int×Value)} {L:List (List Int×Rat)} {κ:List Int} (sJ:(L.map (·.1)).Nodup) (wW:V.map (·.1)=L.map (·.1)) (hrp:∀k v q,(k,v)∈V->(k,q)∈L->Rp H v q):
  ∃b x,((b=false/\x= .agg #[.bool false,.slice none 0 0,.bool false,.slice none 0 0]/\κ∉V.map (·.1))\/(b=true/\(κ,x)∈V))/\(x.cells.size=4/\s8 x.cells)/\(b=true->Rp H x (vO L κ))/\(b=false->vO L κ=0):=by
 by_cases h:κ∈V.map (·.1)
 ·obtain⟨⟨k,x⟩,hx,rfl⟩:=aH.1 h;have h':=h;rw[wW]at h';obtain⟨⟨k',q⟩,hq,e⟩:=aH.1 h';simp only at e;subst e;have hr:=hrp _ _ _ hx hq;exact⟨true,x,.inr ⟨rfl,hx⟩,hr.rq,fun _=>by rw[Tj sJ hq];exact hr,fun h=>by cases h⟩
 ·refine⟨false,_,.inl ⟨rfl,rfl,h⟩,⟨rfl,fun c hc=> ?_⟩,fun h=>(by cases h),fun _=>TE (by rw[<-wW];exact h)⟩;simp[Value.cells]at hc;rcases hc with rfl|rfl|rfl|rfl<;>rfl
theorem BN {q:List Int} (hT:Tb H) (hw:SG H w es) (hg:GV n es) (qV:SI H wts wl) (hu:SI H u p) (hv:SI H v q):Con prog 16 [gv n w,bv wts lo hi ds,u,v] H fun r H'=>PH.le H H'/\r=goR n es wl lo hi ds p q:=by
 refine j3 mixed d7k ?_;obtain⟨s1,rfl⟩:=Jg hu;obtain⟨s2,rfl⟩:=Jg hv;have hcp:∀s∈[s1,s2],SI H (vs s) (if s=s1 then p else q):=fun s hs=>by
  split
  ·rename_i h;subst h;exact hu
  ·rename_i h;rcases aL.1 hs with h1|h1
   ·exact absurd h1 h
   ·rw[List.mem_singleton.1 h1];exact hv
 have uW:[s1,s2].map (fun s=>if s=s1 then p else q)=[p,q]:=by
  show[if s1=s1 then p else q,if s2=s1 then p else q]=_;rw[if_pos rfl];split
  ·rename_i h;subst h;rw[TA hu hv]
  ·rfl
 unfold goR;refine d9 (Ap hw) ?_;refine d9 (Gs (Af qV) _ _ _) ?_;refine Hu Hl (N:=2) (l:=[s1,s2]) (vs:=[vs s1,vs s2]) rfl (by decide) (by decide) rfl rfl rfl fun v4 H1 l1 o1 _=> ?_;refine x9 (SZ (cont:=fun s=>if s=s1 then p else q) (hT.mono l1) (hw.mono l1) hg (qV.mono l1) o1.se (fun s hs=>(hcp s hs).mono l1)) rfl fun H2 l2=> ?_;rw[uW];refine d4 ?_;refine r9 (p:=(smE n es wl lo hi ds [p,q]≠0)) (bN _ _) (fun h0=> ?_) fun h0=> ?_
 ·exact g8 (congrArg (fun z=>Value.tuple #[z,ii (smE n es wl lo hi ds [p,q])]) gh) ⟨l1.trans l2,by rw[if_pos h0]⟩
 ·have h0:=aP h0;rw[if_neg (fun h=>h h0)];obtain⟨sH,wK,hft⟩:=TD h0;have hb:=Rx sH;obtain⟨k,rfl,tH,uN,qN,hL,hU,rQ⟩:=nu (hft p (.head _));obtain⟨k',qO,-,-,hql,hL',hU',-⟩:=nu (hft q (.tail _ (.head _)));obtain rfl:k=k':=by omega
  refine i6 (Wi (hu.mono (l1.trans l2)) ⟨fun x hx=>by have:=hL.1 x hx;omega,hL.2⟩) rfl ?_;rintro _ H3 ⟨l3,z,rfl,hz⟩;refine nmI ?_;refine i8 (i8 ?_);refine i6 (Wi (hv.mono ((l1.trans l2).trans l3)) ⟨fun x hx=>by have:=hL'.1 x hx;omega,hL'.2⟩) rfl ?_;rintro _ H4 ⟨l4,z2,rfl,yI⟩;refine nmI ?_;have l04:=((l1.trans l2).trans l3).trans l4;refine i8 (i8 ?_);refine i6 (RN (p:=n8 p) (k:=k) (lo:=lo) (hi:=hi) ⟨hT.mono l04,hw.mono l04,hg,qV.mono l04,hb.1,hb.2.2.2.2.2⟩ (hz.se.mono l4) wK rQ (by rw[Ft];exact qN) tH uN (Sz hL hU) (Wg hL hU)) rfl ?_;rintro v8 H5 ⟨l5,m5⟩;refine nmI ?_;refine i6 (Wp (yI.se.mono l5) (by rw[Ft];omega)) rfl ?_;rintro _ H6 ⟨l6,rfl⟩;refine nmI ?_;have hqz:∀z∈n8 q,0<=z/\z<9223372036854775808:=fun z hz=>by have:=(Sz hL' hU').1 z hz;omega
  obtain⟨V,uJ,wW,hrp⟩:=m5.mono l6;obtain⟨b,x,wU,sZ,rR,yL⟩:∃b x,((b=false/\x= .agg #[.bool false,.slice none 0 0,.bool false,.slice none 0 0]/\m7 (n8 q)∉V.map (·.1))\/(b=true/\(m7 (n8 q),x)∈V))/\(x.cells.size=4/\s8 x.cells)/\(b=true->Rp H6 x (goQ es wl lo hi n k p q))/\(b=false->goQ es wl lo hi n k p q=0):=TG (L:=Ba es wl lo hi n k (n8 p)) Wy wW hrp;refine r7 (QM ar (vs:=[v8,kV (m7 (n8 q))]) (ok2:=true) (k:=m7 (n8 q)) (u:=x) (b:=b) rfl rfl rfl Ws (au (by rw[Ft];omega) hqz) TC uJ.mk wU) rfl ?_;refine i8 (i8 ?_);refine d9 sZ ?_;refine d4 ?_;refine i0 (b:=b) rfl (fun qZ=> ?_) (fun qZ=> ?_)
  ·skip
   refine i6 (gi (rR qZ)) (z8 (Wq (rR qZ))) ?_;rintro u7 H7 ⟨l7,hu7⟩;refine nmI ?_;obtain⟨a7,d7,e7,ht7⟩:=TF (goQ es wl lo hi n k p q);rw[ht7]at hu7;subst hu7;refine i8 (i8 ?_);refine d9 (Dz a7 d7) ?_;exact g8 rfl ⟨(l04.trans (l5.trans l6)).trans l7,by rw[bB,ht7];rfl⟩
  ·skip
   refine i6 (AQ 0 (by omega) (by omega)) rfl ?_;rintro v9 H7 ⟨l7,q7⟩;refine nmI ?_;refine i6 (gi q7) rfl ?_;rintro u8 H8 ⟨l8,hu8⟩;refine nmI ?_;obtain⟨a7,d7,e7,ht7⟩:=TF 0;rw[show((0:Int):Rat)=0 from rfl,ht7]at hu8;subst hu8;refine i8 (i8 ?_);refine d9 (Dz a7 d7) ?_;exact g8 rfl ⟨((l04.trans (l5.trans l6)).trans l7).trans l8,by rw[bB,yL qZ,ht7];rfl⟩
end
end Go.Proofs.Z

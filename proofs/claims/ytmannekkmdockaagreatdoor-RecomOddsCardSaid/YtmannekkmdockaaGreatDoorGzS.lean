/- Lemmas: chapter 32. -/
import Derived.Test.YtmannekkmdockaaGreatDoorGsZ
import Derived.Shelf.SlGeneric
import Derived.Ground.SlsfProg
import Derived.Shelf.SlSortCmp.Whole1
open Bool renaming true_and->jS
open List renaming any_eq_true->jV,foldl_cons->fV,length_eq_zero_iff->lV,nodup_range->iD,sum_cons->kM
open Nat renaming and_assoc->pD,and_self->mM,or_eq_zero_iff->nQ,testBit_div_two_pow->mA,testBit_two_pow_mul->lZ
open Prod renaming ext->nH,fst->pR,mk->oZ
namespace Go.Z
open Proofs.Tryz RowKit RX GS RZ
open WD (BP Bt wd rs toI HM sgI Rb)
theorem d8J {part rest x k:Nat} (hk:bit part k=true) (hl:∀j,j<k->bit part j=false) (hp:part&&&rest=part) (hx:x&&&rest=x) (pX:x<part):x<=(part-1)&&&rest:=by
 have hs:=LI hk hl;have qF:∀y,bit part y=true->bit rest y=true:=fun y hy=>by
  have:bit (part&&&rest) y=true:=by rw[hp];exact hy
  rw[Gl,bA]at this;exact this.2
 have hxr:∀y,bit x y=true->bit rest y=true:=fun y hy=>by
  have:bit (x&&&rest) y=true:=by rw[hx];exact hy
  rw[Gl,bA]at this;exact this.2
 have hq:∀y,bit (2^(k+1)*(part/2^(k+1))) y=(decide (k+1<=y)&&bit part y):=fun y=>by
  unfold bit;rw[lZ,mA];by_cases h:k+1<=y
  ·rw[oDd h];simp only[jS];congr 1;omega
  ·rw[decide_eq_false h];simp
 have pY:2^(k+1)*(part/2^(k+1))<=(part-1)&&&rest:=sub_le fun y hy=>by
  rw[hq,bA,oDi]at hy;rw[Gl,jz hk hl,if_neg aA,if_neg aA,hy.2,qF y hy.2];rfl
 generalize hQ:part/2^(k+1)=q at hs hq pY;have uA:2^(k+1)=2^k*2:=Nat.pow_succ ..;have rO:=Nat.two_pow_pos k;have h1:x/2^k<2*q+1:=by
  rw[Nat.div_lt_iff_lt_mul rO];have:(2*q+1)*2^k=2^(k+1)*q+2^k:=by rw[uA];grind
  omega
 by_cases e:x/2^k=2*q
 ·refine sub_le fun y hy=> ?_;rw[Gl,jz hk hl,hxr y hy,Bool.and_true];by_cases h2:y<k
  ·rw[if_pos h2]
  ·have h3:bit (2^(k+1)*q) y=true:=by
    have e2:2^(k+1)*q=2^k*(x/2^k):=by rw[e,uA];grind
    rw[e2];unfold bit;rw[lZ,mA,oDd (show y≥k by omega),jS];have:y-k+k=y:=aA;rw[this];exact hy
   rw[hq,bA,oDi]at h3;rw[if_neg h2,if_neg aA];exact h3.2
 ·have h2:x/2^k+1<=2*q:=aA;have h3:=Nat.lt_mul_div_succ x rO;have h4:2^k*(x/2^k+1)<=2^k*(2*q):=cE _ h2;have e2:2^(k+1)*q=2^k*(2*q):=by rw[uA];grind
  omega
theorem d5C {s:Nat} (h0:s≠0):∃k,bit s k=true/\∀j,j<k->bit s j=false:=by
 obtain⟨x,hx⟩:=TU h0;have:∀m,(∃k,k<m/\bit s k=true)->∃k,bit s k=true/\∀j,j<k->bit s j=false:=by
  intro m;induction m with
  |zero=>rintro⟨k,h,_⟩;omega
  |succ m ih=>
   rintro⟨k,h1,h2⟩;by_cases h:∃k,k<m/\bit s k=true
   ·exact ih h
   ·refine⟨k,h2,fun j hj=> ?_⟩;cases hb:bit s j with
    |false=>rfl
    |true=>exact absurd ⟨j,aA,hb⟩ h
 exact this (x+1) ⟨x,aA,hx⟩
theorem TY {rest least:Nat}:∀{n part x:Nat},part&&&rest=part->x&&&rest=x->x<part->part<=n->(x|||least)∈Hj rest least n part
 |0,part,x,_,_,h,hn=>by omega
 |n+1,part,x,hp,hx,h,hn=>by
  have h0:part≠0:=aA;obtain⟨k,hk,hl⟩:=d5C h0;have wB:=d8J hk hl hp hx h;have pY:(part-1)&&&rest<=part-1:=Nat.and_le_left;unfold Hj;rw[if_neg h0,aP];by_cases e:x=(part-1)&&&rest
  ·exact .inl (by rw[e])
  ·exact .inr (TY (by rw[pD,mM]) hx aA aA)
theorem TZ {rest least:Nat} (hd:least&&&rest=0):∀{n part:Nat},(Hj rest least n part).Nodup
 |0,_=>dG
 |n+1,part=>by
  unfold Hj;split
  ·exact dG
  ·refine List.nodup_cons.2 ⟨fun h=> ?_,TZ hd⟩;obtain⟨x,h1,h2,h3⟩:=BX h;have f:∀y,y&&&rest=y->(y|||least)&&&rest=y:=fun y hy=>by rw[Nat.and_or_distrib_right,hy,hd,Nat.or_zero]
   have e1:=f _ (show((part-1)&&&rest)&&&rest=(part-1)&&&rest by rw[pD,mM]);rw[h3,f x h1]at e1;omega
theorem c5F {S:Nat}:Bh S&&&sdf S (Bh S)=0:=Ao fun y=>by
 rw[Gl,z6,Dc];cases bit (Bh S) y<;>simp
theorem CO (S:Nat):(Aj S).Nodup:=TZ c5F
theorem c5G {S a:Nat} (hs:S<M64) (h0:S≠0) (qT:∀y,bit a y=true->bit S y=true) (hl:bit a (lst S)=true) (qC:a≠S):a∈Aj S:=by
 obtain⟨m,r,he,hm,_,_⟩:=Jm hs h0;have hL:Bh S=2^m:=kf hs he;have hlm:lst S=m:=by unfold lst;rw[he];rfl
 unfold Aj;rw[hL];rw[hlm]at hl;have e:a=sdf a (2^m)|||2^m:=Ao fun y=>by
  rw[Ac,z6,Ah];by_cases hy:m=y
  ·subst hy;simp[hl]
  ·simp[hy]
 have hr:sdf a (2^m)&&&sdf S (2^m)=sdf a (2^m):=Ao fun y=>by
  rw[Gl,z6,z6];cases ha:bit a y with
  |true=>rw[qT y ha];simp
  |false=>simp
 have pY:sdf a (2^m)<=sdf S (2^m):=sub_le fun y hy=>by
  rw[z6]at hy⊢;simp only[bA]at hy⊢;exact⟨qT y hy.1,hy.2⟩
 have pX:sdf a (2^m)<sdf S (2^m):=by
  rcases dV (sdf a (2^m)) (sdf S (2^m))with h|h
  ·exact h
  ·refine absurd ?_ qC;have e3:sdf a (2^m)=sdf S (2^m):=aA;refine Ao fun y=> ?_;by_cases hy:m=y
   ·subst hy;rw[hl,hm]
   ·have h4:bit (sdf a (2^m)) y=bit (sdf S (2^m)) y:=by rw[e3]
    rw[z6,z6,Ah]at h4;simpa[hy]using h4
 rw[e];exact TY (mM _) hr pX aA
noncomputable def Wq (L M:List (List Int×Rat)):List (List Int×Rat):=M.foldl (fun L x=>Cb L x.1 x.2) L
theorem UA:∀{M L:List (List Int×Rat)},((L++M).map (·.1)).Nodup->Wq L M=L++M
 |[],L,_=>by simp[Wq]
 |x::M,L,h=>by
  have h1:Cb L x.1 x.2=L++[x]:=by
   unfold Cb;rw[if_neg];rw[aT,cQ]at h;exact fun hx=>h.2.2 _ hx x.1 aD rfl
  have h2:=UA (M:=M) (L:=L++[x]) (by rw[bH];exact h);show M.foldl _ (Cb L x.1 x.2)=_;rw[h1];rw[bH]at h2;exact h2
section
variable {es:List (Nat×Nat)} {wl:List Int} {lo hi:Int} {n k m:Nat} {p:List Int}
noncomputable def Ld (es:List (Nat×Nat)) (wl:List Int) (lo hi:Int) (p:List Int) (pr:Nat×Nat) (a:Nat):Bool:=alB es wl lo hi a&&(alB es wl lo hi (sdf (unP p pr) a)&& !decide (j5 p=j5 (Ad p pr a)))
noncomputable def Gu (es:List (Nat×Nat)) (n m:Nat) (p:List Int) (pr:Nat×Nat) (a:Nat):Rat:=(((tN es a:Int):Rat)*((tN es (sdf (unP p pr) a):Int):Rat))/Lc es n m (unP p pr)
noncomputable def Cm (es:List (Nat×Nat)) (wl:List Int) (lo hi:Int) (p:List Int) (pr:Nat×Nat):List Nat:=if tN es (unP p pr)=0 then[]else(Aj (unP p pr)).filter (Ld es wl lo hi p pr)
noncomputable def Ei (es:List (Nat×Nat)) (wl:List Int) (lo hi:Int) (k:Nat) (p:List Int):List ((Nat×Nat)×Nat):=(i0 k).flatMap fun pr=>(Cm es wl lo hi p pr).map fun a=>(pr,a)
noncomputable def Ti (es:List (Nat×Nat)) (n m:Nat) (p:List Int) (x:(Nat×Nat)×Nat):List Int×Rat:=(j5 (Ad p x.1 x.2),Gu es n m p x.1 x.2)
theorem UB (pr:Nat×Nat):∀(l:List Nat) (L:List (List Int×Rat)),l.foldl (Gf es wl lo hi n m p pr) L=Wq L ((l.filter (Ld es wl lo hi p pr)).map fun a=>Ti es n m p (pr,a))
 |[],L=>rfl
 |a::l,L=>by
  rw[fV,UB pr l];unfold Gf;have hh:(Ld es wl lo hi p pr a=true)↔(alB es wl lo hi a=true/\alB es wl lo hi (sdf (unP p pr) a)=true/\j5 p≠j5 (Ad p pr a)):=by
   unfold Ld;simp
  by_cases h:Ld es wl lo hi p pr a=true
  ·rw[if_pos (hh.1 h),dY h];rfl
  ·rw[if_neg (mt hh.2 h),dD h]
theorem c0r:Bc es wl lo hi n k p=Wq [] ((Ei es wl lo hi k p).map (Ti es n (i0 k).length p)):=by
 unfold Bc Ei;generalize (i0 k).length=m;have:∀(l:List (Nat×Nat)) (L:List (List Int×Rat)),l.foldl (Eh es wl lo hi n m p) L=Wq L ((l.flatMap fun pr=>(Cm es wl lo hi p pr).map fun a=>(pr,a)).map (Ti es n m p)):=by
  intro l;induction l with
  |nil=>intro L;rfl
  |cons pr l ih=>
   intro L;rw[fV,ih,eA,aT];unfold Wq;rw[dZ];congr 1;unfold Eh Cm;split
   ·rfl
   ·rw[UB,cZ];rfl
 exact this _ _
theorem CP (hL:LabOk p (k:Nat)) (hU:Ai p k) (qS:p.length=n) (hn:n<=64) {pr:Nat×Nat} (qF:pr∈i0 k) {a:Nat} (ha:a∈Aj (unP p pr)):Prt p k pr.1 pr.2 a/\bit a (lst (unP p pr))=true:=by
 have zP:=Su qF;have hS:=Wp qS hn pr;have hS0:unP p pr≠0:=fun e=>hU pr.1 aA (by unfold unP at e;exact(nQ.1 e).1);obtain⟨h1,h2,h3⟩:=Qh (By hn hS) hS0 ha;obtain⟨⟨a0,a2⟩,s0,s2⟩:=Tf hS hn hS0 ha;exact⟨⟨hL,hU,zP.1,zP.2,h1,a0,s0⟩,h2⟩
theorem idx_mem {x:(Nat×Nat)×Nat}:x∈Ei es wl lo hi k p↔x.1∈i0 k/\x.2∈Aj (unP p x.1)/\tN es (unP p x.1)≠0/\alB es wl lo hi x.2=true/\alB es wl lo hi (sdf (unP p x.1) x.2)=true/\j5 p≠j5 (Ad p x.1 x.2):=by
 unfold Ei;rw[List.mem_flatMap];constructor
 ·rintro⟨pr,qF,h⟩;obtain⟨a,ha,rfl⟩:=aY.1 h;unfold Cm at ha;split at ha
  ·cases ha
  ·rename_i h0;obtain⟨h1,h2⟩:=bT.1 ha;unfold Ld at h2;simp only[bA,Bool.not_eq_true',decide_eq_false_iff_not]at h2;exact⟨qF,h1,h0,h2.1,h2.2.1,h2.2.2⟩
 ·rintro⟨h1,h2,h3,h4,h5,h6⟩;refine⟨x.1,h1,aY.2 ⟨x.2,?_,rfl⟩⟩;unfold Cm;rw[if_neg h3,bT];unfold Ld;simp[h2,h4,h5,h6]
theorem d5E (i j:Nat):(Gq i j).Nodup:=by
 unfold Gq;exact Sv iD fun x _ y _ h=>by have:=(oZ.inj h).2;omega
theorem d5F (k:Nat):(i0 k).Nodup:=by
 unfold i0 prI;refine Vw pR iD (fun a _=>d5E a k) fun a _ y hy=> ?_;unfold Gq at hy;obtain⟨d,_,rfl⟩:=aY.1 hy;rfl
theorem d8K:(Ei es wl lo hi k p).Nodup:=by
 unfold Ei;refine Vw pR (d5F k) (fun pr _=>Sv ?_ fun x _ y _ h=>(oZ.inj h).2) fun pr _ y hy=> ?_
 ·unfold Cm;split
  ·exact dG
  ·exact(CO _).filter _
 ·obtain⟨d,_,rfl⟩:=aY.1 hy;rfl
theorem bg (pr:Nat×Nat) (a:Nat):(Ad p pr a).length=p.length:=by unfold Ad;rw[Fe,Ir]
theorem d5G (hL:LabOk p (k:Nat)) (hU:Ai p k) (hc:j6 p=p) (qS:p.length=n) (hn:n<=64) {x y:(Nat×Nat)×Nat} (hx:x.1∈i0 k/\x.2∈Aj (unP p x.1)) (hy:y.1∈i0 k/\y.2∈Aj (unP p y.1)) (qC:p≠Ad p x.1 x.2) (he:Ad p x.1 x.2=Ad p y.1 y.2):x=y:=by
 obtain⟨p1,b1⟩:=CP hL hU qS hn hx.1 hx.2;obtain⟨p2,b2⟩:=CP hL hU qS hn hy.1 hy.2;obtain⟨h1,h2,h3⟩:=p1.uniq p2 (by rw[hc];exact fun e=>qC e.symm) he b1 b2 (fun e=>by unfold unP;rw[e]);exact nH (nH h1 h2) h3
theorem UC (hL:LabOk p (k:Nat)) (hU:Ai p k) (hc:j6 p=p) (qS:p.length=n) (hn:n<=64):(((Ei es wl lo hi k p).map (Ti es n m p)).map (·.1)).Nodup:=by
 rw[cZ];refine Sv d8K fun x hx y hy e=> ?_;obtain⟨x1,x2,_,_,_,x6⟩:=idx_mem.1 hx;obtain⟨y1,y2,_⟩:=idx_mem.1 hy;exact d5G hL hU hc qS hn ⟨x1,x2⟩ ⟨y1,y2⟩ (fun h=>x6 (by rw[<-h])) (BS (by rw[bg,bg]) e)
theorem CQ (hL:LabOk p (k:Nat)) (hU:Ai p k) (hc:j6 p=p) (qS:p.length=n) (hn:n<=64):Bc es wl lo hi n k p=(Ei es wl lo hi k p).map (Ti es n (i0 k).length p):=by
 rw[c0r,UA,cB];rw[cB];exact UC hL hU hc qS hn
end
set_option maxRecDepth 100000
section
variable {H:PH} {u v w wts:Value} {p p1 p2 wl:List Int} {n:Nat} {es:List (Nat×Nat)} {lo hi ds:Int} {l:List Slc}
theorem d0a {f:FuncId} {caps:List Value} {q:Slc->Bool} (hu:SE H 1 (fun s:Slc=>[vs s]) u l) (sJ:Da prog f=true) (hf:∀H' x,Pl H H'->x∈l->Ae prog f (vs x::caps) H' (.bool (q x))):Con prog 144 [u,.func (.func f) #[] caps.toArray] H fun r H'=>Pl H H'/\∃z:Int,r=ii z/\decide (z≥0)=l.any q:=by
 refine i9 mixed d3m ?_;have hl:=hu.len;refine j1 Ba hu ?_;refine s8 (α:=Nat×Int) (fun⟨i,p⟩=>[ii p,ii (i:Nat)]) (fun⟨i,p⟩=>fun H'=>i<=l.length/\Pl H H'/\(l.take i).any q=false) (fun⟨i,p⟩=>l.length-i) ((0,0)) rfl (⟨bI _,Pl.refl _,rfl⟩) fun⟨i,p⟩ H' hQ=> ?_;obtain⟨hi,l1,hq⟩:=hQ;refine d9 (d9 ?_);refine g7 (b:=decide (((i:Nat):Int)<(l.length:Nat))) rfl (fun h=> ?_) (fun h=> ?_)
 ·replace h:=oDt h;have qB:i<l.length:=aA;obtain⟨x,hx,tK⟩:=m7 qB;refine j4 Ba (hu.mono l1) hx fun _=> ?_;refine t7 (fy (f:=f) (caps:=caps.toArray) (vs:=[vs x]) rfl rfl rfl sJ (hf _ x l1 (aG hx))) rfl ?_;rintro _ H2 ⟨l2,rfl⟩;refine nmI ?_;refine d9 ?_;refine g7 (b:=q x) rfl (fun hqx=> ?_) (fun hqx=> ?_)
  ·skip
   exact g6 rfl ⟨l1.trans l2,_,rfl,by rw[jV.2 ⟨x,aG hx,hqx⟩];exact oDd aA⟩
  ·skip
   exact⟨(i+1,p),by show l.length-(i+1)<l.length-i;omega,(i7 rfl (i6 rfl aA)),⟨qB,l1.trans l2,by rw[take_snoc hx,List.any_append,hq];simp[hqx]⟩⟩
 ·replace h:=oDf h;rw[aF aA]at hq;exact g6 rfl ⟨l1,_,rfl,by rw[hq];rfl⟩
theorem c5I {f:FuncId} {caps:List Value} {q:Slc->Bool} (hu:SE H 1 (fun s:Slc=>[vs s]) u l) (sJ:Da prog f=true) (hf:∀H' x,Pl H H'->x∈l->Ae prog f (vs x::caps) H' (.bool (q x))):Ae prog 87 [u,.func (.func f) #[] caps.toArray] H (.bool (l.any q)):=by
 refine i9 mixed d3j ?_;refine g9 (d0a hu sJ hf) rfl ?_;rintro _ H1 ⟨l1,z,rfl,hz⟩;refine nmI ?_;refine d9 ?_;exact g6 rfl ⟨l1,hz ▸ rfl⟩
theorem d0b:Da prog 61=true:=aB
theorem c5J:Da prog 88=true:=aB
theorem UD:Sc prog 138:=⟨aB,aB,aB⟩
def py (c:Value):Value:= .func (.func 61) #[c] #[]
theorem c0s {b:Nat} {T:TypeId} (hc:Chn H n w wts es wl) (hb:H b=some (.cells #[py (chv wts lo hi ds n w)] T (0,0))) (hu:SI H u p):Ae prog 88 [u,.pointer (some ⟨b,0,none⟩)] H (.bool (!As n es wl lo hi ds p)):=by
 refine i9 mixed c8Z ?_;refine Bn UD rfl rfl hb rfl rfl ?_;refine t7 (Go.RZ.opn_callw (P:=prog) (ws:=[u]) (bs:= #[chv wts lo hi ds n w]) (caps:= #[]) (vs:=[py (chv wts lo hi ds n w),u]) rfl rfl rfl d0b (zi (lo:=lo) (hi:=hi) (ds:=ds) hc hu)) rfl ?_;rintro _ H2 ⟨l2,rfl⟩;refine nmI ?_;refine d9 ?_;exact g6 rfl ⟨l2,rfl⟩
noncomputable def smE (n:Nat) (es:List (Nat×Nat)) (wl:List Int) (lo hi ds:Int) (l:List (List Int)):Int:=if bdE n wl lo hi ds≠0 then bdE n wl lo hi ds else if 12<n then 3 else if l.any (fun p=> !As n es wl lo hi ds p)then 8 else 0
theorem UE {cont:Slc->List Int} (hT:Tb H) (hw:SG H w es) (hg:GV n es) (qO:SI H wts wl) (hu:SE H 1 (fun s:Slc=>[vs s]) v l) (hp:∀s∈l,SI H (vs s) (cont s)):Ae prog 46 [gv n w,bv wts lo hi ds,v] H (ii (smE n es wl lo hi ds (l.map cont))):=by
 refine i9 mixed d4d ?_;unfold smE;refine d4 (t8 hw) ?_;refine d4 (Cj (u0 qO) _ _ _) ?_;refine y9 (ly hw hg qO) rfl fun H1 l1=> ?_;refine d9 ?_;refine j8 (p:=(bdE n wl lo hi ds≠0)) (bN _ _) (fun h0=> ?_) fun h0=> ?_
 ·exact g6 rfl ⟨l1,by rw[if_pos h0];rfl⟩
 ·have h0:=bB h0;rw[if_neg (fun h=>h h0)];refine d9 ?_;refine g7 (b:=decide (((n:Nat):Int)>12)) rfl (fun h1=> ?_) (fun h1=> ?_)
  ·replace h1:=oDt h1;exact g6 rfl ⟨l1,by rw[if_pos aA];rfl⟩
  ·replace h1:=oDf h1;rw[if_neg aA];have hb:=Ni h0;refine Na (NK rfl) rfl ?_;refine Gm (cs:= #[.nilFunc]) aB fun b sD=> ?_;refine Zf (u:=py (chv wts lo hi ds n w)) UD rfl rfl rfl (PH.put_self _ _ _) aD rfl rfl rfl (fun h=>(nomatch h)) ?_;rw[PH.put_put];have rE:=PH.put_self H1 b (.cells #[py (chv wts lo hi ds n w)] 138 (0,0));refine Na (Rm (vs:=[.pointer (some ⟨b,0,none⟩)]) rfl rfl) rfl ?_;refine y9 (c5I (caps:=[.pointer (some ⟨b,0,none⟩)]) (q:=fun s=> !As n es wl lo hi ds (cont s)) ((hu.mono l1).mono (PH.le_put sD _)) c5J (fun H' x pY hx=>c0s ((Chn.mono ⟨hT,hw,hg,qO,hb.1,hb.2.2.2.2.2⟩ l1).mono ((PH.le_put sD _).trans pY)) (pY _ _ rE) ((hp x hx).mono (l1.trans ((PH.le_put sD _).trans pY))))) rfl fun H3 l3=> ?_;have a6b:(l.map cont).any (fun p=> !As n es wl lo hi ds p)=l.any (fun s=> !As n es wl lo hi ds (cont s)):=by rw[List.any_map];rfl
   rw[a6b];refine d9 ?_;refine g7 (b:=(l.any fun s=> !As n es wl lo hi ds (cont s))) rfl (fun hq=> ?_) (fun hq=> ?_)
   ·skip
    exact g6 rfl ⟨l1.trans ((PH.le_put sD _).trans l3),by rw[if_pos hq];rfl⟩
   ·skip
    exact g6 rfl ⟨l1.trans ((PH.le_put sD _).trans l3),by rw[if_neg (by rw[hq];simp)];rfl⟩
theorem UF {q:List Int} (h1:SI H u p) (h2:SI H u q):p=q:=by
 obtain⟨a1,a,c,e1,b1,c1,d1⟩:=h1;obtain⟨a2,a',c',e2,b2,c2,d2⟩:=h2;rw[e1]at e2
 injection e2 with e3 e4 e5
 have hm:∀l:List Int,(l.flatMap fun z:Int=>[ii z])=l.map ii:=fun l=>by
  induction l with
  |nil=>rfl
  |cons a l ih=>rw[eA,ih];rfl
 rcases d1 with d1|⟨b,o,cs,T,fz,f1,f2,f3⟩
 ·rw[aI d1,aI (l:=q) aA]
 ·rcases d2 with d2|⟨b',o',cs',T',fz',g1,g2,g3⟩
  ·rw[aI d2,aI (l:=p) aA]
  ·rw[<-e3,f1]at g1
   injection g1 with g1
   injection g1 with g4 g5
   subst g4 g5;rw[f2]at g2
   injection g2 with g2
   injection g2 with g2
   subst g2;rw[e4]at f3;have h:=f3.symm.trans g3;rw[hm,hm]at h;exact(List.map_inj_right (f:=ii) fun x y h=>by injection h).1 h
theorem CU {k:Nat} (h:Ai p k):k<=p.length:=by
 have:=Vu (l:=(List.range k).map fun d:Nat=>(d:Int)) (m:=p) (by
  rw[List.nodup_iff_pairwise_ne,List.pairwise_map];exact iD.imp fun h e=>h aA) fun x hx=>by
  obtain⟨d,hd,rfl⟩:=aY.1 hx;exact mask_mem2.1 (h d (bR.1 hd))
 simpa using this
theorem UG:∀w,(zeroValue 118).run prog w= .ok (.agg #[.bool false,.slice none 0 0,.bool false,.slice none 0 0]) w:=fun w=>by
 rfl
theorem pz {l:List (List Int)} (h:smE n es wl lo hi ds l=0):bdE n wl lo hi ds=0/\n<=12/\∀p∈l,As n es wl lo hi ds p=true:=by
 unfold smE at h;split at h
 ·rename_i h1;exact absurd h h1
 ·rename_i h1;split at h
  ·cases h
  ·rename_i h2;split at h
   ·cases h
   ·rename_i h3;refine⟨bB h1,aA,fun p hp=> ?_⟩;cases hf:As n es wl lo hi ds p with
    |true=>rfl
    |false=>exact absurd (jV.2 ⟨p,hp,by rw[hf];rfl⟩) h3
theorem Ws (h:As n es wl lo hi ds p=true):∃k:Nat,ds=(k:Int)/\1<=k/\k<=8/\p.length=n/\LabOk p (k:Nat)/\Ai p k/\k<=n:=by
 unfold As at h;rw[bA,decide_eq_true_eq]at h;obtain⟨h1,h2,h3,h4,h5⟩:=ze h.1;obtain⟨k,rfl⟩:∃k:Nat,ds=(k:Int):=⟨ds.toNat,aA⟩;rw[aV]at h5;exact⟨k,rfl,aA,aA,h3,h4,h5,h3 ▸ CU h5⟩
theorem Wt {L:List (List Int×Rat)} {k:List Int} (h:k∉L.map (·.1)):vO L k=0:=by
 have:L.find? (fun x=>decide (x.1=k))=none:=List.find?_eq_none.2 fun x hx hk=>h (aY.2 ⟨x,hx,by simpa using hk⟩);unfold vO;rw[this];rfl
noncomputable def goQ (es:List (Nat×Nat)) (wl:List Int) (lo hi:Int) (n k:Nat) (p q:List Int):Rat:=vO (Ap es wl lo hi n k (j6 p)) (j5 (j6 q))
noncomputable def goR (n:Nat) (es:List (Nat×Nat)) (wl:List Int) (lo hi ds:Int) (p q:List Int):Value:=if smE n es wl lo hi ds [p,q]≠0 then .tuple #[shv 0 0,ii (smE n es wl lo hi ds [p,q])]else Ee (goQ es wl lo hi n ds.toNat p q)
theorem bj (r:Rat):∃(n d:Nat) (e:Int),Ee r= .tuple #[shv n d,ii e]:=by
 unfold Ee;split
 ·exact⟨_,_,0,rfl⟩
 ·exact⟨_,_,6,rfl⟩
theorem Wu {k:Nat}:((Ap es wl lo hi n k p).map (·.1)).Nodup:=by
 unfold Ap;split
 ·exact TA CB _ _
 ·exact CB
theorem UH {V:List (List Int×Value)} {L:List (List Int×Rat)} {κ:List Int} (tM:(L.map (·.1)).Nodup) (yK:V.map (·.1)=L.map (·.1)) (hrp:∀k v q,(k,v)∈V->(k,q)∈L->Rp H v q):
  ∃b x,((b=false/\x= .agg #[.bool false,.slice none 0 0,.bool false,.slice none 0 0]/\κ∉V.map (·.1))\/(b=true/\(κ,x)∈V))/\(x.cells.size=4/\o0 x.cells)/\(b=true->Rp H x (vO L κ))/\(b=false->vO L κ=0):=by
 by_cases h:κ∈V.map (·.1)
 ·obtain⟨⟨k,x⟩,hx,rfl⟩:=aY.1 h;have h':=h;rw[yK]at h';obtain⟨⟨k',q⟩,hq,e⟩:=aY.1 h';simp only at e;subst e;have hr:=hrp _ _ _ hx hq;exact⟨true,x,.inr ⟨rfl,hx⟩,hr.rq,fun _=>by rw[Jr tM hq];exact hr,fun h=>by cases h⟩
 ·refine⟨false,_,.inl ⟨rfl,rfl,h⟩,⟨rfl,fun c hc=> ?_⟩,fun h=>(by cases h),fun _=>Wt (by rw[<-yK];exact h)⟩;simp[Value.cells]at hc;rcases hc with rfl|rfl|rfl|rfl<;>rfl
theorem qc {q:List Int} (hT:Tb H) (hw:SG H w es) (hg:GV n es) (qO:SI H wts wl) (hu:SI H u p) (hv:SI H v q):Con prog 16 [gv n w,bv wts lo hi ds,u,v] H fun r H'=>Pl H H'/\r=goR n es wl lo hi ds p q:=by
 refine i9 mixed d7C ?_;obtain⟨s1,rfl⟩:=Ec hu;obtain⟨s2,rfl⟩:=Ec hv;have hcp:∀s∈[s1,s2],SI H (vs s) (if s=s1 then p else q):=fun s hs=>by
  split
  ·rename_i h;subst h;exact hu
  ·rename_i h;rcases aP.1 hs with h1|h1
   ·exact absurd h1 h
   ·rw[aL.1 h1];exact hv
 have uC:[s1,s2].map (fun s=>if s=s1 then p else q)=[p,q]:=by
  show[if s1=s1 then p else q,if s2=s1 then p else q]=_;rw[if_pos rfl];split
  ·rename_i h;subst h;rw[UF hu hv]
  ·rfl
 unfold goR;refine d4 (t8 hw) ?_;refine d4 (Cj (u0 qO) _ _ _) ?_;refine Fp Ba (N:=2) (l:=[s1,s2]) (vs:=[vs s1,vs s2]) rfl aC aC rfl rfl rfl fun v4 H1 l1 o1 _=> ?_;refine y9 (UE (cont:=fun s=>if s=s1 then p else q) (hT.mono l1) (hw.mono l1) hg (qO.mono l1) o1.se (fun s hs=>(hcp s hs).mono l1)) rfl fun H2 l2=> ?_;rw[uC];refine d9 ?_;refine j8 (p:=(smE n es wl lo hi ds [p,q]≠0)) (bN _ _) (fun h0=> ?_) fun h0=> ?_
 ·exact g6 (congrArg (fun z=>Value.tuple #[z,ii (smE n es wl lo hi ds [p,q])]) Ph) ⟨l1.trans l2,by rw[if_pos h0]⟩
 ·have h0:=bB h0;rw[if_neg (fun h=>h h0)];obtain⟨sN,vQ,hft⟩:=pz h0;have hb:=Ni sN;obtain⟨k,rfl,vM,uM,qS,hL,hU,rX⟩:=Ws (hft p (.head _));obtain⟨k',qY,-,-,hql,hL',hU',-⟩:=Ws (hft q (.tail _ (.head _)));obtain rfl:k=k':=aA;refine g9 (oh (hu.mono (l1.trans l2)) ⟨fun x hx=>by have:=hL.1 x hx;omega,hL.2⟩) rfl ?_;rintro _ H3 ⟨l3,z,rfl,hz⟩;refine nmI ?_;refine i8 (i8 ?_);refine g9 (oh (hv.mono ((l1.trans l2).trans l3)) ⟨fun x hx=>by have:=hL'.1 x hx;omega,hL'.2⟩) rfl ?_;rintro _ H4 ⟨l4,z2,rfl,uI⟩;refine nmI ?_;have l04:=((l1.trans l2).trans l3).trans l4;refine i8 (i8 ?_);refine g9 (TN (p:=j6 p) (k:=k) (lo:=lo) (hi:=hi) ⟨hT.mono l04,hw.mono l04,hg,qO.mono l04,hb.1,hb.2.2.2.2.2⟩ (hz.se.mono l4) vQ rX (by rw[Fe];exact qS) vM uM (ab hL hU) (ml hL hU)) rfl ?_;rintro v8 H5 ⟨l5,m5⟩;refine nmI ?_;refine g9 (Wj (uI.se.mono l5) (by rw[Fe];omega)) rfl ?_;rintro _ H6 ⟨l6,rfl⟩;refine nmI ?_;have hqz:∀z∈j6 q,0<=z/\z<9223372036854775808:=fun z hz=>by have:=(ab hL' hU').1 z hz;omega
  obtain⟨V,tV,yK,hrp⟩:=m5.mono l6;obtain⟨b,x,yJ,tX,rG,vY⟩:∃b x,((b=false/\x= .agg #[.bool false,.slice none 0 0,.bool false,.slice none 0 0]/\j5 (j6 q)∉V.map (·.1))\/(b=true/\(j5 (j6 q),x)∈V))/\(x.cells.size=4/\o0 x.cells)/\(b=true->Rp H6 x (goQ es wl lo hi n k p q))/\(b=false->goQ es wl lo hi n k p q=0):=UH (L:=Ap es wl lo hi n k (j6 p)) Wu yK hrp;refine j7 (SH ar (vs:=[v8,kV (j5 (j6 q))]) (ok2:=true) (k:=j5 (j6 q)) (u:=x) (b:=b) rfl rfl rfl Wm (au (by rw[Fe];omega) hqz) UG tV.mk yJ) rfl ?_;refine i8 (i8 ?_);refine d4 tX ?_;refine d9 ?_;refine g7 (b:=b) rfl (fun sD=> ?_) (fun sD=> ?_)
  ·skip
   refine g9 (jt (rG sD)) (z8 (Wl (rG sD))) ?_;rintro u7 H7 ⟨l7,wK⟩;refine nmI ?_;obtain⟨a7,d7,e7,wJ⟩:=bj (goQ es wl lo hi n k p q);rw[wJ]at wK;subst wK;refine i8 (i8 ?_);refine d4 (Dx a7 d7) ?_;exact g6 rfl ⟨(l04.trans (l5.trans l6)).trans l7,by rw[aV,wJ];rfl⟩
  ·skip
   refine g9 (BW 0 aA aA) rfl ?_;rintro v9 H7 ⟨l7,q7⟩;refine nmI ?_;refine g9 (jt q7) rfl ?_;rintro u8 H8 ⟨l8,hu8⟩;refine nmI ?_;obtain⟨a7,d7,e7,wJ⟩:=bj 0;rw[show((0:Int):Rat)=0 from rfl,wJ]at hu8;subst hu8;refine i8 (i8 ?_);refine d4 (Dx a7 d7) ?_;exact g6 rfl ⟨((l04.trans (l5.trans l6)).trans l7).trans l8,by rw[aV,vY sD,wJ];rfl⟩
end
end Go.Z
namespace Go.GS
theorem CV {α:Type} {f g:α->Nat}:∀{l:List α},(∀x∈l,f x<=g x)->(l.map f).sum<=(l.map g).sum
 |[],_=>by simp
 |a::l,h=>by
  rw[aN,aN,kM,kM];have:=h a aD;have:=CV (l:=l) fun x hx=>h x (by simp[hx]);omega
theorem UI {α:Type} {s:α->Rat} {c:Rat}:∀{l:List α},(∀x∈l,s x<=c)->sQ (l.map s)<=((l.length:Nat):Int)*c
 |[],_=>by simp only[bJ,sQ,bX];show(0:Rat)<=0*c;rw[Rat.zero_mul];exact Rat.le_refl
 |a::l,h=>by
  have h1:=h a aD;have h2:=UI (l:=l) fun x hx=>h x (by simp[hx]);simp only[aN,sQ,aO];rw[show(((l.length+1:Nat):Int):Rat)=((l.length:Nat):Int)+1 from by push_cast;rfl]
  grind
theorem Qi {α β:Type} {f:α->List β} {g:β->Rat}:∀l:List α,sQ ((l.flatMap f).map g)=sQ (l.map fun a=>sQ ((f a).map g))
 |[]=>rfl
 |a::l=>by
  rw[eA,aT,aw,aN,sQ,Qi l]
theorem UJ {α:Type} {f:α->Nat} {d:Rat}:∀l:List α,sQ (l.map fun a=>(((f a:Nat):Int):Rat)/d)=((((l.map f).sum:Nat):Int):Rat)/d
 |[]=>by simp only[bJ,sQ,List.sum_nil];rw[Rat.div_def];show(0:Rat)=0*_;rw[Rat.zero_mul]
 |a::l=>by
  simp only[aN,sQ,kM];rw[UJ l]
  push_cast
  rw[Rat.div_def,Rat.div_def,Rat.div_def,Rat.add_mul]
noncomputable def tn (es:List (Nat×Nat)) (S:Nat):Nat:=(trees es S).length
section
variable {es:List (Nat×Nat)} {S a:Nat}
theorem tn_tree:tn es S≠0↔∃t,TreeOk es S t:=by
 unfold tn;constructor
 ·intro h;obtain⟨t,ht⟩:=List.exists_mem_of_length_pos (Nat.pos_of_ne_zero h);exact⟨t,trees_mem.1 ht⟩
 ·rintro⟨t,ht⟩ e;have:=trees_mem.2 ht;rw[lV.1 e]at this;cases this
theorem CW (hs:S<M64) (h0:S≠0) (ht:tn es S≠0) (qT:∀y,bit a y=true->bit S y=true) (hl:bit a (lst S)=true) (qC:a≠S):0<Af es a (sdf S a):=by
 obtain⟨t,hT⟩:=tn_tree.1 ht;rw[<-PV];refine bB fun hc=>qC ?_;have hc:(crs es a (sdf S a))=[]:=aI aA;have wA:∀i∈t,btB a (sdf S a) (Ed es i)=false:=fun i hi=>by
  cases hb:btB a (sdf S a) (Ed es i)with
  |false=>rfl
  |true=>
   have ho:=hT.ok i hi;have:i∈crs es a (sdf S a):=crs_mem.2 ⟨ho.1,ho.2.1,hb⟩;rw[hc]at this;cases this
 have hr:∀y,Rch (etl es t) S (lst S) y->bit a y=true:=fun y hy=>by
  induction hy with
  |base=>exact hl
  |step _ ha hz ih=>
   obtain⟨e,he,h⟩:=ha;obtain⟨i,hi,rfl⟩:=Hm he;have hn:=wA i hi;have ho:=hT.ok i hi;unfold btB at hn;simp only[z6,ho.2.2.1,ho.2.2.2,jS]at hn;rcases h with⟨rfl,rfl⟩|⟨rfl,rfl⟩
   ·rw[ih]at hn;simpa using hn
   ·rw[ih]at hn;simpa using hn
 have rC:=(Np hT.inn).1 (hT.one hs h0);exact Ao fun y=>by
  rw[bC];exact⟨qT y,fun hy=>hr y (rC _ _ (Qa hs h0) hy)⟩
end
end Go.GS
namespace Go.Z
open Proofs.Tryz RowKit RX GS RZ
open WD (BP Bt wd rs toI HM sgI Rb)
section
variable {es:List (Nat×Nat)} {wl:List Int} {lo hi:Int} {n k m S a:Nat} {p:List Int}
theorem Ic (hs:S<M64) (h0:S≠0):tN es S=((tn es S:Nat):Int):=by
 unfold tN tn;rw[pg,RY,AY hs h0]
theorem bm (hs:S<M64) (h0:S≠0) (h:Cn es S):tn es S≠0:=fun e=>by
 have:=c9Q hs h0 h;have h2:=Ic (es:=es) hs h0;unfold tN at h2;omega
theorem d5H (hs:S<M64) (h0:S≠0) (h:tn es S≠0):Cn es S:=by
 obtain⟨t,hT⟩:=tn_tree.1 h;have rC:=(Np hT.inn).1 (hT.one hs h0);have hx:=Qa hs h0;refine⟨lst S,hx,fun y hy=>(rC _ _ hx hy).mono (fun e he=> ?_) fun z hz=>hz⟩;obtain⟨i,hi,rfl⟩:=Hm he;have ho:=(hT.ok i hi).2.1;unfold Ed;rw[aK,aJ ho];exact dS ho
structure PrO (p:List Int) (n k:Nat) (pr:Nat×Nat):Prop where
 s2:unP p pr<2^n
 sM:unP p pr<M64
 s0:unP p pr≠0
 cd:card (unP p pr)<=n
theorem CX (hU:Ai p k) (qS:p.length=n) (hn:n<=64) {pr:Nat×Nat} (qF:pr∈i0 k):PrO p n k pr:=by
 have zP:=Su qF;have hS:=Wp qS hn pr;exact⟨hS,By hn hS,fun e=>hU pr.1 aA (by unfold unP at e;exact(nQ.1 e).1),d4A hS hn⟩
theorem par_mem {pr:Nat×Nat}:a∈Cm es wl lo hi p pr↔tN es (unP p pr)≠0/\a∈Aj (unP p pr)/\alB es wl lo hi a=true/\alB es wl lo hi (sdf (unP p pr) a)=true/\j5 p≠j5 (Ad p pr a):=by
 unfold Cm;split
 ·rename_i h;simp[h]
 ·rename_i h;rw[bT];unfold Ld;simp[h]
theorem d8M {pr:Nat×Nat}:(Cm es wl lo hi p pr).Nodup:=by
 unfold Cm;split
 ·exact dG
 ·exact(CO _).filter _
theorem d5I {pr:Nat×Nat} (hP:PrO p n k pr) (ha:a∈Cm es wl lo hi p pr):tn es a*tn es (sdf (unP p pr) a)<=(Jq es (unP p pr) a).length:=by
 obtain⟨h1,h2,_⟩:=par_mem.1 ha;obtain⟨s1,s2,s3⟩:=Qh hP.sM hP.s0 h2;rw[PY hP.sM hP.s0 s1 s2,<-cY];have hb:=CW (es:=es) hP.sM hP.s0 (fun e=>h1 (by rw[Ic hP.sM hP.s0,e];rfl)) s1 s2 s3;exact Nat.le_mul_of_pos_right _ hb
theorem UK {pr:Nat×Nat} (hP:PrO p n k pr):((Cm es wl lo hi p pr).map fun a=>tn es a*tn es (sdf (unP p pr) a)).sum<=tn es (unP p pr)*(card (unP p pr)-1):=
 bD (CV fun a ha=>d5I hP ha) (d4T d8M)
noncomputable def prQ (es:List (Nat×Nat)) (wl:List Int) (lo hi:Int) (n m:Nat) (p:List Int) (pr:Nat×Nat):Rat:=sQ ((Cm es wl lo hi p pr).map (Gu es n m p pr))
theorem bq {pr:Nat×Nat} (hP:PrO p n k pr) (hn:n<=64) (ha:a∈Aj (unP p pr)):Gu es n m p pr a=(((tn es a*tn es (sdf (unP p pr) a):Nat):Int):Rat)/(((tn es (unP p pr)*((n-1)*m):Nat):Int):Rat):=by
 obtain⟨⟨a0,a2⟩,s0,s2⟩:=Tf hP.s2 hn hP.s0 ha;unfold Gu Lc;rw[Ic (By hn a2) a0,Ic (By hn s2) s0,Ic hP.sM hP.s0]
 push_cast
 rfl
theorem d8N {pr:Nat×Nat} (hP:PrO p n k pr) (hn:n<=64):prQ es wl lo hi n m p pr=(((((Cm es wl lo hi p pr).map fun a=>tn es a*tn es (sdf (unP p pr) a)).sum:Nat):Int):Rat)/(((tn es (unP p pr)*((n-1)*m):Nat):Int):Rat):=by
 unfold prQ;rw[<-UJ];congr 1;exact bW fun a ha=>bq hP hn (par_mem.1 ha).2.1
theorem Ie {x:Nat} (h:0<x):(0:Rat)<((x:Nat):Int):=by exact_mod_cast h
theorem d8O {pr:Nat×Nat} (hP:PrO p n k pr) (hn:n<=64) (hm:0<m):prQ es wl lo hi n m p pr<=1/(((m:Nat):Int):Rat):=by
 have tW:=Ie hm;by_cases h0:tn es (unP p pr)=0
 ·unfold prQ Cm;rw[if_pos (by rw[Ic hP.sM hP.s0,h0];rfl)];show(0:Rat)<=_;exact Rat.le_of_lt ((Rat.lt_div_iff tW).2 (by rw[Rat.zero_mul];decide))
 ·have h1:=UK (es:=es) (wl:=wl) (lo:=lo) (hi:=hi) hP;rw[d8N hP hn];generalize ((Cm es wl lo hi p pr).map fun a=>tn es a*tn es (sdf (unP p pr) a)).sum=N at h1;by_cases hd:n-1=0
  ·have hcd:=hP.cd;have hc:card (unP p pr)-1=0:=aA;rw[hc]at h1;have:N=0:=aA;subst this;rw[Rat.div_def];show(0:Rat)*_<=_;rw[Rat.zero_mul];exact Rat.le_of_lt ((Rat.lt_div_iff tW).2 (by rw[Rat.zero_mul];decide))
  ·have hD:0<tn es (unP p pr)*((n-1)*m):=eE aA (eE aA hm);have h2:N*m<=tn es (unP p pr)*((n-1)*m):=by
    have hcd:=hP.cd;have h3:tn es (unP p pr)*(card (unP p pr)-1)<=tn es (unP p pr)*(n-1):=cE _ aA;rw[<-cY];exact bL m (bD h1 h3)
   refine Rat.not_lt.1 fun pX=> ?_;rw[Rat.div_lt_iff tW,Rat.div_def,Rat.mul_assoc,Rat.mul_comm (_⁻¹),<-Rat.mul_assoc,<-Rat.div_def,Rat.lt_div_iff (Ie hD)]at pX;rw[Rat.one_mul]at pX;have:((tn es (unP p pr)*((n-1)*m):Nat):Int)<((N*m:Nat):Int):=by exact_mod_cast pX
   omega
noncomputable def Bq (es:List (Nat×Nat)) (wl:List Int) (lo hi:Int) (n k:Nat) (p:List Int):Rat:=sQ ((Bc es wl lo hi n k p).map (·.2))
theorem d8P (hL:LabOk p (k:Nat)) (hU:Ai p k) (hc:j6 p=p) (qS:p.length=n) (hn:n<=64):Bq es wl lo hi n k p=sQ ((i0 k).map fun pr=>prQ es wl lo hi n (i0 k).length p pr):=by
 unfold Bq;rw[CQ hL hU hc qS hn,cZ];unfold Ei;rw[Qi];congr 1;refine bW fun pr _=> ?_;rw[cZ];rfl
theorem UL {m:Nat} (h:0<m):(((m:Nat):Int):Rat)*(1/(((m:Nat):Int):Rat))=1:=by
 rw[Rat.div_def,Rat.one_mul,Rat.mul_inv_cancel];exact fun e=>by have:=Ie h;rw[e]at this;exact absurd this aC
theorem UM (hL:LabOk p (k:Nat)) (hU:Ai p k) (hc:j6 p=p) (qS:p.length=n) (hn:n<=64):Bq es wl lo hi n k p<=1:=by
 rw[d8P hL hU hc qS hn];rcases eC (i0 k).length with h|h
 ·rw[lV.1 h];show(0:Rat)<=1;decide
 ·have:=UI (l:=i0 k) (s:=fun pr=>prQ es wl lo hi n (i0 k).length p pr) fun pr qF=>d8O (CX hU qS hn qF) hn h
  rwa[UL h]at this
end
end Go.Z
namespace Go.Proofs
open Shelf
def Tryz.srtL_ren:Go.Shelf.Ren:=⟨fun|6=>48|15=>92|14=>91|28=>157|29=>117|20=>149|21=>150|22=>151|23=>152|24=>153|25=>154|26=>155|27=>156|46=>204|47=>205|48=>206|49=>207|50=>208|57=>241|n=>n,fun|22=>48|24=>33|25=>114|3=>3|39=>164|0=>0|53=>240|55=>54|4=>4|46=>234|45=>233|50=>141|5=>5|9=>9|66=>284|70=>288|76=>323|77=>103|n=>n,fun|n=>n⟩
theorem Tryz.srtL:Go.Proofs.SlLaysF.n6 prog Tryz.srtL_ren:={
 mixed:=aB
 f6:=⟨f48.name,aC,Tryz.func48.trans (congrArg some aB)⟩
 f14:=⟨f91.name,aC,Tryz.func91.trans (congrArg some aB)⟩
 f15:=Tryz.func92.trans (congrArg some aB)
 f20:=⟨f149.name,aC,Tryz.func149.trans (congrArg some aB)⟩
 f21:=⟨f150.name,aC,Tryz.func150.trans (congrArg some aB)⟩
 f22:=⟨f151.name,aC,Tryz.func151.trans (congrArg some aB)⟩
 f23:=⟨f152.name,aC,Tryz.func152.trans (congrArg some aB)⟩
 f24:=⟨f153.name,aC,Tryz.func153.trans (congrArg some aB)⟩
 f25:=⟨f154.name,aC,Tryz.func154.trans (congrArg some aB)⟩
 f26:=⟨f155.name,aC,Tryz.func155.trans (congrArg some aB)⟩
 f27:=⟨f156.name,aC,Tryz.func156.trans (congrArg some aB)⟩
 f28:=Tryz.func157.trans (congrArg some aB)
 f29:=Tryz.func117.trans (congrArg some aB)
 f46:=⟨f204.name,aC,Tryz.func204.trans (congrArg some aB)⟩
 f47:=Tryz.func205.trans (congrArg some aB)
 f48:=Tryz.func206.trans (congrArg some aB)
 f49:=⟨f207.name,aC,Tryz.func207.trans (congrArg some aB)⟩
 f50:=⟨f208.name,aC,Tryz.func208.trans (congrArg some aB)⟩
 f57:=⟨f241.name,aC,Tryz.func241.trans (congrArg some aB)⟩
 t0:=Tryz.underlying0
 a0:=Tryz.isAgg0
 z0:=Tryz.sizeOf0
 v0:=Tryz.zeroValue0
 t3:=Tryz.underlying3
 a3:=Tryz.isAgg3
 z3:=Tryz.sizeOf3
 v3:=Tryz.zeroValue3
 t4:=Tryz.underlying4
 a4:=Tryz.isAgg4
 z4:=Tryz.sizeOf4
 v4:=Tryz.zeroValue4
 t5:=Tryz.underlying5
 a5:=Tryz.isAgg5
 z5:=Tryz.sizeOf5
 v5:=Tryz.zeroValue5
 t9:=Tryz.underlying9
 a9:=Tryz.isAgg9
 z9:=Tryz.sizeOf9
 v9:=Tryz.zeroValue9
 t22:=Tryz.underlying48
 a22:=Tryz.isAgg48
 z22:=Tryz.sizeOf48
 v22:=Tryz.zeroValue48
 a24:=Tryz.isAgg33
 z24:=Tryz.sizeOf33
 t25:=Tryz.underlying114
 a25:=Tryz.isAgg114
 z25:=Tryz.sizeOf114
 v25:=Tryz.zeroValue114
 t39:=Tryz.underlying164
 a39:=Tryz.isAgg164
 z39:=Tryz.sizeOf164
 v39:=Tryz.zeroValue164
 t45:=Tryz.underlying233
 a45:=Tryz.isAgg233
 z45:=Tryz.sizeOf233
 v45:=Tryz.zeroValue233
 t46:=Tryz.underlying234
 a46:=Tryz.isAgg234
 z46:=Tryz.sizeOf234
 v46:=Tryz.zeroValue234
 t50:=Tryz.underlying141
 a50:=Tryz.isAgg141
 z50:=Tryz.sizeOf141
 v50:=Tryz.zeroValue141
 t53:=Tryz.underlying240
 a53:=Tryz.isAgg240
 z53:=Tryz.sizeOf240
 v53:=Tryz.zeroValue240
 t55:=Tryz.underlying54
 a55:=Tryz.isAgg54
 z55:=Tryz.sizeOf54
 v55:=Tryz.zeroValue54
 t66:=Tryz.underlying284
 a66:=Tryz.isAgg284
 z66:=Tryz.sizeOf284
 v66:=Tryz.zeroValue284
 t70:=Tryz.underlying288
 a70:=Tryz.isAgg288
 z70:=Tryz.sizeOf288
 v70:=Tryz.zeroValue288
 t76:=Tryz.underlying323
 a76:=Tryz.isAgg323
 z76:=Tryz.sizeOf323
 v76:=Tryz.zeroValue323
 t77:=Tryz.underlying103
 a77:=Tryz.isAgg103
 z77:=Tryz.sizeOf103
 v77:=Tryz.zeroValue103}
end Go.Proofs

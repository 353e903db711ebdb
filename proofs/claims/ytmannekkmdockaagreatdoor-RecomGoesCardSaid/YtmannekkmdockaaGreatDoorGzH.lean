/- Lemmas: chapter 32. -/
import Derived.Test.YtmannekkmdockaaGreatDoorGzG
import Derived.Shelf.SlGeneric
import Derived.Ground.SlsfProg
import Derived.Shelf.SlSortCmp.Whole1
open Array renaming getElem?_append_left->cO,getElem?_eq_getElem->fQ,getElem?_modify->lO,getElem?_toList->dY
open Classical renaming byContradiction->aP
open List renaming attach_map_subtype_val->kN,drop_eq_nil_of_le->dW,eq_nil_of_length_eq_zero->aZ,flatMap_cons->cY,getElem?_eq_none->aW,getElem?_take_of_lt->lD,length_cons->bA,length_eq_zero_iff->lI,length_pos_of_mem->lN,map_congr_left->jR,map_cons->aM,map_map->cC,map_nil->cL,mem_cons->aL,sum_cons->gB,toList_toArray->iK
open Nat renaming eq_zero_or_pos->kC,le_trans->aS,lt_of_le_of_lt->aY,lt_of_lt_of_le->bK,mul_assoc->cH,mul_le_mul_left->dA,mul_one->eS,mul_pos->fK,zero_le->bI
namespace Go.GS
theorem nw {α:Type} {f g:α->Nat}:∀{l:List α},(∀x∈l,f x<=g x)->(l.map f).sum<=(l.map g).sum
 |[],_=>by simp
 |a::l,h=>by
  rw[aM,aM,gB,gB];have:=h a (by simp);have:=nw (l:=l) fun x hx=>h x (by simp[hx]);omega
theorem TI {α:Type} {f g:α->Nat}:∀{l:List α},(∀x∈l,f x<=g x)->(∃x∈l,f x<g x)->(l.map f).sum<(l.map g).sum
 |[],_,h=>by obtain⟨x,hx,_⟩:=h;cases hx
 |a::l,h,hx=>by
  rw[aM,aM,gB,gB];have h1:=h a (by simp);have h2:=nw (l:=l) fun x hx=>h x (by simp[hx]);obtain⟨x,hx,pO⟩:=hx;rcases aL.1 hx with rfl|hx
  ·omega
  ·have:=TI (l:=l) (fun x hx=>h x (by simp[hx])) ⟨x,hx,pO⟩;omega
theorem BO {α:Type} {s:α->Rat} {c:Rat}:∀{l:List α},(∀x∈l,s x<=c)->sQ (l.map s)<=((l.length:Nat):Int)*c
 |[],_=>by simp only[cL,sQ,List.length_nil];show(0:Rat)<=0*c;rw[Rat.zero_mul];exact Rat.le_refl
 |a::l,h=>by
  have h1:=h a (by simp);have h2:=BO (l:=l) fun x hx=>h x (by simp[hx]);simp only[aM,sQ,bA];rw[show(((l.length+1:Nat):Int):Rat)=((l.length:Nat):Int)+1 from by push_cast;rfl]
  grind
theorem TJ {α:Type} {s:α->Rat} {c:Rat}:∀{l:List α},(∀x∈l,s x<=c)->(∃x∈l,s x<c)->sQ (l.map s)<((l.length:Nat):Int)*c
 |[],_,h=>by obtain⟨x,hx,_⟩:=h;cases hx
 |a::l,h,hx=>by
  have h1:=h a (by simp);have h2:=BO (l:=l) fun x hx=>h x (by simp[hx]);simp only[aM,sQ,bA];rw[show(((l.length+1:Nat):Int):Rat)=((l.length:Nat):Int)+1 from by push_cast;rfl];obtain⟨x,hx,pO⟩:=hx;rcases aL.1 hx with rfl|hx
  ·grind
  ·have:=TJ (l:=l) (fun x hx=>h x (by simp[hx])) ⟨x,hx,pO⟩
   grind
theorem TK {α β:Type} {f:α->List β} {g:β->Rat}:∀l:List α,sQ ((l.flatMap f).map g)=sQ (l.map fun a=>sQ ((f a).map g))
 |[]=>rfl
 |a::l=>by
  rw[cY,List.map_append,QW,aM,sQ,TK l]
theorem TL {α:Type} {f:α->Nat} {d:Rat}:∀l:List α,sQ (l.map fun a=>(((f a:Nat):Int):Rat)/d)=((((l.map f).sum:Nat):Int):Rat)/d
 |[]=>by simp only[cL,sQ,List.sum_nil];rw[Rat.div_def];show(0:Rat)=0*_;rw[Rat.zero_mul]
 |a::l=>by
  simp only[aM,sQ,gB];rw[TL l]
  push_cast
  rw[Rat.div_def,Rat.div_def,Rat.div_def,Rat.add_mul]
noncomputable def tn (es:List (Nat×Nat)) (S:Nat):Nat:=(trees es S).length
section
variable {es:List (Nat×Nat)} {S a:Nat}
theorem tn_tree:tn es S≠0↔∃t,TreeOk es S t:=by
 unfold tn;constructor
 ·intro h;obtain⟨t,ht⟩:=List.exists_mem_of_length_pos (Nat.pos_of_ne_zero h);exact⟨t,trees_mem.1 ht⟩
 ·rintro⟨t,ht⟩ e;have:=trees_mem.2 ht;rw[lI.1 e]at this;cases this
theorem d5i (hs:S<M64) (h0:S≠0) (ht:tn es S≠0) (qM:∀y,bit a y=true->bit S y=true) (hl:bit a (lst S)=true) (pT:a≠S):0<Br es a (sdf S a):=by
 obtain⟨t,hT⟩:=tn_tree.1 ht;rw[<-BF];refine aP fun hc=>pT ?_;have hc:(crs es a (sdf S a))=[]:=aZ (by omega);have uU:∀i∈t,btB a (sdf S a) (Ed es i)=false:=fun i hi=>by
  cases hb:btB a (sdf S a) (Ed es i)with
  |false=>rfl
  |true=>
   have ho:=hT.ok i hi;have:i∈crs es a (sdf S a):=crs_mem.2 ⟨ho.1,ho.2.1,hb⟩;rw[hc]at this;cases this
 have hr:∀y,Rch (etl es t) S (lst S) y->bit a y=true:=fun y hy=>by
  induction hy with
  |base=>exact hl
  |step _ ha hz ih=>
   obtain⟨e,he,h⟩:=ha;obtain⟨i,hi,rfl⟩:=Eu he;have hn:=uU i hi;have ho:=hT.ok i hi;unfold btB at hn;simp only[Ad,ho.2.2.1,ho.2.2.2,Bool.true_and]at hn;rcases h with⟨rfl,rfl⟩|⟨rfl,rfl⟩
   ·rw[ih]at hn;simpa using hn
   ·rw[ih]at hn;simpa using hn
 have qG:=(Jl hT.inn).1 (hT.one hs h0);exact Ax fun y=>by
  rw[Bool.eq_iff_iff];exact⟨qM y,fun hy=>hr y (qG _ _ (Nh hs h0) hy)⟩
end
end Go.GS
namespace Go.Proofs.Z
open Go.Proofs.Tryz
open Go.RowKit Go.RX Go.GS Go.RZ
open Go.WD (BP Bf wd rs toI HM sgI Rb)
section
variable {es:List (Nat×Nat)} {wl:List Int} {lo hi:Int} {n k m S a:Nat} {p:List Int}
theorem Jo (hs:S<M64) (h0:S≠0):tN es S=((tn es S:Nat):Int):=by
 unfold tN tn;rw[mj,QH,RR hs h0]
theorem BQ (hs:S<M64) (h0:S≠0) (h:Cn es S):tn es S≠0:=fun e=>by
 have:=c8L hs h0 h;have h2:=Jo (es:=es) hs h0;unfold tN at h2;omega
theorem d5j (hs:S<M64) (h0:S≠0) (h:tn es S≠0):Cn es S:=by
 obtain⟨t,hT⟩:=tn_tree.1 h;have qG:=(Jl hT.inn).1 (hT.one hs h0);have hx:=Nh hs h0;refine⟨lst S,hx,fun y hy=>(qG _ _ hx hy).mono (fun e he=> ?_) fun z hz=>hz⟩;obtain⟨i,hi,rfl⟩:=Eu he;have ho:=(hT.ok i hi).2.1;unfold Ed;rw[List.getD_eq_getElem?_getD,List.getElem?_eq_getElem ho];exact List.getElem_mem ho
structure PrO (p:List Int) (n k:Nat) (pr:Nat×Nat):Prop where
 s2:unP p pr<2^n
 sM:unP p pr<M64
 s0:unP p pr≠0
 cd:card (unP p pr)<=n
theorem oc (hU:Ak p k) (qN:p.length=n) (hn:n<=64) {pr:Nat×Nat} (qT:pr∈i7 k):PrO p n k pr:=by
 have yJ:=Ta qT;have hS:=Wt qN hn pr;exact⟨hS,Ci hn hS,fun e=>hU pr.1 (by omega) (by unfold unP at e;exact(Nat.or_eq_zero_iff.1 e).1),kx hS hn⟩
theorem par_mem {pr:Nat×Nat}:a∈Cd es wl lo hi p pr↔tN es (unP p pr)≠0/\a∈Bd (unP p pr)/\alB es wl lo hi a=true/\alB es wl lo hi (sdf (unP p pr) a)=true/\m7 p≠m7 (Bl p pr a):=by
 unfold Cd;split
 ·rename_i h;simp[h]
 ·rename_i h;rw[List.mem_filter];unfold Nk;simp[h]
theorem BR {pr:Nat×Nat}:(Cd es wl lo hi p pr).Nodup:=by
 unfold Cd;split
 ·exact List.nodup_nil
 ·exact(SQ _).filter _
theorem BS {pr:Nat×Nat} (hP:PrO p n k pr) (ha:a∈Cd es wl lo hi p pr):tn es a*tn es (sdf (unP p pr) a)<=(Gv es (unP p pr) a).length:=by
 obtain⟨h1,h2,_⟩:=par_mem.1 ha;obtain⟨s1,s2,s3⟩:=aw hP.sM hP.s0 h2;rw[RU hP.sM hP.s0 s1 s2,<-cH];have hb:=d5i (es:=es) hP.sM hP.s0 (fun e=>h1 (by rw[Jo hP.sM hP.s0,e];rfl)) s1 s2 s3;exact Nat.le_mul_of_pos_right _ hb
theorem BU {pr:Nat×Nat} (hP:PrO p n k pr):((Cd es wl lo hi p pr).map fun a=>tn es a*tn es (sdf (unP p pr) a)).sum<=tn es (unP p pr)*(card (unP p pr)-1):=
 aS (nw fun a ha=>BS hP ha) (BG BR)
theorem BV {pr:Nat×Nat} {t:List Int} {e:Int} (hP:PrO p n k pr) (hT:TreeOk es (unP p pr) t) (he:e∈t) (h:y9 es (unP p pr) t e∉Cd es wl lo hi p pr\/2<=Br es (y9 es (unP p pr) t e) (sdf (unP p pr) (y9 es (unP p pr) t e))):
  ((Cd es wl lo hi p pr).map fun a=>tn es a*tn es (sdf (unP p pr) a)).sum<tn es (unP p pr)*(card (unP p pr)-1):=by
 by_cases pY:y9 es (unP p pr) t e∈Cd es wl lo hi p pr
 ·have h2:=h.resolve_left (fun hh=>hh pY);refine bK (TI (g:=fun a=>(Gv es (unP p pr) a).length) (fun a ha=>BS hP ha) ⟨_,pY,?_⟩) (BG BR);obtain⟨_,h3,_⟩:=par_mem.1 pY;obtain⟨s1,s2,s3⟩:=aw hP.sM hP.s0 h3;have qW:0<(Gv es (unP p pr) (y9 es (unP p pr) t e)).length:=lN (cutL_mem.2 ⟨hT,he,rfl⟩:(t,e)∈Gv es (unP p pr) (y9 es (unP p pr) t e));rw[RU hP.sM hP.s0 s1 s2,<-cH]at qW⊢;show tn es _*tn es _<tn es _*tn es _*_;replace qW:0<tn es (y9 es (unP p pr) t e)*tn es (sdf (unP p pr) (y9 es (unP p pr) t e))*Br es (y9 es (unP p pr) t e) (sdf (unP p pr) (y9 es (unP p pr) t e)):=qW;generalize tn es (y9 es (unP p pr) t e)*tn es (sdf (unP p pr) (y9 es (unP p pr) t e))=x at qW⊢;have hx:0<x:=Nat.pos_of_mul_pos_right qW;have:=dA x h2;omega
 ·exact aY (nw fun a ha=>BS hP ha) (d4Z BR hT he pY)
noncomputable def prQ (es:List (Nat×Nat)) (wl:List Int) (lo hi:Int) (n m:Nat) (p:List Int) (pr:Nat×Nat):Rat:=sQ ((Cd es wl lo hi p pr).map (Jm es n m p pr))
theorem BW {pr:Nat×Nat} (hP:PrO p n k pr) (hn:n<=64) (ha:a∈Bd (unP p pr)):Jm es n m p pr a=(((tn es a*tn es (sdf (unP p pr) a):Nat):Int):Rat)/(((tn es (unP p pr)*((n-1)*m):Nat):Int):Rat):=by
 obtain⟨⟨a0,a2⟩,s0,s2⟩:=ax hP.s2 hn hP.s0 ha;unfold Jm Ks;rw[Jo (Ci hn a2) a0,Jo (Ci hn s2) s0,Jo hP.sM hP.s0]
 push_cast
 rfl
theorem TM {pr:Nat×Nat} (hP:PrO p n k pr) (hn:n<=64):prQ es wl lo hi n m p pr=(((((Cd es wl lo hi p pr).map fun a=>tn es a*tn es (sdf (unP p pr) a)).sum:Nat):Int):Rat)/(((tn es (unP p pr)*((n-1)*m):Nat):Int):Rat):=by
 unfold prQ;rw[<-TL];congr 1;exact jR fun a ha=>BW hP hn (par_mem.1 ha).2.1
theorem To {x:Nat} (h:0<x):(0:Rat)<((x:Nat):Int):=by exact_mod_cast h
theorem TN {pr:Nat×Nat} (hP:PrO p n k pr) (hn:n<=64) (hm:0<m):prQ es wl lo hi n m p pr<=1/(((m:Nat):Int):Rat):=by
 have tR:=To hm;by_cases h0:tn es (unP p pr)=0
 ·unfold prQ Cd;rw[if_pos (by rw[Jo hP.sM hP.s0,h0];rfl)];show(0:Rat)<=_;exact Rat.le_of_lt ((Rat.lt_div_iff tR).2 (by rw[Rat.zero_mul];decide))
 ·have h1:=BU (es:=es) (wl:=wl) (lo:=lo) (hi:=hi) hP;rw[TM hP hn];generalize ((Cd es wl lo hi p pr).map fun a=>tn es a*tn es (sdf (unP p pr) a)).sum=N at h1;by_cases hd:n-1=0
  ·have hcd:=hP.cd;have hc:card (unP p pr)-1=0:=by omega
   rw[hc]at h1;have:N=0:=by omega
   subst this;rw[Rat.div_def];show(0:Rat)*_<=_;rw[Rat.zero_mul];exact Rat.le_of_lt ((Rat.lt_div_iff tR).2 (by rw[Rat.zero_mul];decide))
  ·have hD:0<tn es (unP p pr)*((n-1)*m):=fK (by omega) (fK (by omega) hm);have h2:N*m<=tn es (unP p pr)*((n-1)*m):=by
    have hcd:=hP.cd;have h3:tn es (unP p pr)*(card (unP p pr)-1)<=tn es (unP p pr)*(n-1):=dA _ (by omega);rw[<-cH];exact Nat.mul_le_mul_right m (aS h1 h3)
   refine Rat.not_lt.1 fun pO=> ?_;rw[Rat.div_lt_iff tR,Rat.div_def,Rat.mul_assoc,Rat.mul_comm (_⁻¹),<-Rat.mul_assoc,<-Rat.div_def,Rat.lt_div_iff (To hD)]at pO;rw[Rat.one_mul]at pO;have:((tn es (unP p pr)*((n-1)*m):Nat):Int)<((N*m:Nat):Int):=by exact_mod_cast pO
   omega
theorem d8z {pr:Nat×Nat} (hP:PrO p n k pr) (hn:n<=64) (hm:0<m) (h:tn es (unP p pr)=0\/card (unP p pr)<n\/((Cd es wl lo hi p pr).map fun a=>tn es a*tn es (sdf (unP p pr) a)).sum<tn es (unP p pr)*(card (unP p pr)-1)):prQ es wl lo hi n m p pr<1/(((m:Nat):Int):Rat):=by
 have tR:=To hm;by_cases h0:tn es (unP p pr)=0
 ·unfold prQ Cd;rw[if_pos (by rw[Jo hP.sM hP.s0,h0];rfl)];show(0:Rat)<_;exact(Rat.lt_div_iff tR).2 (by rw[Rat.zero_mul];decide)
 ·have h:=h.resolve_left h0;have h1:=BU (es:=es) (wl:=wl) (lo:=lo) (hi:=hi) hP;rw[TM hP hn];generalize ((Cd es wl lo hi p pr).map fun a=>tn es a*tn es (sdf (unP p pr) a)).sum=N at h1 h;have hcd:=hP.cd;have wQ:0<card (unP p pr):=by
   obtain⟨x,r,he,_⟩:=Je hP.sM hP.s0;unfold card;rw[he];simp
  have pO:N<tn es (unP p pr)*(n-1):=by
   rcases h with h|h
   ·refine aY h1 (Nat.mul_lt_mul_of_pos_left (by omega) (by omega))
   ·exact bK h (dA _ (by omega))
  have tW:0<n-1:=by
   rcases kC (n-1)with e|e
   ·rw[e]at pO;omega
   ·exact e
  have hD:0<tn es (unP p pr)*((n-1)*m):=fK (by omega) (fK tW hm);have h2:N*m<tn es (unP p pr)*((n-1)*m):=by
   rw[<-cH];exact Nat.mul_lt_mul_of_pos_right pO hm
  rw[Rat.lt_div_iff tR,Rat.div_def,Rat.mul_assoc,Rat.mul_comm (_⁻¹),<-Rat.mul_assoc,<-Rat.div_def,Rat.div_lt_iff (To hD),Rat.one_mul];have:((N*m:Nat):Int)<((tn es (unP p pr)*((n-1)*m):Nat):Int):=by omega
  exact_mod_cast this
noncomputable def Ce (es:List (Nat×Nat)) (wl:List Int) (lo hi:Int) (n k:Nat) (p:List Int):Rat:=sQ ((Bt es wl lo hi n k p).map (·.2))
theorem TO (hL:LabOk p (k:Nat)) (hU:Ak p k) (hc:n8 p=p) (qN:p.length=n) (hn:n<=64):Ce es wl lo hi n k p=sQ ((i7 k).map fun pr=>prQ es wl lo hi n (i7 k).length p pr):=by
 unfold Ce;rw[SX hL hU hc qN hn,cC];unfold Em;rw[TK];congr 1;refine jR fun pr _=> ?_;rw[cC];rfl
theorem TP {m:Nat} (h:0<m):(((m:Nat):Int):Rat)*(1/(((m:Nat):Int):Rat))=1:=by
 rw[Rat.div_def,Rat.one_mul,Rat.mul_inv_cancel];exact fun e=>by have:=To h;rw[e]at this;exact absurd this (by decide)
theorem d8B (hL:LabOk p (k:Nat)) (hU:Ak p k) (hc:n8 p=p) (qN:p.length=n) (hn:n<=64):Ce es wl lo hi n k p<=1:=by
 rw[TO hL hU hc qN hn];rcases kC (i7 k).length with h|h
 ·rw[lI.1 h];show(0:Rat)<=1;decide
 ·have:=BO (l:=i7 k) (s:=fun pr=>prQ es wl lo hi n (i7 k).length p pr) fun pr qT=>TN (oc hU qN hn qT) hn h
  rwa[TP h]at this
theorem d8C (hL:LabOk p (k:Nat)) (hU:Ak p k) (hc:n8 p=p) (qN:p.length=n) (hn:n<=64) {pr:Nat×Nat} (qT:pr∈i7 k) (h:tn es (unP p pr)=0\/card (unP p pr)<n\/((Cd es wl lo hi p pr).map fun a=>tn es a*tn es (sdf (unP p pr) a)).sum<tn es (unP p pr)*(card (unP p pr)-1)):Ce es wl lo hi n k p<1:=by
 rw[TO hL hU hc qN hn];have hm:=lN qT;have:=TJ (l:=i7 k) (s:=fun pr=>prQ es wl lo hi n (i7 k).length p pr) (fun pr qT=>TN (oc hU qN hn qT) hn hm) ⟨pr,qT,d8z (oc hU qN hn qT) hn hm h⟩
 rwa[TP hm]at this
end
end Go.Proofs.Z
/- slices.SortFunc of the shelf at this program: laid by the kit. -/
namespace Go.Proofs
open Go.Shelf
def Tryz.srtL_ren:Go.Shelf.Ren:=⟨fun|6=>48|15=>92|14=>91|28=>157|29=>117|20=>149|21=>150|22=>151|23=>152|24=>153|25=>154|26=>155|27=>156|46=>204|47=>205|48=>206|49=>207|50=>208|57=>241|n=>n,fun|22=>48|24=>33|25=>114|3=>3|39=>164|0=>0|53=>240|55=>54|4=>4|46=>234|45=>233|50=>141|5=>5|9=>9|66=>284|70=>288|76=>323|77=>103|n=>n,fun|n=>n⟩
theorem Tryz.srtL:Go.Proofs.SlLaysF.n6 prog Tryz.srtL_ren:={
 mixed:=by kernel_rfl
 f6:=⟨f48.name,by decide,Tryz.func48.trans (congrArg some (by kernel_rfl))⟩
 f14:=⟨f91.name,by decide,Tryz.func91.trans (congrArg some (by kernel_rfl))⟩
 f15:=Tryz.func92.trans (congrArg some (by kernel_rfl))
 f20:=⟨f149.name,by decide,Tryz.func149.trans (congrArg some (by kernel_rfl))⟩
 f21:=⟨f150.name,by decide,Tryz.func150.trans (congrArg some (by kernel_rfl))⟩
 f22:=⟨f151.name,by decide,Tryz.func151.trans (congrArg some (by kernel_rfl))⟩
 f23:=⟨f152.name,by decide,Tryz.func152.trans (congrArg some (by kernel_rfl))⟩
 f24:=⟨f153.name,by decide,Tryz.func153.trans (congrArg some (by kernel_rfl))⟩
 f25:=⟨f154.name,by decide,Tryz.func154.trans (congrArg some (by kernel_rfl))⟩
 f26:=⟨f155.name,by decide,Tryz.func155.trans (congrArg some (by kernel_rfl))⟩
 f27:=⟨f156.name,by decide,Tryz.func156.trans (congrArg some (by kernel_rfl))⟩
 f28:=Tryz.func157.trans (congrArg some (by kernel_rfl))
 f29:=Tryz.func117.trans (congrArg some (by kernel_rfl))
 f46:=⟨f204.name,by decide,Tryz.func204.trans (congrArg some (by kernel_rfl))⟩
 f47:=Tryz.func205.trans (congrArg some (by kernel_rfl))
 f48:=Tryz.func206.trans (congrArg some (by kernel_rfl))
 f49:=⟨f207.name,by decide,Tryz.func207.trans (congrArg some (by kernel_rfl))⟩
 f50:=⟨f208.name,by decide,Tryz.func208.trans (congrArg some (by kernel_rfl))⟩
 f57:=⟨f241.name,by decide,Tryz.func241.trans (congrArg some (by kernel_rfl))⟩
 t0:=Tryz.underlying0
 a0:=Tryz.isAgg0
 z0:=Tryz.sizeOf0
 v0:=Tryz.zeroValue0
 t3:=Tryz.underlying3
 a3:=Tryz.isAgg3
 z3:=Tryz.sizeOf3
 v3:=Tryz.zeroValue3
 t4:=Tryz.underlying4
 a4:=Tryz.isAgg4
 z4:=Tryz.sizeOf4
 v4:=Tryz.zeroValue4
 t5:=Tryz.underlying5
 a5:=Tryz.isAgg5
 z5:=Tryz.sizeOf5
 v5:=Tryz.zeroValue5
 t9:=Tryz.underlying9
 a9:=Tryz.isAgg9
 z9:=Tryz.sizeOf9
 v9:=Tryz.zeroValue9
 t22:=Tryz.underlying48
 a22:=Tryz.isAgg48
 z22:=Tryz.sizeOf48
 v22:=Tryz.zeroValue48
 a24:=Tryz.isAgg33
 z24:=Tryz.sizeOf33
 t25:=Tryz.underlying114
 a25:=Tryz.isAgg114
 z25:=Tryz.sizeOf114
 v25:=Tryz.zeroValue114
 t39:=Tryz.underlying164
 a39:=Tryz.isAgg164
 z39:=Tryz.sizeOf164
 v39:=Tryz.zeroValue164
 t45:=Tryz.underlying233
 a45:=Tryz.isAgg233
 z45:=Tryz.sizeOf233
 v45:=Tryz.zeroValue233
 t46:=Tryz.underlying234
 a46:=Tryz.isAgg234
 z46:=Tryz.sizeOf234
 v46:=Tryz.zeroValue234
 t50:=Tryz.underlying141
 a50:=Tryz.isAgg141
 z50:=Tryz.sizeOf141
 v50:=Tryz.zeroValue141
 t53:=Tryz.underlying240
 a53:=Tryz.isAgg240
 z53:=Tryz.sizeOf240
 v53:=Tryz.zeroValue240
 t55:=Tryz.underlying54
 a55:=Tryz.isAgg54
 z55:=Tryz.sizeOf54
 v55:=Tryz.zeroValue54
 t66:=Tryz.underlying284
 a66:=Tryz.isAgg284
 z66:=Tryz.sizeOf284
 v66:=Tryz.zeroValue284
 t70:=Tryz.underlying288
 a70:=Tryz.isAgg288
 z70:=Tryz.sizeOf288
 v70:=Tryz.zeroValue288
 t76:=Tryz.underlying323
 a76:=Tryz.isAgg323
 z76:=Tryz.sizeOf323
 v76:=Tryz.zeroValue323
 t77:=Tryz.underlying103
 a77:=Tryz.isAgg103
 z77:=Tryz.sizeOf103
 v77:=Tryz.zeroValue103}
end Go.Proofs
/- slices.SortFunc of the shelf as a contract with memory. -/
namespace Go.RX
open Go.Proofs Go.Shelf Go.RowKit Go.Lib Go.Sort
theorem c9b {w w':World} (h:Ext w w'):∃q os',w'=grow (w.drewN q) os':=by
 refine⟨w'.drawn-w.drawn,w'.heap.extract w.heap.size w'.heap.size,?_⟩;have hs:=h.size;have hd:=h.dr;have hh:w'.heap=w.heap++w'.heap.extract w.heap.size w'.heap.size:=by
  apply Array.ext_getElem?;intro k;by_cases hk:k<w.heap.size
  ·rw[cO hk,h.blk k hk]
  ·rw[Array.getElem?_append_right (by omega),Array.getElem?_extract];split
   ·congr 1;omega
   ·rw[Array.getElem?_eq_none];omega
 have h1:=h.os;have h2:=h.tape;have h3:=h.output;obtain⟨hp',tp',dr',os',out'⟩:=w';obtain⟨hp,tp,dr,os,out⟩:=w;simp only at h1 h2 h3 hh hd;subst h1 h2 h3;simp only[grow,World.drewN];congr 1;omega
section
variable {P:Program} {α:Type} [Inhabited α] {enc:α->Value} {H B:PH} {blk:Nat} {cur:Array Value} {T:TypeId} {d:Array α}
theorem TQ {w:World} (hw:H.In w) (hb:H blk=some (.cells cur T (0,0))) (n:Nat) (dk:Array α) (os:Array Obj):Step H w (H.put blk (.cells (putCells enc 0 dk cur) T (0,0))) (sortWorld enc w blk 0 n dk os):=by
 have xR:=hw _ _ hb;have pO:=Dk xR;have rP:(w.heap.modify blk (onCells (putCells enc 0 dk))).size=w.heap.size:=by simp
 have pT:∀k,k<w.heap.size->k≠blk->(w.heap.modify blk (onCells (putCells enc 0 dk))++os)[k]? =w.heap[k]?:=fun k hk h=>by
  rw[cO (by omega),lO,if_neg (fun e=>h e.symm)]
 refine⟨rfl,rfl,rfl,by show w.heap.size<=(w.heap.modify blk (onCells (putCells enc 0 dk))++os).size;simp,fun k hk hn=> ?_,fun k ob hk=> ?_,fun k hk=> ?_,Nat.le_add_right _ _⟩
 ·exact pT k hk (fun e=>by rw[e,hb]at hn;cases hn)
 ·show(w.heap.modify blk (onCells (putCells enc 0 dk))++os)[k]? =_;unfold PH.put at hk;split at hk
  ·rename_i e;subst e;cases hk;rw[cO (by omega),lO,if_pos rfl,xR];rfl
  ·rename_i e;rw[pT k (Dk (hw _ _ hk)) e];exact hw _ _ hk
 ·unfold PH.put at hk;split at hk
  ·rename_i e;subst e;left;rw[hb];simp
  ·exact .inl hk
theorem c9c {g:Nat} {cb:Array Value} {cf:α->α->Int} {size:Nat} {w:World} (hw:H.In w) (hb:H blk=some (.cells cur T (0,0))) (pP:PH.le B H) (hn:B blk=none) (h:∀x y,Ao P g (enc x::enc y::cb.toList) B (.int .i64 (cf x y))):CmpLays1 P g cb enc cf blk 0 size w:=fun m os dk _ x y=>by
 have hs:=TQ (enc:=enc) hw hb m dk os;have hB:B.In (sortWorld enc w blk 0 m dk os):=fun b ob hk=>hs.holds b ob (by
  rw[PH.put_ne _ _ (fun e=>by rw[e,hn]at hk;cases hk)];exact pP _ _ hk)
 have h1:=h x y _ hB;have ha:(enc x::enc y::cb.toList).toArray= #[enc x,enc y]++cb:=by
  rw[<-Array.toList_inj];simp
 rw[ha]at h1;refine h1.mono fun e w' ⟨v,H',he,qA,hl,hv⟩=>⟨by rw[he,hv],c9b (qA.toExt hB hl)⟩
theorem c4L {ρ:Ren} (L:SlLaysF.n6 P ρ) (h1:OneCell enc) {cf:α->α->Int} (hO:SWO (ltOf cf)) {g:Nat} {cb:Array Value} {cap:Nat} (eg:Au P g=true) (hb:H blk=some (.cells cur T (0,0))) (a1i:cur.toList.take d.size=d.toList.map enc) (rP:d.size<4611686018427387904)
  (pP:PH.le B H) (hn:B blk=none) (h:∀x y,Ao P g (enc x::enc y::cb.toList) B (.int .i64 (cf x y))):
  Con P (ρ.f 6) [.slice (some ⟨blk,0,none⟩) d.size cap,.func (.func g) #[] cb] H fun v H'=>v= .tuple #[]/\∃d':Array α,d'.size=d.size/\d'.toList.Perm d.toList/\SortedIn (ltOf cf) 0 d.size d'/\H'=H.put blk (.cells (putCells enc 0 d' cur) T (0,0)):=fun w hw=>by
 have xR:=hw _ _ hb;have hH:Holds enc w blk 0 d:=fun j hj=>by
  have xM:cur.toList[j]? =some (enc d[j]!):=by
   have:(cur.toList.take d.size)[j]? =cur.toList[j]?:=lD hj;rw[<-this,a1i,List.getElem?_map,dY,fQ hj,getElem!_pos d j hj];rfl
  constructor
  ·rw[Nat.zero_add];unfold World.cell?;simp only[xR];rw[if_neg (by simp),<-dY,xM]
  ·unfold World.frozen?;simp[xR]
 have hc:=Any.slices_SortFunc L enc h1 cf hO g cb blk 0 cap d w (er eg) (c9c hw hb pP hn h) hH (Dk xR) rP;refine hc.mono fun e w' ⟨he,d',n,os,hp,hs,sW⟩=>⟨.tuple #[],_,he,by rw[sW];exact TQ hw hb n d' os,rfl,d',hp.1,?_,hs,rfl⟩;have:=hp.2.2;have e1:d'.extract 0 d.size=d':=by rw[<-hp.1];simp
 have e2:d.extract 0 d.size=d:=by simp
 rwa[e1,e2]at this
end
end Go.RX
/- Chapter 32: the sort of plans. -/
namespace Go.Proofs.Z
open Go.Proofs.Tryz
open Go.RowKit Go.RX Go.GS Go.RZ Go.Sort
set_option maxRecDepth 100000
theorem BX:∀l m k:List Int,(Aj l m<0->Aj m k<0->Aj l k<0)/\(0<=Aj l m->0<=Aj m k->0<=Aj l k)
 |[],[],[]=>by simp[Aj]
 |[],[],_::_=>by simp[Aj]
 |[],_::_,[]=>by simp[Aj]
 |[],_::_,_::_=>by simp[Aj]
 |_::_,[],[]=>by simp[Aj]
 |_::_,[],_::_=>by simp[Aj]
 |_::_,_::_,[]=>by simp[Aj]
 |x::l,y::m,z::k=>by
  have ih:=BX l m k;simp only[Aj,Fa]
  grind
theorem TR:∀l:List Int,Aj l l=0
 |[]=>rfl
 |x::l=>by simp[Aj,Fa,TR l]
theorem d5k {α:Type} (f:α->List Int):SWO (ltOf fun x y=>Aj (f x) (f y)) where
 irrefl x:=by show decide (Aj (f x) (f x)<0)=false;rw[TR];rfl
 trans x y z h1 h2:=by
  exact oDd ((BX _ _ _).1 (oDt h1) (oDt h2))
 ntrans x y z h1 h2:=by
  have h1:¬Aj (f x) (f y)<0:=oDf h1;have h2:¬Aj (f y) (f z)<0:=oDf h2;have:=(BX (f x) (f y) (f z)).2 (by omega) (by omega);exact decide_eq_false (by show ¬Aj (f x) (f z)<0;omega)
section
variable {H:PH} {u v:Value} {l m:List Int}
theorem c4M (hu:SI H u l) (hv:SI H v m):Asks prog 50 [u,v] H (ii (Aj l m)):=by
 refine j3 mixed c7p ?_;have hl:=hu.len;have hm:=hv.len;refine j7 el_plan hu ?_;refine Dq (α:=Nat×Int) (fun⟨i,p⟩=>[ii p,ii (i:Nat)]) (fun⟨i,p⟩=>i<=l.length/\Aj (l.drop i) (m.drop i)=Aj l m) (fun⟨i,p⟩=>l.length-i) ((0,0)) rfl (⟨bI _,rfl⟩) fun⟨i,p⟩ hQ=> ?_;obtain⟨hi,hc⟩:=hQ;refine d4 (d4 ?_);refine i0 (b:=decide (((i:Nat):Int)<(l.length:Nat))) rfl (fun h=> ?_) (fun h=> ?_)
 ·replace h:=oDt h;have pW:i<l.length:=by omega
  obtain⟨x,hx,tB⟩:=t7 pW;refine j8 el_plan hu hx fun _=> ?_;refine j7 el_plan hv ?_;refine d4 ?_;refine i0 (b:=decide (((i:Nat):Int)≥(m.length:Nat))) rfl (fun h2=> ?_) (fun h2=> ?_)
  ·replace h2:=oDt h2;have:m.drop i=[]:=dW (by omega);rw[tB,this]at hc;exact g8 rfl ⟨rfl,by rw[<-hc];rfl⟩
  ·replace h2:=oDf h2;obtain⟨y,hy,vC⟩:=t7 (l:=m) (i:=i) (by omega);refine j8 el_plan hv hy fun _=> ?_;rw[tB,vC]at hc;refine Am (JU x y) rfl ?_;refine d4 ?_;refine r9 (p:=(Fa x y≠0)) (by show Value.bool (Fa x y !=0)=_;congr 1;by_cases e:Fa x y=0<;>simp[e]) (fun h3=> ?_) fun h3=> ?_
   ·exact g8 rfl ⟨rfl,by rw[<-hc];simp only[Aj];rw[if_pos h3];rfl⟩
   ·exact⟨(i+1,p),by show l.length-(i+1)<l.length-i;omega,(j4 rfl (i9 rfl (by omega))),⟨⟨by show i+1<=_;omega,by rw[<-hc];simp only[Aj];rw[if_neg h3]⟩,rfl⟩⟩
 ·replace h:=oDf h;have pP:i=l.length:=by omega
  subst pP;rw[List.drop_length]at hc;refine j7 el_plan hu ?_;refine j7 el_plan hv ?_;refine d4 (d4 ?_);refine i0 (b:=decide (((l.length:Nat):Int)<(m.length:Nat))) rfl (fun h2=> ?_) (fun h2=> ?_)
  ·replace h2:=oDt h2;obtain⟨y,hy,vC⟩:=t7 (l:=m) (i:=l.length) (by omega);rw[vC]at hc;exact g8 rfl ⟨rfl,by rw[<-hc];rfl⟩
  ·replace h2:=oDf h2;have:m.drop l.length=[]:=dW (by omega);rw[this]at hc;exact g8 rfl ⟨rfl,by rw[<-hc];rfl⟩
theorem b9E (hu:SI H u l) (hv:SI H v m):Asks prog 49 [u,v] H (ii (Aj l m)):=by
 refine j3 mixed c2x ?_;refine Aq (c4M hu hv) rfl ?_;exact g8 rfl ⟨rfl,rfl⟩
theorem b9F:Au prog 49=true:=by kernel_rfl
end
section
variable {B H:PH} {v:Value} {l:List Slc} {cont:Slc->List Int}
theorem c9d {α:Type} [Inhabited α] {enc:α->Value} (d:Array α) (c:Array Value) (h:d.size<=c.size):(putCells enc 0 d c).toList.take d.size=d.toList.map enc:=by
 apply List.ext_getElem?;intro i;by_cases hi:i<d.size
 ·rw[lD hi,dY];unfold putCells;rw[Array.getElem?_mapIdx,fQ (by omega)];simp[hi]
 ·rw[aW (by simp;omega),aW (by simp;omega)]
theorem c4N (pP:PH.le B H) (ho:SO B H 33 1 (fun s:Slc=>[vs s]) v l) (h0:l≠[]) (hl:l.length<4611686018427387904) (hp:∀s∈l,SI B (vs s) (cont s)):
  Con prog 48 [v,.func (.func 49) #[] #[]] H fun _ H'=>PH.le B H'/\∃m:List Slc,m.Perm l/\(m.map cont).Pairwise (fun a b=>¬Aj b a<0)/\SO B H' 33 1 (fun s:Slc=>[vs s]) v m:=by
 obtain⟨h1,⟨_,h2⟩|⟨g,cap,cur,rfl,hB,hH,sG,rD,vN,hc4⟩⟩:=ho
 ·exact absurd (aZ h2) h0
 rw[eS]at vN hc4;have hfm:∀k:List Slc,(k.flatMap fun s:Slc=>[vs s])=k.map vs:=fun k=>by
  induction k with
  |nil=>rfl
  |cons a k ih=>rw[cY,ih];rfl
 rw[hfm]at hc4
 haveI:Inhabited {s:Slc//s∈l}:=⟨⟨l.head h0,List.head_mem h0⟩⟩
 have zW:l.attach.toArray.size=l.length:=by simp
 have vD:=c4L (P:=prog) (ρ:=Tryz.srtL_ren) (α:={s:Slc//s∈l}) (enc:=fun x=>vs x.1) (H:=H) (B:=B) (blk:=g) (cur:=cur) (T:=33) (d:=l.attach.toArray) Tryz.srtL (fun _=>rfl) (d5k fun x:{s:Slc//s∈l}=>cont x.1) (g:=49) (cb:= #[]) (cap:=cap) b9F hH
  (by rw[zW,hc4,iK,show(fun x:{s:Slc//s∈l}=>vs x.1)=vs ∘ Subtype.val from rfl,<-cC,kN]) (by omega) pP hB (fun x y=>(b9E (hp _ x.2) (hp _ y.2)).give)
 rw[zW]at vD;refine Con.mono vD ?_;rintro _ H' ⟨rfl,d',hs,wV,hso,rfl⟩;refine⟨fun k ob hk=> ?_,d'.toList.map (·.1),?_,?_,?_⟩
 ·rw[PH.put_ne _ _ (fun e=>by rw[e,hB]at hk;cases hk)];exact pP _ _ hk
 ·have:=wV.map (·.1)
  rwa[iK,kN]at this
 ·rw[cC,List.pairwise_map,List.pairwise_iff_getElem];intro i j hi hj sA;have:=hso i j (bI _) sA (by simp at hj;omega);unfold ltOf at this;rw[decide_eq_false_iff_not]at this;rw[getElem!_pos d' i (by simpa using hi),getElem!_pos d' j (by simpa using hj)]at this;simpa using this
 ·have yX:(d'.toList.map (·.1)).length=l.length:=by rw[List.length_map,Array.length_toList,hs]
  refine⟨by rw[hfm];simp,.inr ⟨g,cap,putCells (fun x:{s:Slc//s∈l}=>vs x.1) 0 d' cur,by rw[yX],hB,PH.put_self _ _ _,by rw[yX];exact sG,rD,by unfold putCells;rw[Array.size_mapIdx,vN,eS],?_⟩⟩;rw[yX,eS,hfm,cC,<-hs,c9d d' cur (by omega)];rfl
end
end Go.Proofs.Z

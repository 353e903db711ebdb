/- Chapter 30: Count and Unrank. -/
import Derived.Test.YtmannekkmdockaaGreatDoorGuE
import Derived.Test.YtmannekkmdockaaGreatDoorShB
open Array renaming toList_inj->eZ
open Bool renaming and_eq_true->aF
open Go.Result renaming andThen_ok->aE
open Go.Sem renaming run_bind->aG,run_pure->aT
open List renaming ext_getElem?->cU,getElem?_eq_some_iff->aC,getElem?_inj->gZ,getElem?_map->aO,getElem?_set->bS,length_filter_le->fM,map_append->aX,map_cons->aM,map_map->cC,map_nil->cL,mem_append->aV,mem_cons->aL,mem_iff_getElem?->bP,mem_map->aH,mem_of_getElem?->aI,mem_or_eq_of_mem_set->kY,mem_singleton->aQ,replicate->bC,toList_toArray->iK
open List.Pairwise renaming nil->iF
open Nat renaming beq->eG,le_trans->aS,pow_le_pow_right->aU
open Prod.mk renaming injEq->eB
set_option maxRecDepth 100000
namespace Go.Proofs.Z
open Go.Proofs.Tryz
open Go.RowKit Go.RX Go.GS
open Go.WD (BP Bf wd iw rs toI HM sgI)
section
variable {H K X B H':PH} {e:TypeId} {sz n r:Nat} {v m:Value} {xs:List Value} {E:Array MapEntry} {c:Nat} {ob:Obj} {z:Int} {S:List Int}
theorem QI (hr:H r=some (.map E c)) (h:Sl H sz v n xs):Sl (H.put r ob) sz v n xs:=by
 obtain⟨h1,a,c',h2,h3,h4,h5⟩:=h;refine⟨h1,a,c',h2,h3,h4,h5.imp id ?_⟩;rintro⟨b,o,cs,T,fz,g1,g2,g3⟩;exact⟨b,o,cs,T,fz,g1,by rw[PH.put_ne _ _ (fun e=>by subst e;rw[hr]at g2;cases g2)];exact g2,g3⟩
end
theorem c4a (z:Int):∃m e,told z= .tuple #[wd m,ii e]:=by
 unfold told;split
 ·exact⟨_,_,rfl⟩
 ·exact⟨_,_,rfl⟩
section
variable {H:PH} {n s:Nat} {w:Value} {es:List (Nat×Nat)}
theorem c8M (hw:SG H w es) (hg:GV n es) (h0:s≠0/\s<2^n) (hs:s<M64) (hT:Tb H):Con prog 27 [gv n w,GS.uv s] H fun u H'=>PH.le H H'/\u=told (Kr s es [] []):=by
 refine j3 mixed d3R ?_;refine d9 (Ap hw) ?_;refine x9 (LQ hw hg hs) rfl fun H1 l1=> ?_;rw[if_pos h0];refine d4 ?_;refine t6 rfl ?_;refine i6 (c8K (hw.mono l1) hg hs h0.1 (hT.mono l1) (MB.none _) (MB.none _)) rfl ?_;rintro v3 H2 ⟨l2,w3⟩;refine nmI ?_;refine i6 (gf w3) rfl ?_;rintro v4 H3 ⟨l3,hv4⟩;refine nmI ?_;obtain⟨m,e,hme⟩:=c4a (Kr s es [] []);rw[hme]at hv4;subst hv4;refine i8 (i8 ?_);refine d9 (PK m) ?_;exact g8 rfl ⟨(l1.trans l2).trans l3,hme.symm⟩
end
end Go.Proofs.Z
/- Maps with keys of any kind, in memory; iterations over them. -/
namespace Go.RX
open Go.RowKit Go.RZ
structure QJ (P:Program) (kt:TypeId) {κ:Type} (ok:κ->Prop) (ke:κ->Value):Prop where
 check:∀k,ok k->∀b w,(Instr.checkKey b 10000 kt (ke k)).run P w= .ok () w
 stays:∀k,ok k->∀w,(Instr.keyThatStays (ke k) (ke k)).run P w= .ok (ke k) w
 find:∀k,ok k->∀E:List MapEntry,(∀e∈E,∃a,ok a/\e.key=ke a)->∀w,((Instr.findKey kt (ke k) E).run P w= .ok none w/\∀e∈E,e.key≠ke k)\/∃j e,(Instr.findKey kt (ke k) E).run P w= .ok (some (j,e.val)) w/\E[j]? =some e/\e.key=ke k
 inj:∀a b,ok a->ok b->ke a=ke b->a=b
section
variable {κ:Type} {ok:κ->Prop} {ke:κ->Value}
def eN (ke:κ->Value) (es:List (κ×Value×Nat)):List MapEntry:=es.map fun p=>⟨ke p.1,p.2.1,p.2.2⟩
def kvN (es:List (κ×Value×Nat)):List (κ×Value):=es.map fun p=>(p.1,p.2.1)
structure ml (ok:κ->Prop) (es:List (κ×Value×Nat)) (clock:Nat):Prop where
 keys:(es.map (·.1)).Nodup
 oks:∀p∈es,ok p.1
 asc:(es.map (·.2.2)).Pairwise (· < ·)
 lt:∀p∈es,p.2.2<clock
def MK (ok:κ->Prop) (ke:κ->Value) (H:PH) (m:Value) (L:List (κ×Value)):Prop:=∃r es clock,m= .map (some r)/\H r=some (.map (eN ke es).toArray clock)/\ml ok es clock/\kvN es=L
def MKO (ok:κ->Prop) (ke:κ->Value) (B H:PH) (m:Value) (L:List (κ×Value)):Prop:=∃r es clock,m= .map (some r)/\B r=none/\H r=some (.map (eN ke es).toArray clock)/\ml ok es clock/\kvN es=L
theorem MKO.mk {B H:PH} {m:Value} {L:List (κ×Value)} (h:MKO ok ke B H m L):MK ok ke H m L:=by
 obtain⟨r,es,c,h1,_,h2,h3⟩:=h;exact⟨r,es,c,h1,h2,h3⟩
theorem MKO.mono {B H H':PH} {m:Value} {L:List (κ×Value)} (h:MKO ok ke B H m L) (hl:PH.le H H'):MKO ok ke B H' m L:=by
 obtain⟨r,es,c,h1,h4,h2,h3⟩:=h;exact⟨r,es,c,h1,h4,hl _ _ h2,h3⟩
open Classical in
noncomputable def Df {β:Type} (L:List (κ×β)) (k:κ) (v:β):List (κ×β):=if k∈L.map (·.1)then L.map fun p=>if p.1=k then(k,v)else p else L++[(k,v)]
open Classical in
theorem c4b {β γ:Type} {L:List (κ×β)} {M:List (κ×γ)} (h:L.map (·.1)=M.map (·.1)) (k:κ) (v:β) (u:γ):(Df L k v).map (·.1)=(Df M k u).map (·.1):=by
 unfold Df;rw[h];split
 ·have e:∀{β:Type} (L:List (κ×β)) (v:β),(L.map fun p=>if p.1=k then(k,v)else p).map (·.1)=L.map (·.1):=fun L v=>by
   rw[cC];refine List.map_congr_left fun p _=> ?_;simp only[Function.comp];split
   ·rename_i e;exact e.symm
   ·rfl
  rw[e,e,h]
 ·rw[aX,aX,h];rfl
theorem ap {β:Type} {L:List (κ×β)} {k x:κ} {v y:β}:(x,y)∈Df L k v->(x=k/\y=v)\/(x≠k/\(x,y)∈L):=by
 unfold Df;split
 ·rename_i hk;rw[aH];rintro⟨p,hp,e⟩;split at e
  ·simp only[eB]at e;exact .inl ⟨e.1.symm,e.2.symm⟩
  ·rename_i e1;subst e;exact .inr ⟨e1,hp⟩
 ·rename_i hk;rw[aV,aQ];rintro(h1|h1)
  ·refine .inr ⟨fun e=>hk ?_,h1⟩;subst e;exact aH.2 ⟨_,h1,rfl⟩
  ·simp only[eB]at h1;exact .inl h1
theorem c8N {β:Type} {L:List (κ×β)} {k:κ} {v:β}:(k,v)∈Df L k v:=by
 unfold Df;split
 ·rename_i hk;obtain⟨p,hp,e⟩:=aH.1 hk;exact aH.2 ⟨p,hp,by rw[if_pos e]⟩
 ·simp
section
variable {P:Program} {H:PH} {o:Oper} {x y z:Operand} {T kt et:TypeId} (hK:QJ P kt ok ke)
theorem d4M {es:List (κ×Value×Nat)} (h:∀p∈es,ok p.1):∀e∈eN ke es,∃a,ok a/\e.key=ke a:=fun e he=>by
 obtain⟨p,hp,rfl⟩:=aH.1 he;exact⟨p.1,h p hp,rfl⟩
include hK
theorem QK {es:List (κ×Value×Nat)} (ho:∀p∈es,ok p.1) {k:κ} (hk:ok k) (w:World):
  ((Instr.findKey kt (ke k) (eN ke es)).run P w= .ok none w/\k∉es.map (·.1))\/∃j p,(Instr.findKey kt (ke k) (eN ke es)).run P w= .ok (some (j,p.2.1)) w/\es[j]? =some p/\p.1=k:=by
 rcases hK.find k hk (eN ke es) (d4M ho) w with⟨h1,h2⟩|⟨j,e,h1,h2,h3⟩
 ·refine .inl ⟨h1,fun hm=> ?_⟩;obtain⟨p,hp,rfl⟩:=aH.1 hm;exact h2 _ (aH.2 ⟨p,hp,rfl⟩) rfl
 ·unfold eN at h2;rw[aO]at h2;obtain⟨p,hp,rfl⟩:=Option.map_eq_some_iff.1 h2;exact .inr ⟨j,p,h1,hp,hK.inj _ _ (ho p (aI hp)) hk h3⟩
theorem QL {B:PH} {vs:List Value} {m v:Value} {L:List (κ×Value)} {k:κ} (ho:o.op= .mapUpdate T x y z) (hx:g9 [x,y,z] vs x=m) (hy:g9 [x,y,z] vs y=ke k) (hz:g9 [x,y,z] vs z=v) (hu:P.underlying T=some (.map kt et)) (hk:ok k)
  (pP:PH.le B H) (h:MKO ok ke B H m L):Opn P o vs H fun u H'=>u=undef/\PH.le B H'/\MKO ok ke B H' m (Df L k v)/\∃g ob E c,m= .map (some g)/\B g=none/\H g=some (.map E c)/\H'=H.put g ob:=fun w hw=>by
 obtain⟨r,es,clock,rfl,hB,hH,hE,rO⟩:=h;have pZ:o.op.operands.toList=[x,y,z]:=by simp[ho,Op.operands]
 have hb:=hw _ _ hH;unfold Stp;rw[pZ];have vF:∀ob,PH.le B (H.put r ob):=fun ob c cb hc=>by
  rw[PH.put_ne _ _ (fun e=>by subst e;rw[hB]at hc;cases hc)];exact pP _ _ hc
 have vH:L.map (·.1)=es.map (·.1):=by rw[<-rO];unfold kvN;rw[cC];rfl
 simp only[execOp,ho,hx,hy,hz,aG,Instr.mapUpdate,run_underlying hu,aE,Iu hb,hK.check k hk];rcases QK hK hE.oks hk w with⟨h1,h2⟩|⟨j,p,h1,h2,h3⟩
 ·rw[h1];simp only[aE,aT,Qu _ hb];refine⟨_,Step.setB hw hH _,by first|rfl|trivial,vF _,⟨r,es++[(k,v,clock)],clock+1,rfl,hB,?_,⟨?_,?_,?_,?_⟩,?_⟩,r,_,_,_,rfl,hB,hH,rfl⟩
  ·rw[PH.put_self];simp[eN]
  ·rw[aX,List.nodup_append];exact⟨hE.keys,by simp,fun a ha b hb=>by simp only[aM,cL,aQ]at hb;subst hb;intro e;subst e;exact h2 ha⟩
  ·intro p hp;rcases aV.1 hp with hp|hp
   ·exact hE.oks p hp
   ·rw[aQ]at hp;subst hp;exact hk
  ·rw[aX,List.pairwise_append];refine⟨hE.asc,by simp,fun a ha b hb=> ?_⟩;simp only[aM,cL,aQ]at hb;subst hb;obtain⟨p,hp,rfl⟩:=aH.1 ha;exact hE.lt p hp
  ·intro p hp;rcases aV.1 hp with hp|hp
   ·have:=hE.lt p hp;omega
   ·rw[aQ]at hp;subst hp;exact Nat.lt_succ_self _
  ·unfold Df;rw[if_neg (by rw[vH];exact h2),<-rO];simp[kvN]
 ·rw[h1];have vT:((eN ke es).toArray[j]?.map (·.key)).getD (ke k)=ke k:=by simp[eN,h2,h3]
  simp only[aE,aT,vT,aG,hK.stays k hk,Qu _ hb];have pO:=(aC.1 h2).1;have xU:∀{α:Type} (f:κ×Value×Nat->α),f (k,v,p.2.2)=f p->(es.set j (k,v,p.2.2)).map f=es.map f:=fun f hf=>by
   apply cU;intro i;rw[aO,aO,bS];by_cases e:j=i
   ·subst e;rw[if_pos rfl,if_pos pO,h2];simp[hf]
   ·rw[if_neg e]
  refine⟨_,Step.setB hw hH _,by first|rfl|trivial,vF _,⟨r,es.set j (k,v,p.2.2),clock,rfl,hB,?_,⟨?_,?_,?_,?_⟩,?_⟩,r,_,_,_,rfl,hB,hH,rfl⟩
  ·rw[PH.put_self];congr 2;rw[<-eZ];simp only[Array.toList_modify];apply cU;intro i;simp only[List.getElem?_modify,eN,aO,bS];by_cases e:j=i
   ·subst e;obtain⟨sY,h5⟩:=aC.1 h2;simp[sY,h5,h3]
   ·simp[e]
  ·rw[xU (·.1) (by simp[h3])];exact hE.keys
  ·intro q hq;rcases kY hq with hq|rfl
   ·exact hE.oks q hq
   ·exact hk
  ·rw[xU (·.2.2) rfl];exact hE.asc
  ·intro q hq;rcases kY hq with hq|rfl
   ·exact hE.lt q hq
   ·exact hE.lt p (aI h2)
  ·have qS:k∈L.map (·.1):=by rw[vH];exact aH.2 ⟨p,aI h2,h3⟩
   have h0:=hE.keys;unfold Df;rw[if_pos qS,<-rO];unfold kvN;rw[cC];apply cU;intro i;simp only[aO,bS,Function.comp];by_cases e:j=i
   ·subst e;simp[pO,(aC.1 h2).2,h3]
   ·rw[if_neg e];cases hi:es[i]? with
    |none=>rfl
    |some q=>
     have pT:q.1≠k:=fun e2=>e (by
      refine(gZ (by simpa using pO) h0).1 ?_;rw[aO,aO,h2,hi];simp[h3,e2])
     simp[pT]
theorem QM {vs:List Value} {m zr u:Value} {L:List (κ×Value)} {k:κ} {b ok2:Bool} (ho:o.op= .lookup T x y ok2) (hx:g9 [x,y] vs x=m) (hy:g9 [x,y] vs y=ke k) (hu:P.underlying T=some (.map kt et)) (hk:ok k) (hz:∀w,(zeroValue et).run P w= .ok zr w) (h:MK ok ke H m L)
  (wU:(b=false/\u=zr/\k∉L.map (·.1))\/(b=true/\(k,u)∈L)):Rds P o vs H (if ok2 then .tuple #[u,.bool b]else u):=fun w hw=>by
 obtain⟨r,es,clock,rfl,hH,hE,rO⟩:=h;have pZ:o.op.operands.toList=[x,y]:=by simp[ho,Op.operands]
 have hb:=hw _ _ hH;have vH:L.map (·.1)=es.map (·.1):=by rw[<-rO];unfold kvN;rw[cC];rfl
 rw[pZ];simp only[execOp,ho,hx,hy,aG,Instr.lookup,run_underlying hu,aE,Iu hb,aT,hK.check k hk];rcases QK hK hE.oks hk w with⟨h1,h2⟩|⟨j,p,h1,h2,h3⟩
 ·rw[h1];rcases wU with⟨rfl,rfl,_⟩|⟨_,hm⟩
  ·cases ok2<;>simp[hz]
  ·exact absurd (by rw[<-vH];exact aH.2 ⟨_,hm,rfl⟩) h2
 ·rw[h1];rcases wU with⟨_,_,hm⟩|⟨rfl,hm⟩
  ·exact absurd (by rw[vH];exact aH.2 ⟨p,aI h2,h3⟩) hm
  ·have:p.2.1=u:=by
    rw[<-rO]at hm;obtain⟨q,hq,e⟩:=aH.1 hm;simp only[eB]at e;obtain⟨i,hi⟩:=bP.1 hq;have l1:=(aC.1 h2).1;have:j=i:=(gZ (by simpa using l1) hE.keys).1 (by rw[aO,aO,h2,hi];simp[h3,e.1]);subst this;rw[h2]at hi;cases hi;exact e.2
   subst this;cases ok2<;>simp
theorem c4d (ho:o.op= .makeMap T none):Opn P o [] H fun v H'=>PH.le H H'/\MKO ok ke H H' v []:=fun w hw=>by
 have _hK:=hK;refine(fi (P:=P) (H:=H) ho w hw).mono ?_;rintro u w' ⟨H',hs,r,hr,rfl,rfl⟩;exact⟨_,hs,PH.le_put hr _,r,[],0,rfl,hr,by rw[PH.put_self];rfl,⟨List.nodup_nil,(fun p hp=>by cases hp),iF,fun p hp=>by cases hp⟩,rfl⟩
end
def IT (ke:κ->Value) (H:PH) (q r:Nat) (es:List (κ×Value×Nat)) (clock:Nat) (seen:List Nat):Prop:=H q=some (.mapIter (some r) clock seen.toArray clock)/\H r=some (.map (eN ke es).toArray clock)
section
variable {P:Program} {H:PH} {o:Oper} {x:Operand} {T kt et:TypeId}
theorem QN {vs:List Value} {r clock:Nat} {es:List (κ×Value×Nat)} (ho:o.op= .range T x) (hx:g9 [x] vs x= .map (some r)) (hu:P.underlying T=some (.map kt et)) (hH:H r=some (.map (eN ke es).toArray clock)):
  Opn P o vs H fun v H'=>∃q,H q=none/\v= .pointer (some ⟨q,0,none⟩)/\H'=H.put q (.mapIter (some r) clock #[] clock):=fun w hw=>by
 have pZ:o.op.operands.toList=[x]:=by simp[ho,Op.operands]
 have hb:=hw _ _ hH;unfold Stp;rw[pZ];simp only[execOp,ho,hx,aG,Instr.range,run_underlying hu,aE,Iu hb,aT];exact⟨_,Step.newB hw _,_,hw.fresh,rfl,rfl⟩
def left (es:List (κ×Value×Nat)) (seen:List Nat):List (κ×Value×Nat):=es.filter fun p=> !seen.any (eG p.2.2)
theorem QO {vs:List Value} {q r clock:Nat} {es:List (κ×Value×Nat)} {seen:List Nat} (ho:o.op= .next x false) (hx:g9 [x] vs x= .pointer (some ⟨q,0,none⟩)) (hE:ml ok es clock) (h:IT ke H q r es clock seen):
  Opn P o vs H fun v H'=>(left es seen=[]/\v= .tuple #[.bool false]/\H'=H)\/∃p∈left es seen,v= .tuple #[.bool true,ke p.1,p.2.1]/\H'=H.put q (.mapIter (some r) clock (seen++[p.2.2]).toArray clock):=fun w hw=>by
 obtain⟨h1,h2⟩:=h;have pZ:o.op.operands.toList=[x]:=by simp[ho,Op.operands]
 have hq:=hw _ _ h1;have hr:=hw _ _ h2;have hlf:(eN ke es).filter (fun e=> !seen.any (eG e.born))=eN ke (left es seen):=by
  unfold eN left;rw[List.filter_map];rfl
 have pO:∀e∈eN ke es,e.born<clock:=fun e he=>by
  obtain⟨p,hp,rfl⟩:=aH.1 he;exact hE.lt p hp
 have pQ:=c1X (P:=P) (ty:=o.type) hq hr (fun e he=>pO e (List.mem_filter.1 he).1) (by
  by_cases he:eN ke es=[]
  ·exact .inr (.inl he)
  ·obtain⟨e,r,hh⟩:=List.exists_cons_of_ne_nil he;exact .inr (.inr ⟨e,by rw[hh];simp,pO e (by rw[hh];simp)⟩))
 unfold Stp;rw[pZ];simp only[execOp,ho,hx,aG];rw[hlf]at pQ;rcases pQ with⟨h3,h4⟩|⟨e,he,w1,sZ,hh1,h4⟩
 ·rw[h4];exact⟨_,Step.refl hw,.inl ⟨by unfold eN at h3;simpa using h3,rfl,rfl⟩⟩
 ·rw[h4];obtain⟨p,hp,rfl⟩:=aH.1 he;exact⟨_,(Step.of_ext hw sZ).trans (Step.setB (hw.ext sZ) h1 _),.inr ⟨p,hp,rfl,rfl⟩⟩
theorem QP {vs:List Value} {q r clock:Nat} {es:List (κ×Value×Nat)} {seen:List Nat} {p:κ×Value×Nat} (ho:o.op= .entry x) (hx:g9 [x] vs x= .pointer (some ⟨q,0,none⟩)) (hE:ml ok es clock) (hp:p∈es) (h:IT ke H q r es clock (seen++[p.2.2])):Rds P o vs H (.tuple #[ke p.1,p.2.1]):=fun w hw=>by
 obtain⟨h1,h2⟩:=h;have pZ:o.op.operands.toList=[x]:=by simp[ho,Op.operands]
 have hq:=hw _ _ h1;have xJ:(getObj q).run P w= .ok (.mapIter (some r) clock (seen++[p.2.2]).toArray clock) w:=by simp[getObj,Sem.run,hq]
 have uL:=Iu (P:=P) (hw _ _ h2);have hf:(eN ke es).toArray.find? (·.born==p.2.2)=some ⟨ke p.1,p.2.1,p.2.2⟩:=by
  rw[<-Array.find?_toList];show(eN ke es).find? _=_;unfold eN;rw[List.find?_map];have hu:es.find? ((fun e:MapEntry=>e.born==p.2.2) ∘ fun p=>⟨ke p.1,p.2.1,p.2.2⟩)=some p:=by
   obtain⟨i,hi⟩:=bP.1 hp;rw[List.find?_eq_some_iff_getElem];obtain⟨hil,rfl⟩:=aC.1 hi;refine⟨by simp,i,hil,rfl,fun j hj=> ?_⟩;have:=List.pairwise_iff_getElem.1 hE.asc j i (by simp;omega) (by simpa using hil) hj;simp only[List.getElem_map]at this;simp;omega
  rw[hu];rfl
 have hb:(seen++[p.2.2]).toArray.back? =some p.2.2:=by simp
 rw[pZ];simp only[execOp,ho,hx,aG,Instr.entry,xJ,aE,hb,uL,bne_self_eq_false,Bool.false_eq_true,if_false,hf,aT]
end
end
end Go.RX
/- Chapter 32: keys of plans; counts of trees as fractions. -/
namespace Go.Proofs.Z
open Go.Proofs.Tryz
open Go.RowKit Go.RX Go.GS Go.RZ
def okK (l:List Int):Prop:=l.length=12/\∀z∈l,0<=z/\z<9223372036854775808
def kV (l:List Int):Value:= .agg (l.map ii).toArray
theorem mn:Ek prog 112:=by
 have big:6<=(prog).types.size+1:=oDt (by kernel_rfl);exact⟨by kernel_rfl,by kernel_rfl,by kernel_rfl,by kernel_rfl,by kernel_rfl,big⟩
def kA (l:List Int):List AV:=l.map fun z=> .int .i64 z
theorem c8O {z:Int} (h:0<=z/\z<9223372036854775808) (d:Nat):Dt prog (d+1) 3 [.int .i64 z]=true:=by
 obtain⟨n,rfl⟩:∃n:Nat,z=(n:Int):=⟨z.toNat,by omega⟩;exact xu (by omega) d
theorem Wm {l:List Int} (h:okK l):Dt prog 6 112 (kA l)=true:=by
 have hu:prog.underlying 112=some (.array 12 3):=by kernel_rfl
 have h1:prog.cellsOf 112=12:=by kernel_rfl
 have h2:prog.cellsOf 3=1:=by kernel_rfl
 have hr:List.range 12=[0,1,2,3,4,5,6,7,8,9,10,11]:=by decide
 obtain⟨hl,hz⟩:=h
 match l,hl with
 |[a0,a1,a2,a3,a4,a5,a6,a7,a8,a9,a10,a11],_=>
  have f:∀z∈[a0,a1,a2,a3,a4,a5,a6,a7,a8,a9,a10,a11],Dt prog 5 3 [.int .i64 z]=true:=fun z h=>c8O (hz z h) 4;simp only[aL,List.not_mem_nil,or_false,forall_eq_or_imp,forall_eq]at f;obtain⟨f0,f1,f2,f3,f4,f5,f6,f7,f8,f9,f10,f11⟩:=f;unfold Dt;rw[hu];simp only[h1,h2,hr,List.all_cons,List.all_nil,Bool.and_true,kA,aM,cL];rw[aF];refine⟨rfl,?_⟩;simp only[aF];exact⟨f0,f1,f2,f3,f4,f5,f6,f7,f8,f9,f10,f11⟩
theorem QQ (σ:Rl):∀l:List Int,rzs σ (kA l)=l.map ii
 |[]=>rfl
 |z::l=>by
  show rzs σ (.int .i64 z::kA l)=_;simp only[rzs,rz,QQ σ l,aM];rfl
theorem Wn (σ:Rl) (l:List Int):rz σ (.agg (kA l))=kV l:=by
 simp only[rz,QQ];rfl
theorem ar:QJ prog 112 okK kV where
 check:=fun k hk b w=>by
  have hK:∀t,(fun t=>eG t 112) t=true->Ek prog t:=fun t ht=>by rw[Ly ht];exact mn
  have:=c1V (σ:=fun _=>(0,0)) (kty:=fun t=>eG t 112) hK (v:= .agg (kA k)) (kt:=112) (by simp[Di,Wm hk]) b w
  rwa[Wn]at this
 stays:=fun k hk w=>by
  have hK:∀t,(fun t=>eG t 112) t=true->Ek prog t:=fun t ht=>by rw[Ly ht];exact mn
  have:=c1W (σ:=fun _=>(0,0)) (kty:=fun t=>eG t 112) hK (v:= .agg (kA k)) (kt:=112) (by simp[Di,Wm hk]) w
  rwa[Wn]at this
 find:=fun k hk E hE w=>by
  have hK:∀t,(fun t=>eG t 112) t=true->Ek prog t:=fun t ht=>by rw[Ly ht];exact mn
  have:=c7b (σ:=fun _=>(0,0)) (kty:=fun t=>eG t 112) (key:= .agg (kA k)) (kt:=112) hK (by simp[Di,Wm hk]) E (fun e he=>by
   obtain⟨a,ha,h⟩:=hE e he;exact⟨.agg (kA a),by rw[Wn];exact h,by simp[Di,Wm ha]⟩) w
  rwa[Wn]at this
 inj:=fun a b _ _ h=>by
  unfold kV at h
  injection h with h
  have h:=congrArg Array.toList h;simp only[iK]at h;have:∀{x y:Int},ii x=ii y->x=y:=fun h=>by injection h
  exact(List.map_inj_right (f:=ii) fun x y h=>this h).1 h
def m7 (p:List Int):List Int:=p++bC (12-p.length) 0
theorem au {p:List Int} (hl:p.length<=12) (h:∀z∈p,0<=z/\z<9223372036854775808):okK (m7 p):=by
 refine⟨by unfold m7;simp;omega,fun z hz=> ?_⟩;unfold m7 at hz;rcases aV.1 hz with hz|hz
 ·exact h z hz
 ·rw[List.mem_replicate]at hz;rw[hz.2];omega
theorem QR {p q:List Int} (h:p.length=q.length) (he:m7 p=m7 q):p=q:=by
 unfold m7 at he;exact(List.append_inj he h).1
theorem QS {p:List Int} (hl:p.length<=12):(m7 p).length=12:=by unfold m7;simp;omega
theorem c4g {p:List Int} (hl:p.length<=12):((bC 12 (ii 0)).toArray.toList.take 0++(p.flatMap fun z:Int=>[ii z])++(bC 12 (ii 0)).toArray.toList.drop (0+p.length)).toArray=((m7 p).map ii).toArray:=by
 have hf:∀l:List Int,(l.flatMap fun z:Int=>[ii z])=l.map ii:=fun l=>by
  induction l with
  |nil=>rfl
  |cons a l ih=>rw[List.flatMap_cons,ih];rfl
 rw[hf];unfold m7;rw[List.take_zero,List.nil_append,iK,List.drop_replicate,Nat.zero_add,aX,List.map_replicate]
theorem d4N {b:Nat} {X:PH} {o:Oper} {x:Operand} {T:TypeId} {fz:Nat×Nat} {l:List Int} (ho:o.op= .load 112 x) (hx:g9 [x] [.pointer (some ⟨b,0,none⟩)] x= .pointer (some ⟨b,0,none⟩)) (hX:X b=some (.cells (l.map ii).toArray T fz)) (hl:l.length=12):Rds prog o [.pointer (some ⟨b,0,none⟩)] X (kV l):=by
 have hc:(prog).cellsOf 112=12:=by kernel_rfl
 have ha:Aw prog 112=true:=by kernel_rfl
 have h:=Qs ho hx hX (T:=112) (by kernel_rfl) (by rw[hc];simp[hl]) (fun h=>by rw[ha]at h;cases h);rw[ha,hc]at h;have e:(l.map ii).toArray.extract 0 (0+12)=(l.map ii).toArray:=by
  rw[<-eZ];simp only[Array.toList_extract,iK];rw[List.extract_eq_take_drop,List.drop_zero];exact List.take_of_length_le (by simp[hl])
 rw[e]at h;exact h
theorem d8n {l:List Int} (hl:l.length=12):(kV l).cells.size=12/\s8 (kV l).cells:=by
 refine⟨by show(l.map ii).toArray.size=12;simp[hl],fun c hc=> ?_⟩;have hc:c∈l.map ii:=by simpa[kV,Value.cells]using hc
 obtain⟨z,_,rfl⟩:=aH.1 hc;rfl
section
variable {H:PH} {u w wts:Value} {p wl:List Int} {n:Nat} {es:List (Nat×Nat)} {lo hi ds:Int} {set:Nat}
theorem Wp (hu:SI H u p) (hl:p.length<=12):Con prog 51 [u] H fun r H'=>PH.le H H'/\r=kV (m7 p):=by
 refine j3 mixed d3z ?_;have hk:prog.underlying 112=some (.array 12 3):=by kernel_rfl
 have hc:(prog).cellsOf 112=12:=by kernel_rfl
 have ha:Aw prog 112=true:=by kernel_rfl
 have hT:z7 prog 3=true:=by kernel_rfl
 have sV:z7 prog 112=true:=by kernel_rfl
 have hui:prog.underlying 32=some (.slice 3):=by kernel_rfl
 obtain⟨ti,zv,i1,i2,i3,i4,i5⟩:=el_int.inf;refine Ee (cs:=(bC 12 (ii 0)).toArray) (by kernel_rfl) fun b hb=> ?_;refine r7 ((Xy (vs:=[.pointer (some ⟨b,0,none⟩)]) rfl rfl hk hT).rds _) rfl ?_;have uJ:PH.le H (H.put b (.cells (bC 12 (ii 0)).toArray 112 (0,0))):=PH.le_put hb _;have hsl:Sl (H.put b (.cells (bC 12 (ii 0)).toArray 112 (0,0))) 1 u p.length (p.flatMap fun z:Int=>[ii z]):=hu.mono uJ;refine r4 (FR (P:=prog) (g:=b) (q:=0) (dLen:=12) (dCap:=12) (m:=p.length) (u:=u) (vs:=[.slice (some ⟨b,0,none⟩) 12 12,u]) rfl rfl rfl hui i1 (by rw[i3]) (PH.put_self _ _ _) hsl (fun c hc=>by rw[List.mem_flatMap]at hc;obtain⟨z,_,hz⟩:=hc;rw[aQ]at hz;subst hz;rfl) hl (by simp;omega)) rfl ?_;rintro _ H2 rfl;refine nmI ?_;rw[c4g hl];refine r7 ((d4N rfl rfl (PH.put_self _ _ _) (QS hl))) rfl ?_;refine d9 (d8n (QS hl)) ?_;exact g8 rfl ⟨fun k ob hk=>by rw[PH.put_ne _ _ (fun e=>by subst e;rw[hb]at hk;cases hk)];exact uJ _ _ hk,rfl⟩
end
end Go.Proofs.Z
/- Chapter 32: counts of trees as fractions, parts of a set. -/
namespace Go.GS
theorem c8P {F:Nat->Nat->Int} {B:Nat} (h:∀i j,(F i j).natAbs<=B) (k:Nat):(pk F k).natAbs<=(k*B)^k:=by
 have:=zi (B:=B) (blk k) ((blk k).map F) k (by simp[kq]) (fun r hr c hc=>by
  obtain⟨x,_,rfl⟩:=aH.1 hr;exact h _ _)
 unfold pk;simpa[kq]using this
theorem d4O {set n:Nat} (h:set<2^n) (hn:n<=64) (f:Nat->Nat):(Fp set f).length<=n:=by
 have e:Fp set f=(els set).filter fun x=>decide (f x=x)&&decide (x≠f (lst set)):=by
  unfold Fp els;rw[List.filter_filter];refine List.filter_congr fun x _=> ?_;cases bit set x<;>simp
 rw[e,<-e0a h hn];refine aS (fM _ _) (aS (fM _ _) ?_);simp
end Go.GS
namespace Go.Proofs.Z
open Go.Proofs.Tryz
open Go.RowKit Go.RX Go.GS
open Go.WD (BP Bf wd rs toI HM)
theorem Wq {H:PH} {v:Value} {r:Rat} (h:Rp H v r):Value.agg v.cells=v:=by
 obtain⟨w1,w2,rfl,_⟩:=h;rfl
noncomputable def tN (es:List (Nat×Nat)) (set:Nat):Int:=Kr set es [] []
theorem av (es:List (Nat×Nat)) (set:Nat):0<=tN es set:=by
 unfold tN;rw[mj];exact NZ _ _ _
theorem AO {es:List (Nat×Nat)} {set n:Nat} (hg:GV n es) (hn:n<=12) (h:set<2^n):tN es set<(BP 5:Nat):=by
 have h0:=av es set;have h1:(tN es set).natAbs<=(12*200)^12:=by
  unfold tN;rw[mj];unfold ao KK;rw[<-zj];refine aS (c8P (B:=200) (fun i j=>aS (zk _ _ _ i j) (aS (d4L 0) hg.len)) _) ?_;have hl:=d4O h (by omega) (lab (etl es []));exact aS (Nat.pow_le_pow_left (show _<=12*200 by omega) _) (aU (by decide) (by omega))
 have h2:(12*200)^12<BP 5:=by
  rw[show BP 5=2^160 from by unfold BP;rfl];decide
 omega
theorem e0j {k:Nat} (hk:k<=15):BP k<=HM:=by
 rw[HV];exact aS (Bf hk) (Nat.le_mul_of_pos_right _ (by decide))
section
variable {H:PH} {u w wts:Value} {p wl:List Int} {n:Nat} {es:List (Nat×Nat)} {lo hi ds:Int} {set:Nat}
theorem AP (hw:SG H w es) (qV:Dx wts=true) (hg:GV n es) (hn:n<=12) (h0:set≠0/\set<2^n) (hT:Tb H):Con prog 145 [chv wts lo hi ds n w,GS.uv set] H fun r H'=>PH.le H H'/\Rp H' r ((tN es set:Int):Rat):=by
 refine j3 mixed d3B ?_;have hs:=Ci hg.n64 h0.2;have hb:=AO hg hn h0.2;have sH:=av es set;have tY: -(HM:Int)<=tN es set/\tN es set<HM:=by
  have:=e0j (k:=5) (by decide);omega
 refine d9 (Pe qV (Af hw) _ _ _ _) ?_;refine i6 (c8M hw hg h0 hs hT) rfl ?_;rintro v2 H1 ⟨l1,rfl⟩;refine nmI ?_;rw[show told (Kr set es [] [])= .tuple #[wd (rs (tN es set)),ii 0]from if_pos tY];refine i8 (i8 ?_);refine d9 (PK _) ?_;refine i6 (Uu (rs (tN es set))) rfl ?_;rintro v3 H2 ⟨l2,w2⟩;refine nmI ?_;rw[Go.WD.toI_rs tY]at w2;refine i6 (IV w2) rfl ?_;rintro v4 H3 ⟨l3,w3⟩;refine nmI ?_;refine d9 w3.rq ?_;exact g8 (Wq w3) ⟨l1.trans (l2.trans l3),w3⟩
theorem c8Q {s:Nat}:Con prog 146 [GS.uv s] H fun u H'=>∃b,H b=none/\H'=H.or (Dh b s)/\u= .func (.func 203) #[] #[.pointer (some ⟨b,0,none⟩)]:=by
 refine j3 mixed d3A ?_;refine d9 ⟨rfl,fun c hc=>by simp[D,Value.cells,GS.uv]at hc;subst hc;rfl⟩ ?_;refine Ee (cs:= #[GS.uv s]) rfl fun b hb=> ?_;refine He (La (vs:=[.pointer (some ⟨b,0,none⟩)]) rfl rfl) rfl ?_;exact g8 rfl ⟨b,hb,by unfold Dh;rw[PH.put_or hb],rfl⟩
end
end Go.Proofs.Z
/- Chapter 32: probabilities of the next plans that differ. -/
namespace Go.Proofs.Z
open Go.Proofs.Tryz
open Go.RowKit Go.RX Go.GS Go.RZ
open Go.WD (BP Bf wd rs toI HM)
theorem AQ {H:PH} (n:Int) (h0: -9223372036854775808<=n) (h1:n<9223372036854775808):Con prog 58 [.int .i64 n] H fun u H'=>PH.le H H'/\Rp H' u (n:Rat):=by
 refine Aa mixed O1 (by kernel_rfl) rfl (i6 (Rf n h0 h1) rfl ?_);rintro u1 H1 ⟨l1,rN⟩;simp only[cA,nA];refine⟨fun h=>(nomatch h),i6 (IV rN) rfl ?_⟩;rintro u2 H2 ⟨l2,rK⟩;refine⟨fun h=>(nomatch h),d9 rK.rq (g8 (Wq rK) ⟨l1.trans l2,rK⟩)⟩
theorem AS {rest least:Nat}:∀{n part y:Nat},y∈Hg rest least n part->∃x,x&&&rest=x/\x<part/\y=x|||least
 |0,_,_,h=>by cases h
 |n+1,part,y,h=>by
  unfold Hg at h;split at h
  ·cases h
  ·rename_i h0;have pP:(part-1)&&&rest<=part-1:=Nat.and_le_left;have a3m:((part-1)&&&rest)&&&rest=(part-1)&&&rest:=by rw[Nat.and_assoc,Nat.and_self]
   rcases aL.1 h with rfl|h
   ·exact⟨_,a3m,by omega,rfl⟩
   ·obtain⟨x,h1,h2,h3⟩:=AS h;exact⟨x,h1,by omega,h3⟩
theorem aw {S y:Nat} (hs:S<M64) (h0:S≠0) (hy:y∈Bd S):(∀x,bit y x=true->bit S x=true)/\bit y (lst S)=true/\y≠S:=by
 obtain⟨m,r,he,hm,_,_⟩:=Je hs h0;have hl:Bo S=2^m:=Yt hs he;have hlm:lst S=m:=by unfold lst;rw[he];rfl
 obtain⟨x,h1,h2,rfl⟩:=AS hy;rw[hl]at h1 h2⊢;have hb:∀z,bit x z=true->bit S z=true/\z≠m:=fun z hz=>by
  have h3:bit (x&&&sdf S (2^m)) z=true:=by rw[h1];exact hz
  rw[show bit (x&&&sdf S (2^m)) z=(bit x z&&bit (sdf S (2^m)) z)from Nat.testBit_and _ _ _,Ad,Ae]at h3;simp only[aF,Bool.not_eq_true',decide_eq_false_iff_not]at h3;exact⟨h3.2.1,fun e=>h3.2.2 e.symm⟩
 refine⟨fun z hz=> ?_,by rw[hlm,Ac,Ae];simp,fun e=> ?_⟩
 ·rw[Ac,Ae,Bool.or_eq_true,decide_eq_true_eq]at hz;rcases hz with hz|rfl
  ·exact(hb z hz).1
  ·exact hm
 ·have:sdf S (2^m)=x:=by
   refine Ax fun z=> ?_;rw[Ad,Ae,<-e,Ac,Ae];by_cases hz:m=z
   ·subst hz;have:bit x m=false:=by
     cases hx:bit x m with
     |false=>rfl
     |true=>exact absurd rfl (hb m hx).2
    simp[this]
   ·simp[hz]
  omega
theorem ax {S y n:Nat} (hs:S<2^n) (qK:n<=64) (h0:S≠0) (hy:y∈Bd S):(y≠0/\y<2^n)/\(sdf S y≠0/\sdf S y<2^n):=by
 have hM:S<M64:=Nat.lt_of_lt_of_le hs (aU (n:=2) (by decide) qK);obtain⟨h1,h2,h3⟩:=aw hM h0 hy;refine⟨⟨(fun e=>by rw[e,Bz]at h2;cases h2),Sj hs h1⟩,fun e=>h3 ?_,Sj hs fun x hx=>by rw[Ad]at hx;simp at hx;exact hx.1⟩;refine Ax fun z=> ?_;have hz:bit (sdf S y) z=false:=by rw[e,Bz]
 rw[Ad]at hz;cases hS:bit S z with
 |true=>rw[hS]at hz;simpa using hz
 |false=>
  cases hY:bit y z with
  |true=>rw[h1 z hY]at hS;cases hS
  |false=>rfl
theorem d8o {o:Oper} {x y:Operand} {a b:List Int} {H:PH} (ho:o.op= .binOp .neq 112 x y 112) {vs:List Value} (hx:g9 [x,y] vs x=kV a) (hy:g9 [x,y] vs y=kV b) (ha:okK a) (hb:okK b):Rds prog o vs H (.bool (!decide (a=b))):=by
 have h:=KX (H:=H) mn (Wm ha) (Wm hb) ho (hx.trans (Wn (fun _=>(0,0)) a).symm) (hy.trans (Wn (fun _=>(0,0)) b).symm);have e:Ef (kA a) (kA b)=decide (a=b):=by
  have:∀(a b:List Int),Ef (kA a) (kA b)=true↔a=b:=fun a=>by
   induction a with
   |nil=>intro b;cases b<;>simp[kA,Ef]
   |cons x a ih=>
    intro b;cases b with
    |nil=>simp[kA,Ef]
    |cons y b=>
     have:=ih b;simp only[kA,aM]at this⊢;simp[Ef,isK,KD,this]
  rw[Bool.eq_iff_iff,this,oDi]
 rw[e]at h;exact h
end Go.Proofs.Z

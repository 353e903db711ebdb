/- Lemmas of the proof. -/
import Derived.Test.YtcdnhlplkhldbaaGreatDoorSrG
import Derived.StringKeys
import Derived.Test.YtcdnhlplkhldbaaGreatDoorGeA
open Array renaming toList->oU
open Bool renaming and_false->lT,and_true->jT,not_eq_true'->kS
open Go.Result renaming andThen_ok->eJ
open Go.Sem renaming run_bind->eK,run_pure->eL
open Go.Value.int renaming injEq->kP
open List renaming getElem?_inj->gX,getElem?_modify->mR,mem_iff_getElem?->gR,mem_or_eq_of_mem_set->lN,range'->nG,range->eO,replicate->eS,sum_cons->eP
open List.Pairwise renaming nil->lJ
open Nat renaming beq->gW,lt_trans->iE,or_lt_two_pow->iY,or_zero->pQ,two_pow_pos->iO
open Prod renaming ext->lV
open Prod.mk renaming injEq->kY
set_option linter.all false
set_option maxRecDepth 100000
namespace Go.RX
open RowKit RZ
structure Tv (P:Program) (kt:TypeId) {κ:Type} (ok:κ->Prop) (ke:κ->Value):Prop where
 check:∀k,ok k->∀b w,(Instr.checkKey b 10000 kt (ke k)).run P w= .ok () w
 stays:∀k,ok k->∀w,(Instr.keyThatStays (ke k) (ke k)).run P w= .ok (ke k) w
 find:∀k,ok k->∀E:List MapEntry,(∀e∈E,∃a,ok a/\e.key=ke a)->∀w,((Instr.findKey kt (ke k) E).run P w= .ok none w/\∀e∈E,e.key≠ke k)\/∃j e,(Instr.findKey kt (ke k) E).run P w= .ok (some (j,e.val)) w/\E[j]? =some e/\e.key=ke k
 inj:∀a b,ok a->ok b->ke a=ke b->a=b
section
variable {κ:Type} {ok:κ->Prop} {ke:κ->Value}
def eN (ke:κ->Value) (es:List (κ×Value×Nat)):List MapEntry:=es.map fun p=>⟨ke p.1,p.2.1,p.2.2⟩
def kvN (es:List (κ×Value×Nat)):List (κ×Value):=es.map fun p=>(p.1,p.2.1)
structure mh (ok:κ->Prop) (es:List (κ×Value×Nat)) (clock:Nat):Prop where
 keys:(es.map (·.1)).Nodup
 oks:∀p∈es,ok p.1
 asc:(es.map (·.2.2)).Pairwise (· < ·)
 lt:∀p∈es,p.2.2<clock
def MK (ok:κ->Prop) (ke:κ->Value) (H:PH) (m:Value) (L:List (κ×Value)):Prop:=∃r es clock,m= .map (some r)/\H r=some (.map (eN ke es).toArray clock)/\mh ok es clock/\kvN es=L
def MKO (ok:κ->Prop) (ke:κ->Value) (B H:PH) (m:Value) (L:List (κ×Value)):Prop:=∃r es clock,m= .map (some r)/\B r=none/\H r=some (.map (eN ke es).toArray clock)/\mh ok es clock/\kvN es=L
def MKO.mk {B H:PH} {m:Value} {L:List (κ×Value)} (h:MKO ok ke B H m L):MK ok ke H m L:=by
 obtain⟨r,es,c,h1,_,h2,h3⟩:=h;exact⟨r,es,c,h1,h2,h3⟩
def MKO.mono {B H H':PH} {m:Value} {L:List (κ×Value)} (h:MKO ok ke B H m L) (hl:Pl H H'):MKO ok ke B H' m L:=by
 obtain⟨r,es,c,h1,h4,h2,h3⟩:=h;exact⟨r,es,c,h1,h4,hl _ _ h2,h3⟩
def MK.keys {H:PH} {m:Value} {L:List (κ×Value)} (h:MK ok ke H m L):(L.map (·.1)).Nodup/\∀p∈L,ok p.1:=by
 obtain⟨r,es,c,_,_,h3,rfl⟩:=h;refine⟨?_,fun p hp=> ?_⟩
 ·have e:(kvN es).map (·.1)=es.map (·.1):=by unfold kvN;rw[dO];rfl
  rw[e];exact h3.keys
 ·obtain⟨q,hq,rfl⟩:=aZ.1 hp;exact h3.oks q hq
open Classical in
noncomputable def Bz {β:Type} (L:List (κ×β)) (k:κ) (v:β):List (κ×β):=if k∈L.map (·.1)then L.map fun p=>if p.1=k then(k,v)else p else L++[(k,v)]
open Classical in
def Pn {β:Type} {L:List (κ×β)} {k x:κ} {v y:β}:(x,y)∈Bz L k v->(x=k/\y=v)\/(x≠k/\(x,y)∈L):=by
 unfold Bz;split
 ·rename_i hk;rw[aZ];rintro⟨p,hp,e⟩;split at e
  ·simp only[kY]at e;exact .inl ⟨e.1.symm,e.2.symm⟩
  ·rename_i e1;subst e;exact .inr ⟨e1,hp⟩
 ·rename_i hk;rw[aV,bB];rintro(h1|h1)
  ·refine .inr ⟨fun e=>hk ?_,h1⟩;subst e;exact aZ.2 ⟨_,h1,rfl⟩
  ·simp only[kY]at h1;exact .inl h1
def Po {β:Type} {L:List (κ×β)} {k:κ} {v:β}:(k,v)∈Bz L k v:=by
 unfold Bz;split
 ·rename_i hk;obtain⟨p,hp,e⟩:=aZ.1 hk;exact aZ.2 ⟨p,hp,by rw[if_pos e]⟩
 ·simp
def mj {β:Type} {L:List (κ×β)} {k x:κ} {v y:β} (h:(x,y)∈L) (hx:x≠k):(x,y)∈Bz L k v:=by
 unfold Bz;split
 ·exact aZ.2 ⟨(x,y),h,by rw[if_neg hx]⟩
 ·simp[h]
section
variable {P:Program} {H:PH} {o:Oper} {x y z:Operand} {T kt et:TypeId} (hK:Tv P kt ok ke)
def d5S {es:List (κ×Value×Nat)} (h:∀p∈es,ok p.1):∀e∈eN ke es,∃a,ok a/\e.key=ke a:=fun e he=>by
 obtain⟨p,hp,rfl⟩:=aZ.1 he;exact⟨p.1,h p hp,rfl⟩
include hK
def QO {es:List (κ×Value×Nat)} (ho:∀p∈es,ok p.1) {k:κ} (hk:ok k) (w:World):
  ((Instr.findKey kt (ke k) (eN ke es)).run P w= .ok none w/\k∉es.map (·.1))\/∃j p,(Instr.findKey kt (ke k) (eN ke es)).run P w= .ok (some (j,p.2.1)) w/\es[j]? =some p/\p.1=k:=by
 rcases hK.find k hk (eN ke es) (d5S ho) w with⟨h1,h2⟩|⟨j,e,h1,h2,h3⟩
 ·refine .inl ⟨h1,fun hm=> ?_⟩;obtain⟨p,hp,rfl⟩:=aZ.1 hm;exact h2 _ (aZ.2 ⟨p,hp,rfl⟩) rfl
 ·unfold eN at h2;rw[aX]at h2;obtain⟨p,hp,rfl⟩:=Option.map_eq_some_iff.1 h2;exact .inr ⟨j,p,h1,hp,hK.inj _ _ (ho p (aK hp)) hk h3⟩
def Pq {B:PH} {vs:List Value} {m v:Value} {L:List (κ×Value)} {k:κ} (ho:o.op= .mapUpdate T x y z) (hx:e8 [x,y,z] vs x=m) (hy:e8 [x,y,z] vs y=ke k) (hz:e8 [x,y,z] vs z=v) (hu:P.underlying T=some (.map kt et)) (hk:ok k)
  (pY:Pl B H) (h:MKO ok ke B H m L):Opn P o vs H fun u H'=>u=undef/\Pl B H'/\MKO ok ke B H' m (Bz L k v)/\∃g ob E c,m= .map (some g)/\B g=none/\H g=some (.map E c)/\H'=H.put g ob:=fun w hw=>by
 obtain⟨r,es,clock,rfl,hB,hH,hE,rW⟩:=h;have qE:o.op.operands.toList=[x,y,z]:=by simp[ho,Op.operands]
 have hb:=hw _ _ hH;unfold Stp;rw[qE];have tK:∀ob,Pl B (H.put r ob):=fun ob c cb hc=>by
  rw[PH.put_ne _ _ (fun e=>by subst e;rw[hB]at hc;cases hc)];exact pY _ _ hc
 have rC:L.map (·.1)=es.map (·.1):=by rw[<-rW];unfold kvN;rw[dO];rfl
 simp only[execOp,ho,hx,hy,hz,eK,Instr.mapUpdate,run_underlying hu,eJ,Ih hb,hK.check k hk];rcases QO hK hE.oks hk w with⟨h1,h2⟩|⟨j,p,h1,h2,h3⟩
 ·rw[h1];simp only[eJ,eL,Yz _ hb];refine⟨_,Step.setB hw hH _,by first|rfl|trivial,tK _,⟨r,es++[(k,v,clock)],clock+1,rfl,hB,?_,⟨?_,?_,?_,?_⟩,?_⟩,r,_,_,_,rfl,hB,hH,rfl⟩
  ·rw[PH.put_self];simp[eN]
  ·rw[bM,List.nodup_append];exact⟨hE.keys,aD,fun a ha b hb=>by simp only[bI,bR,bB]at hb;subst hb;intro e;subst e;exact h2 ha⟩
  ·intro p hp;rcases aV.1 hp with hp|hp
   ·exact hE.oks p hp
   ·rw[bB]at hp;subst hp;exact hk
  ·rw[bM,List.pairwise_append];refine⟨hE.asc,aD,fun a ha b hb=> ?_⟩;simp only[bI,bR,bB]at hb;subst hb;obtain⟨p,hp,rfl⟩:=aZ.1 ha;exact hE.lt p hp
  ·intro p hp;rcases aV.1 hp with hp|hp
   ·have:=hE.lt p hp;omega
   ·rw[bB]at hp;subst hp;exact bW _
  ·unfold Bz;rw[if_neg (by rw[rC];exact h2),<-rW];simp[kvN]
 ·rw[h1];have hje:((eN ke es).toArray[j]?.map (·.key)).getD (ke k)=ke k:=by simp[eN,h2,h3]
  simp only[eJ,eL,hje,eK,hK.stays k hk,Yz _ hb];have qB:=(aH.1 h2).1;have a0d:∀{α:Type} (f:κ×Value×Nat->α),f (k,v,p.2.2)=f p->(es.set j (k,v,p.2.2)).map f=es.map f:=fun f hf=>by
   apply bP;intro i;rw[aX,aX,dF];by_cases e:j=i
   ·subst e;rw[if_pos rfl,if_pos qB,h2];simp[hf]
   ·rw[if_neg e]
  refine⟨_,Step.setB hw hH _,by first|rfl|trivial,tK _,⟨r,es.set j (k,v,p.2.2),clock,rfl,hB,?_,⟨?_,?_,?_,?_⟩,?_⟩,r,_,_,_,rfl,hB,hH,rfl⟩
  ·rw[PH.put_self];congr 2;rw[<-bS];simp only[Array.toList_modify];apply bP;intro i;simp only[mR,eN,aX,dF];by_cases e:j=i
   ·subst e;obtain⟨zL,h5⟩:=aH.1 h2;simp[zL,h5,h3]
   ·simp[e]
  ·rw[a0d (·.1) (by simp[h3])];exact hE.keys
  ·intro q hq;rcases lN hq with hq|rfl
   ·exact hE.oks q hq
   ·exact hk
  ·rw[a0d (·.2.2) rfl];exact hE.asc
  ·intro q hq;rcases lN hq with hq|rfl
   ·exact hE.lt q hq
   ·exact hE.lt p (aK h2)
  ·have rI:k∈L.map (·.1):=by rw[rC];exact aZ.2 ⟨p,aK h2,h3⟩
   have h0:=hE.keys;unfold Bz;rw[if_pos rI,<-rW];unfold kvN;rw[dO];apply bP;intro i;simp only[aX,dF,Function.comp];by_cases e:j=i
   ·subst e;simp[qB,(aH.1 h2).2,h3]
   ·rw[if_neg e];cases hi:es[i]? with
    |none=>rfl
    |some q=>
     have qJ:q.1≠k:=fun e2=>e (by
      refine(gX (by simpa using qB) h0).1 ?_;rw[aX,aX,h2,hi];simp[h3,e2])
     simp[qJ]
def ao {vs:List Value} {m zr u:Value} {L:List (κ×Value)} {k:κ} {b ok2:Bool} (ho:o.op= .lookup T x y ok2) (hx:e8 [x,y] vs x=m) (hy:e8 [x,y] vs y=ke k) (hu:P.underlying T=some (.map kt et)) (hk:ok k) (hz:∀w,(zeroValue et).run P w= .ok zr w) (h:MK ok ke H m L)
  (wG:(b=false/\u=zr/\k∉L.map (·.1))\/(b=true/\(k,u)∈L)):Rds P o vs H (if ok2 then .tuple #[u,.bool b]else u):=fun w hw=>by
 obtain⟨r,es,clock,rfl,hH,hE,rW⟩:=h;have qE:o.op.operands.toList=[x,y]:=by simp[ho,Op.operands]
 have hb:=hw _ _ hH;have rC:L.map (·.1)=es.map (·.1):=by rw[<-rW];unfold kvN;rw[dO];rfl
 rw[qE];simp only[execOp,ho,hx,hy,eK,Instr.lookup,run_underlying hu,eJ,Ih hb,eL,hK.check k hk];rcases QO hK hE.oks hk w with⟨h1,h2⟩|⟨j,p,h1,h2,h3⟩
 ·rw[h1];rcases wG with⟨rfl,rfl,_⟩|⟨_,hm⟩
  ·cases ok2<;>simp[hz]
  ·exact absurd (by rw[<-rC];exact aZ.2 ⟨_,hm,rfl⟩) h2
 ·rw[h1];rcases wG with⟨_,_,hm⟩|⟨rfl,hm⟩
  ·exact absurd (by rw[rC];exact aZ.2 ⟨p,aK h2,h3⟩) hm
  ·have:p.2.1=u:=by
    rw[<-rW]at hm;obtain⟨q,hq,e⟩:=aZ.1 hm;simp only[kY]at e;obtain⟨i,hi⟩:=gR.1 hq;have l1:=(aH.1 h2).1;have:j=i:=(gX (by simpa using l1) hE.keys).1 (by rw[aX,aX,h2,hi];simp[h3,e.1]);subst this;rw[h2]at hi;cases hi;exact e.2
   subst this;cases ok2<;>simp
def Na (ho:o.op= .makeMap T none):Opn P o [] H fun v H'=>Pl H H'/\MKO ok ke H H' v []:=fun w hw=>by
 have _hK:=hK;refine(vf (P:=P) (H:=H) ho w hw).mono ?_;rintro u w' ⟨H',hs,r,hr,rfl,rfl⟩;exact⟨_,hs,PH.le_put hr _,r,[],0,rfl,hr,by rw[PH.put_self];rfl,⟨List.nodup_nil,(fun p hp=>by cases hp),lJ,fun p hp=>by cases hp⟩,rfl⟩
end
def IT (ke:κ->Value) (H:PH) (q r:Nat) (es:List (κ×Value×Nat)) (clock:Nat) (seen:List Nat):Prop:=H q=some (.mapIter (some r) clock seen.toArray clock)/\H r=some (.map (eN ke es).toArray clock)
section
variable {P:Program} {H:PH} {o:Oper} {x:Operand} {T kt et:TypeId}
def mn {vs:List Value} {r clock:Nat} {es:List (κ×Value×Nat)} (ho:o.op= .range T x) (hx:e8 [x] vs x= .map (some r)) (hu:P.underlying T=some (.map kt et)) (hH:H r=some (.map (eN ke es).toArray clock)):
  Opn P o vs H fun v H'=>∃q,H q=none/\v= .pointer (some ⟨q,0,none⟩)/\H'=H.put q (.mapIter (some r) clock #[] clock):=fun w hw=>by
 have qE:o.op.operands.toList=[x]:=by simp[ho,Op.operands]
 have hb:=hw _ _ hH;unfold Stp;rw[qE];simp only[execOp,ho,hx,eK,Instr.range,run_underlying hu,eJ,Ih hb,eL];exact⟨_,Step.newB hw _,_,hw.fresh,rfl,rfl⟩
def left (es:List (κ×Value×Nat)) (seen:List Nat):List (κ×Value×Nat):=es.filter fun p=> !seen.any (gW p.2.2)
def mr {vs:List Value} {q r clock:Nat} {es:List (κ×Value×Nat)} {seen:List Nat} (ho:o.op= .next x false) (hx:e8 [x] vs x= .pointer (some ⟨q,0,none⟩)) (hE:mh ok es clock) (h:IT ke H q r es clock seen):
  Opn P o vs H fun v H'=>(left es seen=[]/\v= .tuple #[.bool false]/\H'=H)\/∃p∈left es seen,v= .tuple #[.bool true,ke p.1,p.2.1]/\H'=H.put q (.mapIter (some r) clock (seen++[p.2.2]).toArray clock):=fun w hw=>by
 obtain⟨h1,h2⟩:=h;have qE:o.op.operands.toList=[x]:=by simp[ho,Op.operands]
 have hq:=hw _ _ h1;have hr:=hw _ _ h2;have hlf:(eN ke es).filter (fun e=> !seen.any (gW e.born))=eN ke (left es seen):=by
  unfold eN left;rw[List.filter_map];rfl
 have qB:∀e∈eN ke es,e.born<clock:=fun e he=>by
  obtain⟨p,hp,rfl⟩:=aZ.1 he;exact hE.lt p hp
 have pZ:=c1Y (P:=P) (ty:=o.type) hq hr (fun e he=>qB e (bZ.1 he).1) (by
  by_cases he:eN ke es=[]
  ·exact .inr (.inl he)
  ·obtain⟨e,r,hh⟩:=List.exists_cons_of_ne_nil he;exact .inr (.inr ⟨e,by rw[hh];simp,qB e (by rw[hh];simp)⟩))
 unfold Stp;rw[qE];simp only[execOp,ho,hx,eK];rw[hlf]at pZ;rcases pZ with⟨h3,h4⟩|⟨e,he,w1,sN,hh1,h4⟩
 ·rw[h4];exact⟨_,Step.refl hw,.inl ⟨by unfold eN at h3;simpa using h3,rfl,rfl⟩⟩
 ·rw[h4];obtain⟨p,hp,rfl⟩:=aZ.1 he;exact⟨_,(Step.of_ext hw sN).trans (Step.setB (hw.ext sN) h1 _),.inr ⟨p,hp,rfl,rfl⟩⟩
def mt {vs:List Value} {q r clock:Nat} {es:List (κ×Value×Nat)} {seen:List Nat} {p:κ×Value×Nat} (ho:o.op= .entry x) (hx:e8 [x] vs x= .pointer (some ⟨q,0,none⟩)) (hE:mh ok es clock) (hp:p∈es) (h:IT ke H q r es clock (seen++[p.2.2])):Rds P o vs H (.tuple #[ke p.1,p.2.1]):=fun w hw=>by
 obtain⟨h1,h2⟩:=h;have qE:o.op.operands.toList=[x]:=by simp[ho,Op.operands]
 have hq:=hw _ _ h1;have hgr:(getObj q).run P w= .ok (.mapIter (some r) clock (seen++[p.2.2]).toArray clock) w:=by simp[getObj,Sem.run,hq]
 have vG:=Ih (P:=P) (hw _ _ h2);have hf:(eN ke es).toArray.find? (·.born==p.2.2)=some ⟨ke p.1,p.2.1,p.2.2⟩:=by
  rw[<-Array.find?_toList];show(eN ke es).find? _=_;unfold eN;rw[List.find?_map];have hu:es.find? ((fun e:MapEntry=>e.born==p.2.2) ∘ fun p=>⟨ke p.1,p.2.1,p.2.2⟩)=some p:=by
   obtain⟨i,hi⟩:=gR.1 hp;rw[List.find?_eq_some_iff_getElem];obtain⟨hil,rfl⟩:=aH.1 hi;refine⟨aD,i,hil,rfl,fun j hj=> ?_⟩;have:=cV.1 hE.asc j i (by simp;omega) (by simpa using hil) hj;simp only[List.getElem_map]at this;simp;omega
  rw[hu];rfl
 have hb:(seen++[p.2.2]).toArray.back? =some p.2.2:=aD;rw[qE];simp only[execOp,ho,hx,eK,Instr.entry,hgr,eJ,hb,vG,bne_self_eq_false,aY,if_false,hf,eL]
end
end
end Go.RX
namespace Go.Z
open Proofs.Tryz RowKit RX GS RZ
open WD (words dig wd)
def QP {P:Program} {kt:TypeId} {κ:Type} {ok:κ->Prop} {ce:κ->List AV} {ve:κ->Value} (hK:Eh P kt) (hf:∀k,ok k->Dh P 6 kt (ce k)=true) (hr:∀(σ:Rl) k,rz σ (.agg (ce k))=ve k) (hi:∀a b,ok a->ok b->ve a=ve b->a=b):Tv P kt ok ve where
 check:=fun k hk b w=>by
  have hK:∀t,(fun t=>gW t kt) t=true->Eh P t:=fun t ht=>by rw[Ti ht];exact hK
  have:=MS (σ:=fun _=>(0,0)) (kty:=fun t=>gW t kt) hK (v:= .agg (ce k)) (kt:=kt) (by simp[Ef,hf k hk]) b w
  rwa[hr]at this
 stays:=fun k hk w=>by
  have hK:∀t,(fun t=>gW t kt) t=true->Eh P t:=fun t ht=>by rw[Ti ht];exact hK
  have:=MU (σ:=fun _=>(0,0)) (kty:=fun t=>gW t kt) hK (v:= .agg (ce k)) (kt:=kt) (by simp[Ef,hf k hk]) w
  rwa[hr]at this
 find:=fun k hk E hE w=>by
  have hK:∀t,(fun t=>gW t kt) t=true->Eh P t:=fun t ht=>by rw[Ti ht];exact hK
  have:=MV (σ:=fun _=>(0,0)) (kty:=fun t=>gW t kt) (key:= .agg (ce k)) (kt:=kt) hK (by simp[Ef,hf k hk]) E (fun e he=>by
   obtain⟨a,ha,h⟩:=hE e he;exact⟨.agg (ce a),by rw[hr];exact h,by simp[Ef,hf a ha]⟩) w
  rwa[hr]at this
 inj:=hi
def my (p:Nat×Nat):Prop:=p.1<M64/\p.2<M64
def kW2 (p:Nat×Nat):Value:= .agg #[uv p.1,uv p.2]
def e0A:Eh prog 211:=by
 have big:6<=(prog).types.size+1:=oDt aB;exact⟨aB,aB,aB,aB,aB,big⟩
def wA (s:Nat):AV:= .int .u64 (.ofNat s)
def e0B {p:Nat×Nat} (h:my p):Dh prog 6 211 [wA p.1,wA p.2]=true:=by
 have hu:prog.underlying 211=some (.array 2 49):=aB;have h1:prog.cellsOf 211=2:=aB;have h2:prog.cellsOf 49=1:=aB;have hr:eO 2=[0,1]:=aC;unfold Dh;rw[hu];simp only[h1,h2,hr,List.all_cons,List.all_nil,jT];rw[aQ,aQ];exact⟨rfl,zq h.1 4,zq h.2 4⟩
def BG:Tv prog 211 my kW2:=QP (ce:=fun p=>[wA p.1,wA p.2]) e0A (fun _ h=>e0B h) (fun σ p=>rfl) fun a b ha hb h=>by
 unfold kW2 uv at h
 injection h with h
 have h:=congrArg oU h;simp only[List.cons.injEq,kP,true_and,and_true]at h;exact lV aA aA
def BH:Tv prog 9 (fun l:List UInt8=>l.length<=maxLen) st:=by
 have hu:prog.underlying 9=some .string:=aB;have hk:∀l:List UInt8,l.length<=maxLen->keyOf prog 9 (st l)=some (.string l):=fun l hl=>Go.WideMaps.keyOf_string_mk (s:=ba l) hu (by rw[Oh];exact hl);have K:=Go.WideMaps.string_law hu;exact{
  check:=fun k hl b w=>K.check w b (hk k hl)
  stays:=fun k hl w=>K.stays w (hk k hl)
  find:=fun k hl E hE w=>K.find w (hk k hl) E fun e he=>by
   obtain⟨a,ha,h⟩:=hE e he;exact⟨_,by rw[h];exact hk a ha⟩
  inj:=fun a b _ _ h=>by
   unfold st ba at h
   injection h with h
   injection h with h
   have:=congrArg oU h;simpa using this}
def ar:Tv prog 3 (fun _:Int=>True) ii:=by
 have hu:prog.underlying 3=some (.int .i64):=aB;have hB:∀z:Int,Ef prog (fun _=>false) 3 (.int .i64 z)=true:=fun z=>by
  show(match prog.underlying 3 with|some (.int q)=>isK .i64 q|_=>false)=true;rw[hu];rfl
 have hK:∀t,(fun _:TypeId=>false) t=true->Eh prog t:=fun _ h=>nomatch h;exact{
  check:=fun k _ b w=>by
   have:=MS (σ:=fun _=>(0,0)) (kty:=fun _=>false) hK (hB k) b w
   rwa[rz]at this
  stays:=fun k _ w=>by
   have:=MU (σ:=fun _=>(0,0)) (kty:=fun _=>false) hK (hB k) w
   rwa[rz]at this
  find:=fun k _ E hE w=>by
   have:=MV (σ:=fun _=>(0,0)) (kty:=fun _=>false) hK (hB k) E (fun e he=>by
    obtain⟨a,_,h⟩:=hE e he;exact⟨.int .i64 a,by rw[rz];exact h,hB a⟩) w
   rwa[rz]at this
  inj:=fun a b _ _ h=>by injection h}
end Go.Z
namespace Go.GS
def d5U {S x:Nat} (hx:bit S x=true) (hl:∀j,j<x->bit S j=false):Tu S=x:=by
 have e:S=sdf S (2^x)|||2^x:=Hj fun y=>by
  rw[Ba,Lt,Bw];by_cases h:x=y
  ·subst h;rw[hx];simp
  ·simp[h]
 have:=QF (R:=sdf S (2^x)) (v:=x) fun i hi=>by
  show bit _ i=false;rw[Lt,Bw];by_cases h:x=i
  ·simp[h]
  ·rw[hl i aA];rfl
 rw[<-e]at this;exact this
def QQ (ft:Nat->Bool) (k:Nat):Ae ft k 0=if k=0 then 1 else 0:=by
 cases k with
 |zero=>rfl
 |succ k=>simp[Ae]
def c3q (ft:Nat->Bool) {S:Nat} (h:S≠0):Ae ft 0 S=0:=by simp[Ae,h]
def sbI (S:Nat) (F:Nat->Nat) (i:Nat):Nat:=(((sbs S).take i).map F).sum
def Wv {S i s:Nat} {F:Nat->Nat} (h:(sbs S)[i]? =some s):sbI S F (i+1)=sbI S F i+F s:=by
 unfold sbI;rw[dE,h,bM,List.sum_append_nat];rfl
def QR {S:Nat} {F:Nat->Nat}:sbI S F (sbs S).length=sbT S F:=by unfold sbI sbT;rw[eB]
def QS {S:Nat} {F:Nat->Nat} (i:Nat):sbI S F i<=sbT S F:=by
 unfold sbI sbT;have:∀(l:List Nat) (i:Nat),((l.take i).map F).sum<=(l.map F).sum:=by
  intro l;induction l with
  |nil=>intro i;simp
  |cons a l ih=>
   intro i;cases i with
   |zero=>simp
   |succ i=>simp only[List.take_succ_cons,bI,eP];have:=ih i;omega
 exact this _ i
end Go.GS
namespace Go.Z
open Proofs.Tryz RowKit RX GS
def Is:El prog 202 4 1 false (fun b:Bool=>[.bool b]) .bool where
 und:=aB
 has:=aB
 cel:=aB
 agg:=aB
 pos:=aC
 one1:=fun _=>by decide
 small:=aC
 inf:=⟨(prog.info? 4).getD default,.bool false,aB,aB,aB,rfl,oDt aB⟩
 len:=fun p=>rfl
 val:=fun p=>rfl
 cells:=fun p=>rfl
 one:=fun p c hc=>by simp at hc;subst hc;rfl
def QT:n8 prog 114=true:=aB
def BI:n8 prog 116=true:=aB
def QU:prog.underlying 209=some (.map 211 3):=aB
def BJ:Sc prog 209:=⟨aB,aB,aB⟩
def Tz:Sc prog 144:=⟨aB,aB,aB⟩
def BK:Sc prog 202:=⟨aB,aB,aB⟩
def BM:Sc prog 210:=⟨aB,aB,aB⟩
def mz:Sc prog 203:=⟨aB,aB,aB⟩
def BN:FA prog 205 0 0:=⟨aB,oDt aB,aB,aB,oDt aB⟩
def BO:FA prog 205 1 1:=⟨aB,oDt aB,aB,aB,oDt aB⟩
def na:FA prog 205 2 2:=⟨aB,oDt aB,aB,aB,oDt aB⟩
def e4G:j3 prog 211= .agg #[GS.uv 0,GS.uv 0]:=aB
def d5X:∀w,(zeroValue 3).run prog w= .ok (ii 0) w:=fun w=>by rfl
abbrev pt (b:Nat):Value:= .pointer (some ⟨b,0,none⟩)
def nc (pm pF pd:Nat):Value:= .func (.func 114) #[] #[pt pm,pt pF,pt pd]
def nf (pd pF:Nat):Value:= .func (.func 116) #[] #[pt pd,pt pF]
structure Fld (B:PH) (n:Nat) (ft:Nat->Bool) (q pm pF pd:Nat) (m:Value):Prop where
 n6:n<=6
 fld:∃w T,B q=some (.cells #[ii (n:Nat),w,nf pd pF] T (0,0))/\SE B 1 (fun b:Bool=>[.bool b]) w ((eO (2^n)).map ft)
 mp:∃T,B pm=some (.cells #[m] T (0,0))
 fp:∃T,B pF=some (.cells #[pt q] T (0,0))
 dv:∃T,B pd=some (.cells #[nc pm pF pd] T (0,0))
def Mem (B H:PH) (ft:Nat->Bool) (m:Value):Prop:=Pl B H/\∃L,MKO my kW2 B H m L/\∀p v,(p,v)∈L->v=ii ((Ae ft p.2 p.1:Nat):Int)
def Mem.mono {B H H':PH} {ft:Nat->Bool} {m:Value} (h:Mem B H ft m) (hl:Pl H H'):Mem B H' ft m:=by
 obtain⟨h1,L,h2,h3⟩:=h;exact⟨h1.trans hl,L,h2.mono hl,h3⟩
section
variable {B H:PH} {n:Nat} {ft:Nat->Bool} {q pm pF pd:Nat} {m:Value}
def QV {ρ:List Value} {a b:SV} {S k:Nat} (ha:D prog ρ a=GS.uv S) (hb:D prog ρ b=GS.uv k):D prog ρ (.put (.put (.z 211) 0 1 a 0 noI) 1 1 b 0 noI)=kW2 (S,k):=by
 show Value.agg (spl (Value.agg (spl (j3 prog 211).cells _ (D prog ρ a).cells.toList)).cells _ (D prog ρ b).cells.toList)=_;rw[e4G,ha,hb];rfl
def ng {n S:Nat} (hn:n<=6) (h:S<2^n):S<64:=aU h (bQ (n:=2) aC hn)
def BQ {n k:Nat} (hn:n<=6) (hk:k<=8):2^(n*k)<9223372036854775807:=by
 have:n*k<=6*8:=eH hn hk;exact bO (bQ (n:=2) aC this) aC
def QW {n a b:Nat} (ha:a<2^n) (hb:b<2^n):a|||b<2^n:=iY ha hb
def Ww (ft:Nat->Bool) (k S x s:Nat):Nat:=if ft (s|||2^x)then Ae ft k (sdf (sdf S s) (2^x))else 0
def QX (hF:Fld B n ft q pm pF pd m) (k:Nat) (hk8:k<=8) (ih:∀j,k=j+1->∀(S:Nat) (H:PH),S<2^n->Mem B H ft m->Con prog 114 [GS.uv S,ii (j:Nat),pt pm,pt pF,pt pd] H fun r H'=>r=ii ((Ae ft j S:Nat):Int)/\Mem B H' ft m)
  (S:Nat) (H:PH) (hS:S<2^n) (hM:Mem B H ft m):Con prog 114 [GS.uv S,ii (k:Nat),pt pm,pt pF,pt pd] H fun r H'=>r=ii ((Ae ft k S:Nat):Int)/\Mem B H' ft m:=by
 refine g5 mixed c9t ?_;have a5a:=ng hF.n6 hS;have sK:S<M64:=iE a5a aC;refine b4 (el_u64.vcells S) ?_;refine b4 (el_int.vcells ((k:Nat):Int)) ?_;refine b9 ?_;refine y5 (p:=(S=0)) (bE0 S) (fun h0=> ?_) fun h0=> ?_
 ·refine b9 ?_;refine y5 (p:=(((k:Nat):Int)=0)) (bE _ _) (fun xW=> ?_) fun xW=> ?_
  ·exact d4 rfl ⟨by rw[h0,QQ,if_pos aA];rfl,hM⟩
  ·exact d4 rfl ⟨by rw[h0,QQ,if_neg aA];rfl,hM⟩
 ·refine b9 ?_;refine y5 (p:=(((k:Nat):Int)=0)) (bE _ _) (fun xW=> ?_) fun xW=> ?_
  ·obtain rfl:k=0:=aA;exact d4 rfl ⟨by rw[c3q ft h0];rfl,hM⟩
  ·obtain⟨k,rfl⟩:∃j,k=j+1:=⟨k-1,aA⟩;obtain⟨lB,L,hL,hLv⟩:=id hM;obtain⟨Tm,zM⟩:=hF.mp;refine b4 (el_u64.vcells S) ?_;refine g9 BJ rfl rfl (lB _ _ zM) rfl rfl ?_;simp only[cA,nA];obtain⟨b,x,wG,hbx⟩:∃b x,((b=false/\x=ii 0/\(S,k+1)∉L.map (·.1))\/(b=true/\((S,k+1),x)∈L))/\(b=true->x=ii ((Ae ft (k+1) S:Nat):Int)):=by
    by_cases h:(S,k+1)∈L.map (·.1)
    ·obtain⟨⟨p,x⟩,hx,rfl⟩:=aZ.1 h;exact⟨true,x,.inr ⟨rfl,hx⟩,fun _=>hLv _ _ hx⟩
    ·exact⟨false,_,.inl ⟨rfl,rfl,h⟩,fun h=>nomatch h⟩
   have hkM:k+1<M64:=bO hk8 aC;refine j8 (ao BG (vs:=[m,kW2 (S,k+1)]) (ok2:=true) (k:=(S,k+1)) (u:=x) (b:=b) rfl rfl rfl QU ⟨sK,hkM⟩ d5X hL.mk wG) (i0 rfl (QV rfl (Sv rfl hkM))) ?_;simp only[cA,nA];refine g7 (g7 (b9 ?_));refine g6 (b:=b) rfl (fun hb=> ?_) (fun hb=> ?_)
   ·skip
    exact d4 rfl ⟨hbx hb,hM⟩
   ·skip
    obtain⟨x1,r,rY⟩:∃x r,els S=x::r:=by
     cases rY:els S with
     |nil=>exact absurd (Ov sK rY) h0
     |cons x r=>exact⟨x,r,rfl⟩
    obtain⟨hx,vH,sQ⟩:=Im rY;have sN:x1<n:=Vz hS hx;have rP:2^x1<2^n:=cU aC sN;have hpM:=Dp vH;have a5b:Ae ft (k+1) S=sbT (sdf S (2^x1)) (Ww ft k S x1):=by
     show(if S=0 then 0 else _)=_;rw[if_neg h0,d5U hx sQ];rfl
    have pY:=QD (ft:=ft) (k+1) S hS;have sR:=BQ hF.n6 hk8;have hR:sdf S (2^x1)<M64:=Sr sK;refine f0 (QM (s:=sdf S (2^x1))) (p6 (by rw[Ta rfl (Io (B:=(M64-S)%M64) rfl (za rfl sK) sK (cI _ aC)) sK (Su sK),jr sK rY])) ?_;rintro _ _ ⟨bb,qM,rfl,rfl⟩;refine nmI ?_;simp only[cA,nA];refine Hi (X:=H) (K:=Bj bb (sdf S (2^x1))) (Ro:=B) (fun pre vals X'=>Mem B X' ft m/\vals=[ii ((sbI (sdf S (2^x1)) (Ww ft k S x1) pre.length:Nat):Int)]) (fun _ _ _=>False) (QN hR) QL (jw _ qM) rfl (fun _ _ _ h=>h.1.1) ⟨hM,rfl⟩ ?_ ?_ ?_
    ·rintro pre xs vals X' ⟨s,hs,rfl⟩ _ ⟨uQ,rfl⟩;refine⟨rfl,?_⟩;simp only[cA,nA];obtain⟨Tf,hfp⟩:=hF.fp;obtain⟨w,Tq,hq,hw⟩:=hF.fld;refine g9 Tz rfl rfl (uQ.1 _ _ hfp) rfl rfl ?_;simp only[cA,nA];refine j6 ?_;simp only[cA,nA];refine g8 BO ?_;simp only[cA,nA];refine g9 BK rfl rfl (uQ.1 _ _ hq) rfl rfl ?_;simp only[cA,nA];have vE:=sbs_mem.1 (aK hs);have wF:s<2^n:=bO (cK (ak vE) (BB _ _)) hS;have hsM:s<M64:=bO (cK (ak vE) (BB _ _)) sK;have wR:s|||2^x1<2^n:=QW wF rP;have hj:((eO (2^n)).map ft)[s|||2^x1]? =some (ft (s|||2^x1)):=by rw[aX,cP wR];rfl
     have hlw:∀{ρ:List Value} {a:SV},D prog ρ a=GS.uv S->D prog ρ (.op2 .and .u64 a (.op1 .neg .u64 a))=GS.uv (2^x1):=fun ha=>by rw[Io (B:=(M64-S)%M64) ha (za ha sK) sK (cI _ aC),jr sK rY]
     refine b9 ?_;refine Ac Is rfl rfl rfl rfl aF (hw.mono uQ.1) hj (i0 rfl (Hk rfl (hlw rfl) hsM hpM)) aF fun _=> ?_;simp only[cA,nA];refine b9 ?_;refine g6 (b:=ft (s|||2^x1)) rfl (fun hft=> ?_) (fun hft=> ?_)
     ·skip
      obtain⟨Td,wT⟩:=hF.dv;refine g9 BM rfl rfl (uQ.1 _ _ wT) rfl rfl ?_;simp only[cA,nA];have hS1:sdf (sdf S s) (2^x1)<2^n:=Tt (Tt hS);refine j1 (Aj (f:=114) (caps:= #[pt pm,pt pF,pt pd]) (vs:=[GS.uv (sdf (sdf S s) (2^x1)),ii (k:Nat)]) rfl rfl rfl QT (ih k rfl (sdf (sdf S s) (2^x1)) X' hS1 uQ)) (By rfl (Ta (Ta rfl rfl sK hsM) (hlw rfl) (Sr sK) hpM) (zp rfl aA)) ?_;rintro _ X2 ⟨rfl,yI⟩;refine nmI ?_;simp only[cA,nA];have wP:=QS (S:=sdf S (2^x1)) (F:=Ww ft k S x1) (pre.length+1);rw[Wv hs]at wP;have hF1:Ww ft k S x1 s=Ae ft k (sdf (sdf S s) (2^x1)):=if_pos hft;rw[hF1]at wP;refine b9 (b9 ?_);exact⟨yI,by rw[aL];show _=[ii ((sbI _ _ (pre.length+1):Nat):Int)];rw[Wv hs,hF1,dZ];exact p6 (Hm (x:=((sbI (sdf S (2^x1)) (Ww ft k S x1) pre.length:Nat):Int)) (y:=((Ae ft k (sdf (sdf S s) (2^x1)):Nat):Int)) rfl rfl aA aA)⟩
     ·skip
      have hF1:Ww ft k S x1 s=0:=if_neg (by rw[hft];decide);exact⟨uQ,by rw[aL];show _=[ii ((sbI _ _ (pre.length+1):Nat):Int)];rw[Wv hs,hF1];rfl⟩
    ·rintro xs vals X' K' hxs hd _ ⟨uQ,rfl⟩;rw[hxs,QR];simp only[cA,nA];obtain⟨lB2,L2,hL2,a5c⟩:=uQ.mono (PH.le_or X' K');refine g9 BJ rfl rfl (lB2 _ _ zM) rfl rfl ?_;simp only[cA,nA];rw[<-a5b];refine j1 (Pq BG (k:=(S,k+1)) (vs:=[m,kW2 (S,k+1),ii ((Ae ft (k+1) S:Nat):Int)]) rfl rfl rfl rfl QU ⟨sK,hkM⟩ lB2 hL2) (By rfl (QV rfl (Sv rfl hkM)) rfl) ?_;rintro _ H3 ⟨rfl,l3,hL3,-⟩;refine nmI ?_;simp only[cA,nA];have a1l:∀p v,(p,v)∈Bz L2 (S,k+1) (ii ((Ae ft (k+1) S:Nat):Int))->v=ii ((Ae ft p.2 p.1:Nat):Int):=fun p v hp=>by
      rcases Pn hp with⟨rfl,rfl⟩|⟨_,h⟩
      ·rfl
      ·exact a5c _ _ h
     exact d4 rfl ⟨rfl,l3,_,hL3,a1l⟩
    ·exact fun _ _ _ _ _ _ _ h=>h.elim
def c3x (hF:Fld B n ft q pm pF pd m):∀(k:Nat),k<=8->∀(S:Nat) (H:PH),S<2^n->Mem B H ft m->Con prog 114 [GS.uv S,ii (k:Nat),pt pm,pt pF,pt pd] H fun r H'=>r=ii ((Ae ft k S:Nat):Int)/\Mem B H' ft m:=by
 intro k;induction k with
 |zero=>intro hk S H hS hM;exact QX hF 0 hk (fun j h=>nomatch h) S H hS hM
 |succ k ih=>intro hk S H hS hM;exact QX hF (k+1) hk (fun j h=>(show k=j by omega) ▸ ih aA) S H hS hM
def Wx (ft:Nat->Bool) (c:Nat) (cs:List Nat) (R k s:Nat):Nat:=if ft (c|||s)then t7 ft cs (sdf R s) k else 0
def QY (hF:Fld B n ft q pm pF pd m):∀(cs:List Nat) (u:Value) (R k:Nat) (H:PH),SU B u cs->(∀c∈cs,c<2^n)->cs.length<=1000->R<2^n->k<=8->Mem B H ft m->Con prog 116 [u,GS.uv R,ii (k:Nat),pt pd,pt pF] H fun r H'=>r=ii ((t7 ft cs R k:Nat):Int)/\Mem B H' ft m:=by
 intro cs;induction cs with
 |nil=>
  intro u R k H hu hc sR hR hk hM;refine g5 mixed PX ?_;have a2t:=ng hF.n6 hR;refine b4 hu.one ?_;refine b4 (el_u64.vcells R) ?_;refine b4 (el_int.vcells ((k:Nat):Int)) ?_;refine Dc el_u64 rfl rfl (hu.mono hM.1) (p6 (Bc rfl hu.cells)) ?_;simp only[cA,nA];refine b9 ?_;refine Aq rfl ?_;obtain⟨Td,wT⟩:=hF.dv;refine g9 BM rfl rfl (hM.1 _ _ wT) rfl rfl ?_;simp only[cA,nA];refine j1 (Aj (f:=114) (caps:= #[pt pm,pt pF,pt pd]) (vs:=[GS.uv R,ii (k:Nat)]) rfl rfl rfl QT (c3x hF k hk R H hR hM)) rfl ?_;rintro _ X2 ⟨rfl,yI⟩;refine nmI ?_;simp only[cA,nA];exact d4 rfl ⟨rfl,yI⟩
 |cons c cs ih=>
  intro u R k H hu hc sR hR hk hM;refine g5 mixed PX ?_;have a2t:=ng hF.n6 hR;have hRM:R<M64:=iE a2t aC;have yH:=hc c (.head _);have hcM:c<M64:=iE (ng hF.n6 yH) aC;have qC:(c::cs).length=cs.length+1:=rfl;refine b4 hu.one ?_;refine b4 (el_u64.vcells R) ?_;refine b4 (el_int.vcells ((k:Nat):Int)) ?_;refine Dc el_u64 rfl rfl (hu.mono hM.1) (p6 (Bc rfl hu.cells)) ?_;simp only[cA,nA];have qJ:¬((cs.length+1:Nat):Int)=0:=aA;refine b9 ?_;refine i7 (bF qJ) ?_;refine Dc el_u64 rfl rfl (hu.mono hM.1) (p6 (Bc rfl hu.cells)) ?_;simp only[cA,nA];refine b9 (b9 ?_);refine g6 (b:=decide (((cs.length+1:Nat):Int)<=(k:Nat))) rfl (fun wY=> ?_) (fun wY=> ?_)
  ·replace wY:=oDt wY;obtain⟨k,rfl⟩:∃j,k=j+1:=⟨k-1,aA⟩;have pY:=QE (ft:=ft) (n:=n) (c::cs) R (k+1) hR;have a2q:=BQ hF.n6 hk;have a5d:t7 ft (c::cs) R (k+1)=sbT R (Wx ft c cs R k):=rfl;refine f0 (QM (s:=R)) rfl ?_;rintro _ _ ⟨bb,qM,rfl,rfl⟩;refine nmI ?_;simp only[cA,nA];refine Hi (X:=H) (K:=Bj bb R) (Ro:=B) (fun pre vals X'=>Mem B X' ft m/\vals=[ii ((sbI R (Wx ft c cs R k) pre.length:Nat):Int)]) (fun _ _ _=>False) (QN hRM) QL (jw _ qM) rfl (fun _ _ _ h=>h.1.1) ⟨hM,rfl⟩ ?_ ?_ ?_
   ·rintro pre xs vals X' ⟨s,hs,rfl⟩ _ ⟨uQ,rfl⟩;refine⟨rfl,?_⟩;simp only[cA,nA];obtain⟨Tf,hfp⟩:=hF.fp;obtain⟨w,Tq,hq,hw⟩:=hF.fld;refine g9 Tz rfl rfl (uQ.1 _ _ hfp) rfl rfl ?_;simp only[cA,nA];refine j6 ?_;simp only[cA,nA];refine g8 BO ?_;simp only[cA,nA];refine g9 BK rfl rfl (uQ.1 _ _ hq) rfl rfl ?_;simp only[cA,nA];have rV:(c::cs)[0]? =some c:=rfl;refine Ac el_u64 rfl rfl rfl rfl aF (hu.mono uQ.1) rV (i0 (Bc rfl hu.cells) rfl) aF fun _=> ?_;simp only[cA,nA];have vE:=sbs_mem.1 (aK hs);have wF:s<2^n:=bO (ak vE) hR;have hsM:s<M64:=bO (ak vE) hRM;have wR:c|||s<2^n:=QW yH wF;have hj:((eO (2^n)).map ft)[c|||s]? =some (ft (c|||s)):=by rw[aX,cP wR];rfl
    refine b9 (b9 ?_);refine Ac Is rfl rfl rfl rfl aF (hw.mono uQ.1) hj (i0 rfl (Hk rfl rfl hcM hsM)) aF fun _=> ?_;simp only[cA,nA];refine b9 ?_;refine g6 (b:=ft (c|||s)) rfl (fun hft=> ?_) (fun hft=> ?_)
    ·skip
     refine g9 Tz rfl rfl (uQ.1 _ _ hfp) rfl rfl ?_;simp only[cA,nA];refine j6 ?_;simp only[cA,nA];refine g8 na ?_;simp only[cA,nA];refine g9 mz rfl rfl (uQ.1 _ _ hq) rfl rfl ?_;simp only[cA,nA];obtain⟨u2,hy2,xY⟩:=c1I el_u64 (vs:=[u,ii 1]) (k:= .i64) (j:=1) b3E rfl rfl hu aA;refine j8 (hy2.rds _) (i0 (Bc rfl hu.cells) rfl) ?_;simp only[cA,nA];have hS1:sdf R s<2^n:=Tt hR;refine b9 ?_;refine j1 (Aj (f:=116) (caps:= #[pt pd,pt pF]) (vs:=[u2,GS.uv (sdf R s),ii (k:Nat)]) rfl rfl rfl BI (ih u2 (sdf R s) k X' xY (fun c' h=>hc c' (.tail _ h)) aA hS1 aA uQ)) (Hn rfl rfl (Ta rfl rfl hRM hsM) (zp rfl aA)) ?_;rintro _ X2 ⟨rfl,yI⟩;refine nmI ?_;simp only[cA,nA];have wP:=QS (S:=R) (F:=Wx ft c cs R k) (pre.length+1);rw[Wv hs]at wP;have hF1:Wx ft c cs R k s=t7 ft cs (sdf R s) k:=if_pos hft;rw[hF1]at wP;refine b9 (b9 ?_);exact⟨yI,by rw[aL];show _=[ii ((sbI _ _ (pre.length+1):Nat):Int)];rw[Wv hs,hF1,dZ];exact p6 (Hm (x:=((sbI R (Wx ft c cs R k) pre.length:Nat):Int)) (y:=((t7 ft cs (sdf R s) k:Nat):Int)) rfl rfl aA aA)⟩
    ·skip
     have hF1:Wx ft c cs R k s=0:=if_neg (by rw[hft];decide);exact⟨uQ,by rw[aL];show _=[ii ((sbI _ _ (pre.length+1):Nat):Int)];rw[Wv hs,hF1];rfl⟩
   ·rintro xs vals X' K' hxs hd _ ⟨uQ,rfl⟩;rw[hxs,QR];simp only[cA,nA];exact d4 rfl ⟨by rw[a5d];rfl,uQ.mono (PH.le_or _ _)⟩
   ·exact fun _ _ _ _ _ _ _ h=>h.elim
  ·replace wY:=oDf wY;exact d4 rfl ⟨by rw[QC _ _ _ aA];rfl,hM⟩
end
end Go.Z
namespace Go.RX
open RowKit
def PH.cut (H:PH) (g:Nat):PH:=fun k=>if k=g then none else H k
def PH.cut_self (H:PH) (g:Nat):H.cut g g=none:=if_pos rfl
def PH.cut_ne (H:PH) {g k:Nat} (h:k≠g):H.cut g k=H k:=if_neg h
def PH.cut_le (H:PH) (g:Nat):Pl (H.cut g) H:=fun k o hk=>by
 unfold PH.cut at hk;split at hk
 ·cases hk
 ·exact hk
def PH.le_cut {A H:PH} {g:Nat} (h:Pl A H) (hg:A g=none):Pl A (H.cut g):=fun k o hk=>by
 unfold PH.cut;split
 ·rename_i e;rw[e,hg]at hk;cases hk
 ·exact h k o hk
def PH.cut_put (H:PH) (g:Nat) (ob:Obj):Pl (H.cut g) (H.put g ob):=fun k o hk=>by
 unfold PH.cut at hk;split at hk
 ·cases hk
 ·rename_i e;rw[PH.put_ne _ _ e];exact hk
section
variable {α β:Type} {A H:PH} {e e':TypeId} {sz sz':Nat} {ce:α->List Value} {v:Value} {l:List α} {g:Nat} {cur:Array Value}
def BR (h:SO A H e sz ce v l) (hl:l≠[]):∃g,A g=none/\(∃cur,H g=some (.cells cur e (0,0)))/\SO (H.cut g) H e sz ce v l:=by
 obtain⟨h1,⟨_,h2⟩|⟨g,cap,cur,h2,h3,h4,h5⟩⟩:=h
 ·exact absurd (aT h2) hl
 ·exact⟨g,h3,⟨cur,h4⟩,h1,.inr ⟨g,cap,cur,h2,PH.cut_self _ _,h4,h5⟩⟩
def Ej (h:SO A H e sz ce v l) (hg:H g=some (.cells cur e' (0,0))) (he:e≠e'):SO A (H.cut g) e sz ce v l:=by
 obtain⟨h1,h2|⟨g',cap,cur',h2,h3,h4,h5⟩⟩:=h
 ·exact⟨h1,.inl h2⟩
 ·refine⟨h1,.inr ⟨g',cap,cur',h2,h3,?_,h5⟩⟩;rw[PH.cut_ne _ (fun e2=>by subst e2;rw[hg]at h4;injection h4 with h4;injection h4 with _ h4 _;exact he h4.symm)];exact h4
def Nb (h:SO A H e sz ce v l) (hg:∀cs T fz,H g≠some (.cells cs T fz)):SO A (H.cut g) e sz ce v l:=by
 obtain⟨h1,h2|⟨g',cap,cur',h2,h3,h4,h5⟩⟩:=h
 ·exact⟨h1,.inl h2⟩
 ·refine⟨h1,.inr ⟨g',cap,cur',h2,h3,?_,h5⟩⟩;rw[PH.cut_ne _ (fun e2=>by subst e2;exact hg _ _ _ h4)];exact h4
def d5Y (h:SE H sz ce v l) (hg:∀cs T fz,H g≠some (.cells cs T fz)):SE (H.cut g) sz ce v l:=by
 obtain⟨h1,a,c,h2,h3,h4,h5|⟨b,o,cs,T,fz,h5,h6,h7⟩⟩:=h
 ·exact⟨h1,a,c,h2,h3,h4,.inl h5⟩
 ·refine⟨h1,a,c,h2,h3,h4,.inr ⟨b,o,cs,T,fz,h5,?_,h7⟩⟩;rw[PH.cut_ne _ (fun e2=>by subst e2;exact hg _ _ _ h6)];exact h6
def It (h:SO A H e sz ce v l) (hA:Pl A H):∃X,Pl A X/\Pl X H/\SO X H e sz ce v l/\∀k,(∀cs,H k≠some (.cells cs e (0,0)))->X k=H k:=by
 obtain⟨h1,h2|⟨g,cap,cur,h2,h3,h4,h5⟩⟩:=h
 ·exact⟨H,hA,Pl.refl _,⟨h1,.inl h2⟩,fun _ _=>rfl⟩
 ·exact⟨H.cut g,PH.le_cut hA h3,PH.cut_le _ _,⟨h1,.inr ⟨g,cap,cur,h2,PH.cut_self _ _,h4,h5⟩⟩,fun k hk=>PH.cut_ne _ fun e=>by subst e;exact hk _ h4⟩
def Pv {X:PH} (h:SO A H e sz ce v l) (hk:∀k,(∀cs,H k≠some (.cells cs e' (0,0)))->X k=H k) (he:e≠e'):SO A X e sz ce v l:=by
 obtain⟨h1,h2|⟨g,cap,cur,h2,h3,h4,h5⟩⟩:=h
 ·exact⟨h1,.inl h2⟩
 ·refine⟨h1,.inr ⟨g,cap,cur,h2,h3,?_,h5⟩⟩;rw[hk g (fun cs e2=>by rw[h4]at e2;injection e2 with e2;injection e2 with _ e2 _;exact he e2)];exact h4
end
end Go.RX
namespace Go.GS
open RowKit RX
def e0C {P:Program} {ρ:List Value} {a b:SV} {A B:Nat} (ha:D P ρ a=ii (A:Nat)) (hb:D P ρ b=ii (B:Nat)) (hA:A<9223372036854775808) (hB:B<9223372036854775808):D P ρ (.op2 .and .i64 a b)=ii ((A&&&B:Nat):Int):=by
 show w9 .and .i64 (intOf (D P ρ a)) (intOf (D P ρ b))=_;rw[ha,hb];show Value.int .i64 (IntKind.i64.wrap ((BitVec.ofInt 64 (A:Int)&&&BitVec.ofInt 64 (B:Int)).toNat:Int))=Value.int .i64 _;have hm:∀{x:Nat},x<9223372036854775808->x<M64:=fun h=>iE h aC;rw[BitVec.toNat_and,Ou (hm hA),Ou (hm hB)];have:A&&&B<=A:=Nat.and_le_left;congr 1;rw[IntKind.wrap_i64];omega
def au {P:Program} {ρ:List Value} {b:SV} {n:Nat} (hb:D P ρ b=ii (n:Nat)) (hn:n<=6):D P ρ (.op2 .shl .i64 (.k (.int .i64 1)) b)=ii ((2^n:Nat):Int):=by
 show w9 .shl .i64 (intOf (D P ρ (.k (.int .i64 1)))) (intOf (D P ρ b))=_;rw[hb]
 match n,hn with
 |0,_=>rfl
 |1,_=>rfl
 |2,_=>rfl
 |3,_=>rfl
 |4,_=>rfl
 |5,_=>rfl
 |6,_=>rfl
def c3z {es:List (Nat×Nat)} {n set x c:Nat} (h:∀e∈es,e.1<e.2/\e.2<n) (hc:c<M64) (hx:bit c x=true) (hr:∀y,bit c y=true->Rch es set x y) (hk:∀y,bit c y=true->∀z,bit (nb es y) z=true->bit set z=true->bit c z=true):CL es set x c:=
 ⟨hc,fun y=>⟨hr y,fun hy=>by
  induction hy with
  |base=>exact hx
  |step _ ha hs ih=>exact hk _ ih _ ((ka h).2 ha) hs⟩⟩
def c9I {es:List (Nat×Nat)} {set x c:Nat} (h:CL es set x c) (hx:bit set x=true):c=set↔Cn es set:=by
 constructor
 ·intro e;exact⟨x,hx,fun y hy=>(h.2 y).1 (by rw[e];exact hy)⟩
 ·intro hC;refine Hj fun y=> ?_;rw[bY];exact⟨fun hy=>((h.2 y).1 hy).mem hx,fun hy=>(h.2 y).2 (hC.all hx hy)⟩
structure RI (es:List (Nat×Nat)) (S x R F:Nat):Prop where
 hr:R<M64
 hf:F<M64
 hx:bit R x=true
 rch:∀y,bit R y=true->Rch es S x y
 sub:∀y,bit F y=true->bit R y=true
 cl:∀y,bit R y=true->bit F y=false->∀z,bit (nb es y) z=true->bit S z=true->bit R z=true
def RI.start {es:List (Nat×Nat)} {S x:Nat} (hx:x<64):RI es S x (2^x) (2^x):=
 ⟨Dp hx,Dp hx,by rw[Bw];simp,fun y hy=>by rw[Bw]at hy;simp at hy;subst hy;exact .base,fun _ h=>h,fun y h1 h2=>by rw[h1]at h2;cases h2⟩
def BS {F i:Nat} {r:List Nat} (hF:F<M64) (h:els F=i::r) (y:Nat):bit (F&&&(F-1)) y=(bit F y&&decide (y≠i)):=by
 obtain⟨h1,_,h3⟩:=Im h;rw[Il,Zv h1 h3];by_cases hy:y<i
 ·rw[if_pos hy,h3 y hy];rfl
 ·by_cases e:y=i
  ·subst e;rw[if_neg hy,if_pos rfl];simp
  ·rw[if_neg hy,if_neg e];simp[e]
def RI.next {es:List (Nat×Nat)} {n S x R F i:Nat} {r:List Nat} (hg:∀e∈es,e.1<e.2/\e.2<n) (hS:S<M64) (h:RI es S x R F) (he:els F=i::r):
  RI es S x (R|||sdf (nb es i&&&S) R) ((F&&&(F-1))|||sdf (nb es i&&&S) R):=by
 have hm:sdf (nb es i&&&S) R<M64:=Sr (Vw hS);have hi:=(Im he).1;have hmb:∀y,bit (sdf (nb es i&&&S) R) y=true↔(bit (nb es i) y=true/\bit S y=true)/\bit R y=false:=fun y=>by
  rw[Lt,Il,aQ,aQ,kS]
 refine⟨Ss h.hr hm,Ss (Su h.hf) hm,by rw[Ba,h.hx];rfl,fun y hy=> ?_,fun y hy=> ?_,fun y hy hn z hz hs=> ?_⟩
 ·rw[Ba,cO]at hy;rcases hy with hy|hy
  ·exact h.rch y hy
  ·obtain⟨⟨h1,h2⟩,_⟩:=(hmb y).1 hy;exact .step (h.rch i (h.sub i hi)) ((ka hg).1 h1) h2
 ·rw[Ba,cO]at hy⊢;rcases hy with hy|hy
  ·rw[BS h.hf he,aQ]at hy;exact .inl (h.sub y hy.1)
  ·exact .inr hy
 ·rw[Ba,Bool.or_eq_false_iff,BS h.hf he]at hn;rw[Ba,hn.2,Bool.or_false]at hy;rw[Ba,cO];by_cases e:y=i
  ·subst e;cases hR:bit R z with
   |true=>exact .inl rfl
   |false=>exact .inr ((hmb z).2 ⟨⟨hz,hs⟩,hR⟩)
  ·refine .inl (h.cl y hy ?_ z hz hs);have:=hn.1;cases hf:bit F y with
   |false=>rfl
   |true=>rw[hf]at this;simp[e]at this
def RI.less {es:List (Nat×Nat)} {S x R F i:Nat} {r:List Nat} (h:RI es S x R F) (hS:S<M64) (he:els F=i::r):
  (64-card (R|||sdf (nb es i&&&S) R))*65+card ((F&&&(F-1))|||sdf (nb es i&&&S) R)<(64-card R)*65+card F:=by
 have hi:=Im he;have hm:sdf (nb es i&&&S) R<M64:=Sr (Vw hS);by_cases e:sdf (nb es i&&&S) R=0
 ·rw[e,pQ,pQ];have:card (F&&&(F-1))<card F:=ab (fun y hy=>by rw[Il,aQ]at hy;exact hy.1) hi.1 (by rw[BS h.hf he];simp) hi.2.1;omega
 ·obtain⟨z,hz⟩:∃z,bit (sdf (nb es i&&&S) R) z=true:=cL fun hh=>e (Hj fun y=>by
   rw[Gk];cases hb:bit (sdf (nb es i&&&S) R) y with
   |false=>rfl
   |true=>exact absurd ⟨y,hb⟩ hh)
  have h1:card R<card (R|||sdf (nb es i&&&S) R):=ab (fun y hy=>by rw[Ba,hy];rfl) (b:=R|||sdf (nb es i&&&S) R) (x:=z) (by rw[Ba,hz,Bool.or_true]) (by rw[Lt,aQ,kS]at hz;exact hz.2) (Vv hm hz);have h2:=Vy (R|||sdf (nb es i&&&S) R);have h3:=Vy ((F&&&(F-1))|||sdf (nb es i&&&S) R);omega
def RI.done {es:List (Nat×Nat)} {n S x R:Nat} (hg:∀e∈es,e.1<e.2/\e.2<n) (hx:bit S x=true) (h:RI es S x R 0):R=S↔Cn es S:=
 c9I (c3z hg h.hr h.hx h.rch fun y hy=>h.cl y hy (Gk y)) hx
def QZ {β:Type} (f:Nat->β) {m i:Nat} (a:β):((eO m).map f).set i a=(eO m).map fun t=>if t=i then a else f t:=by
 apply bP;intro j;rw[dF,aX,aX,aR,List.length_range];by_cases e:i=j
 ·subst e;by_cases hi:i<m
  ·rw[if_pos rfl,if_pos hi,cP hi];simp
  ·rw[if_pos rfl,if_neg hi,aO (by simpa using hi)];rfl
 ·rw[if_neg e];by_cases hj:j<m
  ·rw[cP hj];simp[show ¬j=i from fun h=>e h.symm]
  ·rw[aO (by simpa using hj)];rfl
def Gm (wl:List Int) (n S:Nat):List Int:=(eO (2^n)).map fun t=>if t<S then Bd wl t else 0
noncomputable def Ht (es:List (Nat×Nat)) (wl:List Int) (lo hi:Int) (n S:Nat):List Bool:=(eO (2^n)).map fun t=>decide (t<S)&&alB es wl lo hi t
def c3A (wl:List Int):Bd wl 0=0:=by unfold Bd;rw[jq];rfl
def c9J (es:List (Nat×Nat)) (wl:List Int) (lo hi:Int):alB es wl lo hi 0=false:=by
 unfold alB;have:cnB es 0=false:=by
  cases h:cnB es 0 with
  |false=>rfl
  |true=>
   obtain⟨x,hx,_⟩:=cnB_iff.1 h;rw[Gk]at hx;cases hx
 rw[this];rfl
def RA {β:Type} (f:Nat->β) (z:β) (m:Nat) (h:∀t,t<m->f t=z):(eO m).map f=eS m z:=by
 apply bP;intro j;rw[aX,dI];by_cases hj:j<m
 ·rw[cP hj,if_pos hj];show some (f j)=_;rw[h j hj]
 ·rw[aO (by simpa using hj),if_neg hj];rfl
def c3C (wl:List Int) (n:Nat):Gm wl n 1=eS (2^n) 0:=RA _ _ _ fun t _=>by
 split
 ·rename_i h;rw[show t=0 from aA,c3A]
 ·rfl
def c3D (es:List (Nat×Nat)) (wl:List Int) (lo hi:Int) (n:Nat):Ht es wl lo hi n 1=eS (2^n) false:=RA _ _ _ fun t _=>by
 by_cases h:t<1
 ·rw[show t=0 from aA,c9J];rfl
 ·rw[decide_eq_false h];rfl
def b9f (wl:List Int) (n S:Nat):(Gm wl n S).set S (Bd wl S)=Gm wl n (S+1):=by
 unfold Gm;rw[QZ];refine dK fun t _=> ?_;by_cases e:t=S
 ·subst e;rw[if_pos rfl,if_pos aA]
 ·rw[if_neg e];by_cases h:t<S
  ·rw[if_pos h,if_pos aA]
  ·rw[if_neg h,if_neg aA]
def b9g (es:List (Nat×Nat)) (wl:List Int) (lo hi:Int) (n S:Nat):(Ht es wl lo hi n S).set S (alB es wl lo hi S)=Ht es wl lo hi n (S+1):=by
 unfold Ht;rw[QZ];refine dK fun t _=> ?_;by_cases e:t=S
 ·subst e;rw[if_pos rfl,oDd aA];rfl
 ·rw[if_neg e];by_cases h:t<S
  ·rw[oDd h,oDd aA]
  ·rw[decide_eq_false h,decide_eq_false aA]
def RB {es:List (Nat×Nat)} {wl:List Int} {lo hi:Int} {n S:Nat} (h:alB es wl lo hi S=false):Ht es wl lo hi n (S+1)=Ht es wl lo hi n S:=by
 refine dK fun t _=> ?_;by_cases e:t=S
 ·subst e;rw[h,lT,lT]
 ·by_cases h:t<S
  ·rw[oDd h,oDd aA]
  ·rw[decide_eq_false h,decide_eq_false aA]
def c3E (es:List (Nat×Nat)) (wl:List Int) (lo hi:Int) (n:Nat):Ht es wl lo hi n (2^n)=(eO (2^n)).map (alB es wl lo hi):=
 dK fun t ht=>by rw[oDd (aW.1 ht)];rfl
def c3F {wl:List Int} {S x:Nat} {r:List Nat} (hS:S<M64) (h:els S=x::r):Bd wl S=Bd wl (S&&&(S-1))+wl.getD x 0:=by
 unfold Bd;rw[yy hS h,h,bI,eP,Int.add_comm]
end Go.GS
namespace Go.Z
open Proofs.Tryz RowKit RX GS
section
variable {H:PH} {u v w wts:Value} {wl:List Int} {n:Nat} {es:List (Nat×Nat)} {lo hi ds:Int}
def c3G:n8 prog 131=true:=aB
def c3H (x:Int):Asks prog 131 [ii x] H (.bool (decide (x<0)||decide (x>1000000000))):=by
 refine g5 mixed c9r ?_;refine b9 ?_;refine g6 (b:=decide (x<0)) rfl (fun h=> ?_) (fun h=> ?_)
 ·replace h:=oDt h;exact d4 rfl ⟨rfl,by rw[oDd h];rfl⟩
 ·replace h:=oDf h;exact d4 rfl ⟨rfl,by rw[decide_eq_false h];rfl⟩
structure av (n:Nat) (wl:List Int) (lo hi ds:Int):Prop where
 len:wl.length=n
 b0:0<=lo
 b1:lo<=hi
 d1:1<=ds
 d8:ds<=8
 ok:Pg wl
def BU (hw:SG H w es) (hg:GV n es) (hn:n<=12) (rG:SI H wts wl) (hb:av n wl lo hi ds):j4 prog 81 [gv n w,bv wts lo hi ds] H (ii 0):=by
 refine g5 mixed d5C ?_;have e1:=hb.len;have e2:=hb.b0;have e3:=hb.b1;have e4:=hb.d1;have e5:=hb.d8;refine b4 (Ci hw) ?_;refine b4 (Wb (t8 rG) _ _ _) ?_;refine i8 (Lu hw hg) rfl fun H1 l1=> ?_;refine b9 ?_;refine i7 (bF (p:=(0:Int)≠0) aD) ?_;refine b9 ?_;refine i7 (bF (p:=((n:Nat):Int)>12) aA) ?_;refine m9 el_int (rG.mono l1) ?_;refine b9 ?_;refine i7 (by show Value.bool (((wl.length:Nat):Int) !=((n:Nat):Int))=_;rw[bN,e1];simp) ?_;refine i8 (zw (caps:=[]) (q:=fun x=>decide (x<0)||decide (x>1000000000)) (rG.mono l1) c3G (fun H' x _ _=>(c3H x).give)) rfl fun H2 l2=> ?_;have a1m:(wl.any fun x=>decide (x<0)||decide (x>1000000000))=false:=by
  rw[List.any_eq_false];intro x hx;have:=hb.ok x hx;simp;omega
 rw[a1m];refine b9 ?_;refine i7 rfl ?_;refine b9 ?_;refine i7 (bF (p:=ds<1) aA) ?_;refine i7 (bF (p:=ds>8) aA) ?_;refine b9 ?_;refine i7 (bF (p:=lo<0) aA) ?_;refine b9 ?_;refine i7 (bF (p:=hi<lo) aA) ?_;exact d4 rfl ⟨l1.trans l2,rfl⟩
def d5Z (hT:Tb H) {s:Nat} (hs:s<M64):Con prog 112 [.int .u64 (s:Nat)] H fun u H'=>H'=H/\u=ii (tz s):=by
 refine g5 mixed e0z ?_;refine f0 (Zw hT hs) rfl ?_;rintro _ _ ⟨rfl,rfl⟩;refine⟨fun _=>Pl.refl _,?_⟩;exact d4 rfl ⟨rfl,rfl⟩
def e2Z:j3 prog 202= .slice none 0 0:=aB
def e3a:j3 prog 203= .nilFunc:=aB
def e3b:j3 prog 144= .pointer none:=aB
def e3c:j3 prog 209= .map none:=aB
def e3d:j3 prog 210= .nilFunc:=aB
def e3e {ρ:List Value} {a b:SV} {v:Value} (ha:D prog ρ a=ii (n:Nat)) (hb:D prog ρ b=v) (hv:v.cells= #[v]):(D prog ρ (.put (.cat a 1 (.cat (.z 202) 1 (.z 203))) 1 1 b 0 noI)).cells= #[ii (n:Nat),v,.nilFunc]:=by
 show spl ((D prog ρ a).cells++((j3 prog 202).cells++(j3 prog 203).cells)) 1 (D prog ρ b).cells.toList=_;rw[ha,hb,hv,e2Z,e3a];rfl
def c9K (hT:Tb H) (hw:SG H w es) (hg:GV n es) (hn:n<=6) (rG:SI H wts wl) (hb:av n wl lo hi ds):Con prog 60 [gv n w,bv wts lo hi ds] H fun r H'=>∃B q pm pF pd m,r= .tuple #[pt q,ii 0]/\Pl H B/\Fld B n (alB es wl lo hi) q pm pF pd m/\Mem B H' (alB es wl lo hi) m:=by
 refine g5 mixed d5E ?_;have e1:=hb.len;have hgl:=hg.len;have hp6:2^n<=64:=bQ (n:=2) aC hn;have qB:∀(es':List (Nat×Nat)) (x:Nat),(∀e∈es',e∈es)->nb es' x<M64:=fun es' x h=>ze (fun e he=>hg.ed e (h e he)) hg.n64 x;refine b4 (Ci hw) ?_;refine b4 (Wb (t8 rG) _ _ _) ?_;refine i8 (BU hw hg aA rG hb) rfl fun H1 l1=> ?_;simp only[cA,nA];refine b9 ?_;refine i7 (bF (p:=(0:Int)≠0) aD) ?_;refine b4 ⟨_,_,rfl⟩ ?_;refine b4 (show(0:Int)<=((n:Nat):Int) by omega) ?_;refine Ot Is (z:=false) xq rfl rfl rfl (show 2^n<=68719476736 by omega) (i0 (au rfl hn) (au rfl hn)) fun v3 H2 l2 o2 _=> ?_;simp only[cA,nA];refine b4 (el_int.vcells ((n:Nat):Int)) ?_;refine b4 o2.se.one ?_;refine o0 (cs:= #[ii (n:Nat),v3,.nilFunc]) (e3e rfl rfl o2.se.cells) fun q hq=> ?_;simp only[cA,nA];refine o0 (cs:= #[.pointer none]) (by rw[show D prog _ (.z 144)=j3 prog 144 from rfl,e3b];rfl) fun pF hpF=> ?_;simp only[cA,nA];refine Bq (u:=pt q) Tz rfl rfl rfl (PH.put_self _ _ _) aD rfl rfl rfl (fun h=>(nomatch h)) ?_;simp only[cA,nA];rw[PH.put_put];have hqF:pF≠q:=fun e=>by subst e;rw[PH.put_self]at hpF;cases hpF
 generalize hH5:(H2.put q (.cells #[ii (n:Nat),v3,.nilFunc] 205 (0,0))).put pF (.cells (#[.pointer none].setIfInBounds 0 (pt q)) 144 (0,0))=H5;have l25:Pl H2 H5:=by subst hH5;exact(PH.le_put hq _).trans (PH.le_put hpF _)
 have h5q:H5 q=some (.cells #[ii (n:Nat),v3,.nilFunc] 205 (0,0)):=by subst hH5;rw[PH.put_ne _ _ (fun e=>hqF e.symm)];exact PH.put_self _ _ _
 have h5F:H5 pF=some (.cells #[pt q] 144 (0,0)):=by subst hH5;exact PH.put_self _ _ _
 refine Ot el_u64 (z:=(0:Nat)) zf rfl rfl rfl (show n<=68719476736 by omega) rfl fun v7 H6 l6 o6 _=> ?_;simp only[cA,nA];rw[<-MF]at o6;have l06:=(l1.trans (l2.trans l25)).trans l6;refine m9 el_edge (hw.mono l06) ?_;refine r7 (α:=Nat) (fun i=>[ii (i:Nat)]) (fun i=>fun H'=>i<=es.length/\Pl H5 H'/\SO H5 H' 49 1 (fun s:Nat=>[GS.uv s]) v7 (nbs n (es.take i))) (fun i=>es.length-i) (0) rfl (⟨bK _,l6,o6⟩) fun i H' hQ=> ?_;simp only[cA,nA];obtain⟨hie,l7,o7⟩:=hQ;refine b9 (b9 ?_);refine g6 (b:=decide (((i:Nat):Int)<(es.length:Nat))) rfl (fun h=> ?_) (fun h=> ?_)
 ·replace h:=oDt h;have qG:i<es.length:=aA;obtain⟨x,hx,wW⟩:=q8 qG;obtain⟨sN,sD⟩:=hg.mem hx;have l05:=l1.trans (l2.trans l25);have htk:∀y,nb (es.take i) y<M64:=fun y=>qB _ y fun e he=>cM he;refine n9 el_edge (hw.mono (l05.trans l7)) hx fun _=> ?_;simp only[cA,nA];refine b4 (el_edge.vcells x) ?_;refine Ac el_u64 rfl rfl rfl rfl aF o7.se (Oz _ (show x.1<n by omega)) rfl aF fun _=> ?_;simp only[cA,nA];refine b4 ⟨_,_,rfl⟩ ?_;refine b4 (by show(0:Int)<=((x.2:Nat):Int);omega) ?_;refine b9 ?_;refine Ee el_u64 (a:=nb (es.take i) x.1|||2^x.2) rfl rfl rfl rfl aF aF l7 o7 (by rw[Oy];omega) rfl (fun _=>i0 rfl (Hk rfl (Hl rfl aA) (htk _) (Dp aA))) rfl fun p u H8 l8 o8 _=> ?_;simp only[cA,nA];refine Ac el_u64 rfl rfl rfl rfl aF o8.se (show _=some (nb (es.take i) x.2) by rw[List.getElem?_set_ne aA,Oz _ aA]) rfl aF fun _=> ?_;simp only[cA,nA];refine b4 ⟨_,_,rfl⟩ ?_;refine b4 (by show(0:Int)<=((x.1:Nat):Int);omega) ?_;refine b9 ?_;refine Ee el_u64 (a:=nb (es.take i) x.2|||2^x.1) rfl rfl rfl rfl aF aF l8 o8 (by rw[cX,Oy];omega) rfl (fun _=>i0 rfl (Hk rfl (Hl rfl aA) (htk _) (Dp aA))) rfl fun p2 u2 H9 l9 o9 _=> ?_;simp only[cA,nA];rw[MG n _ x sN,<-take_snoc hx]at o9;exact⟨i+1,aA,(p6 (j5 rfl aA)),⟨aA,l9,o9⟩⟩
 ·replace h:=oDf h;rw[aI aA]at o7;have o3:=(o2.mono l25).mono l7;have a5e:eS (2^n) false≠[]:=fun e=>by
   have:=congrArg List.length e;rw[List.length_replicate]at this;have h0:=iO n;change 2^n=0 at this;omega
  obtain⟨g3,hg3,⟨cur3,uU⟩,oc3⟩:=BR o3 a5e;refine Ot el_int (z:=(0:Int)) MH rfl rfl rfl (show 2^n<=68719476736 by omega) (i0 (au rfl hn) (au rfl hn)) fun v10 H10 l10 o10 _=> ?_;simp only[cA,nA];have hAH:Pl (H'.cut g3) H10:=(PH.cut_le _ _).trans l10;have hHA:Pl H1 (H'.cut g3):=PH.le_cut ((l2.trans l25).trans l7) hg3;have oi3:SO (H'.cut g3) H10 4 1 (fun b:Bool=>[.bool b]) v3 (Ht es wl lo hi n 1):=by rw[c3D];exact oc3.mono l10
  have oi10:SO (H'.cut g3) H10 3 1 (fun z:Int=>[ii z]) v10 (Gm wl n 1):=by rw[c3C];exact o10.less (PH.cut_le _ _)
  have sA7:SE (H'.cut g3) 1 (fun s:Nat=>[GS.uv s]) v7 (nbs n es):=(Ej o7 uU aC).se;have yG:q≠g3:=fun e=>by
   have h:=l7 _ _ h5q;rw[e,uU]at h
   injection h with h
   injection h with _ h _
   exact absurd h aC
  have hF3:pF≠g3:=fun e=>by
   have h:=l7 _ _ h5F;rw[e,uU]at h
   injection h with h
   injection h with _ h _
   exact absurd h aC
  have hAq:(H'.cut g3) q=some (.cells #[ii (n:Nat),v3,.nilFunc] 205 (0,0)):=by rw[PH.cut_ne _ yG];exact l7 _ _ h5q
  have hAF:(H'.cut g3) pF=some (.cells #[pt q] 144 (0,0)):=by rw[PH.cut_ne _ hF3];exact l7 _ _ h5F
  generalize hA:H'.cut g3=A at hAH hHA oi3 oi10 sA7 hAq hAF;have hTA:=(hT.mono l1).mono hHA;have hwA:=(rG.mono l1).mono hHA;refine r7 (α:=Nat) (fun S=>[ii (S:Nat)]) (fun S=>fun H'=>1<=S/\S<=2^n/\Pl A H'/\SO A H' 4 1 (fun b:Bool=>[.bool b]) v3 (Ht es wl lo hi n S)/\SO A H' 3 1 (fun z:Int=>[ii z]) v10 (Gm wl n S)) (fun S=>2^n-S) (1) rfl (⟨aS _,iO n,hAH,oi3,oi10⟩) fun S H11 ⟨hS1,hSn,lA,p3,p10⟩=> ?_;simp only[cA,nA];refine b9 ?_;refine y5 (p:=(((S:Nat):Int)<((2^n:Nat):Int))) (by show Value.bool (decide (intOf (ii (S:Nat))<intOf (D prog _ (.op2 .shl .i64 (.k (.int .i64 1)) (.cell (.v 0) 0 0 noI)))))=_;rw[au (n:=n) rfl hn];rfl) (fun hlS=> ?_) fun hlS=> ?_
  ·have hS:S<2^n:=aA;have sK:S<M64:=aU hS (cK hp6 aC);obtain⟨x,r,rY⟩:∃x r,els S=x::r:=by
    cases rY:els S with
    |nil=>exact absurd (Ov sK rY) aA
    |cons x r=>exact⟨x,r,rfl⟩
   have htz:tz S=x:=by simp[tz,rY]
   obtain⟨hx,vH,sQ⟩:=Im rY;have hxn:x<n:=Vz hS hx;refine f0 (d5Z (hTA.mono lA) sK) (p6 (Sv rfl sK)) ?_;rintro _ _ ⟨rfl,rfl⟩;refine nmI ?_;simp only[cA,nA];rw[htz];have a6l:S&&&(S-1)<=S-1:=Nat.and_le_right;have zN:(Gm wl n S).length=2^n:=by unfold Gm;simp
   have a0l:(Ht es wl lo hi n S).length=2^n:=by unfold Ht;simp
   have a5f:(Gm wl n S)[S&&&(S-1)]? =some (Bd wl (S&&&(S-1))):=by
    unfold Gm;rw[aX,cP aA];show some (if _ then _ else _)=_;rw[if_pos aA]
   refine Ac el_int rfl rfl rfl rfl aF p10.se a5f (i0 rfl (e0C rfl (Tc (x:=((S:Nat):Int)) (y:=1) rfl rfl aA aA|>.trans (by show ii _=ii _;congr 1;omega)) aA (show S-1<9223372036854775808 by omega))) aF fun _=> ?_;simp only[cA,nA];have hxw:wl[x]? =some (wl.getD x 0):=by rw[aJ,aG aA];rfl
   refine n9 el_int (hwA.mono lA) hxw fun _=> ?_;simp only[cA,nA];have a2u:=c3F (wl:=wl) sK rY;have yE:∀t,t<2^n->0<=Bd wl t/\Bd wl t<=64000000000:=fun t ht=>by
    have htM:t<M64:=aU ht (cK hp6 aC);have wP:=ND ((els t).map fun x=>wl.getD x 0) (fun z hz=>by
     obtain⟨a,ha,rfl⟩:=aZ.1 hz;have vD:=Vz ht ((Ju htM).1 ha);rw[aJ,aG aA];exact hb.ok _ (dL _))
    have sM:=Vy t;unfold card at sM;rw[aR]at wP;unfold Bd;omega
   have qU:=yE _ hS;have qZ:=yE (S&&&(S-1)) aA;have a0b:Gm wl n S≠[]:=fun e=>by rw[e]at zN;simp at zN;omega
   have hn3:Ht es wl lo hi n S≠[]:=fun e=>by rw[e]at a0l;simp at a0l;omega
   obtain⟨g10,a2v,⟨cur10,a5g⟩,oc10⟩:=BR p10 a0b;refine b9 (b9 ?_);refine Ee el_int (a:=Bd wl S) rfl rfl rfl rfl aF aF (PH.cut_le _ _) oc10 aA rfl (fun _=>i0 rfl (by rw[a2u];exact Hm rfl rfl aA aA)) rfl fun p u H12 l12 o12 _=> ?_;simp only[cA,nA];rw[b9f]at o12;have lA12:Pl A H12:=(PH.le_cut lA a2v).trans l12;have p10:=o12.less (PH.le_cut lA a2v);have p3:=(Ej p3 a5g aC).mono l12;have a2w:(Gm wl n (S+1))[S]? =some (Bd wl S):=by
    unfold Gm;rw[aX,cP hS];show some (if _ then _ else _)=_;rw[if_pos aA]
   refine Ac el_int rfl rfl rfl rfl aF p10.se a2w rfl aF fun _=> ?_;simp only[cA,nA];refine b9 (b9 ?_);refine g6 (b:=decide (Bd wl S<lo)) rfl (fun zF=> ?_) (fun zF=> ?_)
   ·replace zF:=oDt zF;have vA:alB es wl lo hi S=false:=by unfold alB;rw[decide_eq_false (show ¬Bd wl S≥lo by omega)];simp
    exact⟨S+1,aA,(p6 (j5 rfl aA)),⟨aA,aA,lA12,by rw[RB vA];exact p3,p10⟩⟩
   ·replace zF:=oDf zF;refine Ac el_int rfl rfl rfl rfl aF p10.se a2w rfl aF fun _=> ?_;simp only[cA,nA];refine b9 (b9 ?_);refine g6 (b:=decide (Bd wl S>hi)) rfl (fun zD=> ?_) (fun zD=> ?_)
    ·replace zD:=oDt zD;have vA:alB es wl lo hi S=false:=by unfold alB;rw[decide_eq_false (show ¬Bd wl S<=hi by omega)];simp
     exact⟨S+1,aA,(p6 (j5 rfl aA)),⟨aA,aA,lA12,by rw[RB vA];exact p3,p10⟩⟩
    ·replace zD:=oDf zD;refine b4 ⟨_,_,rfl⟩ ?_;refine b4 (show(0:Int)<=((x:Nat):Int) by omega) ?_;refine Df (α:=Nat×Nat) (fun⟨R,F⟩=>[GS.uv R,GS.uv F]) (fun⟨R,F⟩=>RI es S x R F) (fun⟨R,F⟩=>(64-card R)*65+card F) ((2^x,2^x)) (i0 (Hl rfl vH) (Hl rfl vH)) (RI.start vH) fun⟨R,F⟩ hQ=> ?_;simp only[cA,nA];have hR:=hQ.hr;have hF:=hQ.hf;refine b9 ?_;refine y5 (p:=(F≠0)) (bN0 F) (fun hF0=> ?_) fun hF0=> ?_
     ·obtain⟨i,r',a0e⟩:∃x r,els F=x::r:=by
       cases rY:els F with
       |nil=>exact absurd (Ov hF rY) hF0
       |cons x r=>exact⟨x,r,rfl⟩
      obtain⟨hi1,a6m,hil⟩:=Im a0e;have a5h:tz F=i:=by simp[tz,a0e]
      have qL:i<n:=Vz hS ((hQ.rch _ (hQ.sub _ hi1)).mem hx);refine j9 (Zw (hTA.mono lA12) hF) rfl ?_;simp only[cA,nA];rw[a5h];refine n9 el_u64 (sA7.mono lA12) (Oz es qL) fun _=> ?_;simp only[cA,nA];have rQ:nb es i<M64:=qB es i fun _ h=>h;have hm:sdf (nb es i&&&S) R<M64:=Sr (Vw sK);refine b9 (b9 ?_);exact⟨(R|||sdf (nb es i&&&S) R,(F&&&(F-1))|||sdf (nb es i&&&S) R),hQ.less sK a0e,(i0 (Hk rfl (Ta (Io rfl (Sv rfl sK) rQ sK) rfl (Vw sK) hR) hR hm) (Hk (Io rfl (Vx (B:=1) rfl rfl hF aA) hF (bO (Nat.sub_le _ _) hF)) (Ta (Io rfl (Sv rfl sK) rQ sK) rfl (Vw sK) hR) (Su hF) hm)),⟨hQ.next hg.ed sK a0e,rfl⟩⟩
     ·obtain rfl:F=0:=aA;have xH:=hQ.done hg.ed hx;refine g9 Tz rfl rfl (lA12 _ _ hAF) rfl rfl ?_;simp only[cA,nA];refine j6 ?_;simp only[cA,nA];refine g8 BO ?_;simp only[cA,nA];refine g9 BK rfl rfl (lA12 _ _ hAq) rfl rfl ?_;simp only[cA,nA];obtain⟨gb,hAb,⟨curb,hcb⟩,ocb⟩:=BR p3 hn3;have hal:alB es wl lo hi S=decide (R=S):=by
       unfold alB;rw[oDd (show Bd wl S≥lo by omega),oDd (show Bd wl S<=hi by omega),jT,jT,bY,cnB_iff,oDi];exact xH.symm
      refine b9 ?_;refine Ee Is (a:=alB es wl lo hi S) rfl rfl rfl rfl aF aF (PH.cut_le _ _) ocb aA rfl (fun _=>i0 rfl (by rw[hal];show Value.bool (((R:Nat):Int)==intOf (D prog _ (.cv .u64 (.v 11))))=_;rw[Sv (n:=S) (k:= .i64) rfl sK];show Value.bool (((R:Nat):Int)==((S:Nat):Int))=_;rw[bE];congr 1;apply decide_eq_decide.2;omega)) rfl fun pp u3 H13 l13 o13 _=> ?_;simp only[cA,nA];rw[b9g]at o13;exact⟨S+1,aA,(p6 (j5 rfl aA)),⟨aA,aA,(PH.le_cut lA12 hAb).trans l13,o13.less (PH.le_cut lA12 hAb),(Ej p10 hcb aC).mono l13⟩⟩
  ·obtain rfl:S=2^n:=aA;rw[c3E]at p3;refine j1 (Na (ok:=my) (ke:=kW2) BG rfl) rfl ?_;rintro v12 H14 ⟨l14,o14⟩;refine nmI ?_;simp only[cA,nA];obtain⟨rm,es0,clock,rfl,yW,sX,hE,rW⟩:=id o14;refine o0 (cs:= #[.map none]) (by rw[show D prog _ (.z 209)=j3 prog 209 from rfl,e3c];rfl) fun pm rJ=> ?_;simp only[cA,nA];refine Bq (u:= .map (some rm)) BJ rfl rfl rfl (PH.put_self _ _ _) aD rfl rfl rfl (fun h=>(nomatch h)) ?_;simp only[cA,nA];rw[PH.put_put];refine o0 (cs:= #[.nilFunc]) (by rw[show D prog _ (.z 210)=j3 prog 210 from rfl,e3d];rfl) fun pd hpd=> ?_;simp only[cA,nA];refine y8 (Ai (vs:=[pt pm,pt pF,pt pd]) rfl rfl) rfl ?_;simp only[cA,nA];refine Bq (u:=nc pm pF pd) BM rfl rfl rfl (PH.put_self _ _ _) aD rfl rfl rfl (fun h=>(nomatch h)) ?_;simp only[cA,nA];rw[PH.put_put];have a1n:pd≠pm:=fun e=>by subst e;rw[PH.put_self]at hpd;cases hpd
   have a0f:H14 pd=none:=by rw[PH.put_ne _ _ a1n]at hpd;exact hpd
   have xO:=l14 _ _ (lA _ _ hAq);have xP:=l14 _ _ (lA _ _ hAF);have hqm:q≠pm:=fun e=>by rw[e,rJ]at xO;cases xO
   have hqd:q≠pd:=fun e=>by rw[e,a0f]at xO;cases xO
   have hFm:pF≠pm:=fun e=>by rw[e,rJ]at xP;cases xP
   have hFd:pF≠pd:=fun e=>by rw[e,a0f]at xP;cases xP
   have hrm:rm≠pm:=fun e=>by rw[e,rJ]at sX;cases sX
   have hrd:rm≠pd:=fun e=>by rw[e,a0f]at sX;cases sX
   have uZ:rm≠q:=fun e=>by rw[e,xO]at sX;cases sX
   have hrF:rm≠pF:=fun e=>by rw[e,xP]at sX;cases sX
   generalize hX:(H14.put pm (.cells (#[.map none].setIfInBounds 0 (.map (some rm))) 209 (0,0))).put pd (.cells (#[.nilFunc].setIfInBounds 0 (nc pm pF pd)) 210 (0,0))=X;have hXq:X q=some (.cells #[ii (n:Nat),v3,.nilFunc] 205 (0,0)):=by subst hX;rw[PH.put_ne _ _ hqd,PH.put_ne _ _ hqm];exact xO
   have hXF:X pF=some (.cells #[pt q] 144 (0,0)):=by subst hX;rw[PH.put_ne _ _ hFd,PH.put_ne _ _ hFm];exact xP
   have hXr:X rm=some (.map (eN kW2 es0).toArray clock):=by subst hX;rw[PH.put_ne _ _ hrd,PH.put_ne _ _ hrm];exact sX
   have hXm:X pm=some (.cells #[.map (some rm)] 209 (0,0)):=by subst hX;rw[PH.put_ne _ _ (fun e=>a1n e.symm)];exact PH.put_self _ _ _
   have hXd:X pd=some (.cells #[nc pm pF pd] 210 (0,0)):=by subst hX;exact PH.put_self _ _ _
   have lX:Pl H14 X:=by subst hX;exact(PH.le_put rJ _).trans (PH.le_put (by rw[PH.put_ne _ _ a1n];exact a0f) _)
   refine g9 Tz rfl rfl hXF rfl rfl ?_;simp only[cA,nA];refine y8 (Ai (vs:=[pt pd,pt pF]) rfl rfl) rfl ?_;simp only[cA,nA];refine j6 ?_;simp only[cA,nA];refine g8 na ?_;simp only[cA,nA];refine Bq (u:=nf pd pF) mz rfl rfl rfl hXq aD rfl rfl rfl (fun h=>(nomatch h)) ?_;simp only[cA,nA];generalize hY:X.put q (.cells (#[ii (n:Nat),v3,.nilFunc].setIfInBounds 2 (nf pd pF)) 205 (0,0))=Y;have hYk:∀k,k≠q->Y k=X k:=fun k hk=>by subst hY;exact PH.put_ne _ _ hk
   have hYq:Y q=some (.cells #[ii (n:Nat),v3,nf pd pF] 205 (0,0)):=by subst hY;exact PH.put_self _ _ _
   have a2x:pF≠q:=hqF;refine g9 Tz rfl rfl ((hYk pF a2x).trans hXF) rfl rfl ?_;simp only[cA,nA];have lXY:Pl (X.cut q) Y:=by subst hY;exact PH.cut_put _ _ _
   have a5i:H1 q=none:=by
    cases e:H1 q with
    |none=>rfl
    |some o=>have:=l2 _ _ e;rw[hq]at this;cases this
   have a5j:H1 rm=none:=by
    cases e:H1 rm with
    |none=>rfl
    |some o=>have:=lA _ _ (hHA _ _ e);rw[yW]at this;cases this
   have lHB:Pl H (Y.cut rm):=l1.trans (PH.le_cut ((PH.le_cut (((hHA.trans lA).trans l14).trans lX) a5i).trans lXY) a5j);have s3:SE (Y.cut rm) 1 (fun b:Bool=>[.bool b]) v3 ((eO (2^n)).map (alB es wl lo hi)):=(Nb ((Ej ((p3.mono l14).mono lX) hXq aC).mono lXY) (fun cs T fz h=>by rw[hYk _ uZ,hXr]at h;cases h)).se;exact d4 rfl ⟨Y.cut rm,q,pm,pF,pd,.map (some rm),rfl,lHB,⟨hn,⟨v3,_,by rw[PH.cut_ne _ (fun e=>uZ e.symm)];exact hYq,s3⟩,⟨_,by rw[PH.cut_ne _ (fun e=>hrm e.symm),hYk _ (fun e=>hqm e.symm)];exact hXm⟩,⟨_,by rw[PH.cut_ne _ (fun e=>hrF e.symm),hYk _ a2x];exact hXF⟩,⟨_,by rw[PH.cut_ne _ (fun e=>hrd e.symm),hYk _ (fun e=>hqd e.symm)];exact hXd⟩⟩,PH.cut_le _ _,[],⟨rm,es0,clock,rfl,PH.cut_self _ _,by rw[hYk _ uZ];exact hXr,hE,rW⟩,fun p v h=>nomatch h⟩
end
end Go.Z
namespace Go.GS
def RD {cs:List Nat} {v l n:Nat} (h:∀c∈cs,c<2^n) (hv:v<n):∀c∈u0 cs v l,c<2^n:=by
 have hp:2^v<2^n:=cU aC hv;intro c hc;unfold u0 at hc;split at hc
 ·rename_i hl;obtain⟨j,hj⟩:=dB hc;rw[mR]at hj;cases e:cs[j]? with
  |none=>rw[e]at hj;cases hj
  |some d=>
   rw[e]at hj;have hd:=h d (aK e);simp only[Functor.map,cR,cN]at hj;subst hj;split
   ·exact iY hd hp
   ·exact hd
 ·rcases aV.1 hc with hc|hc
  ·exact h c hc
  ·rw[bB.1 hc];exact hp
def e0E {ft:Nat->Bool} {n k i:Nat}:∀v,v<=n->(∀c∈(stN ft n k i v).2.1,c<2^n)/\(stN ft n k i v).2.1.length<=v:=by
 intro v;induction v with
 |zero=>intro _;exact⟨(fun c h=>nomatch h),aS _⟩
 |succ v ih=>
  intro hv;obtain⟨h1,h2⟩:=ih aA;refine⟨RD h1 aA,?_⟩;show(u0 _ _ _).length<=_;rw[Pm];split<;>omega
def Jz (ft:Nat->Bool) (n k i:Nat):List Int:=(Jy ft n k i).map fun x:Nat=>(x:Int)
def Fv (ft:Nat->Bool) (n k:Nat):Nat:=t7 ft [] (z7 n 0) k
def RE {ft:Nat->Bool} {n k:Nat} (hn:n<=6) (hk:k<=8):Fv ft n k<=400:=by
 have h:Fv ft n k<=Ae (fun _=>true) k (z7 n 0):=c3m (fun _ _=>rfl) k _;refine cK h ?_;have:∀n,n<7->∀k,k<9->Ae (fun _=>true) k (z7 n 0)<=400:=by decide+kernel
 exact this n aA k aA
end Go.GS
namespace Go.Z
open Proofs.Tryz RowKit RX GS
section
variable {B H:PH} {n:Nat} {ft:Nat->Bool} {q pm pF pd:Nat} {m:Value}
def Fld.mono {B':PH} (h:Fld B n ft q pm pF pd m) (hl:Pl B B'):Fld B' n ft q pm pF pd m:=by
 obtain⟨h1,⟨w,T,h2,h3⟩,⟨T1,h4⟩,⟨T2,h5⟩,⟨T3,h6⟩⟩:=h;exact⟨h1,⟨w,T,hl _ _ h2,h3.mono hl⟩,⟨T1,hl _ _ h4⟩,⟨T2,hl _ _ h5⟩,⟨T3,hl _ _ h6⟩⟩
def Mem.less {B':PH} (h:Mem B' H ft m) (hl:Pl B B'):Mem B H ft m:=by
 obtain⟨h1,L,⟨r,es,c,h2,h3,h4⟩,h5⟩:=h;refine⟨hl.trans h1,L,⟨r,es,c,h2,?_,h4⟩,h5⟩;cases e:B r with
 |none=>rfl
 |some o=>rw[hl _ _ e]at h3;cases h3
def Mem.base {X:PH} {e:TypeId} (h:Mem B H ft m) (hX:Pl B X) (hk:∀k,(∀cs,H k≠some (.cells cs e (0,0)))->X k=H k):Mem B X ft m:=by
 obtain⟨h1,L,⟨r,es,c,h2,h3,h4,h6⟩,h5⟩:=h;exact⟨hX,L,⟨r,es,c,h2,h3,by rw[hk r (fun cs e=>by rw[h4]at e;cases e)];exact h4,h6⟩,h5⟩
def Mem.cut (h:Mem B H ft m):∃r,B r=none/\(∀cs T fz,H r≠some (.cells cs T fz))/\Mem (H.cut r) H ft m/\Pl B (H.cut r):=by
 obtain⟨h1,L,⟨r,es,c,h2,h3,h4,h6⟩,h5⟩:=h;exact⟨r,h3,(fun cs T fz e=>by rw[h4]at e;cases e),⟨PH.cut_le _ _,L,⟨r,es,c,h2,PH.cut_self _ _,h4,h6⟩,h5⟩,PH.le_cut h1 h3⟩
def c9L (hF:Fld B n ft q pm pF pd m) (hM:Mem B H ft m) {k:Nat} (hk:k<=8):Con prog 61 [pt q,ii (k:Nat)] H fun r H'=>r=ii ((Fv ft n k:Nat):Int)/\Mem B H' ft m:=by
 refine g5 mixed d5H ?_;obtain⟨w,Tq,hq,hw⟩:=hF.fld;have hn:=hF.n6;refine j6 ?_;refine g8 na ?_;refine g9 mz rfl rfl (hM.1 _ _ hq) rfl rfl ?_;refine j6 ?_;refine g8 BN ?_;refine g9 sc_int rfl rfl (hM.1 _ _ hq) rfl rfl ?_;refine b4 ⟨_,_,rfl⟩ ?_;refine b4 (show(0:Int)<=((n:Nat):Int) by omega) ?_;refine j1 (Aj (f:=116) (caps:= #[pt pd,pt pF]) (vs:=[.slice none 0 0,GS.uv (z7 n 0),ii (k:Nat)]) rfl rfl rfl BI (QY hF [] (.slice none 0 0) (z7 n 0) k H (SO.nil B B 49 1 _).se (fun c h=>nomatch h) aC (md n 0) hk hM)) (Hn rfl rfl (Vx (B:=1) (Hl rfl aA) rfl (Dp aA) (iO n)) rfl) ?_;rintro _ X2 ⟨rfl,yI⟩;refine nmI ?_;exact d4 rfl ⟨rfl,yI⟩
def c9M (hF:Fld B n ft q pm pF pd m) (hM:Mem B H ft m) {k i:Nat} (hk:k<=8) (hi:i<Fv ft n k):Con prog 62 [pt q,ii (k:Nat),ii (i:Nat)] H fun r H'=>Mem B H' ft m/\SO B H' 3 1 (fun z:Int=>[ii z]) r (Jz ft n k i):=by
 refine g5 mixed d5G ?_;obtain⟨w,Tq,hq,hw⟩:=id hF.fld;have hn:=hF.n6;have a2y:∀cs R,R<2^n->t7 ft cs R k<9223372036854775807:=fun cs R hR=>bO (QE cs R k hR) (BQ hn hk);have h6:(2:Nat)^n<M64:=Dp aA;refine j6 ?_;simp only[cA,nA];refine g8 BN ?_;simp only[cA,nA];refine g9 sc_int rfl rfl (hM.1 _ _ hq) rfl rfl ?_;simp only[cA,nA];refine r7 (α:=Nat×Value×Value) (fun⟨v,vp,vc⟩=>[vp,vc,ii (((stN ft n k i v).2.2:Nat):Int),ii (v:Nat)]) (fun⟨v,vp,vc⟩=>fun H'=>v<=n/\Mem B H' ft m/\SO B H' 3 1 (fun z:Int=>[ii z]) vp ((stN ft n k i v).1.map fun x:Nat=>(x:Int))/\SO B H' 49 1 (fun s:Nat=>[GS.uv s]) vc (stN ft n k i v).2.1) (fun⟨v,vp,vc⟩=>n-v) ((0,.slice none 0 0,.slice none 0 0)) rfl (⟨bK _,hM,SO.nil _ _ _ _ _,SO.nil _ _ _ _ _⟩) fun⟨v,vp,vc⟩ H' hQ=> ?_;simp only[cA,nA];obtain⟨hv,hM1,op,oc⟩:=hQ;refine b9 (b9 ?_);refine g6 (b:=decide (((v:Nat):Int)<(n:Nat))) rfl (fun yB=> ?_) (fun yB=> ?_)
 ·replace yB:=oDt yB;have yB:v<n:=aA;have rB:=mf hi v hv;obtain⟨sR,a6g⟩:=e0E (ft:=ft) (n:=n) (k:=k) (i:=i) v hv;have hjb:=iE rB.cnt (a2y _ _ (md n v));have a1o:=rB.cnt;rw[lw yB,lu _ _ _ (ly yB),List.range_eq_range']at a1o;refine j6 ?_;simp only[cA,nA];refine g8 BN ?_;simp only[cA,nA];refine g9 sc_int rfl rfl (hM1.1 _ _ hq) rfl rfl ?_;simp only[cA,nA];refine b4 ⟨_,_,rfl⟩ ?_;refine b4 (show(0:Int)<=((n:Nat):Int) by omega) ?_;have a1p:∀{ρ:List Value} {a:SV},D prog ρ a=ii (v:Nat)->D prog ρ (.op2 .add .i64 a (.k (.int .i64 1)))=ii ((v+1:Nat):Int):=fun h=>j5 h aA;refine b4 (by show 0<=intOf (D prog _ (.op2 .add .i64 (.v 9) (.k (.int .i64 1))));rw[a1p rfl];show(0:Int)<=((v+1:Nat):Int);omega) ?_;generalize hc:(fun l=>t7 ft (u0 (stN ft n k i v).2.1 v l) (z7 n (v+1)) k)=c at a1o;have hpe:Ea c ((stN ft n k i v).2.1.length+1) 0 (stN ft n k i v).2.2=((stN ft n k i (v+1)).1.getD v 0,(stN ft n k i (v+1)).2.2):=by
   subst hc;refine lV ?_ rfl;show _=((stN ft n k i v).1++[_]).getD v 0;rw[aJ,aN (by rw[rB.len];exact aS _),rB.len,dS];rfl
  refine r7 (α:=Nat×Nat) (fun⟨l,j⟩=>[vp,vc,ii (j:Nat),ii (l:Nat)]) (fun⟨l,j⟩=>fun H'=>Mem B H' ft m/\SO B H' 3 1 (fun z:Int=>[ii z]) vp ((stN ft n k i v).1.map fun x:Nat=>(x:Int))/\SO B H' 49 1 (fun s:Nat=>[GS.uv s]) vc (stN ft n k i v).2.1/\l<=(stN ft n k i v).2.1.length+1/\j<=(stN ft n k i v).2.2/\j<((nG l ((stN ft n k i v).2.1.length+1-l)).map c).sum/\Ea c ((stN ft n k i v).2.1.length+1-l) l j=Ea c ((stN ft n k i v).2.1.length+1) 0 (stN ft n k i v).2.2) (fun⟨l,j⟩=>(stN ft n k i v).2.1.length+1-l) ((0,(stN ft n k i v).2.2)) rfl (⟨hM1,op,oc,bK _,aS _,a1o,rfl⟩) fun⟨l,j⟩ H2 ⟨yI,op2,oc2,rL,hjs,hj,vN⟩=> ?_;simp only[cA,nA];have hl:l<=(stN ft n k i v).2.1.length:=by
   rcases dU (stN ft n k i v).2.1.length l with h|h
   ·rw[show(stN ft n k i v).2.1.length+1-l=0 by omega]at hj;simp at hj
   ·exact h
  refine f0 (c9F oc2.se (fun c hc=>iE (sR c hc) h6) aA hl aA) rfl ?_;rintro v17 H3 ⟨l3,s3⟩;refine nmI ?_;simp only[cA,nA];have hM3:=yI.mono l3;refine j6 ?_;simp only[cA,nA];refine g8 na ?_;simp only[cA,nA];refine g9 mz rfl rfl (hM3.1 _ _ hq) rfl rfl ?_;simp only[cA,nA];obtain⟨rm,yW,sX,hMc,lBc⟩:=hM3.cut;have uO:(u0 (stN ft n k i v).2.1 v l).length<=1000:=by rw[Pm];split<;>omega
  refine j1 (Aj (f:=116) (caps:= #[pt pd,pt pF]) (vs:=[v17,GS.uv (z7 n (v+1)),ii (k:Nat)]) rfl rfl rfl BI (QY (hF.mono lBc) _ v17 (z7 n (v+1)) k H3 (d5Y s3.se sX) (RD sR yB) uO (md n _) hk hMc)) (Hn rfl rfl (Vx (Hl rfl aA) (Hl (a1p rfl) aA) h6 (bQ aC yB)) rfl) ?_;rintro _ H4 ⟨rfl,hM4⟩;refine nmI ?_;simp only[cA,nA];have hM5:=hM4.less lBc;have op4:=(Nb (op2.mono l3) sX).mono hM4.1;have oc4:=(Nb (oc2.mono l3) sX).mono hM4.1;have o17:=(Nb (s3.less yI.1) sX).mono hM4.1;have hcv:t7 ft (u0 (stN ft n k i v).2.1 v l) (z7 n (v+1)) k=c l:=by rw[<-hc]
  have hcb:=a2y (u0 (stN ft n k i v).2.1 v l) (z7 n (v+1)) (md n _);rw[hcv]at hcb⊢;rw[show(stN ft n k i v).2.1.length+1-l=(stN ft n k i v).2.1.length-l+1 by omega,List.range'_succ,bI,eP]at hj;rw[show(stN ft n k i v).2.1.length+1-l=(stN ft n k i v).2.1.length-l+1 by omega]at vN;rw[b9e c ((stN ft n k i v).2.1.length-l) l j]at vN;refine b9 (b9 ?_);refine g6 (b:=decide (((j:Nat):Int)<((c l:Nat):Int))) rfl (fun hjc=> ?_) (fun hjc=> ?_)
  ·replace hjc:=oDt hjc;rw[if_pos (show j<c l by omega),<-hc]at vN;obtain⟨X,lBX,lXH,oX,hXk⟩:=It op4 hM5.1;have hlp:(stN ft n k i v).1.length=v:=rB.len;refine Cf z6 rfl rfl rfl aF aF lXH oX (by rw[aR];omega) rfl aF rfl fun pp v23 H6 l6 o6=> ?_;simp only[cA,nA];have tA:(stN ft n k i (v+1)).1.map (fun x:Nat=>(x:Int))=(stN ft n k i v).1.map (fun x:Nat=>(x:Int))++[((l:Nat):Int)]:=by
    show((stN ft n k i v).1++[_]).map _=_;rw[bM,<-vN];rfl
   have xY:(stN ft n k i (v+1)).2.1=u0 (stN ft n k i v).2.1 v l:=by
    show u0 _ _ _=_;rw[<-vN]
   have hs3:(stN ft n k i (v+1)).2.2=j:=by
    show(Ea _ _ _ _).2=_;rw[<-vN]
   exact⟨(v+1,v23,v17),by show n-(v+1)<n-v;omega,(Hn rfl rfl (by show ii ((j:Nat):Int)=ii (((stN ft n k i (v+1)).2.2:Nat):Int);rw[hs3]) (a1p rfl)),⟨(by show v+1<=n;omega),(hM5.base lBX hXk).mono l6,(by show SO B H6 _ _ _ _ ((stN ft n k i (v+1)).1.map _);rw[tA];exact o6.less lBX),(by show SO B H6 _ _ _ _ (stN ft n k i (v+1)).2.1;rw[xY];exact(Pv o17 hXk aC).mono l6)⟩⟩
  ·replace hjc:=oDf hjc;rw[if_neg (show ¬j<c l by omega)]at vN;refine b9 ?_;exact⟨(l+1,j-c l),by show(stN ft n k i v).2.1.length+1-(l+1)<(stN ft n k i v).2.1.length+1-l;omega,(Hn rfl rfl (by rw[Tc (x:=((j:Nat):Int)) (y:=((c l:Nat):Int)) rfl rfl aA aA];show ii _=ii _;congr 1;show _=((j-c l:Nat):Int);omega) (j5 rfl aA)),⟨hM5,op4,oc4,(by show l+1<=_;omega),(by show j-c l<=_;omega),(by show j-c l<((nG (l+1) ((stN ft n k i v).2.1.length+1-(l+1))).map c).sum;rw[show(stN ft n k i v).2.1.length+1-(l+1)=(stN ft n k i v).2.1.length-l by omega];omega),(by show Ea c ((stN ft n k i v).2.1.length+1-(l+1)) (l+1) (j-c l)=_;rw[show(stN ft n k i v).2.1.length+1-(l+1)=(stN ft n k i v).2.1.length-l by omega];exact vN)⟩⟩
 ·replace yB:=oDf yB;obtain rfl:v=n:=aA;exact d4 rfl ⟨hM1,op⟩
end
section
variable {H:PH} {w wts:Value} {wl:List Int} {n:Nat} {es:List (Nat×Nat)} {lo hi:Int}
def BV {k:Nat} (hT:Tb H) (hw:SG H w es) (hg:GV n es) (hn:n<=6) (rG:SI H wts wl) (hb:av n wl lo hi (k:Nat)):Con prog 13 [gv n w,bv wts lo hi (k:Nat)] H fun r H'=>Pl H H'/\∃v m,r= .tuple #[v,ii 0]/\SE H' 1 (fun s:Slc=>[vs s]) v m/\m.length=Fv (alB es wl lo hi) n k/\∀(i:Nat) (s:Slc),m[i]? =some s->SI H' (vs s) (Jz (alB es wl lo hi) n k i):=by
 refine g5 mixed d5I ?_;have hk8:k<=8:=by have:=hb.d8;omega
 have h4:=RE (ft:=alB es wl lo hi) hn hk8;refine b4 (Ci hw) ?_;refine b4 (Wb (t8 rG) _ _ _) ?_;refine f0 (c9K hT hw hg hn rG hb) rfl ?_;rintro _ H1 ⟨B,q,pm,pF,pd,m,rfl,lB,hF,hM⟩;refine nmI ?_;simp only[cA,nA];refine g7 (g7 (b9 ?_));refine i7 (bF (p:=(0:Int)≠0) aD) ?_;refine f0 (c9L hF hM hk8) rfl ?_;rintro _ H2 ⟨rfl,yI⟩;refine nmI ?_;simp only[cA,nA];refine b9 ?_;refine i7 (bF (p:=((Fv (alB es wl lo hi) n k:Nat):Int)>400) aA) ?_;refine r7 (α:=Nat×List Slc×Value) (fun⟨i,l,v⟩=>[v,ii (i:Nat)]) (fun⟨i,l,v⟩=>fun H'=>i<=Fv (alB es wl lo hi) n k/\l.length=i/\Mem B H' (alB es wl lo hi) m/\SO B H' 40 1 (fun s:Slc=>[vs s]) v l/\∀(j:Nat) (s:Slc),l[j]? =some s->SO B H' 3 1 (fun z:Int=>[ii z]) (vs s) (Jz (alB es wl lo hi) n k j)) (fun⟨i,l,v⟩=>Fv (alB es wl lo hi) n k-i) ((0,[],.slice none 0 0)) rfl (⟨bK _,rfl,yI,SO.nil _ _ _ _ _,(fun j s h=>nomatch h)⟩) fun⟨i,l,v⟩ H' hQ=> ?_;simp only[cA,nA];obtain⟨yJ,hl,hM3,o3,hs3⟩:=hQ;refine b9 ?_;refine g6 (b:=decide (((i:Nat):Int)<((Fv (alB es wl lo hi) n k:Nat):Int))) rfl (fun qL=> ?_) (fun qL=> ?_)
 ·replace qL:=oDt qL;obtain⟨rm,yW,sX,hMc,lBc⟩:=hM3.cut;refine f0 (c9M (hF.mono lBc) hMc hk8 (show i<Fv (alB es wl lo hi) n k by omega)) rfl ?_;rintro v6 H4 ⟨hM4,s4⟩;refine nmI ?_;simp only[cA,nA];obtain⟨s,rfl⟩:=Lx s4.se;have hM5:=hM4.less lBc;have o4:=(Nb o3 sX).mono hM4.1;obtain⟨X,lBX,lXH,oX,hXk⟩:=It o4 hM5.1;refine Cf Pe rfl rfl rfl aF aF lXH oX aA rfl aF rfl fun pp v8 H6 l6 o6=> ?_;simp only[cA,nA];have hM7:=(hM5.base lBX hXk).mono l6;have hs6:∀(j:Nat) (s':Slc),(l++[s])[j]? =some s'->SO B H6 3 1 (fun z:Int=>[ii z]) (vs s') (Jz (alB es wl lo hi) n k j):=fun j s' h=>by
   rcases dU j l.length with hj|hj
   ·rw[aM hj]at h;exact(Pv ((Nb (hs3 j s' h) sX).mono hM4.1) hXk aC).mono l6
   ·rw[aN hj]at h;rcases Nat.eq_zero_or_pos (j-l.length)with h0|h0
    ·rw[h0]at h
     injection h with h
     subst h;rw[show j=i by omega];exact(Pv (s4.less lBc) hXk aC).mono l6
    ·rw[aO (by simp;omega)]at h;cases h
  exact⟨(i+1,l++[s],v8),aA,(i0 rfl (j5 rfl aA)),⟨aA,by simp[hl],hM7,o6.less lBX,hs6⟩⟩
 ·replace qL:=oDf qL;rw[show i=Fv (alB es wl lo hi) n k by omega]at hl;exact d4 rfl ⟨lB.trans hM3.1,v,l,rfl,o3.se,hl,fun j s h=>(hs3 j s h).se⟩
end
end Go.Z

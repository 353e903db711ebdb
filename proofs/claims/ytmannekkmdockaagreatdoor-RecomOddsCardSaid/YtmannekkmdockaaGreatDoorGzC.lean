/- Lemmas of the proof. -/
import Derived.Test.YtmannekkmdockaaGreatDoorGuF
import Derived.Test.YtmannekkmdockaaGreatDoorSrG
open Go.Result renaming andThen_ok->eH
open Go.Sem renaming run_bind->eI,run_pure->eJ
open List renaming getElem?_inj->iS,mem_or_eq_of_mem_set->lN,replicate->eK,toList_toArray->iF
open List.Pairwise renaming nil->gV
open Nat renaming beq->gK
open Prod.mk renaming injEq->jT
set_option maxRecDepth 100000
namespace Go.RX
open RowKit RZ
structure SB (P:Program) (kt:TypeId) {κ:Type} (ok:κ->Prop) (ke:κ->Value):Prop where
 check:∀k,ok k->∀b w,(Instr.checkKey b 10000 kt (ke k)).run P w= .ok () w
 stays:∀k,ok k->∀w,(Instr.keyThatStays (ke k) (ke k)).run P w= .ok (ke k) w
 find:∀k,ok k->∀E:List MapEntry,(∀e∈E,∃a,ok a/\e.key=ke a)->∀w,((Instr.findKey kt (ke k) E).run P w= .ok none w/\∀e∈E,e.key≠ke k)\/∃j e,(Instr.findKey kt (ke k) E).run P w= .ok (some (j,e.val)) w/\E[j]? =some e/\e.key=ke k
 inj:∀a b,ok a->ok b->ke a=ke b->a=b
section
variable {κ:Type} {ok:κ->Prop} {ke:κ->Value}
def eN (ke:κ->Value) (es:List (κ×Value×Nat)):List MapEntry:=es.map fun p=>⟨ke p.1,p.2.1,p.2.2⟩
def kvN (es:List (κ×Value×Nat)):List (κ×Value):=es.map fun p=>(p.1,p.2.1)
structure po (ok:κ->Prop) (es:List (κ×Value×Nat)) (clock:Nat):Prop where
 keys:(es.map (·.1)).Nodup
 oks:∀p∈es,ok p.1
 asc:(es.map (·.2.2)).Pairwise (· < ·)
 lt:∀p∈es,p.2.2<clock
def MK (ok:κ->Prop) (ke:κ->Value) (H:PH) (m:Value) (L:List (κ×Value)):Prop:=∃r es clock,m= .map (some r)/\H r=some (.map (eN ke es).toArray clock)/\po ok es clock/\kvN es=L
def MKO (ok:κ->Prop) (ke:κ->Value) (B H:PH) (m:Value) (L:List (κ×Value)):Prop:=∃r es clock,m= .map (some r)/\B r=none/\H r=some (.map (eN ke es).toArray clock)/\po ok es clock/\kvN es=L
theorem MKO.mk {B H:PH} {m:Value} {L:List (κ×Value)} (h:MKO ok ke B H m L):MK ok ke H m L:=by
 obtain⟨r,es,c,h1,_,h2,h3⟩:=h;exact⟨r,es,c,h1,h2,h3⟩
theorem MKO.mono {B H H':PH} {m:Value} {L:List (κ×Value)} (h:MKO ok ke B H m L) (hl:Pl H H'):MKO ok ke B H' m L:=by
 obtain⟨r,es,c,h1,h4,h2,h3⟩:=h;exact⟨r,es,c,h1,h4,hl _ _ h2,h3⟩
open Classical in
noncomputable def Cb {β:Type} (L:List (κ×β)) (k:κ) (v:β):List (κ×β):=if k∈L.map (·.1)then L.map fun p=>if p.1=k then(k,v)else p else L++[(k,v)]
open Classical in
theorem c5n {β γ:Type} {L:List (κ×β)} {M:List (κ×γ)} (h:L.map (·.1)=M.map (·.1)) (k:κ) (v:β) (u:γ):(Cb L k v).map (·.1)=(Cb M k u).map (·.1):=by
 unfold Cb;rw[h];split
 ·have e:∀{β:Type} (L:List (κ×β)) (v:β),(L.map fun p=>if p.1=k then(k,v)else p).map (·.1)=L.map (·.1):=fun L v=>by
   rw[cZ];refine bW fun p _=> ?_;simp only[Function.comp];split
   ·rename_i e;exact e.symm
   ·rfl
  rw[e,e,h]
 ·rw[aT,aT,h];rfl
theorem ap {β:Type} {L:List (κ×β)} {k x:κ} {v y:β}:(x,y)∈Cb L k v->(x=k/\y=v)\/(x≠k/\(x,y)∈L):=by
 unfold Cb;split
 ·rename_i hk;rw[aY];rintro⟨p,hp,e⟩;split at e
  ·simp only[jT]at e;exact .inl ⟨e.1.symm,e.2.symm⟩
  ·rename_i e1;subst e;exact .inr ⟨e1,hp⟩
 ·rename_i hk;rw[aQ,aL];rintro(h1|h1)
  ·refine .inr ⟨fun e=>hk ?_,h1⟩;subst e;exact aY.2 ⟨_,h1,rfl⟩
  ·simp only[jT]at h1;exact .inl h1
theorem c9S {β:Type} {L:List (κ×β)} {k:κ} {v:β}:(k,v)∈Cb L k v:=by
 unfold Cb;split
 ·rename_i hk;obtain⟨p,hp,e⟩:=aY.1 hk;exact aY.2 ⟨p,hp,by rw[if_pos e]⟩
 ·simp
section
variable {P:Program} {H:PH} {o:Oper} {x y z:Operand} {T kt et:TypeId} (hK:SB P kt ok ke)
theorem d5r {es:List (κ×Value×Nat)} (h:∀p∈es,ok p.1):∀e∈eN ke es,∃a,ok a/\e.key=ke a:=fun e he=>by
 obtain⟨p,hp,rfl⟩:=aY.1 he;exact⟨p.1,h p hp,rfl⟩
include hK
theorem SC {es:List (κ×Value×Nat)} (ho:∀p∈es,ok p.1) {k:κ} (hk:ok k) (w:World):
  ((Instr.findKey kt (ke k) (eN ke es)).run P w= .ok none w/\k∉es.map (·.1))\/∃j p,(Instr.findKey kt (ke k) (eN ke es)).run P w= .ok (some (j,p.2.1)) w/\es[j]? =some p/\p.1=k:=by
 rcases hK.find k hk (eN ke es) (d5r ho) w with⟨h1,h2⟩|⟨j,e,h1,h2,h3⟩
 ·refine .inl ⟨h1,fun hm=> ?_⟩;obtain⟨p,hp,rfl⟩:=aY.1 hm;exact h2 _ (aY.2 ⟨p,hp,rfl⟩) rfl
 ·unfold eN at h2;rw[bO]at h2;obtain⟨p,hp,rfl⟩:=Option.map_eq_some_iff.1 h2;exact .inr ⟨j,p,h1,hp,hK.inj _ _ (ho p (aG hp)) hk h3⟩
theorem SD {B:PH} {vs:List Value} {m v:Value} {L:List (κ×Value)} {k:κ} (ho:o.op= .mapUpdate T x y z) (hx:g8 [x,y,z] vs x=m) (hy:g8 [x,y,z] vs y=ke k) (hz:g8 [x,y,z] vs z=v) (hu:P.underlying T=some (.map kt et)) (hk:ok k)
  (pY:Pl B H) (h:MKO ok ke B H m L):Opn P o vs H fun u H'=>u=undef/\Pl B H'/\MKO ok ke B H' m (Cb L k v)/\∃g ob E c,m= .map (some g)/\B g=none/\H g=some (.map E c)/\H'=H.put g ob:=fun w hw=>by
 obtain⟨r,es,clock,rfl,hB,hH,hE,tC⟩:=h;have qK:o.op.operands.toList=[x,y,z]:=by simp[ho,Op.operands]
 have hb:=hw _ _ hH;unfold Stp;rw[qK];have wR:∀ob,Pl B (H.put r ob):=fun ob c cb hc=>by
  rw[PH.put_ne _ _ (fun e=>by subst e;rw[hB]at hc;cases hc)];exact pY _ _ hc
 have wU:L.map (·.1)=es.map (·.1):=by rw[<-tC];unfold kvN;rw[cZ];rfl
 simp only[execOp,ho,hx,hy,hz,eI,Instr.mapUpdate,run_underlying hu,eH,Lp hb,hK.check k hk];rcases SC hK hE.oks hk w with⟨h1,h2⟩|⟨j,p,h1,h2,h3⟩
 ·rw[h1];simp only[eH,eJ,gd _ hb];refine⟨_,Step.setB hw hH _,by first|rfl|trivial,wR _,⟨r,es++[(k,v,clock)],clock+1,rfl,hB,?_,⟨?_,?_,?_,?_⟩,?_⟩,r,_,_,_,rfl,hB,hH,rfl⟩
  ·rw[PH.put_self];simp[eN]
  ·rw[aT,cQ];exact⟨hE.keys,aD,fun a ha b hb=>by simp only[aN,bJ,aL]at hb;subst hb;intro e;subst e;exact h2 ha⟩
  ·intro p hp;rcases aQ.1 hp with hp|hp
   ·exact hE.oks p hp
   ·rw[aL]at hp;subst hp;exact hk
  ·rw[aT,dW];refine⟨hE.asc,aD,fun a ha b hb=> ?_⟩;simp only[aN,bJ,aL]at hb;subst hb;obtain⟨p,hp,rfl⟩:=aY.1 ha;exact hE.lt p hp
  ·intro p hp;rcases aQ.1 hp with hp|hp
   ·have:=hE.lt p hp;omega
   ·rw[aL]at hp;subst hp;exact Nat.lt_succ_self _
  ·unfold Cb;rw[if_neg (by rw[wU];exact h2),<-tC];simp[kvN]
 ·rw[h1];have hje:((eN ke es).toArray[j]?.map (·.key)).getD (ke k)=ke k:=by simp[eN,h2,h3]
  simp only[eH,eJ,hje,eI,hK.stays k hk,gd _ hb];have pX:=(aH.1 h2).1;have zB:∀{α:Type} (f:κ×Value×Nat->α),f (k,v,p.2.2)=f p->(es.set j (k,v,p.2.2)).map f=es.map f:=fun f hf=>by
   apply bG;intro i;rw[bO,bO,dH];by_cases e:j=i
   ·subst e;rw[if_pos rfl,if_pos pX,h2];simp[hf]
   ·rw[if_neg e]
  refine⟨_,Step.setB hw hH _,by first|rfl|trivial,wR _,⟨r,es.set j (k,v,p.2.2),clock,rfl,hB,?_,⟨?_,?_,?_,?_⟩,?_⟩,r,_,_,_,rfl,hB,hH,rfl⟩
  ·rw[PH.put_self];congr 2;rw[<-cI];simp only[Array.toList_modify];apply bG;intro i;simp only[List.getElem?_modify,eN,bO,dH];by_cases e:j=i
   ·subst e;obtain⟨a0n,h5⟩:=aH.1 h2;simp[a0n,h5,h3]
   ·simp[e]
  ·rw[zB (·.1) (by simp[h3])];exact hE.keys
  ·intro q hq;rcases lN hq with hq|rfl
   ·exact hE.oks q hq
   ·exact hk
  ·rw[zB (·.2.2) rfl];exact hE.asc
  ·intro q hq;rcases lN hq with hq|rfl
   ·exact hE.lt q hq
   ·exact hE.lt p (aG h2)
  ·have sB:k∈L.map (·.1):=by rw[wU];exact aY.2 ⟨p,aG h2,h3⟩
   have h0:=hE.keys;unfold Cb;rw[if_pos sB,<-tC];unfold kvN;rw[cZ];apply bG;intro i;simp only[bO,dH,Function.comp];by_cases e:j=i
   ·subst e;simp[pX,(aH.1 h2).2,h3]
   ·rw[if_neg e];cases hi:es[i]? with
    |none=>rfl
    |some q=>
     have qC:q.1≠k:=fun e2=>e (by
      refine(iS (by simpa using pX) h0).1 ?_;rw[bO,bO,h2,hi];simp[h3,e2])
     simp[qC]
theorem SH {vs:List Value} {m zr u:Value} {L:List (κ×Value)} {k:κ} {b ok2:Bool} (ho:o.op= .lookup T x y ok2) (hx:g8 [x,y] vs x=m) (hy:g8 [x,y] vs y=ke k) (hu:P.underlying T=some (.map kt et)) (hk:ok k) (hz:∀w,(zeroValue et).run P w= .ok zr w) (h:MK ok ke H m L)
  (yJ:(b=false/\u=zr/\k∉L.map (·.1))\/(b=true/\(k,u)∈L)):Rds P o vs H (if ok2 then .tuple #[u,.bool b]else u):=fun w hw=>by
 obtain⟨r,es,clock,rfl,hH,hE,tC⟩:=h;have qK:o.op.operands.toList=[x,y]:=by simp[ho,Op.operands]
 have hb:=hw _ _ hH;have wU:L.map (·.1)=es.map (·.1):=by rw[<-tC];unfold kvN;rw[cZ];rfl
 rw[qK];simp only[execOp,ho,hx,hy,eI,Instr.lookup,run_underlying hu,eH,Lp hb,eJ,hK.check k hk];rcases SC hK hE.oks hk w with⟨h1,h2⟩|⟨j,p,h1,h2,h3⟩
 ·rw[h1];rcases yJ with⟨rfl,rfl,_⟩|⟨_,hm⟩
  ·cases ok2<;>simp[hz]
  ·exact absurd (by rw[<-wU];exact aY.2 ⟨_,hm,rfl⟩) h2
 ·rw[h1];rcases yJ with⟨_,_,hm⟩|⟨rfl,hm⟩
  ·exact absurd (by rw[wU];exact aY.2 ⟨p,aG h2,h3⟩) hm
  ·have:p.2.1=u:=by
    rw[<-tC]at hm;obtain⟨q,hq,e⟩:=aY.1 hm;simp only[jT]at e;obtain⟨i,hi⟩:=cN.1 hq;have l1:=(aH.1 h2).1;have:j=i:=(iS (by simpa using l1) hE.keys).1 (by rw[bO,bO,h2,hi];simp[h3,e.1]);subst this;rw[h2]at hi;cases hi;exact e.2
   subst this;cases ok2<;>simp
theorem c5p (ho:o.op= .makeMap T none):Opn P o [] H fun v H'=>Pl H H'/\MKO ok ke H H' v []:=fun w hw=>by
 have _hK:=hK;refine(uu (P:=P) (H:=H) ho w hw).mono ?_;rintro u w' ⟨H',hs,r,hr,rfl,rfl⟩;exact⟨_,hs,PH.le_put hr _,r,[],0,rfl,hr,by rw[PH.put_self];rfl,⟨dG,(fun p hp=>by cases hp),gV,fun p hp=>by cases hp⟩,rfl⟩
end
def IT (ke:κ->Value) (H:PH) (q r:Nat) (es:List (κ×Value×Nat)) (clock:Nat) (seen:List Nat):Prop:=H q=some (.mapIter (some r) clock seen.toArray clock)/\H r=some (.map (eN ke es).toArray clock)
section
variable {P:Program} {H:PH} {o:Oper} {x:Operand} {T kt et:TypeId}
theorem SJ {vs:List Value} {r clock:Nat} {es:List (κ×Value×Nat)} (ho:o.op= .range T x) (hx:g8 [x] vs x= .map (some r)) (hu:P.underlying T=some (.map kt et)) (hH:H r=some (.map (eN ke es).toArray clock)):
  Opn P o vs H fun v H'=>∃q,H q=none/\v= .pointer (some ⟨q,0,none⟩)/\H'=H.put q (.mapIter (some r) clock #[] clock):=fun w hw=>by
 have qK:o.op.operands.toList=[x]:=by simp[ho,Op.operands]
 have hb:=hw _ _ hH;unfold Stp;rw[qK];simp only[execOp,ho,hx,eI,Instr.range,run_underlying hu,eH,Lp hb,eJ];exact⟨_,Step.newB hw _,_,hw.fresh,rfl,rfl⟩
def left (es:List (κ×Value×Nat)) (seen:List Nat):List (κ×Value×Nat):=es.filter fun p=> !seen.any (gK p.2.2)
theorem SK {vs:List Value} {q r clock:Nat} {es:List (κ×Value×Nat)} {seen:List Nat} (ho:o.op= .next x false) (hx:g8 [x] vs x= .pointer (some ⟨q,0,none⟩)) (hE:po ok es clock) (h:IT ke H q r es clock seen):
  Opn P o vs H fun v H'=>(left es seen=[]/\v= .tuple #[.bool false]/\H'=H)\/∃p∈left es seen,v= .tuple #[.bool true,ke p.1,p.2.1]/\H'=H.put q (.mapIter (some r) clock (seen++[p.2.2]).toArray clock):=fun w hw=>by
 obtain⟨h1,h2⟩:=h;have qK:o.op.operands.toList=[x]:=by simp[ho,Op.operands]
 have hq:=hw _ _ h1;have hr:=hw _ _ h2;have hlf:(eN ke es).filter (fun e=> !seen.any (gK e.born))=eN ke (left es seen):=by
  unfold eN left;rw[List.filter_map];rfl
 have pX:∀e∈eN ke es,e.born<clock:=fun e he=>by
  obtain⟨p,hp,rfl⟩:=aY.1 he;exact hE.lt p hp
 have pZ:=c2U (P:=P) (ty:=o.type) hq hr (fun e he=>pX e (bT.1 he).1) (by
  by_cases he:eN ke es=[]
  ·exact .inr (.inl he)
  ·obtain⟨e,r,hh⟩:=List.exists_cons_of_ne_nil he;exact .inr (.inr ⟨e,by rw[hh];simp,pX e (by rw[hh];simp)⟩))
 unfold Stp;rw[qK];simp only[execOp,ho,hx,eI];rw[hlf]at pZ;rcases pZ with⟨h3,h4⟩|⟨e,he,w1,tX,hh1,h4⟩
 ·rw[h4];exact⟨_,Step.refl hw,.inl ⟨by unfold eN at h3;simpa using h3,rfl,rfl⟩⟩
 ·rw[h4];obtain⟨p,hp,rfl⟩:=aY.1 he;exact⟨_,(Step.of_ext hw tX).trans (Step.setB (hw.ext tX) h1 _),.inr ⟨p,hp,rfl,rfl⟩⟩
theorem SN {vs:List Value} {q r clock:Nat} {es:List (κ×Value×Nat)} {seen:List Nat} {p:κ×Value×Nat} (ho:o.op= .entry x) (hx:g8 [x] vs x= .pointer (some ⟨q,0,none⟩)) (hE:po ok es clock) (hp:p∈es) (h:IT ke H q r es clock (seen++[p.2.2])):Rds P o vs H (.tuple #[ke p.1,p.2.1]):=fun w hw=>by
 obtain⟨h1,h2⟩:=h;have qK:o.op.operands.toList=[x]:=by simp[ho,Op.operands]
 have hq:=hw _ _ h1;have yV:(getObj q).run P w= .ok (.mapIter (some r) clock (seen++[p.2.2]).toArray clock) w:=by simp[getObj,Sem.run,hq]
 have uU:=Lp (P:=P) (hw _ _ h2);have hf:(eN ke es).toArray.find? (·.born==p.2.2)=some ⟨ke p.1,p.2.1,p.2.2⟩:=by
  rw[<-Array.find?_toList];show(eN ke es).find? _=_;unfold eN;rw[List.find?_map];have hu:es.find? ((fun e:MapEntry=>e.born==p.2.2) ∘ fun p=>⟨ke p.1,p.2.1,p.2.2⟩)=some p:=by
   obtain⟨i,hi⟩:=cN.1 hp;rw[List.find?_eq_some_iff_getElem];obtain⟨xB,rfl⟩:=aH.1 hi;refine⟨aD,i,xB,rfl,fun j hj=> ?_⟩;have:=cU.1 hE.asc j i (by simp;omega) (by simpa using xB) hj;simp only[List.getElem_map]at this;simp;omega
  rw[hu];rfl
 have hb:(seen++[p.2.2]).toArray.back? =some p.2.2:=aD;rw[qK];simp only[execOp,ho,hx,eI,Instr.entry,yV,eH,hb,uU,bne_self_eq_false,bZ,if_false,hf,eJ]
end
end
end Go.RX
namespace Go.Z
open Proofs.Tryz RowKit RX GS RZ
def okK (l:List Int):Prop:=l.length=12/\∀z∈l,0<=z/\z<9223372036854775808
def kV (l:List Int):Value:= .agg (l.map ii).toArray
theorem pp:Fv prog 112:=by
 have big:6<=(prog).types.size+1:=oDt aB;exact⟨aB,aB,aB,aB,aB,big⟩
def kA (l:List Int):List AV:=l.map fun z=> .int .i64 z
theorem c9T {z:Int} (h:0<=z/\z<9223372036854775808) (d:Nat):Gp prog (d+1) 3 [.int .i64 z]=true:=by
 obtain⟨n,rfl⟩:∃n:Nat,z=(n:Int):=⟨z.toNat,aA⟩;exact d3M aA d
theorem Wh {l:List Int} (h:okK l):Gp prog 6 112 (kA l)=true:=by
 have hu:prog.underlying 112=some (.array 12 3):=aB;have h1:prog.cellsOf 112=12:=aB;have h2:prog.cellsOf 3=1:=aB;have hr:List.range 12=[0,1,2,3,4,5,6,7,8,9,10,11]:=aC;obtain⟨hl,hz⟩:=h
 match l,hl with
 |[a0,a1,a2,a3,a4,a5,a6,a7,a8,a9,a10,a11],_=>
  have f:∀z∈[a0,a1,a2,a3,a4,a5,a6,a7,a8,a9,a10,a11],Gp prog 5 3 [.int .i64 z]=true:=fun z h=>c9T (hz z h) 4;simp only[aP,bP,or_false,forall_eq_or_imp,forall_eq]at f;obtain⟨f0,f1,f2,f3,f4,f5,f6,f7,f8,f9,f10,f11⟩:=f;unfold Gp;rw[hu];simp only[h1,h2,hr,List.all_cons,List.all_nil,Bool.and_true,kA,aN,bJ];rw[bA];refine⟨rfl,?_⟩;simp only[bA];exact⟨f0,f1,f2,f3,f4,f5,f6,f7,f8,f9,f10,f11⟩
theorem SQ (σ:Rl):∀l:List Int,rzs σ (kA l)=l.map ii
 |[]=>rfl
 |z::l=>by
  show rzs σ (.int .i64 z::kA l)=_;simp only[rzs,rz,SQ σ l,aN];rfl
theorem Wi (σ:Rl) (l:List Int):rz σ (.agg (kA l))=kV l:=by
 simp only[rz,SQ];rfl
theorem ar:SB prog 112 okK kV where
 check:=fun k hk b w=>by
  have hK:∀t,(fun t=>gK t 112) t=true->Fv prog t:=fun t ht=>by rw[Pq ht];exact pp
  have:=c2S (σ:=fun _=>(0,0)) (kty:=fun t=>gK t 112) hK (v:= .agg (kA k)) (kt:=112) (by simp[Dy,Wh hk]) b w
  rwa[Wi]at this
 stays:=fun k hk w=>by
  have hK:∀t,(fun t=>gK t 112) t=true->Fv prog t:=fun t ht=>by rw[Pq ht];exact pp
  have:=c2T (σ:=fun _=>(0,0)) (kty:=fun t=>gK t 112) hK (v:= .agg (kA k)) (kt:=112) (by simp[Dy,Wh hk]) w
  rwa[Wi]at this
 find:=fun k hk E hE w=>by
  have hK:∀t,(fun t=>gK t 112) t=true->Fv prog t:=fun t ht=>by rw[Pq ht];exact pp
  have:=c8J (σ:=fun _=>(0,0)) (kty:=fun t=>gK t 112) (key:= .agg (kA k)) (kt:=112) hK (by simp[Dy,Wh hk]) E (fun e he=>by
   obtain⟨a,ha,h⟩:=hE e he;exact⟨.agg (kA a),by rw[Wi];exact h,by simp[Dy,Wh ha]⟩) w
  rwa[Wi]at this
 inj:=fun a b _ _ h=>by
  unfold kV at h
  injection h with h
  have h:=congrArg Array.toList h;simp only[iF]at h;have:∀{x y:Int},ii x=ii y->x=y:=fun h=>by injection h
  exact(List.map_inj_right (f:=ii) fun x y h=>this h).1 h
def j5 (p:List Int):List Int:=p++eK (12-p.length) 0
theorem au {p:List Int} (hl:p.length<=12) (h:∀z∈p,0<=z/\z<9223372036854775808):okK (j5 p):=by
 refine⟨by unfold j5;simp;omega,fun z hz=> ?_⟩;unfold j5 at hz;rcases aQ.1 hz with hz|hz
 ·exact h z hz
 ·rw[List.mem_replicate]at hz;rw[hz.2];omega
theorem BS {p q:List Int} (h:p.length=q.length) (he:j5 p=j5 q):p=q:=by
 unfold j5 at he;exact(List.append_inj he h).1
theorem SR {p:List Int} (hl:p.length<=12):(j5 p).length=12:=by unfold j5;simp;omega
theorem c5r {p:List Int} (hl:p.length<=12):((eK 12 (ii 0)).toArray.toList.take 0++(p.flatMap fun z:Int=>[ii z])++(eK 12 (ii 0)).toArray.toList.drop (0+p.length)).toArray=((j5 p).map ii).toArray:=by
 have hf:∀l:List Int,(l.flatMap fun z:Int=>[ii z])=l.map ii:=fun l=>by
  induction l with
  |nil=>rfl
  |cons a l ih=>rw[eA,ih];rfl
 rw[hf];unfold j5;rw[List.take_zero,cB,iF,List.drop_replicate,bK,aT,List.map_replicate]
theorem d5s {b:Nat} {X:PH} {o:Oper} {x:Operand} {T:TypeId} {fz:Nat×Nat} {l:List Int} (ho:o.op= .load 112 x) (hx:g8 [x] [.pointer (some ⟨b,0,none⟩)] x= .pointer (some ⟨b,0,none⟩)) (hX:X b=some (.cells (l.map ii).toArray T fz)) (hl:l.length=12):Rds prog o [.pointer (some ⟨b,0,none⟩)] X (kV l):=by
 have hc:(prog).cellsOf 112=12:=aB;have ha:An prog 112=true:=aB;have h:=Rk ho hx hX (T:=112) aB (by rw[hc];simp[hl]) (fun h=>by rw[ha]at h;cases h);rw[ha,hc]at h;have e:(l.map ii).toArray.extract 0 (0+12)=(l.map ii).toArray:=by
  rw[<-cI];simp only[Array.toList_extract,iF];rw[List.extract_eq_take_drop,cH];exact aF (by simp[hl])
 rw[e]at h;exact h
theorem d8F {l:List Int} (hl:l.length=12):(kV l).cells.size=12/\o0 (kV l).cells:=by
 refine⟨by show(l.map ii).toArray.size=12;simp[hl],fun c hc=> ?_⟩;have hc:c∈l.map ii:=by simpa[kV,Value.cells]using hc
 obtain⟨z,_,rfl⟩:=aY.1 hc;rfl
section
variable {H:PH} {u w wts:Value} {p wl:List Int} {n:Nat} {es:List (Nat×Nat)} {lo hi ds:Int} {set:Nat}
theorem Wj (hu:SI H u p) (hl:p.length<=12):Con prog 51 [u] H fun r H'=>Pl H H'/\r=kV (j5 p):=by
 refine i9 mixed d3Z ?_;have hk:prog.underlying 112=some (.array 12 3):=aB;have hc:(prog).cellsOf 112=12:=aB;have ha:An prog 112=true:=aB;have hT:w9 prog 3=true:=aB;have uA:w9 prog 112=true:=aB;have hui:prog.underlying 32=some (.slice 3):=aB;obtain⟨ti,zv,i1,i2,i3,i4,i5⟩:=el_int.inf;refine Gm (cs:=(eK 12 (ii 0)).toArray) aB fun b hb=> ?_;refine j7 ((Yb (vs:=[.pointer (some ⟨b,0,none⟩)]) rfl rfl hk hT).rds _) rfl ?_;have tV:Pl H (H.put b (.cells (eK 12 (ii 0)).toArray 112 (0,0))):=PH.le_put hb _;have hsl:Sl (H.put b (.cells (eK 12 (ii 0)).toArray 112 (0,0))) 1 u p.length (p.flatMap fun z:Int=>[ii z]):=hu.mono tV;refine t7 (HC (P:=prog) (g:=b) (q:=0) (dLen:=12) (dCap:=12) (m:=p.length) (u:=u) (vs:=[.slice (some ⟨b,0,none⟩) 12 12,u]) rfl rfl rfl hui i1 (by rw[i3]) (PH.put_self _ _ _) hsl (fun c hc=>by rw[List.mem_flatMap]at hc;obtain⟨z,_,hz⟩:=hc;rw[aL]at hz;subst hz;rfl) hl (by simp;omega)) rfl ?_;rintro _ H2 rfl;refine nmI ?_;rw[c5r hl];refine j7 ((d5s rfl rfl (PH.put_self _ _ _) (SR hl))) rfl ?_;refine d4 (d8F (SR hl)) ?_;exact g6 rfl ⟨fun k ob hk=>by rw[PH.put_ne _ _ (fun e=>by subst e;rw[hb]at hk;cases hk)];exact tV _ _ hk,rfl⟩
end
end Go.Z
namespace Go.GS
theorem c9U {F:Nat->Nat->Int} {B:Nat} (h:∀i j,(F i j).natAbs<=B) (k:Nat):(pk F k).natAbs<=(k*B)^k:=by
 have:=AQ (B:=B) (blk k) ((blk k).map F) k (by simp[nq]) (fun r hr c hc=>by
  obtain⟨x,_,rfl⟩:=aY.1 hr;exact h _ _)
 unfold pk;simpa[nq]using this
theorem d5t {set n:Nat} (h:set<2^n) (hn:n<=64) (f:Nat->Nat):(Ff set f).length<=n:=by
 have e:Ff set f=(els set).filter fun x=>decide (f x=x)&&decide (x≠f (lst set)):=by
  unfold Ff els;rw[List.filter_filter];refine List.filter_congr fun x _=> ?_;cases bit set x<;>simp
 rw[e,<-NP h hn];refine bD (cC _ _) (bD (cC _ _) ?_);simp
end Go.GS
namespace Go.Z
open Proofs.Tryz RowKit RX GS
open WD (BP Bt wd rs toI HM)
theorem Wl {H:PH} {v:Value} {r:Rat} (h:Rp H v r):Value.agg v.cells=v:=by
 obtain⟨w1,w2,rfl,_⟩:=h;rfl
noncomputable def tN (es:List (Nat×Nat)) (set:Nat):Int:=La set es [] []
theorem av (es:List (Nat×Nat)) (set:Nat):0<=tN es set:=by
 unfold tN;rw[pg];exact PG _ _ _
theorem BU {es:List (Nat×Nat)} {set n:Nat} (hg:GV n es) (hn:n<=12) (h:set<2^n):tN es set<(BP 5:Nat):=by
 have h0:=av es set;have h1:(tN es set).natAbs<=(12*200)^12:=by
  unfold tN;rw[pg];unfold ao KK;rw[<-BA];refine bD (c9U (B:=200) (fun i j=>bD (BB _ _ _ i j) (bD (d5q 0) hg.len)) _) ?_;have hl:=d5t h aA (lab (etl es []));exact bD (Nat.pow_le_pow_left (show _<=12*200 by omega) _) (aR aC aA)
 have h2:(12*200)^12<BP 5:=by
  rw[show BP 5=2^160 from by unfold BP;rfl];decide
 omega
theorem e0w {k:Nat} (hk:k<=15):BP k<=HM:=by
 rw[xf];exact bD (Bt hk) (Nat.le_mul_of_pos_right _ aC)
section
variable {H:PH} {u w wts:Value} {p wl:List Int} {n:Nat} {es:List (Nat×Nat)} {lo hi ds:Int} {set:Nat}
theorem BV (hw:SG H w es) (qO:Dm wts=true) (hg:GV n es) (hn:n<=12) (h0:set≠0/\set<2^n) (hT:Tb H):Con prog 145 [chv wts lo hi ds n w,GS.uv set] H fun r H'=>Pl H H'/\Rp H' r ((tN es set:Int):Rat):=by
 refine i9 mixed d4b ?_;have hs:=By hg.n64 h0.2;have hb:=BU hg hn h0.2;have sN:=av es set;have tY: -(HM:Int)<=tN es set/\tN es set<HM:=by
  have:=e0w (k:=5) aC;omega
 refine d4 (Vh qO (u0 hw) _ _ _ _) ?_;refine g9 (c9R hw hg h0 hs hT) rfl ?_;rintro v2 H1 ⟨l1,rfl⟩;refine nmI ?_;rw[show told (La set es [] [])= .tuple #[wd (rs (tN es set)),ii 0]from if_pos tY];refine i8 (i8 ?_);refine d4 (QS _) ?_;refine g9 (jl (rs (tN es set))) rfl ?_;rintro v3 H2 ⟨l2,w2⟩;refine nmI ?_;rw[Go.WD.toI_rs tY]at w2;refine g9 (KR w2) rfl ?_;rintro v4 H3 ⟨l3,w3⟩;refine nmI ?_;refine d4 w3.rq ?_;exact g6 (Wl w3) ⟨l1.trans (l2.trans l3),w3⟩
theorem c9V {s:Nat}:Con prog 146 [GS.uv s] H fun u H'=>∃b,H b=none/\H'=H.or (Df b s)/\u= .func (.func 203) #[] #[.pointer (some ⟨b,0,none⟩)]:=by
 refine i9 mixed d4a ?_;refine d4 ⟨rfl,fun c hc=>by simp[D,Value.cells,GS.uv]at hc;subst hc;rfl⟩ ?_;refine Gm (cs:= #[GS.uv s]) rfl fun b hb=> ?_;refine Na (Rm (vs:=[.pointer (some ⟨b,0,none⟩)]) rfl rfl) rfl ?_;exact g6 rfl ⟨b,hb,by unfold Df;rw[PH.put_or hb],rfl⟩
end
open Go.RZ
theorem BW {H:PH} (n:Int) (h0: -9223372036854775808<=n) (h1:n<9223372036854775808):Con prog 58 [.int .i64 n] H fun u H'=>Pl H H'/\Rp H' u (n:Rat):=by
 refine s9 mixed U5 aB rfl (g9 (Us n h0 h1) rfl ?_);rintro u1 H1 ⟨l1,sC⟩;simp only[cA,nA];refine⟨fun h=>(nomatch h),g9 (KR sC) rfl ?_⟩;rintro u2 H2 ⟨l2,rQ⟩;refine⟨fun h=>(nomatch h),d4 rQ.rq (g6 (Wl rQ) ⟨l1.trans l2,rQ⟩)⟩
theorem BX {rest least:Nat}:∀{n part y:Nat},y∈Hj rest least n part->∃x,x&&&rest=x/\x<part/\y=x|||least
 |0,_,_,h=>by cases h
 |n+1,part,y,h=>by
  unfold Hj at h;split at h
  ·cases h
  ·rename_i h0;have pY:(part-1)&&&rest<=part-1:=Nat.and_le_left;have a3l:((part-1)&&&rest)&&&rest=(part-1)&&&rest:=by rw[Nat.and_assoc,Nat.and_self]
   rcases aP.1 h with rfl|h
   ·exact⟨_,a3l,aA,rfl⟩
   ·obtain⟨x,h1,h2,h3⟩:=BX h;exact⟨x,h1,aA,h3⟩
theorem Qh {S y:Nat} (hs:S<M64) (h0:S≠0) (hy:y∈Aj S):(∀x,bit y x=true->bit S x=true)/\bit y (lst S)=true/\y≠S:=by
 obtain⟨m,r,he,hm,_,_⟩:=Jm hs h0;have hl:Bh S=2^m:=kf hs he;have hlm:lst S=m:=by unfold lst;rw[he];rfl
 obtain⟨x,h1,h2,rfl⟩:=BX hy;rw[hl]at h1 h2⊢;have hb:∀z,bit x z=true->bit S z=true/\z≠m:=fun z hz=>by
  have h3:bit (x&&&sdf S (2^m)) z=true:=by rw[h1];exact hz
  rw[show bit (x&&&sdf S (2^m)) z=(bit x z&&bit (sdf S (2^m)) z)from Nat.testBit_and _ _ _,z6,Ah]at h3;simp only[bA,Bool.not_eq_true',decide_eq_false_iff_not]at h3;exact⟨h3.2.1,fun e=>h3.2.2 e.symm⟩
 refine⟨fun z hz=> ?_,by rw[hlm,Ac,Ah];simp,fun e=> ?_⟩
 ·rw[Ac,Ah,dB,decide_eq_true_eq]at hz;rcases hz with hz|rfl
  ·exact(hb z hz).1
  ·exact hm
 ·have:sdf S (2^m)=x:=by
   refine Ao fun z=> ?_;rw[z6,Ah,<-e,Ac,Ah];by_cases hz:m=z
   ·subst hz;have:bit x m=false:=by
     cases hx:bit x m with
     |false=>rfl
     |true=>exact absurd rfl (hb m hx).2
    simp[this]
   ·simp[hz]
  omega
theorem Tf {S y n:Nat} (hs:S<2^n) (rM:n<=64) (h0:S≠0) (hy:y∈Aj S):(y≠0/\y<2^n)/\(sdf S y≠0/\sdf S y<2^n):=by
 have hM:S<M64:=aU hs (aR (n:=2) aC rM);obtain⟨h1,h2,h3⟩:=Qh hM h0 hy;refine⟨⟨(fun e=>by rw[e,Dc]at h2;cases h2),Ss hs h1⟩,fun e=>h3 ?_,Ss hs fun x hx=>by rw[z6]at hx;simp at hx;exact hx.1⟩;refine Ao fun z=> ?_;have hz:bit (sdf S y) z=false:=by rw[e,Dc]
 rw[z6]at hz;cases hS:bit S z with
 |true=>rw[hS]at hz;simpa using hz
 |false=>
  cases hY:bit y z with
  |true=>rw[h1 z hY]at hS;cases hS
  |false=>rfl
theorem d8G {o:Oper} {x y:Operand} {a b:List Int} {H:PH} (ho:o.op= .binOp .neq 112 x y 112) {vs:List Value} (hx:g8 [x,y] vs x=kV a) (hy:g8 [x,y] vs y=kV b) (ha:okK a) (hb:okK b):Rds prog o vs H (.bool (!decide (a=b))):=by
 have h:=d3L (H:=H) pp (Wh ha) (Wh hb) ho (hx.trans (Wi (fun _=>(0,0)) a).symm) (hy.trans (Wi (fun _=>(0,0)) b).symm);have e:Ft (kA a) (kA b)=decide (a=b):=by
  have:∀(a b:List Int),Ft (kA a) (kA b)=true↔a=b:=fun a=>by
   induction a with
   |nil=>intro b;cases b<;>simp[kA,Ft]
   |cons x a ih=>
    intro b;cases b with
    |nil=>simp[kA,Ft]
    |cons y b=>
     have:=ih b;simp only[kA,aN]at this⊢;simp[Ft,isK,MC,this]
  rw[bC,this,oDi]
 rw[e]at h;exact h
end Go.Z

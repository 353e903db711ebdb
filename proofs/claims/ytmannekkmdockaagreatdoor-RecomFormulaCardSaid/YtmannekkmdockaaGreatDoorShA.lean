/- Maps with keys of any kind, in memory; iterations over them. -/
import Derived.Test.YtmannekkmdockaaGreatDoorGsF
import Derived.Test.YtmannekkmdockaaGreatDoorGsD
import Derived.Test.YtmannekkmdockaaGreatDoorWdB
import Derived.Test.YtmannekkmdockaaGreatDoorLgC
namespace Go.RX
open Go.RowKit Go.RZ
structure d5S (P:Program) (kt:TypeId) {κ:Type} (ok:κ->Prop) (ke:κ->Value):Prop where
 check:∀k,ok k->∀b w,(Instr.checkKey b 10000 kt (ke k)).run P w= .ok () w
 stays:∀k,ok k->∀w,(Instr.keyThatStays (ke k) (ke k)).run P w= .ok (ke k) w
 find:∀k,ok k->∀E:List MapEntry,(∀e∈E,∃a,ok a/\e.key=ke a)->∀w,((Instr.findKey kt (ke k) E).run P w= .ok none w/\∀e∈E,e.key≠ke k)\/∃j e,(Instr.findKey kt (ke k) E).run P w= .ok (some (j,e.val)) w/\E[j]? =some e/\e.key=ke k
 inj:∀a b,ok a->ok b->ke a=ke b->a=b
section
variable {κ:Type} {ok:κ->Prop} {ke:κ->Value}
def eN (ke:κ->Value) (es:List (κ×Value×Nat)):List MapEntry:=es.map fun p=>⟨ke p.1,p.2.1,p.2.2⟩
def kvN (es:List (κ×Value×Nat)):List (κ×Value):=es.map fun p=>(p.1,p.2.1)
structure d4H (ok:κ->Prop) (es:List (κ×Value×Nat)) (clock:Nat):Prop where
 keys:(es.map (·.1)).Nodup
 oks:∀p∈es,ok p.1
 asc:(es.map (·.2.2)).Pairwise (· < ·)
 lt:∀p∈es,p.2.2<clock
def MK (ok:κ->Prop) (ke:κ->Value) (H:PH) (m:Value) (L:List (κ×Value)):Prop:=∃r es clock,m= .map (some r)/\H r=some (.map (eN ke es).toArray clock)/\d4H ok es clock/\kvN es=L
def MKO (ok:κ->Prop) (ke:κ->Value) (B H:PH) (m:Value) (L:List (κ×Value)):Prop:=∃r es clock,m= .map (some r)/\B r=none/\H r=some (.map (eN ke es).toArray clock)/\d4H ok es clock/\kvN es=L
theorem MKO.mk {B H:PH} {m:Value} {L:List (κ×Value)} (h:MKO ok ke B H m L):MK ok ke H m L:=by
 obtain⟨r,es,c,h1,_,h2,h3⟩:=h;exact⟨r,es,c,h1,h2,h3⟩
theorem MKO.mono {B H H':PH} {m:Value} {L:List (κ×Value)} (h:MKO ok ke B H m L) (hl:PH.le H H'):MKO ok ke B H' m L:=by
 obtain⟨r,es,c,h1,h4,h2,h3⟩:=h;exact⟨r,es,c,h1,h4,hl _ _ h2,h3⟩
open Classical in
noncomputable def a6j {β:Type} (L:List (κ×β)) (k:κ) (v:β):List (κ×β):=if k∈L.map (·.1)then L.map fun p=>if p.1=k then(k,v)else p else L++[(k,v)]
open Classical in
theorem c1l {β γ:Type} {L:List (κ×β)} {M:List (κ×γ)} (h:L.map (·.1)=M.map (·.1)) (k:κ) (v:β) (u:γ):(a6j L k v).map (·.1)=(a6j M k u).map (·.1):=by
 unfold a6j
 rw[h]
 split
 ·have e:∀{β:Type} (L:List (κ×β)) (v:β),(L.map fun p=>if p.1=k then(k,v)else p).map (·.1)=L.map (·.1):=fun L v=>by
   rw[List.map_map]
   refine List.map_congr_left fun p _=> ?_
   simp only[Function.comp]
   split
   ·rename_i e;exact e.symm
   ·rfl
  rw[e,e,h]
 ·rw[List.map_append,List.map_append,h];rfl
theorem a5n {β:Type} {L:List (κ×β)} {k x:κ} {v y:β}:(x,y)∈a6j L k v->(x=k/\y=v)\/(x≠k/\(x,y)∈L):=by
 unfold a6j
 split
 ·rename_i hk
  rw[List.mem_map]
  rintro⟨p,hp,e⟩
  split at e
  ·simp only[Prod.mk.injEq]at e;exact .inl ⟨e.1.symm,e.2.symm⟩
  ·rename_i e1;subst e;exact .inr ⟨e1,hp⟩
 ·rename_i hk
  rw[List.mem_append,List.mem_singleton]
  rintro(h1|h1)
  ·refine .inr ⟨fun e=>hk ?_,h1⟩
   subst e;exact List.mem_map.2 ⟨_,h1,rfl⟩
  ·simp only[Prod.mk.injEq]at h1;exact .inl h1
theorem c5h {β:Type} {L:List (κ×β)} {k:κ} {v:β}:(k,v)∈a6j L k v:=by
 unfold a6j
 split
 ·rename_i hk
  obtain⟨p,hp,e⟩:=List.mem_map.1 hk
  exact List.mem_map.2 ⟨p,hp,by rw[if_pos e]⟩
 ·simp
section
variable {P:Program} {H:PH} {o:Oper} {x y z:Operand} {T kt et:TypeId} (hK:d5S P kt ok ke)
theorem d0l {es:List (κ×Value×Nat)} (h:∀p∈es,ok p.1):∀e∈eN ke es,∃a,ok a/\e.key=ke a:=fun e he=>by
 obtain⟨p,hp,rfl⟩:=List.mem_map.1 he
 exact⟨p.1,h p hp,rfl⟩
include hK
theorem c1m {es:List (κ×Value×Nat)} (ho:∀p∈es,ok p.1) {k:κ} (hk:ok k) (w:World):
  ((Instr.findKey kt (ke k) (eN ke es)).run P w= .ok none w/\k∉es.map (·.1))\/∃j p,(Instr.findKey kt (ke k) (eN ke es)).run P w= .ok (some (j,p.2.1)) w/\es[j]? =some p/\p.1=k:=by
 rcases hK.find k hk (eN ke es) (d0l ho) w with⟨h1,h2⟩|⟨j,e,h1,h2,h3⟩
 ·refine .inl ⟨h1,fun hm=> ?_⟩
  obtain⟨p,hp,rfl⟩:=List.mem_map.1 hm
  exact h2 _ (List.mem_map.2 ⟨p,hp,rfl⟩) rfl
 ·unfold eN at h2
  rw[List.getElem?_map]at h2
  obtain⟨p,hp,rfl⟩:=Option.map_eq_some_iff.1 h2
  exact .inr ⟨j,p,h1,hp,hK.inj _ _ (ho p (List.mem_of_getElem? hp)) hk h3⟩
theorem b5Q {B:PH} {vs:List Value} {m v:Value} {L:List (κ×Value)} {k:κ} (ho:o.op= .mapUpdate T x y z) (hx:a0f [x,y,z] vs x=m) (hy:a0f [x,y,z] vs y=ke k) (hz:a0f [x,y,z] vs z=v) (hu:P.underlying T=some (.map kt et)) (hk:ok k)
  (hle:PH.le B H) (h:MKO ok ke B H m L):Opn P o vs H fun u H'=>u=undef/\PH.le B H'/\MKO ok ke B H' m (a6j L k v)/\∃g ob E c,m= .map (some g)/\B g=none/\H g=some (.map E c)/\H'=H.put g ob:=fun w hw=>by
 obtain⟨r,es,clock,rfl,hB,hH,hE,hkv⟩:=h
 have hos:o.op.operands.toList=[x,y,z]:=by simp[ho,Op.operands]
 have hb:=hw _ _ hH
 unfold Stp
 rw[hos]
 have hkeep:∀ob,PH.le B (H.put r ob):=fun ob c cb hc=>by
  rw[PH.put_ne _ _ (fun e=>by subst e;rw[hB]at hc;cases hc)];exact hle _ _ hc
 have hkeys:L.map (·.1)=es.map (·.1):=by rw[<-hkv];unfold kvN;rw[List.map_map];rfl
 simp only[execOp,ho,hx,hy,hz,Sem.run_bind,Instr.mapUpdate,run_underlying hu,Result.andThen_ok,a1K hb,hK.check k hk]
 rcases c1m hK hE.oks hk w with⟨h1,h2⟩|⟨j,p,h1,h2,h3⟩
 ·rw[h1]
  simp only[Result.andThen_ok,Sem.run_pure,a4O _ hb]
  refine⟨_,Step.setB hw hH _,by first|rfl|trivial,hkeep _,⟨r,es++[(k,v,clock)],clock+1,rfl,hB,?_,⟨?_,?_,?_,?_⟩,?_⟩,r,_,_,_,rfl,hB,hH,rfl⟩
  ·rw[PH.put_self];simp[eN]
  ·rw[List.map_append,List.nodup_append]
   exact⟨hE.keys,by simp,fun a ha b hb=>by simp only[List.map_cons,List.map_nil,List.mem_singleton]at hb;subst hb;intro e;subst e;exact h2 ha⟩
  ·intro p hp;rcases List.mem_append.1 hp with hp|hp
   ·exact hE.oks p hp
   ·rw[List.mem_singleton]at hp;subst hp;exact hk
  ·rw[List.map_append,List.pairwise_append]
   refine⟨hE.asc,by simp,fun a ha b hb=> ?_⟩
   simp only[List.map_cons,List.map_nil,List.mem_singleton]at hb;subst hb
   obtain⟨p,hp,rfl⟩:=List.mem_map.1 ha
   exact hE.lt p hp
  ·intro p hp;rcases List.mem_append.1 hp with hp|hp
   ·have:=hE.lt p hp;omega
   ·rw[List.mem_singleton]at hp;subst hp;exact Nat.lt_succ_self _
  ·unfold a6j;rw[if_neg (by rw[hkeys];exact h2),<-hkv];simp[kvN]
 ·rw[h1]
  have hje:((eN ke es).toArray[j]?.map (·.key)).getD (ke k)=ke k:=by simp[eN,h2,h3]
  simp only[Result.andThen_ok,Sem.run_pure,hje,Sem.run_bind,hK.stays k hk,a4O _ hb]
  have hlt:=(List.getElem?_eq_some_iff.1 h2).1
  have hset:∀{α:Type} (f:κ×Value×Nat->α),f (k,v,p.2.2)=f p->(es.set j (k,v,p.2.2)).map f=es.map f:=fun f hf=>by
   apply List.ext_getElem?
   intro i
   rw[List.getElem?_map,List.getElem?_map,List.getElem?_set]
   by_cases e:j=i
   ·subst e;rw[if_pos rfl,if_pos hlt,h2];simp[hf]
   ·rw[if_neg e]
  refine⟨_,Step.setB hw hH _,by first|rfl|trivial,hkeep _,⟨r,es.set j (k,v,p.2.2),clock,rfl,hB,?_,⟨?_,?_,?_,?_⟩,?_⟩,r,_,_,_,rfl,hB,hH,rfl⟩
  ·rw[PH.put_self]
   congr 2
   rw[<-Array.toList_inj]
   simp only[Array.toList_modify]
   apply List.ext_getElem?
   intro i
   simp only[List.getElem?_modify,eN,List.getElem?_map,List.getElem?_set]
   by_cases e:j=i
   ·subst e
    obtain⟨hlt',h5⟩:=List.getElem?_eq_some_iff.1 h2
    simp[hlt',h5,h3]
   ·simp[e]
  ·rw[hset (·.1) (by simp[h3])];exact hE.keys
  ·intro q hq
   rcases List.mem_or_eq_of_mem_set hq with hq|rfl
   ·exact hE.oks q hq
   ·exact hk
  ·rw[hset (·.2.2) rfl];exact hE.asc
  ·intro q hq
   rcases List.mem_or_eq_of_mem_set hq with hq|rfl
   ·exact hE.lt q hq
   ·exact hE.lt p (List.mem_of_getElem? h2)
  ·have hmem:k∈L.map (·.1):=by rw[hkeys];exact List.mem_map.2 ⟨p,List.mem_of_getElem? h2,h3⟩
   have h0:=hE.keys
   unfold a6j
   rw[if_pos hmem,<-hkv]
   unfold kvN
   rw[List.map_map]
   apply List.ext_getElem?
   intro i
   simp only[List.getElem?_map,List.getElem?_set,Function.comp]
   by_cases e:j=i
   ·subst e
    simp[hlt,(List.getElem?_eq_some_iff.1 h2).2,h3]
   ·rw[if_neg e]
    cases hi:es[i]? with
    |none=>rfl
    |some q=>
     have hne:q.1≠k:=fun e2=>e (by
      refine(List.getElem?_inj (by simpa using hlt) h0).1 ?_
      rw[List.getElem?_map,List.getElem?_map,h2,hi]
      simp[h3,e2])
     simp[hne]
theorem b5R {vs:List Value} {m zr u:Value} {L:List (κ×Value)} {k:κ} {b ok2:Bool} (ho:o.op= .lookup T x y ok2) (hx:a0f [x,y] vs x=m) (hy:a0f [x,y] vs y=ke k) (hu:P.underlying T=some (.map kt et)) (hk:ok k) (hz:∀w,(zeroValue et).run P w= .ok zr w) (h:MK ok ke H m L)
  (hub:(b=false/\u=zr/\k∉L.map (·.1))\/(b=true/\(k,u)∈L)):Rds P o vs H (if ok2 then .tuple #[u,.bool b]else u):=fun w hw=>by
 obtain⟨r,es,clock,rfl,hH,hE,hkv⟩:=h
 have hos:o.op.operands.toList=[x,y]:=by simp[ho,Op.operands]
 have hb:=hw _ _ hH
 have hkeys:L.map (·.1)=es.map (·.1):=by rw[<-hkv];unfold kvN;rw[List.map_map];rfl
 rw[hos]
 simp only[execOp,ho,hx,hy,Sem.run_bind,Instr.lookup,run_underlying hu,Result.andThen_ok,a1K hb,Sem.run_pure,hK.check k hk]
 rcases c1m hK hE.oks hk w with⟨h1,h2⟩|⟨j,p,h1,h2,h3⟩
 ·rw[h1]
  rcases hub with⟨rfl,rfl,_⟩|⟨_,hm⟩
  ·cases ok2<;>simp[hz]
  ·exact absurd (by rw[<-hkeys];exact List.mem_map.2 ⟨_,hm,rfl⟩) h2
 ·rw[h1]
  rcases hub with⟨_,_,hm⟩|⟨rfl,hm⟩
  ·exact absurd (by rw[hkeys];exact List.mem_map.2 ⟨p,List.mem_of_getElem? h2,h3⟩) hm
  ·have:p.2.1=u:=by
    rw[<-hkv]at hm
    obtain⟨q,hq,e⟩:=List.mem_map.1 hm
    simp only[Prod.mk.injEq]at e
    obtain⟨i,hi⟩:=List.mem_iff_getElem?.1 hq
    have l1:=(List.getElem?_eq_some_iff.1 h2).1
    have:j=i:=(List.getElem?_inj (by simpa using l1) hE.keys).1 (by rw[List.getElem?_map,List.getElem?_map,h2,hi];simp[h3,e.1])
    subst this
    rw[h2]at hi;cases hi;exact e.2
   subst this
   cases ok2<;>simp
theorem c1n (ho:o.op= .makeMap T none):Opn P o [] H fun v H'=>PH.le H H'/\MKO ok ke H H' v []:=fun w hw=>by
 have _hK:=hK
 refine(a3f (P:=P) (H:=H) ho w hw).mono ?_
 rintro u w' ⟨H',hs,r,hr,rfl,rfl⟩
 exact⟨_,hs,PH.le_put hr _,r,[],0,rfl,hr,by rw[PH.put_self];rfl,⟨List.nodup_nil,(fun p hp=>by cases hp),List.Pairwise.nil,fun p hp=>by cases hp⟩,rfl⟩
end
def IT (ke:κ->Value) (H:PH) (q r:Nat) (es:List (κ×Value×Nat)) (clock:Nat) (seen:List Nat):Prop:=H q=some (.mapIter (some r) clock seen.toArray clock)/\H r=some (.map (eN ke es).toArray clock)
section
variable {P:Program} {H:PH} {o:Oper} {x:Operand} {T kt et:TypeId}
theorem a9b {vs:List Value} {r clock:Nat} {es:List (κ×Value×Nat)} (ho:o.op= .range T x) (hx:a0f [x] vs x= .map (some r)) (hu:P.underlying T=some (.map kt et)) (hH:H r=some (.map (eN ke es).toArray clock)):
  Opn P o vs H fun v H'=>∃q,H q=none/\v= .pointer (some ⟨q,0,none⟩)/\H'=H.put q (.mapIter (some r) clock #[] clock):=fun w hw=>by
 have hos:o.op.operands.toList=[x]:=by simp[ho,Op.operands]
 have hb:=hw _ _ hH
 unfold Stp
 rw[hos]
 simp only[execOp,ho,hx,Sem.run_bind,Instr.range,run_underlying hu,Result.andThen_ok,a1K hb,Sem.run_pure]
 exact⟨_,Step.newB hw _,_,hw.fresh,rfl,rfl⟩
def left (es:List (κ×Value×Nat)) (seen:List Nat):List (κ×Value×Nat):=es.filter fun p=> !seen.any (Nat.beq p.2.2)
theorem b2k {vs:List Value} {q r clock:Nat} {es:List (κ×Value×Nat)} {seen:List Nat} (ho:o.op= .next x false) (hx:a0f [x] vs x= .pointer (some ⟨q,0,none⟩)) (hE:d4H ok es clock) (h:IT ke H q r es clock seen):
  Opn P o vs H fun v H'=>(left es seen=[]/\v= .tuple #[.bool false]/\H'=H)\/∃p∈left es seen,v= .tuple #[.bool true,ke p.1,p.2.1]/\H'=H.put q (.mapIter (some r) clock (seen++[p.2.2]).toArray clock):=fun w hw=>by
 obtain⟨h1,h2⟩:=h
 have hos:o.op.operands.toList=[x]:=by simp[ho,Op.operands]
 have hq:=hw _ _ h1
 have hr:=hw _ _ h2
 have hlf:(eN ke es).filter (fun e=> !seen.any (Nat.beq e.born))=eN ke (left es seen):=by
  unfold eN left;rw[List.filter_map];rfl
 have hlt:∀e∈eN ke es,e.born<clock:=fun e he=>by
  obtain⟨p,hp,rfl⟩:=List.mem_map.1 he
  exact hE.lt p hp
 have hrun:=b9p (P:=P) (ty:=o.type) hq hr (fun e he=>hlt e (List.mem_filter.1 he).1) (by
  by_cases he:eN ke es=[]
  ·exact .inr (.inl he)
  ·obtain⟨e,r,hh⟩:=List.exists_cons_of_ne_nil he
   exact .inr (.inr ⟨e,by rw[hh];simp,hlt e (by rw[hh];simp)⟩))
 unfold Stp
 rw[hos]
 simp only[execOp,ho,hx,Sem.run_bind]
 rw[hlf]at hrun
 rcases hrun with⟨h3,h4⟩|⟨e,he,w1,hx1,hh1,h4⟩
 ·rw[h4]
  exact⟨_,Step.refl hw,.inl ⟨by unfold eN at h3;simpa using h3,rfl,rfl⟩⟩
 ·rw[h4]
  obtain⟨p,hp,rfl⟩:=List.mem_map.1 he
  exact⟨_,(Step.of_ext hw hx1).trans (Step.setB (hw.ext hx1) h1 _),.inr ⟨p,hp,rfl,rfl⟩⟩
theorem a9c {vs:List Value} {q r clock:Nat} {es:List (κ×Value×Nat)} {seen:List Nat} {p:κ×Value×Nat} (ho:o.op= .entry x) (hx:a0f [x] vs x= .pointer (some ⟨q,0,none⟩)) (hE:d4H ok es clock) (hp:p∈es) (h:IT ke H q r es clock (seen++[p.2.2])):Rds P o vs H (.tuple #[ke p.1,p.2.1]):=fun w hw=>by
 obtain⟨h1,h2⟩:=h
 have hos:o.op.operands.toList=[x]:=by simp[ho,Op.operands]
 have hq:=hw _ _ h1
 have hgr:(getObj q).run P w= .ok (.mapIter (some r) clock (seen++[p.2.2]).toArray clock) w:=by simp[getObj,Sem.run,hq]
 have hgm:=a1K (P:=P) (hw _ _ h2)
 have hf:(eN ke es).toArray.find? (·.born==p.2.2)=some ⟨ke p.1,p.2.1,p.2.2⟩:=by
  rw[<-Array.find?_toList]
  show(eN ke es).find? _=_
  unfold eN
  rw[List.find?_map]
  have hu:es.find? ((fun e:MapEntry=>e.born==p.2.2) ∘ fun p=>⟨ke p.1,p.2.1,p.2.2⟩)=some p:=by
   obtain⟨i,hi⟩:=List.mem_iff_getElem?.1 hp
   rw[List.find?_eq_some_iff_getElem]
   obtain⟨hil,rfl⟩:=List.getElem?_eq_some_iff.1 hi
   refine⟨by simp,i,hil,rfl,fun j hj=> ?_⟩
   have:=List.pairwise_iff_getElem.1 hE.asc j i (by simp;omega) (by simpa using hil) hj
   simp only[List.getElem_map]at this
   simp
   omega
  rw[hu];rfl
 have hb:(seen++[p.2.2]).toArray.back? =some p.2.2:=by simp
 rw[hos]
 simp only[execOp,ho,hx,Sem.run_bind,Instr.entry,hgr,Result.andThen_ok,hb,hgm,bne_self_eq_false,Bool.false_eq_true,if_false,hf,Sem.run_pure]
end
end
end Go.RX
/- MADE BY rxgen.py: the trees of package share. -/
namespace Go.Proofs.YtmannekkmdockaaGreatDoor
open Go.Proofs.Tryz
open Go.RowKit Go.RX
theorem b7l:tree prog [] [] [] [⟨5,[0,1,0,7,15,31],[5,2,5,2,6,6],[4,0,6,0,4,6],[0,2,1,3],[4,5]⟩] 74=some (.rq (.cells 2 V0)
(.rq (.cells 2 V1)
(.call false 129 [(.ag V0),(.ag V1)]
(.rq (.cells 2 V2)
(.call false 130 [(.ag V0),(.ag V2)]
(.rq (.tup 0 V3)
(.rq (.tup 1 V3)
(.rq (.cells 2 (.proj V3 0))
(.rq (.cells 2 (.proj V3 1))
(.call false 130 [(.ag V1),(.ag V2)]
(.rq (.tup 0 V4)
(.rq (.tup 1 V4)
(.rq (.cells 2 (.proj V4 0))
(.rq (.cells 2 (.proj V4 1))
(.rq (.bool (.cell (.proj V4 0) 0 0 noI))
(.br (.cell (.proj V4 0) 0 0 noI)
(.call true 131 [(.ag (.proj V3 0))]
(.call true 131 [(.ag (.proj V4 0))]
(.rq (.cells 2 V5)
(.rq (.cells 2 V6)
(.ret [(.cat (.ag V5) 2 (.ag V6))])))))
(.ret [(.cat (.ag (.proj V3 0)) 2 (.ag (.proj V4 0)))]))))))))))))))))):=by kernel_rfl
theorem c1o:tree prog [] [] [] [⟨1,[0,0,3,7],[5,2,0,6],[0,0,0,1],[0,1,2],[3]⟩] 101=some (.rq (.cells 2 V0)
(.call true 102 [(.ki 1)]
(.rq (.cells 2 V1)
(.ret [(.cat (.ag V0) 2 V1)])))):=by kernel_rfl
theorem c1p:tree prog [] [] [⟨3,3,[25],[]⟩] [] 52=some (.rq (.cells 4 V0)
(.call false 72 [(.sub V0 0 2 0 noI)]
(.rq (.tup 0 V1)
(.rq (.tup 1 V1)
(.rq (.cells 8 (.proj V1 0))
(.call false 72 [(.sub V0 2 2 0 noI)]
(.rq (.tup 0 V2)
(.rq (.tup 1 V2)
(.rq (.cells 8 (.proj V2 0))
(.join 1
(.rq (.int .i64 (.proj V1 1))
(.br (.io .neq (.proj V1 1) (.ki 0))
(.next 0 [(.k (.bool true))])
(.rq (.int .i64 (.proj V2 1))
(.next 0 [(.io .neq (.proj V2 1) (.ki 0))]))))
(.rq (.bool V3)
(.br V3
(.ret [(.cat (.z 56) 8 (.z 56)),(.ki 6)])
(.ret [(.cat (.ag (.proj V1 0)) 8 (.ag (.proj V2 0))),(.ki 0)]))))))))))))):=by kernel_rfl
theorem c1q:tree prog [] [] [] [⟨1,[0,1,0,4,15,0,32,0,128,511,1023,0,2048,0,8192,32767,65535,131071],[1,1,1,1,2,1,1,1,1,2,2,1,1,1,1,2,2,6],[0,0,0,0,0,0,0,0,0,0,0,0,0,0,0,0,0,2],[0,1,2,3,5,6,7,8,11,12,13,14,4,9,10,15,16],[17]⟩] 77=some (.rq (.cells 4 V0)
(.rq (.cells 4 V1)
(.call true 136 [(.sub V0 0 2 0 noI),(.sub V1 2 2 0 noI)]
(.call true 136 [(.sub V1 0 2 0 noI),(.sub V0 2 2 0 noI)]
(.call true 124 [V2,V3]
(.call true 136 [(.sub V0 2 2 0 noI),(.sub V1 2 2 0 noI)]
(.call true 74 [V4,V5]
(.rq (.cells 4 V6)
(.ret [(.ag V6)]))))))))):=by kernel_rfl
theorem b3N:tree prog [] [] [] [⟨1,[0,1,3,0,8,31,63],[1,1,2,1,1,0,6],[0,0,0,0,0,0,1],[0,1,3,4,2,5],[6]⟩] 148=some (.rq (.cells 4 V0)
(.call true 131 [(.sub V0 0 2 0 noI)]
(.rq (.cells 2 V1)
(.ret [(.put (.cat V1 2 (.z 116)) 2 2 (.sub V0 2 2 0 noI) 0 noI)])))):=by kernel_rfl
theorem b7m:tree prog [] [] [] [⟨1,[0,0,2,7,15],[5,5,2,2,6],[0,1,0,0,2],[0,1,2,3],[4]⟩] 90=some (.rq (.cells 4 V0)
(.rq (.cells 4 V1)
(.call true 148 [(.ag V1)]
(.call true 77 [(.ag V0),V2]
(.rq (.cells 4 V3)
(.ret [(.ag V3)])))))):=by kernel_rfl
theorem b7n:tree prog [] [] [] [⟨1,[0,1,0,4,15,0,32,0,128,511,1023,2047],[1,1,1,1,2,1,1,1,1,2,2,6],[0,0,0,0,0,0,0,0,0,0,0,2],[0,1,2,3,5,6,7,8,4,9,10],[11]⟩] 82=some (.rq (.cells 4 V0)
(.rq (.cells 4 V1)
(.call true 136 [(.sub V0 0 2 0 noI),(.sub V1 0 2 0 noI)]
(.call true 136 [(.sub V0 2 2 0 noI),(.sub V1 2 2 0 noI)]
(.call true 74 [V2,V3]
(.rq (.cells 4 V4)
(.ret [(.ag V4)]))))))):=by kernel_rfl
theorem c1r:tree prog [] [] [] [⟨1,[0,1,0,4,15,0,32,0,128,511,1023,2047],[1,1,1,1,2,1,1,1,1,2,2,6],[0,0,0,0,0,0,0,0,0,0,0,2],[0,1,2,3,5,6,7,8,4,9,10],[11]⟩] 147=some (.rq (.cells 4 V0)
(.rq (.cells 4 V1)
(.call true 136 [(.sub V0 0 2 0 noI),(.sub V1 2 2 0 noI)]
(.call true 136 [(.sub V0 2 2 0 noI),(.sub V1 0 2 0 noI)]
(.call true 74 [V2,V3]
(.rq (.cells 4 V4)
(.ret [(.ag V4)]))))))):=by kernel_rfl
theorem c5i:tree prog [] [] [] [⟨3,[0,1,0,7,15,31,63,63,255,511],[5,2,5,2,2,2,0,0,6,0],[0,0,1,0,0,0,0,0,2,0],[0,2,1,3,4,5,6,7],[8,9]⟩] 30=some (.rq (.cells 8 V0)
(.rq (.cells 8 V1)
(.pm f30 1 2 [(.ag V1),(.z 56)]
(.rq (.bool V2)
(.br V2
(.ret [(.cat (.z 56) 8 (.z 56)),(.ki 7)])
(.call true 75 [(.ag V0)]
(.call true 75 [(.ag V1)]
(.call true 74 [V3,V4]
(.call true 52 [V5]
(.rq (.tup 0 V6)
(.rq (.tup 1 V6)
(.rq (.cells 16 (.proj V6 0))
(.ret [(.ag (.proj V6 0)),(.proj V6 1)]))))))))))))):=by kernel_rfl
theorem d3N:tree prog [] [] [] [] 79=some (.call false 29 [V0]
(.call false 29 [V1]
(.call false 30 [V2,V3]
(.rq (.tup 0 V4)
(.rq (.tup 1 V4)
(.rq (.cells 16 (.proj V4 0))
(.ret [(.ag (.proj V4 0)),(.proj V4 1)]))))))):=by kernel_rfl
theorem c5j:tree prog [] [] [] [] 58=some (.call false 102 [V0]
(.call false 101 [V1]
(.rq (.cells 4 V2)
(.ret [(.ag V2)])))):=by kernel_rfl
end Go.Proofs.YtmannekkmdockaaGreatDoor
/- Fractions: plain; package share: fractions of integers of any length. -/
namespace Go.WD
open Go.RX
def Rb (k:Nat) (r:Rat):Prop:=r.num.natAbs<2^k/\r.den<2^k
theorem b0B {a b i j:Nat} (ha:a<2^i) (hb:b<2^j):a*b<2^(i+j):=by
 rw[Nat.pow_add];exact Nat.mul_lt_mul'' ha hb
theorem c1s (n:Int) {d:Int} (hd:d≠0):(Rat.divInt n d).num=if d/(Nat.gcd n.natAbs d.natAbs:Nat)<0 then -(n/(Nat.gcd n.natAbs d.natAbs:Nat))else n/(Nat.gcd n.natAbs d.natAbs:Nat):=by
 have hg:0<Nat.gcd n.natAbs d.natAbs:=Nat.gcd_pos_of_pos_right _ (by omega)
 have hgn:((Nat.gcd n.natAbs d.natAbs:Nat):Int) ∣ n:=Int.ofNat_dvd_left.2 (Nat.gcd_dvd_left _ _)
 rw[Rat.num_divInt]
 have e:(d.gcd n:Nat)=Nat.gcd n.natAbs d.natAbs:=by unfold Int.gcd;exact Nat.gcd_comm _ _
 rw[e]
 obtain⟨m,hm⟩:=hgn
 have hdv:((Nat.gcd n.natAbs d.natAbs:Nat):Int) ∣ d:=Int.ofNat_dvd_left.2 (Nat.gcd_dvd_right _ _)
 obtain⟨c,hc⟩:=hdv
 generalize Nat.gcd n.natAbs d.natAbs=g at hg hm hc
 have hg':(g:Int)≠0:=by omega
 have e1:n/(g:Int)=m:=by rw[hm];exact Int.mul_ediv_cancel_left _ hg'
 have e2:d/(g:Int)=c:=by rw[hc];exact Int.mul_ediv_cancel_left _ hg'
 rw[e1,e2]
 rcases Int.lt_or_gt_of_ne hd with h|h
 ·have hcn:c<0:=by
   rcases Int.lt_or_le c 0 with h1|h1
   ·exact h1
   ·have:=Int.mul_nonneg (show(0:Int)<=g by omega) h1;omega
  rw[if_pos hcn,Int.sign_eq_neg_one_of_neg h,hm,Int.neg_one_mul,<-Int.mul_neg]
  exact Int.mul_ediv_cancel_left _ hg'
 ·have hcn:¬c<0:=fun h1=>by
   have:=Int.mul_neg_of_pos_of_neg (show(0:Int)<g by omega) h1;omega
  rw[if_neg hcn,Int.sign_eq_one_of_pos h,Int.one_mul,hm]
  exact Int.mul_ediv_cancel_left _ hg'
theorem c1t (n:Int) {d:Int} (hd:d≠0):((Rat.divInt n d).den:Int)=if d/(Nat.gcd n.natAbs d.natAbs:Nat)<0 then -(d/(Nat.gcd n.natAbs d.natAbs:Nat))else d/(Nat.gcd n.natAbs d.natAbs:Nat):=by
 have hg:0<Nat.gcd n.natAbs d.natAbs:=Nat.gcd_pos_of_pos_right _ (by omega)
 rw[Rat.den_divInt,if_neg hd]
 have e:(d.gcd n:Nat)=Nat.gcd n.natAbs d.natAbs:=by unfold Int.gcd;exact Nat.gcd_comm _ _
 rw[e]
 have hdv:((Nat.gcd n.natAbs d.natAbs:Nat):Int) ∣ d:=Int.ofNat_dvd_left.2 (Nat.gcd_dvd_right _ _)
 obtain⟨c,hc⟩:=hdv
 generalize Nat.gcd n.natAbs d.natAbs=g at hg hc
 have e2:d/(g:Int)=c:=by rw[hc];exact Int.mul_ediv_cancel_left _ (by omega)
 have e3:d.natAbs/g=c.natAbs:=by rw[hc,Int.natAbs_mul,Int.natAbs_natCast];exact Nat.mul_div_cancel_left _ hg
 rw[e2,e3]
 split<;>omega
theorem d0m (r s:Rat):Rat.divInt (r.num*s.den+s.num*r.den) ((r.den:Int)*s.den)=r+s:=by
 rw[Rat.add_def',<-Int.natCast_mul,Rat.divInt_ofNat]
theorem c1u (r s:Rat):Rat.divInt (r.num*s.num) ((r.den:Int)*s.den)=r*s:=by
 rw[Rat.mul_def',<-Int.natCast_mul,Rat.divInt_ofNat]
theorem d0n (r s:Rat):Rat.divInt (r.num*s.den) ((r.den:Int)*s.num)=r/s:=by
 have h1:=Rat.num_divInt_den r
 rw[Rat.div_def,Rat.inv_def]
 conv=>rhs;rw[<-h1]
 rw[Rat.divInt_mul_divInt]
theorem low_bound {n d:Int} {k:Nat} (hd:d≠0) (hn:n.natAbs<2^k) (hdk:d.natAbs<2^k):Rb k (Rat.divInt n d):=by
 have hg:0<Nat.gcd n.natAbs d.natAbs:=Nat.gcd_pos_of_pos_right _ (by omega)
 constructor
 ·have h1:(n/(Nat.gcd n.natAbs d.natAbs:Nat)).natAbs<=n.natAbs:=Int.natAbs_ediv_le_natAbs _ _
  rw[c1s n hd]
  split
  ·rw[Int.natAbs_neg];omega
  ·omega
 ·have h2:=c1t n hd
  have h3:(d/(Nat.gcd n.natAbs d.natAbs:Nat)).natAbs<=d.natAbs:=Int.natAbs_ediv_le_natAbs _ _
  split at h2<;>omega
theorem b3O (r:Rat):((r.den:Nat):Int).natAbs=r.den:=Int.natAbs_natCast _
theorem Rb.mul {j k m:Nat} {r s:Rat} (hr:Rb j r) (hs:Rb k s) (hm:j+k<=m):Rb m (r*s):=by
 have hd:(r.den:Int)*s.den≠0:=Int.mul_ne_zero (by have:=r.den_nz;omega) (by have:=s.den_nz;omega)
 have h1:=b0B hr.1 hs.1
 have h3:=b0B hr.2 hs.2
 have h5:2^(j+k)<=2^m:=Nat.pow_le_pow_right (by omega) hm
 rw[<-c1u]
 refine low_bound hd (by rw[Int.natAbs_mul];omega) ?_
 rw[Int.natAbs_mul,b3O,b3O]
 omega
theorem Rb.neg {k:Nat} {r:Rat} (h:Rb k r):Rb k (-r):=⟨by rw[Rat.neg_num,Int.natAbs_neg];exact h.1,by rw[Rat.neg_den];exact h.2⟩
theorem d3O (k:Nat):BP k=2^(32*k):=by unfold BP;rfl
end Go.WD
namespace Go.Proofs.YtmannekkmdockaaGreatDoor
open Go.Proofs.Tryz
open Go.RowKit Go.RX Go.WD
theorem Lm.two {z:Int} {k:Nat} (h:z.natAbs<2^k) (hk:k<=320000):Lm z:=by
 unfold Lm
 obtain⟨K,hK⟩:∃K,K=10000:=⟨_,rfl⟩
 rw[<-hK,d3O]
 exact Nat.lt_of_lt_of_le h (Nat.pow_le_pow_right (by omega) (by omega))
theorem Lm.add2 {y z:Int} {j k:Nat} (hy:y.natAbs<2^j) (hz:z.natAbs<2^k) {m:Nat} (h1:j+1<=m) (h2:k+1<=m):(y+z).natAbs<2^m:=by
 have h3:=Int.natAbs_add_le y z
 have h4:2^(j+1)<=2^m:=Nat.pow_le_pow_right (by omega) h1
 have h5:2^(k+1)<=2^m:=Nat.pow_le_pow_right (by omega) h2
 rw[Nat.pow_succ]at h4 h5
 omega
theorem a4F {y z:Int} {j k:Nat} (hy:y.natAbs<2^j) (hz:z.natAbs<2^k):(y*z).natAbs<2^(j+k):=by rw[Int.natAbs_mul];exact b0B hy hz
def Rp (H:PH) (v:Value) (r:Rat):Prop:=∃w1 w2,v= .agg #[.bool (decide (r.num<0)),w1,.bool false,w2]/\Mu H w1 r.num.natAbs/\Mu H w2 r.den
theorem Rp.mono {H H':PH} {v:Value} {r:Rat} (h:Rp H v r) (hl:PH.le H H'):Rp H' v r:=by
 obtain⟨w1,w2,h1,h2,h3⟩:=h;exact⟨w1,w2,h1,h2.mono hl,h3.mono hl⟩
theorem d6l {b c:Bool} {w1 w2:Value} {H:PH} {m n:Nat} (h1:Mu H w1 m) (h2:Mu H w2 n):(Value.agg #[.bool b,w1,.bool c,w2]).cells.size=4/\a0t (Value.agg #[.bool b,w1,.bool c,w2]).cells:=by
 refine⟨rfl,fun x hx=> ?_⟩
 have g1:=h1.one.2.2
 have g2:=h2.one.2.2
 rw[h1.one.1]at g1
 rw[h2.one.1]at g2
 rw[a1x]at hx
 simp only[List.mem_cons,List.not_mem_nil,or_false]at hx
 rcases hx with h|h|h|h
 ·rw[h];rfl
 ·rw[h];exact g1 _ (by simp)
 ·rw[h];rfl
 ·rw[h];exact g2 _ (by simp)
theorem Rp.rq {H:PH} {v:Value} {r:Rat} (h:Rp H v r):v.cells.size=4/\a0t v.cells:=by
 obtain⟨w1,w2,rfl,h1,h2⟩:=h;exact d6l h1 h2
theorem Lw.den {H:PH} {w:Value} {n:Nat} (h:Mu H w n):Lw H (.agg #[.bool false,w]) (n:Int):=c0R h
theorem d3P:a0L prog 116= .agg #[.bool false,.slice none 0 0]:=by kernel_rfl
section
variable {H:PH} {x y:Value} {p q:Int} {r s:Rat} {i j k:Nat}
set_option maxRecDepth 100000 in
theorem a3s (hx:Lw H x p) (hy:Lw H y q) (hp:Lm p) (hq:Lm q) (hq0:q≠0):Con prog 74 [x,y] H fun u H'=>PH.le H H'/\Rp H' u (Rat.divInt p q):=by
 have r1:=hx.rq
 have r2:=hy.rq
 have hx':=hx
 have hy':=hy
 obtain⟨wx,rfl,_⟩:=hx
 obtain⟨wy,rfl,_⟩:=hy
 have hn:=c1s p hq0
 have hd:=c1t p hq0
 obtain⟨g,hg⟩:∃g,g=Nat.gcd p.natAbs q.natAbs:=⟨_,rfl⟩
 have hg0:0<g:=by rw[hg];exact Nat.gcd_pos_of_pos_right _ (by omega)
 have hgm:Lm (g:Int):=by
  unfold Lm at hq⊢
  rw[Int.natAbs_natCast,hg]
  exact Nat.lt_of_le_of_lt (Nat.gcd_le_right _ (by omega)) hq
 rw[<-hg]at hn hd
 refine a0b mixed b7l (by kernel_rfl) rfl (a0a r1 (a0a r2 (a0d (b3E hx' hy' hp hq) rfl ?_)))
 rintro u1 H1 ⟨l1,hu1⟩
 rw[<-hg]at hu1
 have hr1:=hu1.rq
 have hu1':=hu1
 obtain⟨w1,rfl,_⟩:=hu1
 simp only[cA,nA]
 refine⟨fun h=>(nomatch h),a0a hr1 (a0d (a5K (hx'.mono l1) hu1' hp hgm (by omega)) rfl ?_)⟩
 rintro u2 H2 ⟨l2,a1,b1,rfl,ha1,hb1⟩
 have ra:=ha1.rq
 have rb:=hb1.rq
 have ha1':=ha1
 obtain⟨w2,rfl,n2⟩:=ha1
 obtain⟨w3,rfl,_⟩:=hb1
 simp only[cA,nA]
 refine⟨fun h=>(nomatch h),a0a ⟨_,rfl,Nat.zero_lt_succ _⟩ (a0a ⟨_,rfl,Nat.lt_succ_self _⟩ (a0a ra (a0a rb (a0d (a5K (hy'.mono (l1.trans l2)) (hu1'.mono l2) hq hgm (by omega)) rfl ?_))))⟩
 rintro u3 H3 ⟨l3,a2,b2,rfl,ha2,hb2⟩
 have rc:=ha2.rq
 have rd:=hb2.rq
 have ha2':=ha2
 obtain⟨w4,rfl,n4⟩:=ha2
 obtain⟨w5,rfl,_⟩:=hb2
 simp only[cA,nA]
 refine⟨fun h=>(nomatch h),a0a ⟨_,rfl,Nat.zero_lt_succ _⟩ (a0a ⟨_,rfl,Nat.lt_succ_self _⟩ (a0a rc (a0a rd (a0a ⟨_,rfl⟩ (a0e (b:=decide (q/(g:Int)<0)) rfl (fun h=> ?_) (fun h=> ?_))))))⟩
 ·have h:=of_decide_eq_true h
  rw[if_pos h]at hn hd
  refine a0d (a3n (ha1'.mono l3)) rfl ?_
  rintro u4 H4 ⟨rfl,hu4⟩
  have re:=hu4.rq
  obtain⟨w6,rfl,n6⟩:=hu4
  simp only[cA,nA]
  refine⟨fun _=>PH.le.refl _,a0d (a3n ha2') rfl ?_⟩
  rintro u5 H5 ⟨rfl,hu5⟩
  have rf:=hu5.rq
  obtain⟨w7,rfl,n7⟩:=hu5
  refine⟨fun _=>PH.le.refl _,a0a re (a0a rf (a0c rfl ⟨l1.trans (l2.trans l3),w6,w7,?_,?_,?_⟩))⟩
  ·rw[hn]
   show Value.agg #[.bool (decide (-(p/(g:Int))<0)),w6,.bool (decide (-(q/(g:Int))<0)),w7]=_
   rw[decide_eq_false (show ¬ -(q/(g:Int))<0 by omega)]
  ·rw[hn];exact n6
  ·rw[show(Rat.divInt p q).den=(-(q/(g:Int))).natAbs from by omega];exact n7
 ·have h:=of_decide_eq_false h
  rw[if_neg h]at hn hd
  refine a0c rfl ⟨l1.trans (l2.trans l3),w2,w4,?_,?_,?_⟩
  ·rw[hn]
   show Value.agg #[.bool (decide (p/(g:Int)<0)),w2,.bool (decide (q/(g:Int)<0)),w4]=_
   rw[decide_eq_false h]
  ·rw[hn];exact n2.mono l3
  ·rw[show(Rat.divInt p q).den=(q/(g:Int)).natAbs from by omega];exact n4
end
end Go.Proofs.YtmannekkmdockaaGreatDoor

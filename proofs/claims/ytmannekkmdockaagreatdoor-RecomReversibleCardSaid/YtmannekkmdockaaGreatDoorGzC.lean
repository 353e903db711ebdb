/- Maps with keys of any kind, in memory; iterations over them. -/
import Derived.Test.YtmannekkmdockaaGreatDoorGsF
import Derived.Test.YtmannekkmdockaaGreatDoorGsD
import Derived.Test.YtmannekkmdockaaGreatDoorGuF
import Derived.Test.YtmannekkmdockaaGreatDoorGuC
import Derived.Test.YtmannekkmdockaaGreatDoorShC
namespace Go.RX
open Go.RowKit Go.RZ
structure d7F (P:Program) (kt:TypeId) {κ:Type} (ok:κ->Prop) (ke:κ->Value):Prop where
 check:∀k,ok k->∀b w,(Instr.checkKey b 10000 kt (ke k)).run P w= .ok () w
 stays:∀k,ok k->∀w,(Instr.keyThatStays (ke k) (ke k)).run P w= .ok (ke k) w
 find:∀k,ok k->∀E:List MapEntry,(∀e∈E,∃a,ok a/\e.key=ke a)->∀w,((Instr.findKey kt (ke k) E).run P w= .ok none w/\∀e∈E,e.key≠ke k)\/∃j e,(Instr.findKey kt (ke k) E).run P w= .ok (some (j,e.val)) w/\E[j]? =some e/\e.key=ke k
 inj:∀a b,ok a->ok b->ke a=ke b->a=b
section
variable {κ:Type} {ok:κ->Prop} {ke:κ->Value}
def eN (ke:κ->Value) (es:List (κ×Value×Nat)):List MapEntry:=es.map fun p=>⟨ke p.1,p.2.1,p.2.2⟩
def kvN (es:List (κ×Value×Nat)):List (κ×Value):=es.map fun p=>(p.1,p.2.1)
structure d6n (ok:κ->Prop) (es:List (κ×Value×Nat)) (clock:Nat):Prop where
 keys:(es.map (·.1)).Nodup
 oks:∀p∈es,ok p.1
 asc:(es.map (·.2.2)).Pairwise (· < ·)
 lt:∀p∈es,p.2.2<clock
def MK (ok:κ->Prop) (ke:κ->Value) (H:PH) (m:Value) (L:List (κ×Value)):Prop:=∃r es clock,m= .map (some r)/\H r=some (.map (eN ke es).toArray clock)/\d6n ok es clock/\kvN es=L
def MKO (ok:κ->Prop) (ke:κ->Value) (B H:PH) (m:Value) (L:List (κ×Value)):Prop:=∃r es clock,m= .map (some r)/\B r=none/\H r=some (.map (eN ke es).toArray clock)/\d6n ok es clock/\kvN es=L
theorem MKO.mk {B H:PH} {m:Value} {L:List (κ×Value)} (h:MKO ok ke B H m L):MK ok ke H m L:=by
 obtain⟨r,es,c,h1,_,h2,h3⟩:=h;exact⟨r,es,c,h1,h2,h3⟩
theorem MKO.mono {B H H':PH} {m:Value} {L:List (κ×Value)} (h:MKO ok ke B H m L) (hl:PH.le H H'):MKO ok ke B H' m L:=by
 obtain⟨r,es,c,h1,h4,h2,h3⟩:=h;exact⟨r,es,c,h1,h4,hl _ _ h2,h3⟩
open Classical in
noncomputable def a6Q {β:Type} (L:List (κ×β)) (k:κ) (v:β):List (κ×β):=if k∈L.map (·.1)then L.map fun p=>if p.1=k then(k,v)else p else L++[(k,v)]
open Classical in
theorem c2H {β γ:Type} {L:List (κ×β)} {M:List (κ×γ)} (h:L.map (·.1)=M.map (·.1)) (k:κ) (v:β) (u:γ):(a6Q L k v).map (·.1)=(a6Q M k u).map (·.1):=by
 unfold a6Q
 rw[h]
 split
 ·have e:∀{β:Type} (L:List (κ×β)) (v:β),(L.map fun p=>if p.1=k then(k,v)else p).map (·.1)=L.map (·.1):=fun L v=>by
   rw[List.map_map]
   refine List.map_congr_left fun p _=> ?_
   simp only[Function.comp]
   split
   ·rename_i e;exact e.symm
   ·rfl
  rw[e,e,h]
 ·rw[List.map_append,List.map_append,h];rfl
theorem a5H {β:Type} {L:List (κ×β)} {k x:κ} {v y:β}:(x,y)∈a6Q L k v->(x=k/\y=v)\/(x≠k/\(x,y)∈L):=by
 unfold a6Q
 split
 ·rename_i hk
  rw[List.mem_map]
  rintro⟨p,hp,e⟩
  split at e
  ·simp only[Prod.mk.injEq]at e;exact .inl ⟨e.1.symm,e.2.symm⟩
  ·rename_i e1;subst e;exact .inr ⟨e1,hp⟩
 ·rename_i hk
  rw[List.mem_append,List.mem_singleton]
  rintro(h1|h1)
  ·refine .inr ⟨fun e=>hk ?_,h1⟩
   subst e;exact List.mem_map.2 ⟨_,h1,rfl⟩
  ·simp only[Prod.mk.injEq]at h1;exact .inl h1
theorem c6M {β:Type} {L:List (κ×β)} {k:κ} {v:β}:(k,v)∈a6Q L k v:=by
 unfold a6Q
 split
 ·rename_i hk
  obtain⟨p,hp,e⟩:=List.mem_map.1 hk
  exact List.mem_map.2 ⟨p,hp,by rw[if_pos e]⟩
 ·simp
section
variable {P:Program} {H:PH} {o:Oper} {x y z:Operand} {T kt et:TypeId} (hK:d7F P kt ok ke)
theorem d1V {es:List (κ×Value×Nat)} (h:∀p∈es,ok p.1):∀e∈eN ke es,∃a,ok a/\e.key=ke a:=fun e he=>by
 obtain⟨p,hp,rfl⟩:=List.mem_map.1 he
 exact⟨p.1,h p hp,rfl⟩
include hK
theorem c2I {es:List (κ×Value×Nat)} (ho:∀p∈es,ok p.1) {k:κ} (hk:ok k) (w:World):
  ((Instr.findKey kt (ke k) (eN ke es)).run P w= .ok none w/\k∉es.map (·.1))\/∃j p,(Instr.findKey kt (ke k) (eN ke es)).run P w= .ok (some (j,p.2.1)) w/\es[j]? =some p/\p.1=k:=by
 rcases hK.find k hk (eN ke es) (d1V ho) w with⟨h1,h2⟩|⟨j,e,h1,h2,h3⟩
 ·refine .inl ⟨h1,fun hm=> ?_⟩
  obtain⟨p,hp,rfl⟩:=List.mem_map.1 hm
  exact h2 _ (List.mem_map.2 ⟨p,hp,rfl⟩) rfl
 ·unfold eN at h2
  rw[List.getElem?_map]at h2
  obtain⟨p,hp,rfl⟩:=Option.map_eq_some_iff.1 h2
  exact .inr ⟨j,p,h1,hp,hK.inj _ _ (ho p (List.mem_of_getElem? hp)) hk h3⟩
theorem b6L {B:PH} {vs:List Value} {m v:Value} {L:List (κ×Value)} {k:κ} (ho:o.op= .mapUpdate T x y z) (hx:a0f [x,y,z] vs x=m) (hy:a0f [x,y,z] vs y=ke k) (hz:a0f [x,y,z] vs z=v) (hu:P.underlying T=some (.map kt et)) (hk:ok k)
  (hle:PH.le B H) (h:MKO ok ke B H m L):Opn P o vs H fun u H'=>u=undef/\PH.le B H'/\MKO ok ke B H' m (a6Q L k v)/\∃g ob E c,m= .map (some g)/\B g=none/\H g=some (.map E c)/\H'=H.put g ob:=fun w hw=>by
 obtain⟨r,es,clock,rfl,hB,hH,hE,hkv⟩:=h
 have hos:o.op.operands.toList=[x,y,z]:=by simp[ho,Op.operands]
 have hb:=hw _ _ hH
 unfold Stp
 rw[hos]
 have hkeep:∀ob,PH.le B (H.put r ob):=fun ob c cb hc=>by
  rw[PH.put_ne _ _ (fun e=>by subst e;rw[hB]at hc;cases hc)];exact hle _ _ hc
 have hkeys:L.map (·.1)=es.map (·.1):=by rw[<-hkv];unfold kvN;rw[List.map_map];rfl
 simp only[execOp,ho,hx,hy,hz,Sem.run_bind,Instr.mapUpdate,run_underlying hu,Result.andThen_ok,a1P hb,hK.check k hk]
 rcases c2I hK hE.oks hk w with⟨h1,h2⟩|⟨j,p,h1,h2,h3⟩
 ·rw[h1]
  simp only[Result.andThen_ok,Sem.run_pure,a5i _ hb]
  refine⟨_,Step.setB hw hH _,by first|rfl|trivial,hkeep _,⟨r,es++[(k,v,clock)],clock+1,rfl,hB,?_,⟨?_,?_,?_,?_⟩,?_⟩,r,_,_,_,rfl,hB,hH,rfl⟩
  ·rw[PH.put_self];simp[eN]
  ·rw[List.map_append,List.nodup_append]
   exact⟨hE.keys,by simp,fun a ha b hb=>by simp only[List.map_cons,List.map_nil,List.mem_singleton]at hb;subst hb;intro e;subst e;exact h2 ha⟩
  ·intro p hp;rcases List.mem_append.1 hp with hp|hp
   ·exact hE.oks p hp
   ·rw[List.mem_singleton]at hp;subst hp;exact hk
  ·rw[List.map_append,List.pairwise_append]
   refine⟨hE.asc,by simp,fun a ha b hb=> ?_⟩
   simp only[List.map_cons,List.map_nil,List.mem_singleton]at hb;subst hb
   obtain⟨p,hp,rfl⟩:=List.mem_map.1 ha
   exact hE.lt p hp
  ·intro p hp;rcases List.mem_append.1 hp with hp|hp
   ·have:=hE.lt p hp;omega
   ·rw[List.mem_singleton]at hp;subst hp;exact Nat.lt_succ_self _
  ·unfold a6Q;rw[if_neg (by rw[hkeys];exact h2),<-hkv];simp[kvN]
 ·rw[h1]
  have hje:((eN ke es).toArray[j]?.map (·.key)).getD (ke k)=ke k:=by simp[eN,h2,h3]
  simp only[Result.andThen_ok,Sem.run_pure,hje,Sem.run_bind,hK.stays k hk,a5i _ hb]
  have hlt:=(List.getElem?_eq_some_iff.1 h2).1
  have hset:∀{α:Type} (f:κ×Value×Nat->α),f (k,v,p.2.2)=f p->(es.set j (k,v,p.2.2)).map f=es.map f:=fun f hf=>by
   apply List.ext_getElem?
   intro i
   rw[List.getElem?_map,List.getElem?_map,List.getElem?_set]
   by_cases e:j=i
   ·subst e;rw[if_pos rfl,if_pos hlt,h2];simp[hf]
   ·rw[if_neg e]
  refine⟨_,Step.setB hw hH _,by first|rfl|trivial,hkeep _,⟨r,es.set j (k,v,p.2.2),clock,rfl,hB,?_,⟨?_,?_,?_,?_⟩,?_⟩,r,_,_,_,rfl,hB,hH,rfl⟩
  ·rw[PH.put_self]
   congr 2
   rw[<-Array.toList_inj]
   simp only[Array.toList_modify]
   apply List.ext_getElem?
   intro i
   simp only[List.getElem?_modify,eN,List.getElem?_map,List.getElem?_set]
   by_cases e:j=i
   ·subst e
    obtain⟨hlt',h5⟩:=List.getElem?_eq_some_iff.1 h2
    simp[hlt',h5,h3]
   ·simp[e]
  ·rw[hset (·.1) (by simp[h3])];exact hE.keys
  ·intro q hq
   rcases List.mem_or_eq_of_mem_set hq with hq|rfl
   ·exact hE.oks q hq
   ·exact hk
  ·rw[hset (·.2.2) rfl];exact hE.asc
  ·intro q hq
   rcases List.mem_or_eq_of_mem_set hq with hq|rfl
   ·exact hE.lt q hq
   ·exact hE.lt p (List.mem_of_getElem? h2)
  ·have hmem:k∈L.map (·.1):=by rw[hkeys];exact List.mem_map.2 ⟨p,List.mem_of_getElem? h2,h3⟩
   have h0:=hE.keys
   unfold a6Q
   rw[if_pos hmem,<-hkv]
   unfold kvN
   rw[List.map_map]
   apply List.ext_getElem?
   intro i
   simp only[List.getElem?_map,List.getElem?_set,Function.comp]
   by_cases e:j=i
   ·subst e
    simp[hlt,(List.getElem?_eq_some_iff.1 h2).2,h3]
   ·rw[if_neg e]
    cases hi:es[i]? with
    |none=>rfl
    |some q=>
     have hne:q.1≠k:=fun e2=>e (by
      refine(List.getElem?_inj (by simpa using hlt) h0).1 ?_
      rw[List.getElem?_map,List.getElem?_map,h2,hi]
      simp[h3,e2])
     simp[hne]
theorem b6M {vs:List Value} {m zr u:Value} {L:List (κ×Value)} {k:κ} {b ok2:Bool} (ho:o.op= .lookup T x y ok2) (hx:a0f [x,y] vs x=m) (hy:a0f [x,y] vs y=ke k) (hu:P.underlying T=some (.map kt et)) (hk:ok k) (hz:∀w,(zeroValue et).run P w= .ok zr w) (h:MK ok ke H m L)
  (hub:(b=false/\u=zr/\k∉L.map (·.1))\/(b=true/\(k,u)∈L)):Rds P o vs H (if ok2 then .tuple #[u,.bool b]else u):=fun w hw=>by
 obtain⟨r,es,clock,rfl,hH,hE,hkv⟩:=h
 have hos:o.op.operands.toList=[x,y]:=by simp[ho,Op.operands]
 have hb:=hw _ _ hH
 have hkeys:L.map (·.1)=es.map (·.1):=by rw[<-hkv];unfold kvN;rw[List.map_map];rfl
 rw[hos]
 simp only[execOp,ho,hx,hy,Sem.run_bind,Instr.lookup,run_underlying hu,Result.andThen_ok,a1P hb,Sem.run_pure,hK.check k hk]
 rcases c2I hK hE.oks hk w with⟨h1,h2⟩|⟨j,p,h1,h2,h3⟩
 ·rw[h1]
  rcases hub with⟨rfl,rfl,_⟩|⟨_,hm⟩
  ·cases ok2<;>simp[hz]
  ·exact absurd (by rw[<-hkeys];exact List.mem_map.2 ⟨_,hm,rfl⟩) h2
 ·rw[h1]
  rcases hub with⟨_,_,hm⟩|⟨rfl,hm⟩
  ·exact absurd (by rw[hkeys];exact List.mem_map.2 ⟨p,List.mem_of_getElem? h2,h3⟩) hm
  ·have:p.2.1=u:=by
    rw[<-hkv]at hm
    obtain⟨q,hq,e⟩:=List.mem_map.1 hm
    simp only[Prod.mk.injEq]at e
    obtain⟨i,hi⟩:=List.mem_iff_getElem?.1 hq
    have l1:=(List.getElem?_eq_some_iff.1 h2).1
    have:j=i:=(List.getElem?_inj (by simpa using l1) hE.keys).1 (by rw[List.getElem?_map,List.getElem?_map,h2,hi];simp[h3,e.1])
    subst this
    rw[h2]at hi;cases hi;exact e.2
   subst this
   cases ok2<;>simp
theorem c2J (ho:o.op= .makeMap T none):Opn P o [] H fun v H'=>PH.le H H'/\MKO ok ke H H' v []:=fun w hw=>by
 have _hK:=hK
 refine(a3s (P:=P) (H:=H) ho w hw).mono ?_
 rintro u w' ⟨H',hs,r,hr,rfl,rfl⟩
 exact⟨_,hs,PH.le_put hr _,r,[],0,rfl,hr,by rw[PH.put_self];rfl,⟨List.nodup_nil,(fun p hp=>by cases hp),List.Pairwise.nil,fun p hp=>by cases hp⟩,rfl⟩
end
def IT (ke:κ->Value) (H:PH) (q r:Nat) (es:List (κ×Value×Nat)) (clock:Nat) (seen:List Nat):Prop:=H q=some (.mapIter (some r) clock seen.toArray clock)/\H r=some (.map (eN ke es).toArray clock)
section
variable {P:Program} {H:PH} {o:Oper} {x:Operand} {T kt et:TypeId}
theorem a9S {vs:List Value} {r clock:Nat} {es:List (κ×Value×Nat)} (ho:o.op= .range T x) (hx:a0f [x] vs x= .map (some r)) (hu:P.underlying T=some (.map kt et)) (hH:H r=some (.map (eN ke es).toArray clock)):
  Opn P o vs H fun v H'=>∃q,H q=none/\v= .pointer (some ⟨q,0,none⟩)/\H'=H.put q (.mapIter (some r) clock #[] clock):=fun w hw=>by
 have hos:o.op.operands.toList=[x]:=by simp[ho,Op.operands]
 have hb:=hw _ _ hH
 unfold Stp
 rw[hos]
 simp only[execOp,ho,hx,Sem.run_bind,Instr.range,run_underlying hu,Result.andThen_ok,a1P hb,Sem.run_pure]
 exact⟨_,Step.newB hw _,_,hw.fresh,rfl,rfl⟩
def left (es:List (κ×Value×Nat)) (seen:List Nat):List (κ×Value×Nat):=es.filter fun p=> !seen.any (Nat.beq p.2.2)
theorem b3a {vs:List Value} {q r clock:Nat} {es:List (κ×Value×Nat)} {seen:List Nat} (ho:o.op= .next x false) (hx:a0f [x] vs x= .pointer (some ⟨q,0,none⟩)) (hE:d6n ok es clock) (h:IT ke H q r es clock seen):
  Opn P o vs H fun v H'=>(left es seen=[]/\v= .tuple #[.bool false]/\H'=H)\/∃p∈left es seen,v= .tuple #[.bool true,ke p.1,p.2.1]/\H'=H.put q (.mapIter (some r) clock (seen++[p.2.2]).toArray clock):=fun w hw=>by
 obtain⟨h1,h2⟩:=h
 have hos:o.op.operands.toList=[x]:=by simp[ho,Op.operands]
 have hq:=hw _ _ h1
 have hr:=hw _ _ h2
 have hlf:(eN ke es).filter (fun e=> !seen.any (Nat.beq e.born))=eN ke (left es seen):=by
  unfold eN left;rw[List.filter_map];rfl
 have hlt:∀e∈eN ke es,e.born<clock:=fun e he=>by
  obtain⟨p,hp,rfl⟩:=List.mem_map.1 he
  exact hE.lt p hp
 have hrun:=c0R (P:=P) (ty:=o.type) hq hr (fun e he=>hlt e (List.mem_filter.1 he).1) (by
  by_cases he:eN ke es=[]
  ·exact .inr (.inl he)
  ·obtain⟨e,r,hh⟩:=List.exists_cons_of_ne_nil he
   exact .inr (.inr ⟨e,by rw[hh];simp,hlt e (by rw[hh];simp)⟩))
 unfold Stp
 rw[hos]
 simp only[execOp,ho,hx,Sem.run_bind]
 rw[hlf]at hrun
 rcases hrun with⟨h3,h4⟩|⟨e,he,w1,hx1,hh1,h4⟩
 ·rw[h4]
  exact⟨_,Step.refl hw,.inl ⟨by unfold eN at h3;simpa using h3,rfl,rfl⟩⟩
 ·rw[h4]
  obtain⟨p,hp,rfl⟩:=List.mem_map.1 he
  exact⟨_,(Step.of_ext hw hx1).trans (Step.setB (hw.ext hx1) h1 _),.inr ⟨p,hp,rfl,rfl⟩⟩
theorem a9T {vs:List Value} {q r clock:Nat} {es:List (κ×Value×Nat)} {seen:List Nat} {p:κ×Value×Nat} (ho:o.op= .entry x) (hx:a0f [x] vs x= .pointer (some ⟨q,0,none⟩)) (hE:d6n ok es clock) (hp:p∈es) (h:IT ke H q r es clock (seen++[p.2.2])):Rds P o vs H (.tuple #[ke p.1,p.2.1]):=fun w hw=>by
 obtain⟨h1,h2⟩:=h
 have hos:o.op.operands.toList=[x]:=by simp[ho,Op.operands]
 have hq:=hw _ _ h1
 have hgr:(getObj q).run P w= .ok (.mapIter (some r) clock (seen++[p.2.2]).toArray clock) w:=by simp[getObj,Sem.run,hq]
 have hgm:=a1P (P:=P) (hw _ _ h2)
 have hf:(eN ke es).toArray.find? (·.born==p.2.2)=some ⟨ke p.1,p.2.1,p.2.2⟩:=by
  rw[<-Array.find?_toList]
  show(eN ke es).find? _=_
  unfold eN
  rw[List.find?_map]
  have hu:es.find? ((fun e:MapEntry=>e.born==p.2.2) ∘ fun p=>⟨ke p.1,p.2.1,p.2.2⟩)=some p:=by
   obtain⟨i,hi⟩:=List.mem_iff_getElem?.1 hp
   rw[List.find?_eq_some_iff_getElem]
   obtain⟨hil,rfl⟩:=List.getElem?_eq_some_iff.1 hi
   refine⟨by simp,i,hil,rfl,fun j hj=> ?_⟩
   have:=List.pairwise_iff_getElem.1 hE.asc j i (by simp;omega) (by simpa using hil) hj
   simp only[List.getElem_map]at this
   simp
   omega
  rw[hu];rfl
 have hb:(seen++[p.2.2]).toArray.back? =some p.2.2:=by simp
 rw[hos]
 simp only[execOp,ho,hx,Sem.run_bind,Instr.entry,hgr,Result.andThen_ok,hb,hgm,bne_self_eq_false,Bool.false_eq_true,if_false,hf,Sem.run_pure]
end
end
end Go.RX
/- Chapter 32: keys of plans; counts of trees as fractions. -/
namespace Go.Proofs.YtmannekkmdockaaGreatDoor
open Go.Proofs.Tryz
open Go.RowKit Go.RX Go.GS Go.RZ
set_option maxRecDepth 100000
def okK (l:List Int):Prop:=l.length=12/\∀z∈l,0<=z/\z<9223372036854775808
def kV (l:List Int):Value:= .agg (l.map ii).toArray
theorem b1z:b3u prog 112:=by
 have big:6<=(prog).types.size+1:=of_decide_eq_true (by kernel_rfl)
 exact⟨by kernel_rfl,by kernel_rfl,by kernel_rfl,by kernel_rfl,by kernel_rfl,big⟩
def kA (l:List Int):List AV:=l.map fun z=> .int .i64 z
theorem c6N {z:Int} (h:0<=z/\z<9223372036854775808) (d:Nat):b4n prog (d+1) 3 [.int .i64 z]=true:=by
 obtain⟨n,rfl⟩:∃n:Nat,z=(n:Int):=⟨z.toNat,by omega⟩
 exact d0A (by omega) d
theorem a6o {l:List Int} (h:okK l):b4n prog 6 112 (kA l)=true:=by
 have hu:prog.underlying 112=some (.array 12 3):=by kernel_rfl
 have h1:prog.cellsOf 112=12:=by kernel_rfl
 have h2:prog.cellsOf 3=1:=by kernel_rfl
 have hr:List.range 12=[0,1,2,3,4,5,6,7,8,9,10,11]:=by decide
 obtain⟨hl,hz⟩:=h
 match l,hl with
 |[a0,a1,a2,a3,a4,a5,a6,a7,a8,a9,a10,a11],_=>
  have f:∀z∈[a0,a1,a2,a3,a4,a5,a6,a7,a8,a9,a10,a11],b4n prog 5 3 [.int .i64 z]=true:=fun z h=>c6N (hz z h) 4
  simp only[List.mem_cons,List.not_mem_nil,or_false,forall_eq_or_imp,forall_eq]at f
  obtain⟨f0,f1,f2,f3,f4,f5,f6,f7,f8,f9,f10,f11⟩:=f
  unfold b4n
  rw[hu]
  simp only[h1,h2,hr,List.all_cons,List.all_nil,Bool.and_true,kA,List.map_cons,List.map_nil]
  rw[Bool.and_eq_true]
  refine⟨rfl,?_⟩
  simp only[Bool.and_eq_true]
  exact⟨f0,f1,f2,f3,f4,f5,f6,f7,f8,f9,f10,f11⟩
theorem d5y (σ:Rl):∀l:List Int,rzs σ (kA l)=l.map ii
 |[]=>rfl
 |z::l=>by
  show rzs σ (.int .i64 z::kA l)=_
  simp only[rzs,rz,d5y σ l,List.map_cons];rfl
theorem a9U (σ:Rl) (l:List Int):rz σ (.agg (kA l))=kV l:=by
 simp only[rz,d5y];rfl
theorem b3b:d7F prog 112 okK kV where
 check:=fun k hk b w=>by
  have hK:∀t,(fun t=>Nat.beq t 112) t=true->b3u prog t:=fun t ht=>by rw[c7Q ht];exact b1z
  have:=c0P (σ:=fun _=>(0,0)) (kty:=fun t=>Nat.beq t 112) hK (v:= .agg (kA k)) (kt:=112) (by simp[a9a,a6o hk]) b w
  rwa[a9U]at this
 stays:=fun k hk w=>by
  have hK:∀t,(fun t=>Nat.beq t 112) t=true->b3u prog t:=fun t ht=>by rw[c7Q ht];exact b1z
  have:=c0Q (σ:=fun _=>(0,0)) (kty:=fun t=>Nat.beq t 112) hK (v:= .agg (kA k)) (kt:=112) (by simp[a9a,a6o hk]) w
  rwa[a9U]at this
 find:=fun k hk E hE w=>by
  have hK:∀t,(fun t=>Nat.beq t 112) t=true->b3u prog t:=fun t ht=>by rw[c7Q ht];exact b1z
  have:=c5F (σ:=fun _=>(0,0)) (kty:=fun t=>Nat.beq t 112) (key:= .agg (kA k)) (kt:=112) hK (by simp[a9a,a6o hk]) E (fun e he=>by
   obtain⟨a,ha,h⟩:=hE e he
   exact⟨.agg (kA a),by rw[a9U];exact h,by simp[a9a,a6o ha]⟩) w
  rwa[a9U]at this
 inj:=fun a b _ _ h=>by
  unfold kV at h
  injection h with h
  have h:=congrArg Array.toList h
  simp only[List.toList_toArray]at h
  have:∀{x y:Int},ii x=ii y->x=y:=fun h=>by injection h
  exact(List.map_inj_right (f:=ii) fun x y h=>this h).1 h
def a0r (p:List Int):List Int:=p++List.replicate (12-p.length) 0
theorem b3c {p:List Int} (hl:p.length<=12) (h:∀z∈p,0<=z/\z<9223372036854775808):okK (a0r p):=by
 refine⟨by unfold a0r;simp;omega,fun z hz=> ?_⟩
 unfold a0r at hz
 rcases List.mem_append.1 hz with hz|hz
 ·exact h z hz
 ·rw[List.mem_replicate]at hz;rw[hz.2];omega
theorem c2K {p q:List Int} (h:p.length=q.length) (he:a0r p=a0r q):p=q:=by
 unfold a0r at he
 exact(List.append_inj he h).1
theorem c2L {p:List Int} (hl:p.length<=12):(a0r p).length=12:=by unfold a0r;simp;omega
theorem c2M {p:List Int} (hl:p.length<=12):((List.replicate 12 (ii 0)).toArray.toList.take 0++(p.flatMap fun z:Int=>[ii z])++(List.replicate 12 (ii 0)).toArray.toList.drop (0+p.length)).toArray=((a0r p).map ii).toArray:=by
 have hf:∀l:List Int,(l.flatMap fun z:Int=>[ii z])=l.map ii:=fun l=>by
  induction l with
  |nil=>rfl
  |cons a l ih=>rw[List.flatMap_cons,ih];rfl
 rw[hf]
 unfold a0r
 rw[List.take_zero,List.nil_append,List.toList_toArray,List.drop_replicate,Nat.zero_add,List.map_append,List.map_replicate]
theorem d1W {b:Nat} {X:PH} {o:Oper} {x:Operand} {T:TypeId} {fz:Nat×Nat} {l:List Int} (ho:o.op= .load 112 x) (hx:a0f [x] [.pointer (some ⟨b,0,none⟩)] x= .pointer (some ⟨b,0,none⟩)) (hX:X b=some (.cells (l.map ii).toArray T fz)) (hl:l.length=12):Rds prog o [.pointer (some ⟨b,0,none⟩)] X (kV l):=by
 have hc:(prog).cellsOf 112=12:=by kernel_rfl
 have ha:a0N prog 112=true:=by kernel_rfl
 have h:=a2k ho hx hX (T:=112) (by kernel_rfl) (by rw[hc];simp[hl]) (fun h=>by rw[ha]at h;cases h)
 rw[ha,hc]at h
 have e:(l.map ii).toArray.extract 0 (0+12)=(l.map ii).toArray:=by
  rw[<-Array.toList_inj];simp only[Array.toList_extract,List.toList_toArray];rw[List.extract_eq_take_drop,List.drop_zero];exact List.take_of_length_le (by simp[hl])
 rw[e]at h
 exact h
theorem d5z {l:List Int} (hl:l.length=12):(kV l).cells.size=12/\a0t (kV l).cells:=by
 refine⟨by show(l.map ii).toArray.size=12;simp[hl],fun c hc=> ?_⟩
 have hc:c∈l.map ii:=by simpa[kV,Value.cells]using hc
 obtain⟨z,_,rfl⟩:=List.mem_map.1 hc
 rfl
section
variable {H:PH} {u w wts:Value} {p wl:List Int} {n:Nat} {es:List (Nat×Nat)} {lo hi ds:Int} {set:Nat}
theorem a4w (hu:SI H u p) (hl:p.length<=12):Con prog 51 [u] H fun r H'=>PH.le H H'/\r=kV (a0r p):=by
 refine a0b mixed d0M (by kernel_rfl) rfl ?_
 have hk:prog.underlying 112=some (.array 12 3):=by kernel_rfl
 have hc:(prog).cellsOf 112=12:=by kernel_rfl
 have ha:a0N prog 112=true:=by kernel_rfl
 have hT:a2s prog 3=true:=by kernel_rfl
 have hk2:a2s prog 112=true:=by kernel_rfl
 have hui:prog.underlying 32=some (.slice 3):=by kernel_rfl
 obtain⟨ti,zv,i1,i2,i3,i4,i5⟩:=el_int.inf
 refine a1G (cs:=(List.replicate 12 (ii 0)).toArray) (by kernel_rfl) fun b hb=> ?_
 simp only[cA,nA]
 refine a0g ((a3c (vs:=[.pointer (some ⟨b,0,none⟩)]) rfl rfl hk hT).rds _) rfl ?_
 simp only[cA,nA]
 have hmo:PH.le H (H.put b (.cells (List.replicate 12 (ii 0)).toArray 112 (0,0))):=PH.le_put hb _
 have hsl:Sl (H.put b (.cells (List.replicate 12 (ii 0)).toArray 112 (0,0))) 1 u p.length (p.flatMap fun z:Int=>[ii z]):=hu.mono hmo
 refine a0l (b5e (P:=prog) (g:=b) (q:=0) (dLen:=12) (dCap:=12) (m:=p.length) (u:=u) (vs:=[.slice (some ⟨b,0,none⟩) 12 12,u]) rfl rfl rfl hui i1 (by rw[i3]) (PH.put_self _ _ _) hsl (fun c hc=>by rw[List.mem_flatMap]at hc;obtain⟨z,_,hz⟩:=hc;rw[List.mem_singleton]at hz;subst hz;rfl) hl (by simp;omega)) rfl ?_
 rintro _ H2 rfl
 refine⟨fun h=>(nomatch h),?_⟩
 simp only[cA,nA]
 rw[c2M hl]
 refine a0g ((d1W rfl rfl (PH.put_self _ _ _) (c2L hl))) rfl ?_
 simp only[cA,nA]
 refine a0a (d5z (c2L hl)) ?_
 exact a0c rfl ⟨fun k ob hk=>by rw[PH.put_ne _ _ (fun e=>by subst e;rw[hb]at hk;cases hk)];exact hmo _ _ hk,rfl⟩
end
end Go.Proofs.YtmannekkmdockaaGreatDoor
/- Chapter 32: counts of trees as fractions, parts of a set. -/
namespace Go.GS
theorem c6O {F:Nat->Nat->Int} {B:Nat} (h:∀i j,(F i j).natAbs<=B) (k:Nat):(pk F k).natAbs<=(k*B)^k:=by
 have:=b1s (B:=B) (blk k) ((blk k).map F) k (by simp[b1u]) (fun r hr c hc=>by
  obtain⟨x,_,rfl⟩:=List.mem_map.1 hr
  exact h _ _)
 unfold pk
 simpa[b1u]using this
theorem d1X {set n:Nat} (h:set<2^n) (hn:n<=64) (f:Nat->Nat):(b2X set f).length<=n:=by
 have e:b2X set f=(els set).filter fun x=>decide (f x=x)&&decide (x≠f (lst set)):=by
  unfold b2X els
  rw[List.filter_filter]
  refine List.filter_congr fun x _=> ?_
  cases bit set x<;>simp
 rw[e,<-d6X h hn]
 refine Nat.le_trans (List.length_filter_le _ _) (Nat.le_trans (List.length_filter_le _ _) ?_)
 simp
end Go.GS
namespace Go.Proofs.YtmannekkmdockaaGreatDoor
open Go.Proofs.Tryz
open Go.RowKit Go.RX Go.GS
open Go.WD (BP a1E wd rs toI HM)
set_option maxRecDepth 100000
theorem a9V {H:PH} {v:Value} {r:Rat} (h:Rp H v r):Value.agg v.cells=v:=by
 obtain⟨w1,w2,rfl,_⟩:=h;rfl
noncomputable def tN (es:List (Nat×Nat)) (set:Nat):Int:=b8B set es [] []
theorem c2N (es:List (Nat×Nat)) (set:Nat):0<=tN es set:=by
 unfold tN;rw[a5G];exact d4X _ _ _
theorem d1Y {es:List (Nat×Nat)} {set n:Nat} (hg:GV n es) (hn:n<=12) (h:set<2^n):tN es set<(BP 5:Nat):=by
 have h0:=c2N es set
 have h1:(tN es set).natAbs<=(12*200)^12:=by
  unfold tN
  rw[a5G]
  unfold d5x KK
  rw[<-b4x]
  refine Nat.le_trans (c6O (B:=200) (fun i j=>Nat.le_trans (a8x _ _ _ i j) (Nat.le_trans (d1U 0) hg.len)) _) ?_
  have hl:=d1X h (by omega) (lab (etl es []))
  exact Nat.le_trans (Nat.pow_le_pow_left (show _<=12*200 by omega) _) (Nat.pow_le_pow_right (by decide) (by omega))
 have h2:(12*200)^12<BP 5:=by
  rw[show BP 5=2^160 from by unfold BP;rfl]
  decide
 omega
theorem d7e {k:Nat} (hk:k<=15):BP k<=HM:=by
 rw[d3V]
 exact Nat.le_trans (a1E hk) (Nat.le_mul_of_pos_right _ (by decide))
section
variable {H:PH} {u w wts:Value} {p wl:List Int} {n:Nat} {es:List (Nat×Nat)} {lo hi ds:Int} {set:Nat}
theorem b1A (hw:SG H w es) (hwt:a8V wts=true) (hg:GV n es) (hn:n<=12) (h0:set≠0/\set<2^n) (hT:Tb H):Con prog 145 [chv wts lo hi ds n w,GS.uv set] H fun r H'=>PH.le H H'/\Rp H' r ((tN es set:Int):Rat):=by
 refine a0b mixed d0O (by kernel_rfl) rfl ?_
 have hs:=a1g hg.n64 h0.2
 have hb:=d1Y hg hn h0.2
 have hb0:=c2N es set
 have hfit: -(HM:Int)<=tN es set/\tN es set<HM:=by
  have:=d7e (k:=5) (by decide);omega
 refine a0a (a6h hwt (a0z hw) _ _ _ _) ?_
 refine a0d (b6K hw hg h0 hs hT) rfl ?_
 rintro v2 H1 ⟨l1,rfl⟩
 refine⟨fun h=>(nomatch h),?_⟩
 simp only[cA,nA]
 rw[show told (b8B set es [] [])= .tuple #[wd (rs (tN es set)),ii 0]from if_pos hfit]
 refine a0a ⟨_,rfl,by simp⟩ ?_
 refine a0a ⟨_,rfl,by simp⟩ ?_
 refine a0a (a8B _) ?_
 refine a0d (a1W (rs (tN es set))) rfl ?_
 rintro v3 H2 ⟨l2,w2⟩
 refine⟨fun h=>(nomatch h),?_⟩
 simp only[cA,nA]
 rw[Go.WD.toI_rs hfit]at w2
 refine a0d (a6a w2) rfl ?_
 rintro v4 H3 ⟨l3,w3⟩
 refine⟨fun h=>(nomatch h),?_⟩
 simp only[cA,nA]
 refine a0a w3.rq ?_
 exact a0c (a9V w3) ⟨l1.trans (l2.trans l3),w3⟩
theorem c6P {s:Nat}:Con prog 146 [GS.uv s] H fun u H'=>∃b,H b=none/\H'=H.or (a6U b s)/\u= .func (.func 203) #[] #[.pointer (some ⟨b,0,none⟩)]:=by
 refine a0b mixed d0N (by kernel_rfl) rfl ?_
 refine a0a ⟨rfl,fun c hc=>by simp[D,Value.cells,GS.uv]at hc;subst hc;rfl⟩ ?_
 refine a1G (cs:= #[GS.uv s]) rfl fun b hb=> ?_
 simp only[cA,nA]
 refine a3z (a1j (vs:=[.pointer (some ⟨b,0,none⟩)]) rfl rfl) rfl ?_
 simp only[cA,nA]
 exact a0c rfl ⟨b,hb,by unfold a6U;rw[PH.put_or hb],rfl⟩
end
end Go.Proofs.YtmannekkmdockaaGreatDoor
/- Chapter 32: probabilities of the next plans that differ. -/
namespace Go.Proofs.YtmannekkmdockaaGreatDoor
open Go.Proofs.Tryz
open Go.RowKit Go.RX Go.GS Go.RZ
open Go.WD (BP a1E wd rs toI HM)
set_option maxRecDepth 100000
theorem a6p {H:PH} (n:Int) (h0: -9223372036854775808<=n) (h1:n<9223372036854775808):Con prog 58 [.int .i64 n] H fun u H'=>PH.le H H'/\Rp H' u (n:Rat):=by
 refine a0b mixed b5B (by kernel_rfl) rfl (a0d (a2c n h0 h1) rfl ?_)
 rintro u1 H1 ⟨l1,hu1⟩
 simp only[cA,nA]
 refine⟨fun h=>(nomatch h),a0d (a6a hu1) rfl ?_⟩
 rintro u2 H2 ⟨l2,hu2⟩
 refine⟨fun h=>(nomatch h),a0a hu2.rq (a0c (a9V hu2) ⟨l1.trans l2,hu2⟩)⟩
theorem b1B {rest least:Nat}:∀{n part y:Nat},y∈b6f rest least n part->∃x,x&&&rest=x/\x<part/\y=x|||least
 |0,_,_,h=>by cases h
 |n+1,part,y,h=>by
  unfold b6f at h
  split at h
  ·cases h
  ·rename_i h0
   have hle:(part-1)&&&rest<=part-1:=Nat.and_le_left
   have hidem:((part-1)&&&rest)&&&rest=(part-1)&&&rest:=by rw[Nat.and_assoc,Nat.and_self]
   rcases List.mem_cons.1 h with rfl|h
   ·exact⟨_,hidem,by omega,rfl⟩
   ·obtain⟨x,h1,h2,h3⟩:=b1B h
    exact⟨x,h1,by omega,h3⟩
theorem a8E {S y:Nat} (hs:S<M64) (h0:S≠0) (hy:y∈a1z S):(∀x,bit y x=true->bit S x=true)/\bit y (lst S)=true/\y≠S:=by
 obtain⟨m,r,he,hm,_,_⟩:=a9d hs h0
 have hl:a1c S=2^m:=a5p hs he
 have hlm:lst S=m:=by unfold lst;rw[he];rfl
 obtain⟨x,h1,h2,rfl⟩:=b1B hy
 rw[hl]at h1 h2⊢
 have hb:∀z,bit x z=true->bit S z=true/\z≠m:=fun z hz=>by
  have h3:bit (x&&&sdf S (2^m)) z=true:=by rw[h1];exact hz
  rw[show bit (x&&&sdf S (2^m)) z=(bit x z&&bit (sdf S (2^m)) z)from Nat.testBit_and _ _ _,a0p,a0v]at h3
  simp only[Bool.and_eq_true,Bool.not_eq_true',decide_eq_false_iff_not]at h3
  exact⟨h3.2.1,fun e=>h3.2.2 e.symm⟩
 refine⟨fun z hz=> ?_,by rw[hlm,a0G,a0v];simp,fun e=> ?_⟩
 ·rw[a0G,a0v,Bool.or_eq_true,decide_eq_true_eq]at hz
  rcases hz with hz|rfl
  ·exact(hb z hz).1
  ·exact hm
 ·have:sdf S (2^m)=x:=by
   refine a0F fun z=> ?_
   rw[a0p,a0v,<-e,a0G,a0v]
   by_cases hz:m=z
   ·subst hz
    have:bit x m=false:=by
     cases hx:bit x m with
     |false=>rfl
     |true=>exact absurd rfl (hb m hx).2
    simp[this]
   ·simp[hz]
  omega
theorem a8F {S y n:Nat} (hs:S<2^n) (h64:n<=64) (h0:S≠0) (hy:y∈a1z S):(y≠0/\y<2^n)/\(sdf S y≠0/\sdf S y<2^n):=by
 have hM:S<M64:=Nat.lt_of_lt_of_le hs (Nat.pow_le_pow_right (n:=2) (by decide) h64)
 obtain⟨h1,h2,h3⟩:=a8E hM h0 hy
 refine⟨⟨(fun e=>by rw[e,a0J]at h2;cases h2),a8u hs h1⟩,fun e=>h3 ?_,a8u hs fun x hx=>by rw[a0p]at hx;simp at hx;exact hx.1⟩
 refine a0F fun z=> ?_
 have hz:bit (sdf S y) z=false:=by rw[e,a0J]
 rw[a0p]at hz
 cases hS:bit S z with
 |true=>rw[hS]at hz;simpa using hz
 |false=>
  cases hY:bit y z with
  |true=>rw[h1 z hY]at hS;cases hS
  |false=>rfl
theorem d5A {o:Oper} {x y:Operand} {a b:List Int} {H:PH} (ho:o.op= .binOp .neq 112 x y 112) {vs:List Value} (hx:a0f [x,y] vs x=kV a) (hy:a0f [x,y] vs y=kV b) (ha:okK a) (hb:okK b):Rds prog o vs H (.bool (!decide (a=b))):=by
 have h:=d0z (H:=H) b1z (a6o ha) (a6o hb) ho (hx.trans (a9U (fun _=>(0,0)) a).symm) (hy.trans (a9U (fun _=>(0,0)) b).symm)
 have e:a2j (kA a) (kA b)=decide (a=b):=by
  have:∀(a b:List Int),a2j (kA a) (kA b)=true↔a=b:=fun a=>by
   induction a with
   |nil=>intro b;cases b<;>simp[kA,a2j]
   |cons x a ih=>
    intro b
    cases b with
    |nil=>simp[kA,a2j]
    |cons y b=>
     have:=ih b
     simp only[kA,List.map_cons]at this⊢
     simp[a2j,isK,c7R,this]
  rw[Bool.eq_iff_iff,this,decide_eq_true_iff]
 rw[e]at h
 exact h
end Go.Proofs.YtmannekkmdockaaGreatDoor

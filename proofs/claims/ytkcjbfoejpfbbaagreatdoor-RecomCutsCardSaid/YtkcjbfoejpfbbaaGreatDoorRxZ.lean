/- Maps from numbers to numbers, in memory. -/
import Derived.Test.YtkcjbfoejpfbbaaGreatDoorRzH
import Derived.Test.YtkcjbfoejpfbbaaGreatDoorRxY
namespace Go.RX
open Go.RowKit Go.RZ
def mE (es:List (Int×Int×Nat)):List MapEntry:=es.map fun p=>⟨.int .i64 p.1,.int .i64 p.2.1,p.2.2⟩
def kv (es:List (Int×Int×Nat)):List (Int×Int):=es.map fun p=>(p.1,p.2.1)
def MI (H:PH) (m:Value) (L:List (Int×Int)):Prop:=(L.map (·.1)).Nodup/\∃r es clock,m= .map (some r)/\H r=some (.map (mE es).toArray clock)/\kv es=L
def MO (B H:PH) (m:Value) (L:List (Int×Int)):Prop:=(L.map (·.1)).Nodup/\∃r es clock,m= .map (some r)/\B r=none/\H r=some (.map (mE es).toArray clock)/\kv es=L
theorem MO.mi {B H:PH} {m:Value} {L:List (Int×Int)} (h:MO B H m L):MI H m L:=by
 obtain⟨h0,r,es,c,h1,_,h2,h3⟩:=h;exact⟨h0,r,es,c,h1,h2,h3⟩
theorem MI.mono {H H':PH} {m:Value} {L:List (Int×Int)} (h:MI H m L) (hl:PH.le H H'):MI H' m L:=by
 obtain⟨h0,r,es,c,h1,h2,h3⟩:=h;exact⟨h0,r,es,c,h1,hl _ _ h2,h3⟩
def d1f (L:List (Int×Int)) (k v:Int):List (Int×Int):=if k∈L.map (·.1)then L.map fun p=>if p.1=k then(k,v)else p else L++[(k,v)]
theorem b1t {L:List (Int×Int)} {k v:Int} (h:(L.map (·.1)).Nodup):((d1f L k v).map (·.1)).Nodup:=by
 unfold d1f
 split
 ·rw[List.map_map]
  have:((fun p:Int×Int=>p.1) ∘ fun p:Int×Int=>if p.1=k then(k,v)else p)=fun p:Int×Int=>p.1:=by
   funext p;simp only[Function.comp];split
   ·rename_i e;exact e.symm
   ·rfl
  rw[this];exact h
 ·rename_i hk
  rw[List.map_append,List.nodup_append]
  refine⟨h,by simp,fun a ha b hb=> ?_⟩
  simp only[List.map_cons,List.map_nil,List.mem_singleton]at hb
  subst hb;intro e;subst e;exact hk ha
section
variable {P:Program} {H:PH} {o:Oper} {x y z:Operand} {T kt et:TypeId}
theorem d1g (es:List (Int×Int×Nat)):∀e∈mE es,∃b,e.key= .int .i64 b:=fun e he=>by
 obtain⟨p,_,rfl⟩:=List.mem_map.1 he
 exact⟨p.1,rfl⟩
theorem c2t {L:List (Int×Int)} {es:List (Int×Int×Nat)} (hkv:kv es=L) (k:Int):
  (Instr.findNow (.int .i64) (.int .i64 k) (mE es) 0=some none/\k∉L.map (·.1))\/∃j p,Instr.findNow (.int .i64) (.int .i64 k) (mE es) 0=some (some (j,.int .i64 p.2.1))/\es[j]? =some p/\p.1=k:=by
 rcases a2M (q:= .i64) (n:=k) (mE es) 0 (d1g es)with⟨h1,h2⟩|⟨j,e,h1,h2,h3⟩
 ·refine .inl ⟨h1,fun hk=> ?_⟩
  subst hkv
  unfold kv at hk
  rw[List.map_map]at hk
  obtain⟨p,hp,e⟩:=List.mem_map.1 hk
  exact h2 _ (List.mem_map.2 ⟨p,hp,rfl⟩) (by simp only[Function.comp]at e;rw[<-e])
 ·unfold mE at h2
  rw[List.getElem?_map]at h2
  obtain⟨p,hp,rfl⟩:=Option.map_eq_some_iff.1 h2
  refine .inr ⟨j,p,by rw[h1,Nat.zero_add],hp,?_⟩
  simp only[Value.int.injEq,true_and]at h3;exact h3
theorem c5F {B:PH} {vs:List Value} {m:Value} {L:List (Int×Int)} {k v:Int} (ho:o.op= .mapUpdate T x y z) (hx:a0g [x,y,z] vs x=m) (hy:a0g [x,y,z] vs y= .int .i64 k) (hz:a0g [x,y,z] vs z= .int .i64 v) (hu:P.underlying T=some (.map kt et)) (hk:P.underlying kt=some (.int .i64))
  (hle:PH.le B H) (h:MO B H m L):Opn P o vs H fun u H'=>u=undef/\PH.le B H'/\MO B H' m (d1f L k v)/\∃g ob E c,B g=none/\H g=some (.map E c)/\H'=H.put g ob:=fun w hw=>by
 obtain⟨h0,r,es,clock,rfl,hB,hH,hkv⟩:=h
 have hos:o.op.operands.toList=[x,y,z]:=by simp[ho,Op.operands]
 have hb:=hw _ _ hH
 unfold Stp
 rw[hos]
 have hkeep:∀ob,PH.le B (H.put r ob):=fun ob c cb hc=>by
  rw[PH.put_ne _ _ (fun e=>by subst e;rw[hB]at hc;cases hc)];exact hle _ _ hc
 simp only[execOp,ho,hx,hy,hz,Sem.run_bind,Instr.mapUpdate,run_underlying hu,Result.andThen_ok,a1K hb,a1n hk,Instr.findKey,run_underlying hk]
 rcases c2t hkv k with⟨h1,h2⟩|⟨j,p,h1,h2,h3⟩
 ·rw[h1]
  simp only[Result.andThen_ok,Sem.run_pure,a3v _ hb]
  refine⟨_,Step.setB hw hH _,by first|rfl|trivial,hkeep _,⟨b1t h0,r,es++[(k,v,clock)],clock+1,rfl,hB,?_,?_⟩,r,_,_,_,hB,hH,rfl⟩
  ·rw[PH.put_self];simp[mE]
  ·unfold d1f;rw[if_neg h2,<-hkv];simp[kv]
 ·rw[h1]
  have hst:∀w:World,(Instr.keyThatStays (.int .i64 k) (.int .i64 k)).run P w= .ok (.int .i64 k) w:=fun w=>by simp[Instr.keyThatStays,Instr.sameBits]
  have hje:((mE es).toArray[j]?.map (·.key)).getD (.int .i64 k)= .int .i64 k:=by
   simp[mE,h2,h3]
  simp only[Result.andThen_ok,Sem.run_pure,hje,Sem.run_bind,hst,a3v _ hb]
  refine⟨_,Step.setB hw hH _,by first|rfl|trivial,hkeep _,⟨b1t h0,r,es.set j (k,v,p.2.2),clock,rfl,hB,?_,?_⟩,r,_,_,_,hB,hH,rfl⟩
  ·rw[PH.put_self]
   congr 2
   rw[<-Array.toList_inj]
   simp only[Array.toList_modify]
   apply List.ext_getElem?
   intro i
   simp only[List.getElem?_modify,mE,List.getElem?_map,List.getElem?_set]
   by_cases e:j=i
   ·subst e
    obtain⟨hlt',h5⟩:=List.getElem?_eq_some_iff.1 h2
    simp[hlt',h5,h3]
   ·simp[e]
  ·have hmem:k∈L.map (·.1):=by
    rw[<-hkv]
    unfold kv
    rw[List.map_map]
    exact List.mem_map.2 ⟨p,List.mem_of_getElem? h2,h3⟩
   unfold d1f
   rw[if_pos hmem,<-hkv]
   rw[<-hkv]at h0
   unfold kv at h0⊢
   rw[List.map_map]at h0⊢
   apply List.ext_getElem?
   intro i
   simp only[List.getElem?_map,List.getElem?_set,Function.comp]
   by_cases e:j=i
   ·subst e
    obtain⟨hlt',h5⟩:=List.getElem?_eq_some_iff.1 h2
    simp[hlt',h5,h3]
   ·rw[if_neg e]
    cases hi:es[i]? with
    |none=>rfl
    |some q=>
     have hne:q.1≠k:=fun e2=>e (by
      have l1:=(List.getElem?_eq_some_iff.1 h2).1
      refine(List.getElem?_inj (by simpa using l1) h0).1 ?_
      rw[List.getElem?_map,List.getElem?_map,h2,hi]
      simp[h3,e2])
     simp[hne]
theorem c2u {vs:List Value} {m:Value} {L:List (Int×Int)} {k:Int} {ok:Bool} {w:World} (ho:o.op= .lookup T x y ok) (hx:a0g [x,y] vs x=m) (hy:a0g [x,y] vs y= .int .i64 k) (hu:P.underlying T=some (.map kt et)) (hk:P.underlying kt=some (.int .i64)) (hz:∀w,(zeroValue et).run P w= .ok (.int .i64 0) w) (h:MI H m L) (hw:H.In w) (u:Int) (b:Bool)
  (hub:(b=false/\u=0/\k∉L.map (·.1))\/(b=true/\(k,u)∈L)):(execOp (a0g o.op.operands.toList vs) o).run P w= .ok (.value (if ok then .tuple #[.int .i64 u,.bool b]else .int .i64 u)) w:=by
 obtain⟨h0,r,es,clock,rfl,hH,hkv⟩:=h
 have hos:o.op.operands.toList=[x,y]:=by simp[ho,Op.operands]
 have hb:=hw _ _ hH
 rw[hos]
 simp only[execOp,ho,hx,hy,Sem.run_bind,Instr.lookup,run_underlying hu,Result.andThen_ok,a1K hb,Sem.run_pure,a1n hk,Instr.findKey,run_underlying hk]
 rcases c2t hkv k with⟨h1,h2⟩|⟨j,p,h1,h2,h3⟩
 ·rcases hub with⟨rfl,rfl,_⟩|⟨_,hm⟩
  ·rw[h1]
   simp[hz]
  ·exact absurd (List.mem_map.2 ⟨_,hm,rfl⟩) h2
 ·have hpm:(k,p.2.1)∈L:=by
   rw[<-hkv];unfold kv
   exact List.mem_map.2 ⟨p,List.mem_of_getElem? h2,by rw[h3]⟩
  rcases hub with⟨_,_,hn⟩|⟨rfl,hm⟩
  ·exact absurd (List.mem_map.2 ⟨_,hpm,rfl⟩) hn
  ·have:p.2.1=u:=by
    obtain⟨i1,m1⟩:=List.mem_iff_getElem?.1 hpm
    obtain⟨i2,m2⟩:=List.mem_iff_getElem?.1 hm
    have l1:=(List.getElem?_eq_some_iff.1 m1).1
    have:i1=i2:=(List.getElem?_inj (by simpa using l1) h0).1 (by rw[List.getElem?_map,List.getElem?_map,m1,m2];rfl)
    subst this
    rw[m1]at m2;simp only[Option.some.injEq,Prod.mk.injEq,true_and]at m2;exact m2
   rw[h1,this]
   simp
theorem b5r {vs:List Value} {m:Value} {L:List (Int×Int)} {k u:Int} {b:Bool} (ho:o.op= .lookup T x y true) (hx:a0g [x,y] vs x=m) (hy:a0g [x,y] vs y= .int .i64 k) (hu:P.underlying T=some (.map kt et)) (hk:P.underlying kt=some (.int .i64)) (hz:∀w,(zeroValue et).run P w= .ok (.int .i64 0) w) (h:MI H m L)
  (hub:(b=false/\u=0/\k∉L.map (·.1))\/(b=true/\(k,u)∈L)):Rds P o vs H (.tuple #[.int .i64 u,.bool b]):=fun w hw=>by
 rw[c2u ho hx hy hu hk hz h hw u b hub];rfl
theorem a9s {t:TypeId} {vs:List Value} {m:Value} {L:List (Int×Int)} (ho:o.op= .call ⟨.builtin .len,#[x],#[t]⟩) (hx:a0g [x] vs x=m) (hu:P.underlying t=some (.map kt et)) (h:MI H m L):Rds P o vs H (.int .i64 (L.length:Nat)):=by
 obtain⟨h0,r,es,clock,rfl,hH,hkv⟩:=h
 have:=b3O (P:=P) ho hx hu hH
 have e:(mE es).toArray.size=L.length:=by rw[<-hkv];simp[mE,kv]
 rw[e]at this
 exact this
end
end Go.RX

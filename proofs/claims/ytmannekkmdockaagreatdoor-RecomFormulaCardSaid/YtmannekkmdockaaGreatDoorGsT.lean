/- Maps from numbers to numbers, in memory. -/
import Derived.Test.YtmannekkmdockaaGreatDoorGsF
import Derived.Test.YtmannekkmdockaaGreatDoorGsD
import Derived.Test.YtmannekkmdockaaGreatDoorGsB
namespace Go.RX
open Go.RowKit Go.RZ
def mE (es:List (Int×Int×Nat)):List MapEntry:=es.map fun p=>⟨.int .i64 p.1,.int .i64 p.2.1,p.2.2⟩
def kv (es:List (Int×Int×Nat)):List (Int×Int):=es.map fun p=>(p.1,p.2.1)
def MI (H:PH) (m:Value) (L:List (Int×Int)):Prop:=(L.map (·.1)).Nodup/\∃r es clock,m= .map (some r)/\H r=some (.map (mE es).toArray clock)/\kv es=L
def MO (B H:PH) (m:Value) (L:List (Int×Int)):Prop:=(L.map (·.1)).Nodup/\∃r es clock,m= .map (some r)/\B r=none/\H r=some (.map (mE es).toArray clock)/\kv es=L
theorem MO.mi {B H:PH} {m:Value} {L:List (Int×Int)} (h:MO B H m L):MI H m L:=by
 obtain⟨h0,r,es,c,h1,_,h2,h3⟩:=h;exact⟨h0,r,es,c,h1,h2,h3⟩
theorem MO.mono {B H H':PH} {m:Value} {L:List (Int×Int)} (h:MO B H m L) (hl:PH.le H H'):MO B H' m L:=by
 obtain⟨h0,r,es,c,h1,h4,h2,h3⟩:=h;exact⟨h0,r,es,c,h1,h4,hl _ _ h2,h3⟩
theorem MI.mono {H H':PH} {m:Value} {L:List (Int×Int)} (h:MI H m L) (hl:PH.le H H'):MI H' m L:=by
 obtain⟨h0,r,es,c,h1,h2,h3⟩:=h;exact⟨h0,r,es,c,h1,hl _ _ h2,h3⟩
def c2t (L:List (Int×Int)) (k v:Int):List (Int×Int):=if k∈L.map (·.1)then L.map fun p=>if p.1=k then(k,v)else p else L++[(k,v)]
theorem b2b {L:List (Int×Int)} {k v:Int} (h:(L.map (·.1)).Nodup):((c2t L k v).map (·.1)).Nodup:=by
 unfold c2t
 split
 ·rw[List.map_map]
  have:((fun p:Int×Int=>p.1) ∘ fun p:Int×Int=>if p.1=k then(k,v)else p)=fun p:Int×Int=>p.1:=by
   funext p;simp only[Function.comp];split
   ·rename_i e;exact e.symm
   ·rfl
  rw[this];exact h
 ·rename_i hk
  rw[List.map_append,List.nodup_append]
  refine⟨h,by simp,fun a ha b hb=> ?_⟩
  simp only[List.map_cons,List.map_nil,List.mem_singleton]at hb
  subst hb;intro e;subst e;exact hk ha
section
variable {P:Program} {H:PH} {o:Oper} {x y z:Operand} {T kt et:TypeId}
theorem c9t (es:List (Int×Int×Nat)):∀e∈mE es,∃b,e.key= .int .i64 b:=fun e he=>by
 obtain⟨p,_,rfl⟩:=List.mem_map.1 he
 exact⟨p.1,rfl⟩
theorem c0o {L:List (Int×Int)} {es:List (Int×Int×Nat)} (hkv:kv es=L) (k:Int):
  (Instr.findNow (.int .i64) (.int .i64 k) (mE es) 0=some none/\k∉L.map (·.1))\/∃j p,Instr.findNow (.int .i64) (.int .i64 k) (mE es) 0=some (some (j,.int .i64 p.2.1))/\es[j]? =some p/\p.1=k:=by
 rcases a3l (q:= .i64) (n:=k) (mE es) 0 (c9t es)with⟨h1,h2⟩|⟨j,e,h1,h2,h3⟩
 ·refine .inl ⟨h1,fun hk=> ?_⟩
  subst hkv
  unfold kv at hk
  rw[List.map_map]at hk
  obtain⟨p,hp,e⟩:=List.mem_map.1 hk
  exact h2 _ (List.mem_map.2 ⟨p,hp,rfl⟩) (by simp only[Function.comp]at e;rw[<-e])
 ·unfold mE at h2
  rw[List.getElem?_map]at h2
  obtain⟨p,hp,rfl⟩:=Option.map_eq_some_iff.1 h2
  refine .inr ⟨j,p,by rw[h1,Nat.zero_add],hp,?_⟩
  simp only[Value.int.injEq,true_and]at h3;exact h3
theorem b5l {B:PH} {vs:List Value} {m:Value} {L:List (Int×Int)} {k v:Int} (ho:o.op= .mapUpdate T x y z) (hx:a0f [x,y,z] vs x=m) (hy:a0f [x,y,z] vs y= .int .i64 k) (hz:a0f [x,y,z] vs z= .int .i64 v) (hu:P.underlying T=some (.map kt et)) (hk:P.underlying kt=some (.int .i64))
  (hle:PH.le B H) (h:MO B H m L):Opn P o vs H fun u H'=>u=undef/\PH.le B H'/\MO B H' m (c2t L k v)/\∃g ob E c,B g=none/\H g=some (.map E c)/\H'=H.put g ob:=fun w hw=>by
 obtain⟨h0,r,es,clock,rfl,hB,hH,hkv⟩:=h
 have hos:o.op.operands.toList=[x,y,z]:=by simp[ho,Op.operands]
 have hb:=hw _ _ hH
 unfold Stp
 rw[hos]
 have hkeep:∀ob,PH.le B (H.put r ob):=fun ob c cb hc=>by
  rw[PH.put_ne _ _ (fun e=>by subst e;rw[hB]at hc;cases hc)];exact hle _ _ hc
 simp only[execOp,ho,hx,hy,hz,Sem.run_bind,Instr.mapUpdate,run_underlying hu,Result.andThen_ok,a1K hb,a1e hk,Instr.findKey,run_underlying hk]
 rcases c0o hkv k with⟨h1,h2⟩|⟨j,p,h1,h2,h3⟩
 ·rw[h1]
  simp only[Result.andThen_ok,Sem.run_pure,a4O _ hb]
  refine⟨_,Step.setB hw hH _,by first|rfl|trivial,hkeep _,⟨b2b h0,r,es++[(k,v,clock)],clock+1,rfl,hB,?_,?_⟩,r,_,_,_,hB,hH,rfl⟩
  ·rw[PH.put_self];simp[mE]
  ·unfold c2t;rw[if_neg h2,<-hkv];simp[kv]
 ·rw[h1]
  have hst:∀w:World,(Instr.keyThatStays (.int .i64 k) (.int .i64 k)).run P w= .ok (.int .i64 k) w:=fun w=>by simp[Instr.keyThatStays,Instr.sameBits]
  have hje:((mE es).toArray[j]?.map (·.key)).getD (.int .i64 k)= .int .i64 k:=by
   simp[mE,h2,h3]
  simp only[Result.andThen_ok,Sem.run_pure,hje,Sem.run_bind,hst,a4O _ hb]
  refine⟨_,Step.setB hw hH _,by first|rfl|trivial,hkeep _,⟨b2b h0,r,es.set j (k,v,p.2.2),clock,rfl,hB,?_,?_⟩,r,_,_,_,hB,hH,rfl⟩
  ·rw[PH.put_self]
   congr 2
   rw[<-Array.toList_inj]
   simp only[Array.toList_modify]
   apply List.ext_getElem?
   intro i
   simp only[List.getElem?_modify,mE,List.getElem?_map,List.getElem?_set]
   by_cases e:j=i
   ·subst e
    obtain⟨hlt',h5⟩:=List.getElem?_eq_some_iff.1 h2
    simp[hlt',h5,h3]
   ·simp[e]
  ·have hmem:k∈L.map (·.1):=by
    rw[<-hkv]
    unfold kv
    rw[List.map_map]
    exact List.mem_map.2 ⟨p,List.mem_of_getElem? h2,h3⟩
   unfold c2t
   rw[if_pos hmem,<-hkv]
   rw[<-hkv]at h0
   unfold kv at h0⊢
   rw[List.map_map]at h0⊢
   apply List.ext_getElem?
   intro i
   simp only[List.getElem?_map,List.getElem?_set,Function.comp]
   by_cases e:j=i
   ·subst e
    obtain⟨hlt',h5⟩:=List.getElem?_eq_some_iff.1 h2
    simp[hlt',h5,h3]
   ·rw[if_neg e]
    cases hi:es[i]? with
    |none=>rfl
    |some q=>
     have hne:q.1≠k:=fun e2=>e (by
      have l1:=(List.getElem?_eq_some_iff.1 h2).1
      refine(List.getElem?_inj (by simpa using l1) h0).1 ?_
      rw[List.getElem?_map,List.getElem?_map,h2,hi]
      simp[h3,e2])
     simp[hne]
theorem c0p {vs:List Value} {m:Value} {L:List (Int×Int)} {k:Int} {ok:Bool} {w:World} (ho:o.op= .lookup T x y ok) (hx:a0f [x,y] vs x=m) (hy:a0f [x,y] vs y= .int .i64 k) (hu:P.underlying T=some (.map kt et)) (hk:P.underlying kt=some (.int .i64)) (hz:∀w,(zeroValue et).run P w= .ok (.int .i64 0) w) (h:MI H m L) (hw:H.In w) (u:Int) (b:Bool)
  (hub:(b=false/\u=0/\k∉L.map (·.1))\/(b=true/\(k,u)∈L)):(execOp (a0f o.op.operands.toList vs) o).run P w= .ok (.value (if ok then .tuple #[.int .i64 u,.bool b]else .int .i64 u)) w:=by
 obtain⟨h0,r,es,clock,rfl,hH,hkv⟩:=h
 have hos:o.op.operands.toList=[x,y]:=by simp[ho,Op.operands]
 have hb:=hw _ _ hH
 rw[hos]
 simp only[execOp,ho,hx,hy,Sem.run_bind,Instr.lookup,run_underlying hu,Result.andThen_ok,a1K hb,Sem.run_pure,a1e hk,Instr.findKey,run_underlying hk]
 rcases c0o hkv k with⟨h1,h2⟩|⟨j,p,h1,h2,h3⟩
 ·rcases hub with⟨rfl,rfl,_⟩|⟨_,hm⟩
  ·rw[h1]
   simp[hz]
  ·exact absurd (List.mem_map.2 ⟨_,hm,rfl⟩) h2
 ·have hpm:(k,p.2.1)∈L:=by
   rw[<-hkv];unfold kv
   exact List.mem_map.2 ⟨p,List.mem_of_getElem? h2,by rw[h3]⟩
  rcases hub with⟨_,_,hn⟩|⟨rfl,hm⟩
  ·exact absurd (List.mem_map.2 ⟨_,hpm,rfl⟩) hn
  ·have:p.2.1=u:=by
    obtain⟨i1,m1⟩:=List.mem_iff_getElem?.1 hpm
    obtain⟨i2,m2⟩:=List.mem_iff_getElem?.1 hm
    have l1:=(List.getElem?_eq_some_iff.1 m1).1
    have:i1=i2:=(List.getElem?_inj (by simpa using l1) h0).1 (by rw[List.getElem?_map,List.getElem?_map,m1,m2];rfl)
    subst this
    rw[m1]at m2;simp only[Option.some.injEq,Prod.mk.injEq,true_and]at m2;exact m2
   rw[h1,this]
   simp
theorem b0r {vs:List Value} {m:Value} {L:List (Int×Int)} {k u:Int} {b:Bool} (ho:o.op= .lookup T x y true) (hx:a0f [x,y] vs x=m) (hy:a0f [x,y] vs y= .int .i64 k) (hu:P.underlying T=some (.map kt et)) (hk:P.underlying kt=some (.int .i64)) (hz:∀w,(zeroValue et).run P w= .ok (.int .i64 0) w) (h:MI H m L)
  (hub:(b=false/\u=0/\k∉L.map (·.1))\/(b=true/\(k,u)∈L)):Rds P o vs H (.tuple #[.int .i64 u,.bool b]):=fun w hw=>by
 rw[c0p ho hx hy hu hk hz h hw u b hub];rfl
theorem a6A {t:TypeId} {vs:List Value} {m:Value} {L:List (Int×Int)} (ho:o.op= .call ⟨.builtin .len,#[x],#[t]⟩) (hx:a0f [x] vs x=m) (hu:P.underlying t=some (.map kt et)) (h:MI H m L):Rds P o vs H (.int .i64 (L.length:Nat)):=by
 obtain⟨h0,r,es,clock,rfl,hH,hkv⟩:=h
 have:=c3T (P:=P) ho hx hu hH
 have e:(mE es).toArray.size=L.length:=by rw[<-hkv];simp[mE,kv]
 rw[e]at this
 exact this
theorem c0q (ho:o.op= .makeMap T none):Opn P o [] H fun v H'=>PH.le H H'/\MO H H' v []:=fun w hw=>by
 refine(a3f (P:=P) (H:=H) ho w hw).mono ?_
 rintro u w' ⟨H',hs,r,hr,rfl,rfl⟩
 exact⟨_,hs,PH.le_put hr _,List.nodup_nil,r,[],0,rfl,hr,by rw[PH.put_self];rfl,rfl⟩
end
end Go.RX
/- Sets of numbers as maps to true, in memory. -/
namespace Go.RX
open Go.RowKit Go.RZ
def bE (es:List (Int×Nat)):List MapEntry:=es.map fun p=>⟨.int .i64 p.1,.bool true,p.2⟩
def MB (H:PH) (m:Value) (S:List Int):Prop:=S.Nodup/\((m= .map none/\S=[])\/∃r es clock,m= .map (some r)/\H r=some (.map (bE es).toArray clock)/\es.map (·.1)=S)
theorem MB.none (H:PH):MB H (.map none) []:=⟨List.nodup_nil,.inl ⟨rfl,rfl⟩⟩
theorem MB.mono {H H':PH} {m:Value} {S:List Int} (h:MB H m S) (hl:PH.le H H'):MB H' m S:=by
 obtain⟨h0,h|⟨r,es,c,h1,h2,h3⟩⟩:=h
 ·exact⟨h0,.inl h⟩
 ·exact⟨h0,.inr ⟨r,es,c,h1,hl _ _ h2,h3⟩⟩
section
variable {P:Program} {H:PH} {o:Oper} {x y z:Operand} {T kt et:TypeId}
theorem c9u (es:List (Int×Nat)):∀e∈bE es,∃b,e.key= .int .i64 b:=fun e he=>by
 obtain⟨p,_,rfl⟩:=List.mem_map.1 he
 exact⟨p.1,rfl⟩
theorem c9v {S:List Int} {es:List (Int×Nat)} (hkv:es.map (·.1)=S) (k:Int):
  (Instr.findNow (.int .i64) (.int .i64 k) (bE es) 0=some none/\k∉S)\/∃j p,Instr.findNow (.int .i64) (.int .i64 k) (bE es) 0=some (some (j,.bool true))/\es[j]? =some p/\p.1=k:=by
 rcases a3l (q:= .i64) (n:=k) (bE es) 0 (c9u es)with⟨h1,h2⟩|⟨j,e,h1,h2,h3⟩
 ·refine .inl ⟨h1,fun hk=> ?_⟩
  subst hkv
  obtain⟨p,hp,e⟩:=List.mem_map.1 hk
  exact h2 _ (List.mem_map.2 ⟨p,hp,rfl⟩) (by simp only;rw[<-e])
 ·unfold bE at h2
  rw[List.getElem?_map]at h2
  obtain⟨p,hp,rfl⟩:=Option.map_eq_some_iff.1 h2
  refine .inr ⟨j,p,by rw[h1,Nat.zero_add],hp,?_⟩
  simp only[Value.int.injEq,true_and]at h3;exact h3
theorem b2c {vs:List Value} {m:Value} {S:List Int} {k:Int} (ho:o.op= .lookup T x y false) (hx:a0f [x,y] vs x=m) (hy:a0f [x,y] vs y= .int .i64 k) (hu:P.underlying T=some (.map kt et)) (hk:P.underlying kt=some (.int .i64)) (hz:∀w,(zeroValue et).run P w= .ok (.bool false) w) (h:MB H m S):Rds P o vs H (.bool (decide (k∈S))):=fun w hw=>by
 have hos:o.op.operands.toList=[x,y]:=by simp[ho,Op.operands]
 rw[hos]
 obtain⟨h0,⟨rfl,rfl⟩|⟨r,es,clock,rfl,hH,hkv⟩⟩:=h
 ·simp[execOp,ho,hx,hy,Sem.run_bind,Instr.lookup,run_underlying hu,Result.andThen_ok,Sem.run_pure,a1e hk,hz,Instr.findKey,run_underlying hk,Instr.findNow]
 ·have hb:=hw _ _ hH
  simp only[execOp,ho,hx,hy,Sem.run_bind,Instr.lookup,run_underlying hu,Result.andThen_ok,a1K hb,Sem.run_pure,a1e hk,Instr.findKey,run_underlying hk]
  rcases c9v hkv k with⟨h1,h2⟩|⟨j,p,h1,h2,h3⟩
  ·rw[h1]
   simp[hz,h2]
  ·have:k∈S:=by rw[<-hkv];exact List.mem_map.2 ⟨p,List.mem_of_getElem? h2,h3⟩
   rw[h1]
   simp[this]
end
end Go.RX
/- Determinants: expansion by rows and columns, steps without fractions. -/
namespace Go.GS
section
variable {C:Type}
def dx (c:C) (d:List (C->Int)->Int):List (C->Int)->List (C->Int)->Int
 |_,[]=>0
 |pre,x::l=>x c*d (pre++l)-dx c d (pre++[x]) l
def dt:List C->List (C->Int)->Int
 |[],[]=>1
 |[],_::_=>0
 |c::cs,l=>dx c (dt cs) [] l
theorem d2U {l:List (C->Int)} (h:l≠[]):dt [] l=0:=by
 match l,h with
 |_::_,_=>rfl
theorem b0s (l1 l2:List (C->Int)) (x:C->Int):dt [] (l1++x::l2)=0:=d2U (by simp)
theorem d2V {c:C} {d:List (C->Int)->Int} {x r s:C->Int} {t:Int} (h:x c=r c+t*s c) (hd:∀l1 l2,d (l1++x::l2)=d (l1++r::l2)+t*d (l1++s::l2)):∀(l1 l2 pre:List (C->Int)),dx c d pre (l1++x::l2)=dx c d pre (l1++r::l2)+t*dx c d pre (l1++s::l2):=by
 have hb:∀(l p1 p2:List (C->Int)),dx c d (p1++x::p2) l=dx c d (p1++r::p2) l+t*dx c d (p1++s::p2) l:=fun l=>by
  induction l with
  |nil=>intro p1 p2;simp[dx]
  |cons y l ih=>
   intro p1 p2
   simp only[dx]
   have h1:=hd p1 (p2++l)
   have h2:=ih p1 (p2++[y])
   simp only[List.append_assoc,List.cons_append]at h1 h2⊢
   rw[h1,h2]
   grind
 intro l1
 induction l1 with
 |nil=>
  intro l2 pre
  have h2:=hb l2 pre []
  simp only[List.nil_append,dx]
  have h3:=h2
  rw[h2,h]
  have h4:=hd pre l2
  grind
 |cons y l1 ih=>
  intro l2 pre
  simp only[List.cons_append,dx]
  have h1:=hd (pre++l1) l2
  simp only[List.append_assoc]at h1
  rw[ih l2 (pre++[y]),h1]
  grind
theorem a3M {x r s:C->Int} {t:Int}:∀{cs:List C} (_:∀c∈cs,x c=r c+t*s c) (l1 l2:List (C->Int)),dt cs (l1++x::l2)=dt cs (l1++r::l2)+t*dt cs (l1++s::l2)
 |[],_,l1,l2=>by rw[b0s,b0s,b0s];simp
 |c::cs,h,l1,l2=>d2V (h c (by simp)) (fun a b=>a3M (fun e he=>h e (by simp[he])) a b) l1 l2 []
theorem c0r {x r:C->Int} {cs:List C} (h:∀c∈cs,x c=r c) (l1 l2:List (C->Int)):dt cs (l1++x::l2)=dt cs (l1++r::l2):=by
 have:=a3M (x:=x) (r:=r) (s:=r) (t:=0) (fun c hc=>by rw[h c hc];simp) l1 l2
 simpa using this
theorem d2W {c:C} {d:List (C->Int)->Int} {x y:C->Int} (h:x c=y c) (hd:∀l1 l2,d (l1++x::y::l2)=0) (he:∀l1 l2,d (l1++x::l2)=d (l1++y::l2)):∀(l1 l2 pre:List (C->Int)),dx c d pre (l1++x::y::l2)=0:=by
 have hb:∀(l p1 p2:List (C->Int)),dx c d (p1++x::y::p2) l=0:=fun l=>by
  induction l with
  |nil=>intro p1 p2;simp[dx]
  |cons z l ih=>
   intro p1 p2
   simp only[dx]
   have h1:=hd p1 (p2++l)
   have h2:=ih p1 (p2++[z])
   simp only[List.append_assoc,List.cons_append]at h1 h2⊢
   rw[h1,h2];simp
 intro l1
 induction l1 with
 |nil=>
  intro l2 pre
  have h2:=hb l2 pre []
  simp only[List.nil_append,dx,List.append_assoc,List.cons_append]at h2⊢
  rw[h2,h,he pre l2]
  grind
 |cons z l1 ih=>
  intro l2 pre
  simp only[List.cons_append,dx]
  have h1:=hd (pre++l1) l2
  simp only[List.append_assoc]at h1
  rw[ih l2 (pre++[z]),h1];simp
theorem b2d {x y:C->Int}:∀{cs:List C} (_:∀c∈cs,x c=y c) (l1 l2:List (C->Int)),dt cs (l1++x::y::l2)=0
 |[],_,l1,l2=>b0s _ _ _
 |c::cs,h,l1,l2=>d2W (h c (by simp)) (fun a b=>b2d (fun e he=>h e (by simp[he])) a b) (fun a b=>c0r (fun e he=>h e (by simp[he])) a b) l1 l2 []
theorem b3z (cs:List C) (x y:C->Int) (l1 l2:List (C->Int)):dt cs (l1++x::y::l2)= -dt cs (l1++y::x::l2):=by
 have hz:∀c∈cs,(fun c=>x c+y c) c=x c+1*y c:=fun c _=>by simp
 have h0:=b2d (x:=fun c=>x c+y c) (y:=fun c=>x c+y c) (cs:=cs) (fun _ _=>rfl) l1 l2
 rw[a3M hz]at h0
 have h1:=a3M hz (l1++[x]) l2
 have h2:=a3M hz (l1++[y]) l2
 simp only[List.append_assoc,List.cons_append,List.nil_append]at h1 h2
 rw[h1,h2,b2d (x:=x) (y:=x) (fun _ _=>rfl),b2d (x:=y) (y:=y) (fun _ _=>rfl)]at h0
 omega
theorem b5m {x y:C->Int} {cs:List C} (h:∀c∈cs,x c=y c) (l3:List (C->Int)):∀(l2 l1:List (C->Int)),dt cs (l1++x::(l2++y::l3))=0
 |[],l1=>b2d h l1 l3
 |w::l2,l1=>by
  rw[List.cons_append,b3z]
  have:=b5m h l3 l2 (l1++[w])
  simp only[List.append_assoc,List.cons_append,List.nil_append]at this
  rw[this];simp
theorem c0s {x y z:C->Int} {t:Int} {cs:List C} (h:∀c∈cs,z c=x c+t*y c) (l1 l2 l3:List (C->Int)):dt cs (l1++z::(l2++y::l3))=dt cs (l1++x::(l2++y::l3)):=by
 rw[a3M h,b5m (fun _ _=>rfl)];simp
theorem c0t {x y z:C->Int} {t:Int} {cs:List C} (h:∀c∈cs,z c=x c+t*y c) (l1 l2 l3:List (C->Int)):dt cs (l1++y::(l2++z::l3))=dt cs (l1++y::(l2++x::l3)):=by
 have h1:=a3M h (l1++y::l2) l3
 simp only[List.append_assoc,List.cons_append]at h1
 rw[h1,b5m (fun _ _=>rfl)];simp
def ex (r:C->Int) (l:List (C->Int)):List C->List C->Int
 |_,[]=>0
 |pre,c::cs=>r c*dt (pre++cs) l-ex r l (pre++[c]) cs
theorem c0u {c:C} {d e g:List (C->Int)->Int} {t:Int} (h:∀l,g l=t*d l-e l):∀(l pre:List (C->Int)),dx c g pre l=t*dx c d pre l-dx c e pre l
 |[],_=>by simp[dx]
 |x::l,pre=>by
  simp only[dx]
  rw[c0u h l (pre++[x]),h]
  grind
theorem c0v {c:C}:∀(l pre:List (C->Int)),dx c (fun _=>0) pre l=0
 |[],_=>rfl
 |x::l,pre=>by simp only[dx];rw[c0v l];simp
theorem b5n {c:C} {d:List (C->Int)->Int} (r:C->Int):∀(l pre:List (C->Int)),dx c d (r::pre) l=dx c (fun m=>d (r::m)) pre l
 |[],_=>rfl
 |x::l,pre=>by
  simp only[dx]
  rw[<-b5n r l (pre++[x])]
  rfl
theorem d2X {c:C} {r:C->Int} (l:List (C->Int)):∀(cs pre:List C),dx c (fun m=>ex r m pre cs) [] l=ex r l (c::pre) cs
 |[],pre=>by simp only[ex];exact c0v l []
 |e::cs,pre=>by
  rw[c0u (g:=fun m=>ex r m pre (e::cs)) (d:=dt (pre++cs)) (e:=fun m=>ex r m (pre++[e]) cs) (t:=r e) (fun m=>rfl),d2X l cs (pre++[e])]
  rfl
theorem b5o (r:C->Int):∀(cs:List C) (l:List (C->Int)),dt cs (r::l)=ex r l [] cs
 |[],_=>rfl
 |c::cs,l=>by
  show dx c (dt cs) [] (r::l)=_
  simp only[dx,ex,List.nil_append]
  have h:=b5n (c:=c) (d:=dt cs) r l []
  rw[h,show(fun m=>dt cs (r::m))=fun m=>ex r m [] cs from funext fun m=>b5o r cs m,d2X]
end
theorem d2Y {R C:Type} (f:R->C->Int) (r:R) (l:List R) (ih:∀cs:List C,dt cs (l.map f)=dt l (cs.map fun c s=>f s c)):∀(cs pre:List C),ex (f r) (l.map f) pre cs=dx r (dt l) (pre.map fun c s=>f s c) (cs.map fun c s=>f s c)
 |[],_=>rfl
 |c::cs,pre=>by
  simp only[ex,List.map_cons,dx]
  rw[ih,d2Y f r l ih cs (pre++[c]),List.map_append,List.map_append]
  rfl
theorem d2Z {R C:Type} (f:R->C->Int):∀(l:List R) (cs:List C),dt cs (l.map f)=dt l (cs.map fun c s=>f s c)
 |[],[]=>rfl
 |[],c::cs=>rfl
 |r::l,cs=>by
  rw[List.map_cons,b5o]
  exact d2Y f r l (fun cs=>d2Z f l cs) cs []
theorem b2e {C:Type} (l:List (C->Int)) (cs:List C):dt cs l=dt l (cs.map fun c s=>s c):=by
 have:=d2Z (fun(x:C->Int) c=>x c) l cs
 simpa using this
section
variable {C:Type}
theorem c9w {l:List (C->Int)} {a b:C} (h:∀r∈l,r a=r b) (c1 c2 c3:List C):dt (c1++a::(c2++b::c3)) l=0:=by
 rw[b2e]
 simp only[List.map_append,List.map_cons]
 exact b5m (fun r hr=>h r hr) _ _ _
theorem c9x {l:List (C->Int)} {a b z:C} (h:∀r∈l,r z=r a+r b) (c1 c2 c3:List C):dt (c1++z::(c2++b::c3)) l=dt (c1++a::(c2++b::c3)) l:=by
 rw[b2e,b2e l]
 simp only[List.map_append,List.map_cons]
 exact c0s (t:=1) (fun r hr=>by simp[h r hr]) _ _ _
theorem c4u {l:List (C->Int)} {a b z:C} (h:∀r∈l,r z=r a+r b) (c1 c2 c3:List C):dt (c1++b::(c2++z::c3)) l=dt (c1++b::(c2++a::c3)) l:=by
 rw[b2e,b2e l]
 simp only[List.map_append,List.map_cons]
 exact c0t (t:=1) (fun r hr=>by simp[h r hr]) _ _ _
def sg:Nat->Int
 |0=>1
 |n+1=> -sg n
theorem d3a:∀n,sg n*sg n=1
 |0=>rfl
 |n+1=>by simp only[sg];have:=d3a n;grind
theorem b5p (cs:List C) (x:C->Int) (r2:List (C->Int)):∀(r1 p:List (C->Int)),dt cs (p++(r1++x::r2))=sg r1.length*dt cs (p++x::(r1++r2))
 |[],p=>by simp[sg]
 |y::r1,p=>by
  have h:=b5p cs x r2 r1 (p++[y])
  simp only[List.append_assoc,List.cons_append,List.nil_append]at h⊢
  rw[h,b3z]
  simp only[List.length_cons,sg]
  grind
theorem b3A {r:C->Int} {l:List (C->Int)}:∀{cs:List C} (_:∀c∈cs,r c=0) (pre:List C),ex r l pre cs=0
 |[],_,_=>rfl
 |c::cs,h,pre=>by
  simp only[ex]
  rw[h c (by simp),b3A (fun e he=>h e (by simp[he]))];simp
theorem c6x {r:C->Int} {l:List (C->Int)} {w:C} {c2:List C} (h2:∀c∈c2,r c=0):∀{c1:List C} (_:∀c∈c1,r c=0) (pre:List C),ex r l pre (c1++w::c2)=sg c1.length*(r w*dt (pre++(c1++c2)) l)
 |[],_,pre=>by
  simp only[List.nil_append,ex,sg,List.length_nil]
  rw[b3A h2];simp
 |c::c1,h,pre=>by
  simp only[List.cons_append,ex,List.length_cons,sg]
  rw[h c (by simp),c6x h2 (fun e he=>h e (by simp[he])) (pre++[c])]
  simp only[List.append_assoc,List.cons_append,List.nil_append]
  grind
theorem c9y {r:C->Int} {w:C} {c1 c2:List C} {r1 r2:List (C->Int)} (h1:∀c∈c1,r c=0) (h2:∀c∈c2,r c=0) (hl:r1.length=c1.length):dt (c1++w::c2) (r1++r::r2)=r w*dt (c1++c2) (r1++r2):=by
 have h:=b5p (c1++w::c2) r r2 r1 []
 simp only[List.nil_append]at h
 rw[h,b5o,c6x h2 h1,hl]
 have:=d3a c1.length
 simp only[List.nil_append]
 grind
def b0U:List Int->List (C->Int)->C->Int
 |w::ws,x::l,c=>w*x c+b0U ws l c
 |_,_,_=>0
theorem c0w (d:List (C->Int)->Int):∀(l pre:List (C->Int)),∃ws:List Int,ws.length=l.length/\∀c,dx c d pre l=b0U ws l c
 |[],_=>⟨[],rfl,fun _=>rfl⟩
 |x::l,pre=>by
  obtain⟨ws,hl,hw⟩:=c0w d l (pre++[x])
  refine⟨d (pre++l)::ws.map (fun w=> -w),by simp[hl],fun c=> ?_⟩
  simp only[dx,b0U]
  rw[hw]
  have hn:∀(us:List Int) (m:List (C->Int)),b0U (us.map fun w=> -w) m c= -b0U us m c:=fun us=>by
   induction us with
   |nil=>intro m;simp[b0U]
   |cons u us ih=>
    intro m
    cases m with
    |nil=>simp[b0U]
    |cons y m=>simp only[List.map_cons,b0U];rw[ih];grind
  rw[hn]
  grind
theorem c0x {cs:List C} {t:Int}:∀(m p l1:List (C->Int)) (ws:List Int) (r z:C->Int) (_:ws.length=m.length) (_:∀c∈cs,z c=t*r c+b0U ws m c),dt cs (l1++z::(p++m))=t*dt cs (l1++r::(p++m))
 |[],p,l1,ws,r,z,hl,h=>by
  have h0:=a3M (x:=z) (r:=fun _=>0) (s:=r) (t:=t) (cs:=cs) (fun c hc=>by rw[h c hc];cases ws<;>simp[b0U]) l1 (p++[])
  have h1:=a3M (x:=fun _:C=>0) (r:=fun _=>0) (s:=fun _=>0) (t:=1) (cs:=cs) (fun c hc=>by simp) l1 (p++[])
  rw[h0];omega
 |a::m,p,l1,w::ws,r,z,hl,h=>by
  have h1:=c0x (cs:=cs) (t:=t) m (p++[a]) l1 ws r (fun c=>t*r c+b0U ws m c) (by simpa using hl) (fun _ _=>rfl)
  simp only[List.append_assoc,List.cons_append,List.nil_append]at h1
  rw[<-h1]
  refine c0s (t:=w) (fun c hc=> ?_) l1 p m
  rw[h c hc];simp only[b0U];grind
theorem c9z (B:List C) (A:List (C->Int)) (r s:C->Int) (c d:C):dt B A*dt (d::c::B) (s::r::A)=dt (c::B) (r::A)*dt (d::B) (s::A)-dt (d::B) (r::A)*dt (c::B) (s::A):=by
 obtain⟨ws,hl,hw⟩:=c0w (dt B) A [r]
 have hg:∀e,dt (e::B) (r::A)=dt B A*r e+b0U (ws.map fun w=> -w) A e:=fun e=>by
  show dx e (dt B) [] (r::A)=_
  simp only[dx,List.nil_append]
  rw[hw]
  have hn:∀(us:List Int) (m:List (C->Int)),b0U (us.map fun w=> -w) m e= -b0U us m e:=fun us=>by
   induction us with
   |nil=>intro m;simp[b0U]
   |cons u us ih=>
    intro m
    cases m with
    |nil=>simp[b0U]
    |cons y m=>simp only[List.map_cons,b0U];rw[ih];grind
  rw[hn];grind
 have h1:=c0x (cs:=d::c::B) (t:=dt B A) A [] [s] (ws.map fun w=> -w) r (fun e=>dt (e::B) (r::A)) (by simpa using hl) (fun e _=>hg e)
 simp only[List.nil_append,List.cons_append]at h1
 rw[<-h1]
 have hz:∀e∈B,dt (e::B) (r::A)=0:=fun e he=>by
  obtain⟨b1,b2,rfl⟩:=List.append_of_mem he
  exact c9w (a:=e) (b:=e) (fun _ _=>rfl) [] b1 b2
 have h2:=b3z (d::c::B) s (fun e=>dt (e::B) (r::A)) [] A
 simp only[List.nil_append]at h2
 rw[h2,b5o]
 simp only[ex,List.nil_append,List.cons_append]
 rw[b3A hz]
 grind
end
end Go.GS
/- Laplacians of graphs: an edge is left out or contracted. -/
namespace Go.GS
def dl (e:Nat×Nat) (u:Nat->Int):Int:=u e.1-u e.2
def Fm:List (Nat×Nat)->(Nat->Int)->(Nat->Int)->Int
 |[],_,_=>0
 |e::E,u,v=>dl e u*dl e v+Fm E u v
def c0y (u v:Nat->Int):Nat->Int:=fun a=>u a+v a
theorem b5q (e:Nat×Nat) (u v:Nat->Int):dl e (c0y u v)=dl e u+dl e v:=by unfold dl c0y;omega
theorem c0z (E:List (Nat×Nat)) (u v w:Nat->Int):Fm E u (c0y v w)=Fm E u v+Fm E u w:=by
 induction E with
 |nil=>rfl
 |cons e E ih=>simp only[Fm];rw[ih,b5q];grind
theorem c0A (E:List (Nat×Nat)) (u v w:Nat->Int):Fm E (c0y v w) u=Fm E v u+Fm E w u:=by
 induction E with
 |nil=>rfl
 |cons e E ih=>simp only[Fm];rw[ih,b5q];grind
def Dv (E:List (Nat×Nat)) (V:List (Nat->Int)):Int:=dt V (V.map (Fm E))
theorem c0B {e:Nat×Nat} {E:List (Nat×Nat)} {u:Nat->Int} (h:dl e u=0):Fm (e::E) u=Fm E u:=funext fun v=>by simp only[Fm];rw[h];simp
theorem a6B {e:Nat×Nat} {E:List (Nat×Nat)}:∀{V:List (Nat->Int)} (_:∀u∈V,dl e u=0),V.map (Fm (e::E))=V.map (Fm E)
 |[],_=>rfl
 |u::V,h=>by rw[List.map_cons,List.map_cons,c0B (h u (by simp)),a6B fun x hx=>h x (by simp[hx])]
theorem c0C {e:Nat×Nat} {E:List (Nat×Nat)} {V:List (Nat->Int)} (h:∀u∈V,dl e u=0):Dv (e::E) V=Dv E V:=by
 unfold Dv;rw[a6B h]
theorem c0D {e:Nat×Nat} {E:List (Nat×Nat)} {l1 l2:List (Nat->Int)} {w:Nat->Int} (hw:dl e w*dl e w=1) (h1:∀u∈l1,dl e u=0) (h2:∀u∈l2,dl e u=0):Dv (e::E) (l1++w::l2)=Dv E (l1++w::l2)+Dv E (l1++l2):=by
 unfold Dv
 simp only[List.map_append,List.map_cons]
 rw[a6B h1,a6B h2,a3M (x:=Fm (e::E) w) (r:=Fm E w) (s:=dl e) (t:=dl e w) (fun c _=>by simp only[Fm];grind),c9y h1 h2 (by simp)]
 grind
theorem d3b {e:Nat×Nat} {E:List (Nat×Nat)} {l1 l2 l3:List (Nat->Int)} {u w:Nat->Int} (hw:dl e w*dl e w=1) (hu:dl e u+dl e w=0) (h1:∀u∈l1,dl e u=0) (h2:∀u∈l2,dl e u=0) (h3:∀u∈l3,dl e u=0):
  Dv (e::E) (l1++u::(l2++w::l3))=Dv E (l1++u::(l2++w::l3))+Dv E (l1++c0y u w::(l2++l3)):=by
 have hm:∀E',Dv E' (l1++c0y u w::(l2++w::l3))=Dv E' (l1++u::(l2++w::l3)):=fun E'=>by
  unfold Dv
  rw[c9x (fun r hr=>by obtain⟨v,_,rfl⟩:=List.mem_map.1 hr;exact c0z E' v u w)]
  simp only[List.map_append,List.map_cons]
  exact c0s (t:=1) (fun c _=>by rw[c0A];omega) _ _ _
 rw[<-hm,<-hm]
 have h:=c0D (E:=E) (l1:=l1++c0y u w::l2) (l2:=l3) hw (fun v hv=>by
  rcases List.mem_append.1 hv with hv|hv
  ·exact h1 v hv
  ·rcases List.mem_cons.1 hv with rfl|hv
   ·rw[b5q];exact hu
   ·exact h2 v hv) h3
 simpa using h
theorem c9A {e:Nat×Nat} {E:List (Nat×Nat)} {l1 l2 l3:List (Nat->Int)} {u w:Nat->Int} (hw:dl e w*dl e w=1) (hu:dl e u+dl e w=0) (h1:∀u∈l1,dl e u=0) (h2:∀u∈l2,dl e u=0) (h3:∀u∈l3,dl e u=0):
  Dv (e::E) (l1++w::(l2++u::l3))=Dv E (l1++w::(l2++u::l3))+Dv E (l1++(l2++c0y u w::l3)):=by
 have hm:∀E',Dv E' (l1++w::(l2++c0y u w::l3))=Dv E' (l1++w::(l2++u::l3)):=fun E'=>by
  unfold Dv
  rw[c4u (fun r hr=>by obtain⟨v,_,rfl⟩:=List.mem_map.1 hr;exact c0z E' v u w)]
  simp only[List.map_append,List.map_cons]
  exact c0t (t:=1) (fun c _=>by rw[c0A];omega) _ _ _
 rw[<-hm,<-hm]
 exact c0D (E:=E) (l1:=l1) (l2:=l2++c0y u w::l3) hw h1 (fun v hv=>by
  rcases List.mem_append.1 hv with hv|hv
  ·exact h2 v hv
  ·rcases List.mem_cons.1 hv with rfl|hv
   ·rw[b5q];exact hu
   ·exact h3 v hv)
def cv (lab:Nat->Nat) (x:Nat):Nat->Int:=fun a=>if lab a=x then 1 else 0
def mg (lab:Nat->Nat) (q p:Nat):Nat->Nat:=fun a=>if lab a=q then p else lab a
def Dg (E:List (Nat×Nat)) (lab:Nat->Nat) (V:List Nat):Int:=Dv E (V.map (cv lab))
theorem b2f (e:Nat×Nat) (lab:Nat->Nat) (x:Nat):dl e (cv lab x)=(if lab e.1=x then 1 else 0)-(if lab e.2=x then 1 else 0):=rfl
theorem d3c {e:Nat×Nat} {lab:Nat->Nat} {x:Nat} (h1:lab e.1≠x) (h2:lab e.2≠x):dl e (cv lab x)=0:=by rw[b2f,if_neg h1,if_neg h2];rfl
theorem c4v {lab:Nat->Nat} {q p x:Nat} (h1:x≠p) (h2:x≠q):cv (mg lab q p) x=cv lab x:=funext fun a=>by
 unfold cv mg
 by_cases h:lab a=q
 ·rw[if_pos h,if_neg (fun hh=>h1 hh.symm),if_neg (by rw[h];exact fun hh=>h2 hh.symm)]
 ·rw[if_neg h]
theorem d3d {lab:Nat->Nat} {q p:Nat} (h:p≠q):cv (mg lab q p) p=c0y (cv lab p) (cv lab q):=funext fun a=>by
 show(if mg lab q p a=p then(1:Int)else 0)=(if lab a=p then 1 else 0)+(if lab a=q then 1 else 0)
 unfold mg
 by_cases h1:lab a=q
 ·rw[if_pos h1,if_pos rfl,if_neg (by rw[h1];exact fun hh=>h hh.symm),if_pos h1];rfl
 ·rw[if_neg h1,if_neg h1];omega
theorem a5e {lab:Nat->Nat} {q p:Nat} {l:List Nat} (h1:p∉l) (h2:q∉l):l.map (cv (mg lab q p))=l.map (cv lab):=List.map_congr_left fun x hx=>c4v (fun hh=>h1 (hh ▸ hx)) (fun hh=>h2 (hh ▸ hx))
theorem b3B {e:Nat×Nat} {lab:Nat->Nat} {l:List Nat} (h1:lab e.1∉l) (h2:lab e.2∉l):∀u∈l.map (cv lab),dl e u=0:=fun u hu=>by
 obtain⟨x,hx,rfl⟩:=List.mem_map.1 hu
 exact d3c (fun hh=>h1 (hh ▸ hx)) (fun hh=>h2 (hh ▸ hx))
section
variable {e:Nat×Nat} {E:List (Nat×Nat)} {lab:Nat->Nat} {V l1 l2 l3:List Nat} {p q:Nat}
theorem b3C (h:lab e.1=lab e.2):Dg (e::E) lab V=Dg E lab V:=c0C fun u hu=>by
 obtain⟨x,hx,rfl⟩:=List.mem_map.1 hu
 rw[b2f,h];omega
theorem c0E (h1:lab e.1∉V) (h2:lab e.2∉V):Dg (e::E) lab V=Dg E lab V:=c0C (b3B h1 h2)
def Ends (lab:Nat->Nat) (e:Nat×Nat) (p q:Nat):Prop:=p≠q/\(lab e.1=p/\lab e.2=q\/lab e.1=q/\lab e.2=p)
theorem Ends.sym (h:Ends lab e p q):Ends lab e q p:=⟨fun hh=>h.1 hh.symm,h.2.symm⟩
theorem Ends.off (h:Ends lab e p q) {l:List Nat} (h1:p∉l) (h2:q∉l):∀u∈l.map (cv lab),dl e u=0:=by
 rcases h.2 with⟨a,b⟩|⟨a,b⟩
 ·exact b3B (by rw[a];exact h1) (by rw[b];exact h2)
 ·exact b3B (by rw[a];exact h2) (by rw[b];exact h1)
theorem Ends.sq (h:Ends lab e p q):dl e (cv lab p)*dl e (cv lab p)=1/\dl e (cv lab q)+dl e (cv lab p)=0:=by
 rw[b2f,b2f]
 rcases h.2 with⟨a,b⟩|⟨a,b⟩
 ·rw[a,b,if_pos rfl,if_neg fun hh=>h.1 hh.symm,if_neg h.1,if_pos rfl];decide
 ·rw[a,b,if_pos rfl,if_neg fun hh=>h.1 hh.symm,if_neg h.1,if_pos rfl];decide
theorem d3e (h:Ends lab e p q) (hp1:p∉l1) (hp2:p∉l2) (hq1:q∉l1) (hq2:q∉l2):Dg (e::E) lab (l1++p::l2)=Dg E lab (l1++p::l2)+Dg E (mg lab p q) (l1++l2):=by
 unfold Dg
 simp only[List.map_append,List.map_cons]
 rw[c0D h.sq.1 (h.off hp1 hq1) (h.off hp2 hq2),a5e hq1 hp1,a5e hq2 hp2]
theorem d3f (h:Ends lab e p q) (hp1:p∉l1) (hp2:p∉l2) (hp3:p∉l3) (hq1:q∉l1) (hq2:q∉l2) (hq3:q∉l3):Dg (e::E) lab (l1++p::(l2++q::l3))=Dg E lab (l1++p::(l2++q::l3))+Dg E (mg lab q p) (l1++p::(l2++l3)):=by
 unfold Dg
 simp only[List.map_append,List.map_cons]
 rw[d3b h.sym.sq.1 (by have:=h.sq.2;omega) (h.off hp1 hq1) (h.off hp2 hq2) (h.off hp3 hq3),a5e hp1 hq1,a5e hp2 hq2,a5e hp3 hq3,d3d h.1]
theorem c9B (h:Ends lab e p q) (hp1:p∉l1) (hp2:p∉l2) (hp3:p∉l3) (hq1:q∉l1) (hq2:q∉l2) (hq3:q∉l3):Dg (e::E) lab (l1++q::(l2++p::l3))=Dg E lab (l1++q::(l2++p::l3))+Dg E (mg lab q p) (l1++(l2++p::l3)):=by
 unfold Dg
 simp only[List.map_append,List.map_cons]
 rw[c9A h.sym.sq.1 (by have:=h.sq.2;omega) (h.off hp1 hq1) (h.off hp2 hq2) (h.off hp3 hq3),a5e hp1 hq1,a5e hp2 hq2,a5e hp3 hq3,d3d h.1]
end
end Go.GS

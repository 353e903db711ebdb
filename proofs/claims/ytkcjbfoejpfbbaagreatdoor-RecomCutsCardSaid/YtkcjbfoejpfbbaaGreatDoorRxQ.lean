/- Sets of numbers as maps to true, in memory. -/
import Derived.Test.YtkcjbfoejpfbbaaGreatDoorRxZ
import Derived.Test.YtkcjbfoejpfbbaaGreatDoorRzD
namespace Go.RX
open Go.RowKit Go.RZ
def bE (es:List (Int×Nat)):List MapEntry:=es.map fun p=>⟨.int .i64 p.1,.bool true,p.2⟩
def MB (H:PH) (m:Value) (S:List Int):Prop:=S.Nodup/\((m= .map none/\S=[])\/∃r es clock,m= .map (some r)/\H r=some (.map (bE es).toArray clock)/\es.map (·.1)=S)
def MBO (B H:PH) (m:Value) (S:List Int):Prop:=S.Nodup/\∃r es clock,m= .map (some r)/\B r=none/\H r=some (.map (bE es).toArray clock)/\es.map (·.1)=S
theorem MB.none (H:PH):MB H (.map none) []:=⟨List.nodup_nil,.inl ⟨rfl,rfl⟩⟩
theorem MBO.mb {B H:PH} {m:Value} {S:List Int} (h:MBO B H m S):MB H m S:=by
 obtain⟨h0,r,es,c,h1,_,h2,h3⟩:=h;exact⟨h0,.inr ⟨r,es,c,h1,h2,h3⟩⟩
theorem MBO.mono {B H H':PH} {m:Value} {S:List Int} (h:MBO B H m S) (hl:PH.le H H'):MBO B H' m S:=by
 obtain⟨h0,r,es,c,h1,h4,h2,h3⟩:=h;exact⟨h0,r,es,c,h1,h4,hl _ _ h2,h3⟩
theorem MB.mono {H H':PH} {m:Value} {S:List Int} (h:MB H m S) (hl:PH.le H H'):MB H' m S:=by
 obtain⟨h0,h|⟨r,es,c,h1,h2,h3⟩⟩:=h
 ·exact⟨h0,.inl h⟩
 ·exact⟨h0,.inr ⟨r,es,c,h1,hl _ _ h2,h3⟩⟩
section
variable {P:Program} {H:PH} {o:Oper} {x y z:Operand} {T kt et:TypeId}
theorem d1i (es:List (Int×Nat)):∀e∈bE es,∃b,e.key= .int .i64 b:=fun e he=>by
 obtain⟨p,_,rfl⟩:=List.mem_map.1 he
 exact⟨p.1,rfl⟩
theorem b2K {S:List Int} {es:List (Int×Nat)} (hkv:es.map (·.1)=S) (k:Int):
  (Instr.findNow (.int .i64) (.int .i64 k) (bE es) 0=some none/\k∉S)\/∃j p,Instr.findNow (.int .i64) (.int .i64 k) (bE es) 0=some (some (j,.bool true))/\es[j]? =some p/\p.1=k:=by
 rcases a2M (q:= .i64) (n:=k) (bE es) 0 (d1i es)with⟨h1,h2⟩|⟨j,e,h1,h2,h3⟩
 ·refine .inl ⟨h1,fun hk=> ?_⟩
  subst hkv
  obtain⟨p,hp,e⟩:=List.mem_map.1 hk
  exact h2 _ (List.mem_map.2 ⟨p,hp,rfl⟩) (by simp only;rw[<-e])
 ·unfold bE at h2
  rw[List.getElem?_map]at h2
  obtain⟨p,hp,rfl⟩:=Option.map_eq_some_iff.1 h2
  refine .inr ⟨j,p,by rw[h1,Nat.zero_add],hp,?_⟩
  simp only[Value.int.injEq,true_and]at h3;exact h3
theorem b5s {B:PH} {vs:List Value} {m:Value} {S:List Int} {k:Int} (ho:o.op= .mapUpdate T x y z) (hx:a0g [x,y,z] vs x=m) (hy:a0g [x,y,z] vs y= .int .i64 k) (hz:a0g [x,y,z] vs z= .bool true) (hu:P.underlying T=some (.map kt et)) (hk:P.underlying kt=some (.int .i64)) (hkn:k∉S)
  (hle:PH.le B H) (h:MBO B H m S):Opn P o vs H fun u H'=>u=undef/\PH.le B H'/\MBO B H' m (S++[k])/\∃g ob E c,m= .map (some g)/\B g=none/\H g=some (.map E c)/\H'=H.put g ob:=fun w hw=>by
 obtain⟨h0,r,es,clock,rfl,hB,hH,hkv⟩:=h
 have hos:o.op.operands.toList=[x,y,z]:=by simp[ho,Op.operands]
 have hb:=hw _ _ hH
 unfold Stp
 rw[hos]
 have hkeep:∀ob,PH.le B (H.put r ob):=fun ob c cb hc=>by
  rw[PH.put_ne _ _ (fun e=>by subst e;rw[hB]at hc;cases hc)];exact hle _ _ hc
 simp only[execOp,ho,hx,hy,hz,Sem.run_bind,Instr.mapUpdate,run_underlying hu,Result.andThen_ok,a1K hb,a1n hk,Instr.findKey,run_underlying hk]
 rcases b2K hkv k with⟨h1,h2⟩|⟨j,p,h1,h2,h3⟩
 ·rw[h1]
  simp only[Result.andThen_ok,Sem.run_pure,a3v _ hb]
  refine⟨_,Step.setB hw hH _,by first|rfl|trivial,hkeep _,⟨?_,r,es++[(k,clock)],clock+1,rfl,hB,?_,?_⟩,r,_,_,_,rfl,hB,hH,rfl⟩
  ·rw[List.nodup_append]
   exact⟨h0,by simp,fun a ha b hb=>by simp only[List.mem_singleton]at hb;subst hb;intro e;subst e;exact hkn ha⟩
  ·rw[PH.put_self];simp[bE]
  ·rw[List.map_append,hkv];rfl
 ·exact absurd (by rw[<-hkv];exact List.mem_map.2 ⟨p,List.mem_of_getElem? h2,h3⟩) hkn
theorem c5G {B:PH} {vs:List Value} {m:Value} {S:List Int} {k:Int} (ho:o.op= .call ⟨.builtin .delete,#[x,y],#[T,kt]⟩) (hx:a0g [x,y] vs x=m) (hy:a0g [x,y] vs y= .int .i64 k) (hu:P.underlying T=some (.map kt et)) (hk:P.underlying kt=some (.int .i64))
  (hle:PH.le B H) (h:MBO B H m (S++[k])):Opn P o vs H fun u H'=>u= .tuple #[]/\PH.le B H'/\MBO B H' m S/\∃g ob E c,m= .map (some g)/\B g=none/\H g=some (.map E c)/\H'=H.put g ob:=fun w hw=>by
 obtain⟨h0,r,es,clock,rfl,hB,hH,hkv⟩:=h
 have hos:o.op.operands.toList=[x,y]:=by simp[ho,Op.operands,Call.operands]
 have hb:=hw _ _ hH
 unfold Stp
 rw[hos]
 have hkeep:∀ob,PH.le B (H.put r ob):=fun ob c cb hc=>by
  rw[PH.put_ne _ _ (fun e=>by subst e;rw[hB]at hc;cases hc)];exact hle _ _ hc
 simp only[execOp,ho,resolve,invoke,Sem.run_bind,Sem.run_pure,Result.andThen_ok,List.map_toArray,List.map_cons,List.map_nil,hx,hy,builtin]
 rcases b2K hkv k with⟨h1,h2⟩|⟨j,p,h1,h2,h3⟩
 ·exact absurd (by simp) h2
 ·have hj:j=S.length/\es.length=S.length+1:=by
   have hl:es.length=S.length+1:=by have:=congrArg List.length hkv;simpa using this
   have hj:=(List.getElem?_eq_some_iff.1 h2).1
   refine⟨?_,hl⟩
   have e1:(S++[k])[j]? =some k:=by rw[<-hkv,List.getElem?_map,h2,Option.map_some,h3]
   have e2:(S++[k])[S.length]? =some k:=by simp
   exact(List.getElem?_inj (by simp;omega) h0).1 (e1.trans e2.symm)
  have hr:(Builtin.delete_ #[T,kt] o.type #[.map (some r),.int .i64 k]).run P w= .ok (.tuple #[]) {w with heap:=w.heap.setIfInBounds r (.map ((bE es).toArray.eraseIdxIfInBounds j) clock)}:=by
   simp[Builtin.delete_,run_underlying hu,a1K hb,a1n hk,Instr.findKey,run_underlying hk,h1,a3v _ hb]
  rw[hr]
  refine⟨_,Step.setB hw hH _,rfl,hkeep _,⟨(List.nodup_append.1 h0).1,r,es.take S.length,clock,rfl,hB,?_,?_⟩,r,_,_,_,rfl,hB,hH,rfl⟩
  ·rw[PH.put_self]
   congr 2
   rw[<-Array.toList_inj]
   have hlt:j<(bE es).toArray.size:=by simp[bE];omega
   unfold Array.eraseIdxIfInBounds
   rw[dif_pos hlt,Array.toList_eraseIdx]
   unfold bE
   simp only[List.map_take]
   rw[hj.1,List.eraseIdx_eq_take_drop_succ,List.drop_eq_nil_of_le (by simp;omega),List.append_nil]
  ·rw[List.map_take,hkv];simp
theorem b1u {vs:List Value} {m:Value} {S:List Int} {k:Int} (ho:o.op= .lookup T x y false) (hx:a0g [x,y] vs x=m) (hy:a0g [x,y] vs y= .int .i64 k) (hu:P.underlying T=some (.map kt et)) (hk:P.underlying kt=some (.int .i64)) (hz:∀w,(zeroValue et).run P w= .ok (.bool false) w) (h:MB H m S):Rds P o vs H (.bool (decide (k∈S))):=fun w hw=>by
 have hos:o.op.operands.toList=[x,y]:=by simp[ho,Op.operands]
 rw[hos]
 obtain⟨h0,⟨rfl,rfl⟩|⟨r,es,clock,rfl,hH,hkv⟩⟩:=h
 ·simp[execOp,ho,hx,hy,Sem.run_bind,Instr.lookup,run_underlying hu,Result.andThen_ok,Sem.run_pure,a1n hk,hz,Instr.findKey,run_underlying hk,Instr.findNow]
 ·have hb:=hw _ _ hH
  simp only[execOp,ho,hx,hy,Sem.run_bind,Instr.lookup,run_underlying hu,Result.andThen_ok,a1K hb,Sem.run_pure,a1n hk,Instr.findKey,run_underlying hk]
  rcases b2K hkv k with⟨h1,h2⟩|⟨j,p,h1,h2,h3⟩
  ·rw[h1]
   simp[hz,h2]
  ·have:k∈S:=by rw[<-hkv];exact List.mem_map.2 ⟨p,List.mem_of_getElem? h2,h3⟩
   rw[h1]
   simp[this]
end
end Go.RX

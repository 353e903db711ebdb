/- Operations with memory. -/
import Derived.Test.YtlmgkkjgdapnpaaGreatDoorRxH
import Derived.Laws.Slices
import Derived.Laws.Entries
import Derived.Laws.Strings
import Derived.Laws.AppendOwn
import Derived.Laws.OwnMore
import Derived.Laws.MakeOwn
import Derived.Great.BuildSlice
namespace Go.RX
open Go.RowKit
section
variable {P:Program} {H:PH} {o:Oper} {x y:Operand}
theorem PH.put_self (H:PH) (b:Nat) (ob:Obj):H.put b ob b=some ob:=by simp[PH.put]
theorem PH.put_ne (H:PH) {b k:Nat} (ob:Obj) (h:k≠b):H.put b ob k=H k:=by simp[PH.put,h]
theorem PH.put_put (H:PH) (b:Nat) (a c:Obj):(H.put b a).put b c=H.put b c:=by
 funext k;unfold PH.put;split<;>rfl
theorem PH.le_put {H:PH} {b:Nat} (h:H b=none) (ob:Obj):PH.le H (H.put b ob):=fun k o hk=>by
 unfold PH.put;split
 ·rename_i e;subst e;rw[h]at hk;cases hk
 ·exact hk
theorem a4l {T T':TypeId} {b q:Nat} {cs:Array Value} {fz:Nat×Nat} (ho:o.op= .load T x) (hx:a0k [x] [.pointer (some ⟨b,q,none⟩)] x= .pointer (some ⟨b,q,none⟩)) (hH:H b=some (.cells cs T' fz)) (hT:a2h P T=true) (hq:q+P.cellsOf T<=cs.size) (h0:a0F P T=false->q<cs.size):
  Rds P o [.pointer (some ⟨b,q,none⟩)] H (if a0F P T then .agg (cs.extract q (q+P.cellsOf T))else cs.getD q undef):=fun w hw=>by
 have hos:o.op.operands.toList=[x]:=by simp[ho,Op.operands]
 rw[hos]
 simp only[execOp,ho,hx,Sem.run_bind]
 rw[a5e hT (hw _ _ hH) hq h0]
 rfl
theorem a3R {T T':TypeId} {b q:Nat} {cs:Array Value} {v:Value} (ho:o.op= .store T x y) (hx:a0k [x,y] [.pointer (some ⟨b,q,none⟩),v] x= .pointer (some ⟨b,q,none⟩)) (hy:a0k [x,y] [.pointer (some ⟨b,q,none⟩),v] y=v) (hH:H b=some (.cells cs T' (0,0))) (hT:a2h P T=true) (hq:q+P.cellsOf T<=cs.size) (hv:v.cells.size=P.cellsOf T) (h1:a0p v.cells):
  Opn P o [.pointer (some ⟨b,q,none⟩),v] H fun u H'=>u=undef/\H'=H.put b (.cells (spl cs q v.cells.toList) T' (0,0)):=fun w hw=>by
 have hos:o.op.operands.toList=[x,y]:=by simp[ho,Op.operands]
 have hb:=hw _ _ hH
 rw[hos]
 have hr:(execOp (a0k [x,y] [.pointer (some ⟨b,q,none⟩),v]) o).run P w= .ok .skip (w.setRow b (spl cs q v.cells.toList)):=by
  simp only[execOp,ho,hx,hy,Sem.run_bind]
  rw[a5J hT hb hq hv h1]
  rfl
 unfold Stp
 rw[hr]
 refine⟨_,⟨rfl,rfl,rfl,by simp,fun k hk hn=>setRow_other _ _ _ _ (fun e=>by rw[e,hH]at hn;cases hn),fun k ob hk=> ?_,fun k hk=> ?_,Nat.le_refl _⟩,rfl,rfl⟩
 ·unfold PH.put at hk
  split at hk
  ·rename_i e;subst e;cases hk;exact setRow_heap w k _ _ T' (0,0) hb
  ·rename_i e;rw[setRow_other _ _ _ _ e];exact hw k ob hk
 ·unfold PH.put at hk
  split at hk
  ·rename_i e;subst e;exact .inl (by simp[hH])
  ·exact .inl hk
theorem a5M {T e:TypeId} {len b q:Nat} {k:IntKind} {m:Int} (ho:o.op= .indexAddr T x y) (hx:a0k [x,y] [.pointer (some ⟨b,q,none⟩),.int k m] x= .pointer (some ⟨b,q,none⟩)) (hy:a0k [x,y] [.pointer (some ⟨b,q,none⟩),.int k m] y= .int k m) (hu:P.underlying T=some (.array len e)) (he:a2h P e=true) (h0:0<=m) (h1:m<len):
  Yld P o [.pointer (some ⟨b,q,none⟩),.int k m] (.pointer (some ⟨b,q+m.toNat*P.cellsOf e,none⟩)):=fun w=>by
 have hos:o.op.operands.toList=[x,y]:=by simp[ho,Op.operands]
 rw[hos]
 simp only[execOp,ho,hx,hy,Sem.run_bind]
 rw[a4K hu he b q k m h0 h1]
 rfl
theorem a0z {fn:Fn} {caps:Array Operand} {vs:List Value} (ho:o.op= .makeFunc fn #[] caps) (hv':caps.toList.map (a0k caps.toList vs)=vs):Run P o vs (.func fn #[] vs.toArray):=fun w=>by
 have hv:caps.map (a0k caps.toList vs)=vs.toArray:=by rw[<-Array.toList_inj,Array.toList_map];exact hv'
 have hos:o.op.operands.toList=caps.toList:=by simp[ho,Op.operands]
 unfold Stp
 rw[hos]
 simp only[execOp,ho,Sem.run_bind,Instr.makeFunc,Array.map_empty,hv]
 exact⟨rfl,Ext.refl _⟩
theorem a0D {f:FuncId} {az:Array Operand} {tys:Array TypeId} {caps:Array Value} {vs:List Value} {V:Value->PH->Prop} (ho:o.op= .call ⟨.value x,az,tys⟩) (hx:a0k (x::az.toList) (.func (.func f) #[] caps::vs) x= .func (.func f) #[] caps) (ha':az.toList.map (a0k (x::az.toList) (.func (.func f) #[] caps::vs))=vs) (hf:a1q P f=true)
  (hc:Con P f (vs++caps.toList) H V):Opn P o (.func (.func f) #[] caps::vs) H V:=fun w hw=>by
 have ha:az.map (a0k (x::az.toList) (.func (.func f) #[] caps::vs))=vs.toArray:=by rw[<-Array.toList_inj,Array.toList_map];exact ha'
 have hos:o.op.operands.toList=x::az.toList:=by simp[ho,Op.operands,Call.operands]
 have hr:(execOp (a0k (x::az.toList) (.func (.func f) #[] caps::vs)) o).run P w= .ok (.enter f (vs++caps.toList).toArray) w:=by
  simp only[execOp,ho,resolve,hx,ha,Deferred.ofValue,Sem.run_bind,Sem.run_pure,Result.andThen_ok,invoke]
  rw[a2a hf]
  congr 2
  simp
 unfold Stp
 rw[hos,hr]
 exact(hc w hw).mono fun e w' ⟨v,H',he,hs,hV⟩=>⟨v,he,H',hs,hV⟩
theorem b5V {T:TypeId} {u:Value} (ho:o.op= .panic x) (hx:a0k [x] [.iface T u] x= .iface T u):d7L P o [.iface T u] H (fun _ _=>False) fun y H'=>y= .iface T u/\H'=H:=fun w hw=>by
 have hos:o.op.operands.toList=[x]:=by simp[ho,Op.operands]
 have hr:(execOp (a0k [x] [.iface T u]) o).run P w= .halt (.panic (.iface T u)) w:=by
  simp only[execOp,ho,hx,Instr.panic]
  rfl
 unfold StpX
 rw[hos,hr]
 exact⟨(fun c h=>by rw[ho]at h;cases h),H,Step.refl hw,rfl,rfl⟩
end
open Go.RowKit
section
variable {P:Program} {H:PH} {o:Oper} {x y:Operand}
theorem Run.opn {args:List Value} {v:Value} (h:Run P o args v) (H:PH):Opn P o args H fun u H'=>u=v/\H'=H:=
 fun w hw=>(h w).mono fun u _ ⟨hu,hx⟩=>⟨H,Step.of_ext hw hx,hu,rfl⟩
def PH.nil:PH:=fun _=>none
theorem b5W {f:FuncId} {args:List Value} {v:Value} (h:Con P f args PH.nil fun u _=>u=v):Det P f args v:=fun w=>by
 refine(h w (fun b o hb=>by cases hb)).mono fun e w' ⟨u,H',he,hs,hu⟩=>⟨by rw[he,hu],?_⟩
 exact hs.toExt (fun b o hb=>by cases hb) (fun b o hb=>by cases hb)
theorem c9c {t:TypeId} {e:TypeId} {a:Option Addr} {n c:Nat} {vs:List Value} (ho:o.op= .call ⟨.builtin .len,#[x],#[t]⟩) (hx:a0k [x] vs x= .slice a n c) (hu:P.underlying t=some (.slice e)):Yld P o vs (.int .i64 n):=fun w=>by
 have hos:o.op.operands.toList=[x]:=by simp[ho,Op.operands,Call.operands]
 have hE:P.elem t=e:=by simp[Program.elem,hu]
 rw[hos]
 simp only[execOp,ho,resolve,invoke,Sem.run_bind,Sem.run_pure,Result.andThen_ok,List.map_toArray,List.map_cons,List.map_nil,hx]
 simp only[builtin,Sem.run_bind,run_len_slice w t _ a n c (by rw[hE];exact hu),Result.andThen_ok]
 rfl
theorem a5N {T e:TypeId} {b q n c:Nat} {k:IntKind} {m:Int} {vs:List Value} (ho:o.op= .indexAddr T x y) (hx:a0k [x,y] vs x= .slice (some ⟨b,q,none⟩) n c) (hy:a0k [x,y] vs y= .int k m) (hu:P.underlying T=some (.slice e)) (he:a2h P e=true) (h0:0<=m) (h1:m<n):
  Yld P o vs (.pointer (some ⟨b,q+m.toNat*P.cellsOf e,none⟩)):=fun w=>by
 have hos:o.op.operands.toList=[x,y]:=by simp[ho,Op.operands]
 obtain⟨⟨i,hi⟩,_⟩:=a1b he
 rw[hos]
 simp only[execOp,ho,hx,hy,Sem.run_bind,Instr.indexAt,asIntOf,Sem.run_pure,Result.andThen_ok,run_underlying hu]
 simp[h0,h1,a1j hi,a3u]
end
open Go.RowKit
section
variable {P:Program} {H:PH} {o:Oper} {x y z:Operand}
theorem PH.In.fresh {w:World} (hw:H.In w):H w.heap.size=none:=by
 cases e:H w.heap.size with
 |none=>rfl
 |some ob=>exact absurd (a0y (hw _ _ e)) (Nat.lt_irrefl _)
theorem Step.newB {w:World} (hw:H.In w) (ob:Obj):Step H w (H.put w.heap.size ob) (w.alloc ob):=by
 have hx:=Ext.alloc w ob
 refine⟨hx.os,hx.tape,hx.output,hx.size,fun k hk _=>hx.block' hk,PH.put_in (hw.ext hx) (by show(w.heap.push ob)[w.heap.size]? =_;simp),fun b hb=> ?_,hx.dr⟩
 unfold PH.put at hb
 split at hb
 ·rename_i e;right;omega
 ·exact .inl hb
theorem Step.setB {w:World} (hw:H.In w) {r:Nat} {ob:Obj} (hr:H r=some ob) (ob':Obj):Step H w (H.put r ob') {w with heap:=w.heap.setIfInBounds r ob'}:=by
 have hlt:=a0y (hw _ _ hr)
 refine⟨rfl,rfl,rfl,by simp,fun k hk hn=> ?_,fun k o hk=> ?_,fun k hk=> ?_,Nat.le_refl _⟩
 ·show(w.heap.setIfInBounds r ob')[k]? =_
  rw[Array.getElem?_setIfInBounds_ne (fun e=>by rw[e,hn]at hr;cases hr)]
 ·show(w.heap.setIfInBounds r ob')[k]? =_
  unfold PH.put at hk
  split at hk
  ·rename_i e;subst e;rw[Array.getElem?_setIfInBounds_self_of_lt hlt];exact hk
  ·rename_i e;rw[Array.getElem?_setIfInBounds_ne (fun e'=>e e'.symm)];exact hw k o hk
 ·unfold PH.put at hk
  split at hk
  ·rename_i e;left;rw[e,hr];simp
  ·exact .inl hk
theorem a2I {w:World} {r:Nat} {es:Array MapEntry} {clock:Nat} (hb:w.heap[r]? =some (.map es clock)):(getObj r).run P w= .ok (.map es clock) w:=by
 simp[getObj,Sem.run,hb]
theorem a9N {w:World} {r:Nat} {es:Array MapEntry} {clock:Nat} (ob:Obj) (hb:w.heap[r]? =some (.map es clock)):(setObj r ob).run P w= .ok () {w with heap:=w.heap.setIfInBounds r ob}:=by
 simp[setObj,Sem.run,hb]
theorem a7r {T:TypeId} (ho:o.op= .makeMap T none):Opn P o [] H fun v H'=>∃r,H r=none/\v= .map (some r)/\H'=H.put r (.map #[] 0):=fun w hw=>by
 unfold Stp
 simp only[execOp,ho,Option.map_none,Sem.run_bind]
 rw[show(Instr.makeMap T none).run P w= .ok (.map (some w.heap.size)) (w.alloc (.map #[] 0))from rfl]
 exact⟨_,Step.newB hw _,_,hw.fresh,rfl,rfl⟩
theorem a5O {T kt et:TypeId} {kd:TypeDesc} {r clock:Nat} {es:Array MapEntry} {key val:Value} {vs:List Value} (ho:o.op= .insert T x y z\/o.op= .mapUpdate T x y z) (hx:a0k [x,y,z] vs x= .map (some r)) (hy:a0k [x,y,z] vs y=key) (hz:a0k [x,y,z] vs z=val) (hu:P.underlying T=some (.map kt et)) (hk:P.underlying kt=some kd) (hck:∀w,(Instr.checkKey false 10000 kt key).run P w= .ok () w)
  (hH:H r=some (.map es clock)) (hf:Instr.findNow kd key es.toList 0=some none):Opn P o vs H fun v H'=>v=undef/\H'=H.put r (.map (es.push {key,val,born:=clock}) (clock+1)):=fun w hw=>by
 have hos:o.op.operands.toList=[x,y,z]:=by rcases ho with ho|ho<;>simp[ho,Op.operands]
 have hb:=hw _ _ hH
 unfold Stp
 rw[hos]
 have hr:(execOp (a0k [x,y,z] vs) o).run P w= .ok .skip {w with heap:=w.heap.setIfInBounds r (.map (es.push {key,val,born:=clock}) (clock+1))}:=by
  rcases ho with ho|ho<;>simp only[execOp,ho,hx,hy,hz,Sem.run_bind,Instr.mapUpdate,run_underlying hu,Result.andThen_ok,a2I hb,hck,Instr.findKey,run_underlying hk,hf,Sem.run_pure,a9N _ hb]
 rw[hr]
 exact⟨_,Step.setB hw hH _,rfl,rfl⟩
theorem b5X {T kt et:TypeId} {kd:TypeDesc} {r clock i:Nat} {es:Array MapEntry} {key val:Value} {vs:List Value} (ho:o.op= .lookup T x y false) (hx:a0k [x,y] vs x= .map (some r)) (hy:a0k [x,y] vs y=key) (hu:P.underlying T=some (.map kt et)) (hk:P.underlying kt=some kd) (hck:∀b w,(Instr.checkKey b 10000 kt key).run P w= .ok () w)
  (hH:H r=some (.map es clock)) (hf:Instr.findNow kd key es.toList 0=some (some (i,val))):Rds P o vs H val:=fun w hw=>by
 have hos:o.op.operands.toList=[x,y]:=by simp[ho,Op.operands]
 have hb:=hw _ _ hH
 rw[hos]
 simp only[execOp,ho,hx,hy,Sem.run_bind,Instr.lookup,run_underlying hu,Result.andThen_ok,a2I hb,Sem.run_pure,hck,Instr.findKey,run_underlying hk,hf]
 rfl
theorem a9O {t:TypeId} {k:IntKind} {n:Int} (hk:P.underlying t=some (.int k)) (b:Bool) (d:Nat) (w:World):(Instr.checkKey b (d+1) t (.int k n)).run P w= .ok () w:=by
 unfold Instr.checkKey
 simp only[Sem.run_bind,run_underlying hk,Result.andThen_ok,Sem.run_pure]
theorem a2c {t:TypeId} {k:IntKind} {n:Int} (hk:P.underlying t=some (.int k)) (b:Bool) (w:World):(Instr.checkKey b 10000 t (.int k n)).run P w= .ok () w:=a9O hk b 9999 w
end
end Go.RX
/- Operations on strings. -/
namespace Go.RX
open Go.RowKit
section
variable {P:Program} {H:PH} {o:Oper} {x y:Operand}
theorem a6o {T:TypeId} {s:ByteArray} {k:IntKind} {m:Nat} {vs:List Value} (ho:o.op= .index T x y) (hx:a0k [x,y] vs x= .string s) (hy:a0k [x,y] vs y= .int k (m:Nat)) (hu:P.underlying T=some .string) (h1:m<s.size):
  Yld P o vs (.int .u8 ((s.data.getD m 0).toNat:Nat)):=fun w=>by
 have hos:o.op.operands.toList=[x,y]:=by simp[ho,Op.operands]
 rw[hos]
 simp only[execOp,ho,hx,hy,Sem.run_bind,Instr.index,asIntOf,Sem.run_pure,Result.andThen_ok,run_underlying hu]
 rw[if_pos (by omega),Int.toNat_natCast,getElem?_pos s m h1]
 have h2:m<s.data.size:=h1
 simp only[Sem.run_pure,Result.andThen_ok]
 rw[show s.data.getD m 0=s[m]from by rw[Array.getD_eq_getD_getElem?,Array.getElem?_eq_getElem h2];rfl]
theorem b5Y {t:TypeId} {s:ByteArray} {vs:List Value} (ho:o.op= .call ⟨.builtin .len,#[x],#[t]⟩) (hx:a0k [x] vs x= .string s) (hu:P.underlying t=some .string):Yld P o vs (.int .i64 s.size):=fun w=>by
 have hos:o.op.operands.toList=[x]:=by simp[ho,Op.operands,Call.operands]
 rw[hos]
 simp only[execOp,ho,resolve,invoke,Sem.run_bind,Sem.run_pure,Result.andThen_ok,List.map_toArray,List.map_cons,List.map_nil,hx]
 simp only[builtin,Sem.run_bind,run_len_string w t _ s hu,Result.andThen_ok]
 rfl
theorem b7Y {t t':TypeId} {a b:ByteArray} {vs:List Value} (ho:o.op= .binOp .eql t x y t') (hx:a0k [x,y] vs x= .string a) (hy:a0k [x,y] vs y= .string b) (_hu:P.underlying t=some .string) (_hg:P.eqGuardType P.depth t=false):Yld P o vs (.bool (a.toList==b.toList)):=fun w=>by
 have hos:o.op.operands.toList=[x,y]:=by simp[ho,Op.operands]
 rw[hos]
 simp only[execOp,ho,hx,hy]
 simp only[Sem.run_bind,binOp_string_eql]
 simp[eqGuard,_hg]
end
open Go.RowKit
def ba (l:List UInt8):ByteArray:=⟨l.toArray⟩
def st (l:List UInt8):Value:= .string (ba l)
theorem a3S (l:List UInt8):(ba l).size=l.length:=by show l.toArray.size=_;simp
theorem a7s (l:List UInt8):(ba l).toList=l:=by rw[ByteArray.toList_eq];rfl
theorem c4c (l:List UInt8):(st l).cells= #[st l]:=rfl
theorem st_one (l:List UInt8):a0p (st l).cells:=by intro c hc;simp[c4c]at hc;subst hc;rfl
section
variable {P:Program} {H:PH} {o:Oper} {x y:Operand} {vs:List Value} {l m:List UInt8}
theorem d3O {t:TypeId} (ho:o.op= .call ⟨.builtin .len,#[x],#[t]⟩) (hx:a0k [x] vs x=st l) (hu:P.underlying t=some .string):Yld P o vs (.int .i64 l.length):=by
 have:=b5Y ho hx hu
 rwa[a3S]at this
theorem d6x {t t':TypeId} (ho:o.op= .binOp .eql t x y t') (hx:a0k [x,y] vs x=st l) (hy:a0k [x,y] vs y=st m) (hu:P.underlying t=some .string) (hg:P.eqGuardType P.depth t=false):Yld P o vs (.bool (l==m)):=by
 have:=b7Y ho hx hy hu hg
 rwa[a7s,a7s]at this
end
end Go.RX
/- Slices in memory. -/
namespace Go.RX
open Go.RowKit
def Sl (H:PH) (sz:Nat) (v:Value) (n:Nat) (xs:List Value):Prop:=
 xs.length=n*sz/\∃a c,v= .slice a n c/\n<=c/\c<=maxLen/\(n=0\/∃b o cs T fz,a=some ⟨b,o,none⟩/\H b=some (.cells cs T fz)/\(cs.toList.drop o).take (n*sz)=xs)
def OwS (H0 H:PH) (e:TypeId) (sz:Nat) (v:Value) (n:Nat) (xs:List Value):Prop:=
 xs.length=n*sz/\((v= .slice none 0 0/\n=0)\/∃g cap cur,v= .slice (some ⟨g,0,none⟩) n cap/\H0 g=none/\H g=some (.cells cur e (0,0))/\n<=cap/\cap<=maxLen/\cur.size=cap*sz/\cur.toList.take (n*sz)=xs)
theorem Sl.mono {H H':PH} {sz n:Nat} {v:Value} {xs:List Value} (h:Sl H sz v n xs) (hl:PH.le H H'):Sl H' sz v n xs:=by
 obtain⟨h1,a,c,h2,h3,h4,h5⟩:=h
 refine⟨h1,a,c,h2,h3,h4,h5.imp id ?_⟩
 rintro⟨b,o,cs,T,fz,g1,g2,g3⟩
 exact⟨b,o,cs,T,fz,g1,hl _ _ g2,g3⟩
theorem OwS.sl {H0 H:PH} {e:TypeId} {sz n:Nat} {v:Value} {xs:List Value} (h:OwS H0 H e sz v n xs):Sl H sz v n xs:=by
 obtain⟨h1,h2|⟨g,cap,cur,h2,h3,h4,h5,h6,h7,h8⟩⟩:=h
 ·exact⟨h1,none,0,by rw[h2.1,h2.2],by omega,by simp[maxLen],.inl h2.2⟩
 ·exact⟨h1,_,cap,h2,h5,h6,.inr ⟨g,0,cur,e,_,rfl,h4,by rw[List.drop_zero];exact h8⟩⟩
theorem OwS.nil (H0 H:PH) (e:TypeId) (sz:Nat):OwS H0 H e sz (.slice none 0 0) 0 []:=⟨by simp,.inl ⟨rfl,rfl⟩⟩
theorem OwS.mono {H0 H H':PH} {e:TypeId} {sz n:Nat} {v:Value} {xs:List Value} (h:OwS H0 H e sz v n xs) (hl:PH.le H H'):OwS H0 H' e sz v n xs:=by
 obtain⟨h1,h2|⟨g,cap,cur,h2,h3,h4,h5⟩⟩:=h
 ·exact⟨h1,.inl h2⟩
 ·exact⟨h1,.inr ⟨g,cap,cur,h2,h3,hl _ _ h4,h5⟩⟩
theorem OwS.less {H0 H1 H:PH} {e:TypeId} {sz n:Nat} {v:Value} {xs:List Value} (h:OwS H1 H e sz v n xs) (hl:PH.le H0 H1):OwS H0 H e sz v n xs:=by
 obtain⟨h1,h2|⟨g,cap,cur,h2,h3,h4,h5⟩⟩:=h
 ·exact⟨h1,.inl h2⟩
 ·refine⟨h1,.inr ⟨g,cap,cur,h2,?_,h4,h5⟩⟩
  cases e:H0 g with
  |none=>rfl
  |some o=>rw[hl _ _ e]at h3;cases h3
theorem Sl.len_le {H:PH} {sz n:Nat} {v:Value} {xs:List Value} (h:Sl H sz v n xs):n<=maxLen:=by
 obtain⟨_,_,c,_,h3,h4,_⟩:=h;omega
section
variable {P:Program} {H H0:PH} {o:Oper} {x y:Operand} {vs:List Value}
theorem b7Z {t e:TypeId} {sz n:Nat} {v:Value} {xs:List Value} (ho:o.op= .call ⟨.builtin .len,#[x],#[t]⟩) (hx:a0k [x] vs x=v) (hu:P.underlying t=some (.slice e)) (h:Sl H sz v n xs):Yld P o vs (.int .i64 n):=by
 obtain⟨_,a,c,h2,_⟩:=h
 exact c9c ho (hx.trans h2) hu
theorem c9d {T e:TypeId} {sz n i:Nat} {k:IntKind} {v:Value} {xs:List Value} (ho:o.op= .indexAddr T x y) (hx:a0k [x,y] vs x=v) (hy:a0k [x,y] vs y= .int k (i:Nat)) (hu:P.underlying T=some (.slice e)) (he:a2h P e=true) (hsz:P.cellsOf e=sz) (hpos:0<sz) (h:Sl H sz v n xs) (hi:i<n):
  ∃b q cs T' fz,Yld P o vs (.pointer (some ⟨b,q,none⟩))/\H b=some (.cells cs T' fz)/\q+sz<=cs.size/\(cs.toList.drop q).take sz=(xs.drop (i*sz)).take sz:=by
 obtain⟨hl,a,c,h2,h3,h4,h5⟩:=h
 rcases h5 with h5|⟨b,q,cs,T',fz,h5,h6,h7⟩
 ·omega
 ·subst h5
  have hy':=a5N (n:=n) (c:=c) ho (hx.trans h2) hy hu he (by omega) (by omega)
  rw[Int.toNat_natCast,hsz]at hy'
  have hb:(i+1)*sz<=n*sz:=Nat.mul_le_mul_right _ hi
  rw[Nat.add_mul,Nat.one_mul]at hb
  have hlen:=congrArg List.length h7
  simp only[List.length_take,List.length_drop,Array.length_toList]at hlen
  have hnp:0<n*sz:=Nat.mul_pos (by omega) hpos
  refine⟨b,_,cs,T',fz,hy',h6,by omega,?_⟩
  rw[<-h7,List.drop_take,List.drop_drop,List.take_take]
  congr 1
  omega
theorem a9P {T T':TypeId} {b q:Nat} {cs:Array Value} {fz:Nat×Nat} {w:Value} (ho:o.op= .load T x) (hx:a0k [x] [.pointer (some ⟨b,q,none⟩)] x= .pointer (some ⟨b,q,none⟩)) (hH:H b=some (.cells cs T' fz)) (hT:a2h P T=true) (hag:a0F P T=false) (hc:P.cellsOf T=1) (hq:q+1<=cs.size) (hw:(cs.toList.drop q).take 1=[w]):
  Rds P o [.pointer (some ⟨b,q,none⟩)] H w:=by
 have:=a4l (P:=P) ho hx hH hT (by rw[hc];exact hq) (fun _=>hq)
 rw[hag]at this
 have e:cs.getD q undef=w:=by
  have h1:=congrArg (fun l:List Value=>l[0]?) hw
  simp only[List.getElem?_take,List.getElem?_drop,Nat.add_zero]at h1
  rw[Array.getD_eq_getD_getElem?,<-Array.getElem?_toList]
  simp at h1
  simp[h1]
 simp only[Bool.false_eq_true,if_false,e]at this
 exact this
theorem b4k {T T':TypeId} {b q sz:Nat} {cs:Array Value} {fz:Nat×Nat} {ws:List Value} (ho:o.op= .load T x) (hx:a0k [x] [.pointer (some ⟨b,q,none⟩)] x= .pointer (some ⟨b,q,none⟩)) (hH:H b=some (.cells cs T' fz)) (hT:a2h P T=true) (hag:a0F P T=true) (hc:P.cellsOf T=sz) (hq:q+sz<=cs.size) (hw:(cs.toList.drop q).take sz=ws):
  Rds P o [.pointer (some ⟨b,q,none⟩)] H (.agg ws.toArray):=by
 have:=a4l (P:=P) ho hx hH hT (by rw[hc];exact hq) (fun h=>by rw[hag]at h;cases h)
 rw[hag,hc]at this
 have e:cs.extract q (q+sz)=ws.toArray:=by
  apply Array.ext'
  rw[Array.toList_extract,List.extract_eq_take_drop,Nat.add_sub_cancel_left,hw]
 simp only[if_true,e]at this
 exact this
theorem b8a {T e:TypeId} {sz n i:Nat} {k:IntKind} {v:Value} {xs:List Value} {hi:Operand} (ho:o.op= .slice T x none (some hi) none) (hx:a0k [x,hi] vs x=v) (hl:a0k [x,hi] vs hi= .int k (i:Nat)) (hu:P.underlying T=some (.slice e)) (he:a2h P e=true) (h:Sl H sz v n xs) (h1:i<=n):
  ∃u,Yld P o vs u/\Sl H sz u i (xs.take (i*sz)):=by
 obtain⟨hlen,a,c,h2,h3,h4,h5⟩:=h
 obtain⟨⟨ie,hie⟩,_⟩:=a1b he
 have hos:o.op.operands.toList=[x,hi]:=by simp[ho,Op.operands]
 have hle:i*sz<=n*sz:=Nat.mul_le_mul_right _ h1
 refine⟨.slice a i c,fun w=> ?_,by rw[List.length_take];omega,a,c,rfl,by omega,h4,?_⟩
 ·rw[hos]
  simp only[execOp,ho,hx,h2,Option.map_some,Option.map_none,hl,Instr.sliceAt,Instr.slice,Sem.run_bind,run_underlying hu,Result.andThen_ok,Sem.run_pure,Instr.sliceBounds]
  rw[run_sliceBound w k (i:Int) c _ (by omega) (by omega)]
  simp only[Result.andThen_ok,a1j hie,Int.toNat_natCast,Nat.zero_mul,Nat.sub_zero]
  by_cases hc0:c=0
  ·rw[if_pos hc0]
  ·rw[if_neg hc0]
   cases a with
   |none=>rfl
   |some a=>simp[Addr.add]
 ·rcases h5 with h5|⟨b,q,cs,T',fz,h5,h6,h7⟩
  ·left;omega
  ·right
   refine⟨b,q,cs,T',fz,h5,h6,?_⟩
   rw[<-h7,List.take_take,Nat.min_eq_left hle]
theorem b8b {T e:TypeId} {sz n:Nat} {kl kc:IntKind} {i:TypeInfo} {z:Value} (ho:o.op= .makeSlice T x y) (hx:a0k [x,y] vs x= .int kl (n:Nat)) (hy:a0k [x,y] vs y= .int kc (n:Nat)) (hu:P.underlying T=some (.slice e)) (hi:P.info? e=some i) (hz:i.zero=some z) (hsz:i.size=sz) (hb:i.bytes*n<=281474976710656) (hm:n<=maxLen):
  Opn P o vs H fun v H'=>∃g,H g=none/\v= .slice (some ⟨g,0,none⟩) n n/\H'=H.put g (.cells (madeCells z.cells (n*sz)) e (0,0)):=fun w hw=>by
 have hos:o.op.operands.toList=[x,y]:=by simp[ho,Op.operands]
 have h63:(n:Int)<=9223372036854775807:=by have h:=hm;simp[maxLen]at h;omega
 have hb':(i.bytes:Int)*(n:Int)<=281474976710656:=by
  have h:((i.bytes*n:Nat):Int)<=281474976710656:=by omega
  rwa[Int.natCast_mul]at h
 have hr:=run_make (P:=P) w T e i z hu hi hz kl kc (n:Int) (n:Int) (by omega) (Int.le_refl _) hb' h63
 simp only[Int.toNat_natCast,hsz]at hr
 unfold Stp
 rw[hos]
 simp only[execOp,ho,hx,hy,Sem.run_bind,hr,Result.andThen_ok,Sem.run_pure]
 exact⟨_,Step.newB hw _,_,hw.fresh,rfl,rfl⟩
theorem a9Q {T e:TypeId} {n:Nat} {parts:Array (Nat×Operand)} {cells:Array Value} {i:TypeInfo} {z:Value} (ho:o.op= .buildSlice T n parts) (hu:P.underlying T=some (.slice e)) (hi:P.info? e=some i) (hz:i.zero=some z) (hs:¬n*i.size>2^24) (hp:¬n*i.size=0)
  (hf:Instr.fill (fun j=>some (j*i.size,i.size)) ((Array.range (n*i.size)).map (z.cells[· %z.cells.size]!)) (parts.toList.map fun p=>(p.1,a0k (parts.toList.map (·.2)) vs p.2))=some cells):
  Opn P o vs H fun v H'=>∃g,H g=none/\v= .slice (some ⟨g,0,none⟩) n n/\H'=H.put g (.cells cells e (0,0)):=fun w hw=>by
 have hos:o.op.operands.toList=parts.toList.map (·.2):=by simp[ho,Op.operands]
 have hr:=run_buildSlice (P:=P) w T e n (parts.map fun(j,x)=>(j,a0k (parts.toList.map (·.2)) vs x)) cells i z hu hi hz hs hp (by rw[Array.toList_map];exact hf)
 unfold Stp
 rw[hos]
 simp only[execOp,ho,Sem.run_bind,hr,Result.andThen_ok,Sem.run_pure]
 exact⟨_,Step.newB hw _,_,hw.fresh,rfl,rfl⟩
end
open Go.RowKit
theorem a9R {w:World} {b q:Nat} {cs:Array Value} {T:TypeId} {fz:Nat×Nat} {n:Nat} {news:List Value} (hb:w.heap[b]? =some (.cells cs T fz)) (hn:(cs.toList.drop q).take n=news):∀j u,news[j]? =some u->w.cell? ((⟨b,q,none⟩:Addr).add j)=some u:=by
 intro j u hj
 rw[<-hn,List.getElem?_take]at hj
 split at hj
 ·rw[List.getElem?_drop,Array.getElem?_toList]at hj
  rw[a3u]
  simp[World.cell?,hb,hj]
 ·cases hj
section
variable {P:Program} {H H0:PH} {o:Oper} {x y:Operand} {vs:List Value}
theorem b3g {t e:TypeId} {i:TypeInfo} {z:Value} {sz n m:Nat} {v u:Value} {xs news:List Value} (ho:o.op= .call ⟨.builtin .append,#[x,y],#[t,t]⟩) (hx:a0k [x,y] vs x=v) (hy:a0k [x,y] vs y=u)
  (hu:P.underlying t=some (.slice e)) (hi:P.info? e=some i) (hz:i.zero=some z) (hsz:i.size=sz) (hzs:z.cells.size=sz) (hle:PH.le H0 H) (hv:OwS H0 H e sz v n xs) (hs:Sl H sz u m news) (hm:0<m) (h1:∀c∈news,c.oneCell'=true) (h63:n+m<=maxLen) (hbytes:(n+m)*i.bytes<=140737488355328):
  Opn P o vs H fun v' H'=>PH.le H0 H'/\OwS H0 H' e sz v' (n+m) (xs++news)/\∃g ob,H'=H.put g ob/\H0 g=none/\(H g=none\/∃cs,H g=some (.cells cs e (0,0))):=fun w hw=>by
 have hos:o.op.operands.toList=[x,y]:=by simp[ho,Op.operands,Call.operands]
 obtain⟨hl,a,c,hu2,hmc,hcm,hs⟩:=hs
 obtain⟨b,q,cs,T,fz,ha,hb,hn⟩:=hs.resolve_left (by omega)
 subst ha
 have hnews:=a9R (hw _ _ hb) hn
 obtain⟨hxl,hv⟩:=hv
 have h63':n+m<=9223372036854775807:=by simp only[maxLen]at h63;omega
 have hlen:(xs++news).length=(n+m)*sz:=by rw[List.length_append,hxl,hl,Nat.add_mul]
 have put_le:∀g ob,H0 g=none->PH.le H0 (H.put g ob):=fun g ob hg k ob' hk=>by
  rw[PH.put_ne _ _ (fun e=>by rw[e,hg]at hk;cases hk)]
  exact hle _ _ hk
 have fresh0:H0 w.heap.size=none:=by
  cases e:H0 w.heap.size with
  |none=>rfl
  |some ob=>have:=hw.fresh;rw[hle _ _ e]at this;cases this
 have grown:∀(old:Nat) (w':World),w'=w.drew.alloc (.cells (xs.toArray++news.toArray++Builtin.zeroCells z.cells (grownCap w (n+m) old e-(n+m))) e)->
   Step H w (H.put w.heap.size (.cells (xs.toArray++news.toArray++Builtin.zeroCells z.cells (grownCap w (n+m) old e-(n+m))) e (0,0))) w'/\
   OwS H0 (H.put w.heap.size (.cells (xs.toArray++news.toArray++Builtin.zeroCells z.cells (grownCap w (n+m) old e-(n+m))) e (0,0))) e sz (.slice (some ⟨w.heap.size,0,none⟩) (n+m) (grownCap w (n+m) old e)) (n+m) (xs++news):=fun old w' hw'=>by
  have hge:=grownCap_ge w (n+m) old e
  have hcm:grownCap w (n+m) old e<=maxLen:=grownCap_le_maxLen w (n+m) old e h63
  subst hw'
  constructor
  ·have hd:Ext w w.drew:=⟨rfl,rfl,rfl,Nat.le_refl _,fun _ _=>rfl,Nat.le_succ _⟩
   exact(Step.of_ext hw hd).trans (Step.newB (hw.ext hd) _)
  ·refine⟨hlen,.inr ⟨w.heap.size,_,_,rfl,fresh0,PH.put_self _ _ _,hge,hcm,?_,?_⟩⟩
   ·simp only[Array.size_append,List.size_toArray,size_zeroCells,hzs,hxl,hl,<-Nat.add_mul]
    congr 1
    omega
   ·simp only[Array.toList_append,List.append_assoc]
    rw[<-List.append_assoc,<-hlen]
    exact List.take_left
 unfold Stp
 rw[hos]
 simp only[execOp,ho,resolve,invoke,Sem.run_bind,Sem.run_pure,Result.andThen_ok,List.map_toArray,List.map_cons,List.map_nil,hx,hy,hu2,builtin]
 rcases hv with⟨rfl,rfl⟩|⟨g,cap,cur,rfl,hg0,hg,hnc,hcm',hcs,htake⟩
 ·have hx0:xs=[]:=List.eq_nil_of_length_eq_zero (by simpa using hxl)
  subst hx0
  have hr:=run_append_nil (P:=P) w t o.type e i z hu hi hz ⟨b,q,none⟩ m c news (by rw[hsz];exact hl) hnews hm (by omega) (by have hb:=hbytes;simp only[Nat.zero_add]at hb;omega)
  have hgr:=grown 0 _ rfl
  simp only[Nat.zero_add,List.nil_append,Array.empty_append]at hgr⊢
  rw[hr]
  exact⟨_,hgr.1,put_le _ _ fresh0,hgr.2,_,_,rfl,fresh0,.inl hw.fresh⟩
 ·by_cases hroom:n+m<=cap
  ·have hfit:n*i.size+news.length<=cur.size:=by rw[hl,hcs,hsz,<-Nat.add_mul];exact Nat.mul_le_mul_right _ hroom
   have hr:=run_append_room (P:=P) w t o.type e i hu hi g n cap cur (hw _ _ hg) ⟨b,q,none⟩ m c news (by rw[hsz];exact hl) hnews h1 hroom hfit
   rw[hr]
   refine⟨_,⟨rfl,rfl,rfl,by simp,fun k hk hn=>setRow_other _ _ _ _ (fun e=>by rw[e,hg]at hn;cases hn),fun k ob hk=> ?_,fun k hk=> ?_,Nat.le_refl _⟩,put_le g (.cells (cur.toList.take (n*i.size)++news++cur.toList.drop (n*i.size+news.length)).toArray e (0,0)) hg0,⟨hlen,.inr ⟨g,cap,_,rfl,hg0,PH.put_self _ _ _,hroom,hcm',?_,?_⟩⟩,_,_,rfl,hg0,.inr ⟨_,hg⟩⟩
   ·unfold PH.put at hk
    split at hk
    ·rename_i e;subst e;cases hk;exact setRow_heap w k _ _ _ (0,0) (hw _ _ hg)
    ·rename_i e;rw[setRow_other _ _ _ _ e];exact hw k ob hk
   ·unfold PH.put at hk
    split at hk
    ·rename_i e;subst e;exact .inl (by simp[hg])
    ·exact .inl hk
   ·simp only[List.size_toArray,List.length_append,List.length_take,List.length_drop,Array.length_toList]
    omega
   ·rw[hsz,htake,<-hlen]
    exact List.take_left
  ·have holds:∀j u,xs[j]? =some u->w.cell? ((⟨g,0,none⟩:Addr).add j)=some u:=a9R (n:=n*sz) (hw _ _ hg) (by rw[List.drop_zero];exact htake)
   have hr:=run_append_grow (P:=P) w t o.type e i z hu hi hz ⟨g,0,none⟩ n cap xs (by rw[hsz];exact hxl) holds ⟨b,q,none⟩ m c news (by rw[hsz];exact hl) hnews (by omega) (by omega) (growslice_fits (by omega) hbytes)
   have hgr:=grown cap _ rfl
   rw[hr]
   exact⟨_,hgr.1,put_le _ _ fresh0,hgr.2,_,_,rfl,fresh0,.inl hw.fresh⟩
theorem b3h {t e:TypeId} {i:TypeInfo} {sz n:Nat} {v u:Value} {xs news:List Value} (ho:o.op= .call ⟨.builtin .append,#[x,y],#[t,t]⟩) (hx:a0k [x,y] vs x=v) (hy:a0k [x,y] vs y=u)
  (hu:P.underlying t=some (.slice e)) (hi:P.info? e=some i) (hv:Sl H sz v n xs) (hs:Sl H sz u 0 news):Opn P o vs H fun v' H'=>v'=v/\H'=H:=fun w hw=>by
 have hos:o.op.operands.toList=[x,y]:=by simp[ho,Op.operands,Call.operands]
 obtain⟨_,a,c,hu2,_⟩:=hs
 obtain⟨_,a2,c2,hv2,hle,_⟩:=hv
 have hr:(Builtin.append_ #[t,t] o.type #[.slice a2 n c2,.slice a 0 c]).run P w= .ok (.slice a2 n c2) w:=by
  cases a2<;>cases a<;>simp[Builtin.append_,run_underlying hu,sizeOf,typeInfo,hi,hle,storeCells,Builtin.lenOf,Builtin.firstCells,loadCells,loadCellsFrom]
 unfold Stp
 rw[hos]
 simp only[execOp,ho,resolve,invoke,Sem.run_bind,Sem.run_pure,Result.andThen_ok,List.map_toArray,List.map_cons,List.map_nil,hx,hy,hu2,hv2,builtin]
 rw[hr]
 exact⟨_,Step.refl hw,rfl,rfl⟩
theorem b1i {T e:TypeId} {i:TypeInfo} (ho:o.op= .buildSlice T 0 #[]) (hu:P.underlying T=some (.slice e)) (hi:P.info? e=some i):
  Opn P o vs H fun v H'=>∃g,H g=none/\v= .slice (some ⟨g,0,none⟩) 0 0/\H'=H.put g (.cells #[] e (0,0)):=fun w hw=>by
 have hr:(Instr.buildSlice T 0 #[]).run P w= .ok (.slice (some ⟨w.heap.size,0,none⟩) 0 0) (w.alloc (.cells #[] e)):=by
  simp[Instr.buildSlice,run_underlying hu,sizeOf,typeInfo,hi,newRow,Instr.fill,Array.range_zero']
 unfold Stp
 simp only[execOp,ho,Sem.run_bind,hr,Result.andThen_ok,Sem.run_pure,Array.map_empty]
 exact⟨_,Step.newB hw _,_,hw.fresh,rfl,rfl⟩
end
end Go.RX

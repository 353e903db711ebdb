/- Operations with memory. -/
import Derived.Test.YtcdnhlplkhldbaaGreatDoorRxH
import Derived.Laws.Slices
import Derived.Laws.Entries
import Derived.Laws.Strings
import Derived.Laws.AppendOwn
import Derived.Laws.OwnMore
import Derived.Laws.MakeOwn
import Derived.Great.BuildSlice
import Derived.Lib.Builder
import Derived.Lib.UnsafeStr
import Derived.LaidEqlPtr
import Derived.Laws.Concat
import Derived.Laws.IdiomStrings
import Derived.Laws.BytesArg
import Derived.Laws.IdiomCopy
import Derived.Test.YtcdnhlplkhldbaaGreatDoorRows
import Derived.Laws.Externs
import Derived.Shelf.Spec.BitsCarry
import Derived.IntWalk
open Array renaming empty_append->mV,ext'->fZ,map_empty->nP,range->pE
open Go.Result renaming andThen_ok->eJ
open Go.Sem renaming run_bind->eK,run_pure->eL
open Go.Value.int renaming injEq->kP
open Int renaming emod_eq_of_lt->jP
open List renaming length_drop->fG,map->kZ,map_toArray->fR,size_toArray->jK,take_left->kD,take_take->oG
open Nat renaming add_assoc->jY,add_mul_div_left->iW,div_add_mod->jA,div_eq_of_lt->fV,le_succ->pN,lt_irrefl->iZ,mod_mod_of_dvd->nL,mod_one->kW,mul_add->fE,mul_assoc->eY,mul_div_cancel->nM,mul_le_mul_left->gK,mul_one->fY,mul_succ->iD,pow_add->fW,pow_pos->jD,zero_lt_succ->eM
open Option renaming map_none->jO
set_option linter.all false
namespace Go.RX
open RowKit
section
variable {P:Program} {H:PH} {o:Oper} {x y:Operand}
def PH.put_self (H:PH) (b:Nat) (ob:Obj):H.put b ob b=some ob:=by simp[PH.put]
def PH.put_ne (H:PH) {b k:Nat} (ob:Obj) (h:k≠b):H.put b ob k=H k:=by simp[PH.put,h]
def PH.put_put (H:PH) (b:Nat) (a c:Obj):(H.put b a).put b c=H.put b c:=by
 funext k;unfold PH.put;split<;>rfl
def PH.le_put {H:PH} {b:Nat} (h:H b=none) (ob:Obj):Pl H (H.put b ob):=fun k o hk=>by
 unfold PH.put;split
 ·rename_i e;subst e;rw[h]at hk;cases hk
 ·exact hk
def Vb {T T':TypeId} {b q:Nat} {cs:Array Value} {fz:Nat×Nat} (ho:o.op= .load T x) (hx:e8 [x] [.pointer (some ⟨b,q,none⟩)] x= .pointer (some ⟨b,q,none⟩)) (hH:H b=some (.cells cs T' fz)) (hT:r9 P T=true) (hq:q+P.cellsOf T<=cs.size) (h0:r8 P T=false->q<cs.size):
  Rds P o [.pointer (some ⟨b,q,none⟩)] H (if r8 P T then .agg (cs.extract q (q+P.cellsOf T))else cs.getD q undef):=fun w hw=>by
 have qE:o.op.operands.toList=[x]:=by simp[ho,Op.operands]
 rw[qE];simp only[execOp,ho,hx,eK];rw[Yr hT (hw _ _ hH) hq h0];rfl
def Yy {T T':TypeId} {b q:Nat} {cs:Array Value} {v:Value} (ho:o.op= .store T x y) (hx:e8 [x,y] [.pointer (some ⟨b,q,none⟩),v] x= .pointer (some ⟨b,q,none⟩)) (hy:e8 [x,y] [.pointer (some ⟨b,q,none⟩),v] y=v) (hH:H b=some (.cells cs T' (0,0))) (hT:r9 P T=true) (hq:q+P.cellsOf T<=cs.size) (hv:v.cells.size=P.cellsOf T) (h1:j0 v.cells):
  Opn P o [.pointer (some ⟨b,q,none⟩),v] H fun u H'=>u=undef/\H'=H.put b (.cells (spl cs q v.cells.toList) T' (0,0)):=fun w hw=>by
 have qE:o.op.operands.toList=[x,y]:=by simp[ho,Op.operands]
 have hb:=hw _ _ hH;rw[qE];have hr:(execOp (e8 [x,y] [.pointer (some ⟨b,q,none⟩),v]) o).run P w= .ok .skip (w.setRow b (spl cs q v.cells.toList)):=by
  simp only[execOp,ho,hx,hy,eK];rw[ub hT hb hq hv h1];rfl
 unfold Stp;rw[hr];refine⟨_,⟨rfl,rfl,rfl,aD,fun k hk hn=>setRow_other _ _ _ _ (fun e=>by rw[e,hH]at hn;cases hn),fun k ob hk=> ?_,fun k hk=> ?_,aS _⟩,rfl,rfl⟩
 ·unfold PH.put at hk;split at hk
  ·rename_i e;subst e;cases hk;exact setRow_heap w k _ _ T' (0,0) hb
  ·rename_i e;rw[setRow_other _ _ _ _ e];exact hw k ob hk
 ·unfold PH.put at hk;split at hk
  ·rename_i e;subst e;exact .inl (by simp[hH])
  ·exact .inl hk
def uz {T e:TypeId} {len b q:Nat} {k:IntKind} {m:Int} (ho:o.op= .indexAddr T x y) (hx:e8 [x,y] [.pointer (some ⟨b,q,none⟩),.int k m] x= .pointer (some ⟨b,q,none⟩)) (hy:e8 [x,y] [.pointer (some ⟨b,q,none⟩),.int k m] y= .int k m) (hu:P.underlying T=some (.array len e)) (he:r9 P e=true) (h0:0<=m) (h1:m<len):
  Yld P o [.pointer (some ⟨b,q,none⟩),.int k m] (.pointer (some ⟨b,q+m.toNat*P.cellsOf e,none⟩)):=fun w=>by
 have qE:o.op.operands.toList=[x,y]:=by simp[ho,Op.operands]
 rw[qE];simp only[execOp,ho,hx,hy,eK];rw[ud hu he b q k m h0 h1];rfl
def Ai {fn:Fn} {caps:Array Operand} {vs:List Value} (ho:o.op= .makeFunc fn #[] caps) (wM:caps.toList.map (e8 caps.toList vs)=vs):Run P o vs (.func fn #[] vs.toArray):=fun w=>by
 have hv:caps.map (e8 caps.toList vs)=vs.toArray:=by rw[<-bS,dR];exact wM
 have qE:o.op.operands.toList=caps.toList:=by simp[ho,Op.operands]
 unfold Stp;rw[qE];simp only[execOp,ho,eK,Instr.makeFunc,nP,hv];exact⟨rfl,Ext.refl _⟩
def Aj {f:FuncId} {az:Array Operand} {tys:Array TypeId} {caps:Array Value} {vs:List Value} {V:Value->PH->Prop} (ho:o.op= .call ⟨.value x,az,tys⟩) (hx:e8 (x::az.toList) (.func (.func f) #[] caps::vs) x= .func (.func f) #[] caps) (vD:az.toList.map (e8 (x::az.toList) (.func (.func f) #[] caps::vs))=vs) (hf:n8 P f=true)
  (hc:Con P f (vs++caps.toList) H V):Opn P o (.func (.func f) #[] caps::vs) H V:=fun w hw=>by
 have ha:az.map (e8 (x::az.toList) (.func (.func f) #[] caps::vs))=vs.toArray:=by rw[<-bS,dR];exact vD
 have qE:o.op.operands.toList=x::az.toList:=by simp[ho,Op.operands,Call.operands]
 have hr:(execOp (e8 (x::az.toList) (.func (.func f) #[] caps::vs)) o).run P w= .ok (.enter f (vs++caps.toList).toArray) w:=by
  simp only[execOp,ho,resolve,hx,ha,Deferred.ofValue,eK,eL,eJ,invoke];rw[La hf];congr 2;simp
 unfold Stp;rw[qE,hr];exact(hc w hw).mono fun e w' ⟨v,H',he,hs,hV⟩=>⟨v,he,H',hs,hV⟩
def E0 {T:TypeId} {u:Value} (ho:o.op= .panic x) (hx:e8 [x] [.iface T u] x= .iface T u):IB P o [.iface T u] H (fun _ _=>False) fun y H'=>y= .iface T u/\H'=H:=fun w hw=>by
 have qE:o.op.operands.toList=[x]:=by simp[ho,Op.operands]
 have hr:(execOp (e8 [x] [.iface T u]) o).run P w= .halt (.panic (.iface T u)) w:=by
  simp only[execOp,ho,hx,Instr.panic];rfl
 unfold StpX;rw[qE,hr];exact⟨(fun c h=>by rw[ho]at h;cases h),H,Step.refl hw,rfl,rfl⟩
end
open Go.RowKit
section
variable {P:Program} {H:PH} {o:Oper} {x y:Operand}
def Run.opn {args:List Value} {v:Value} (h:Run P o args v) (H:PH):Opn P o args H fun u H'=>u=v/\H'=H:=
 fun w hw=>(h w).mono fun u _ ⟨hu,hx⟩=>⟨H,Step.of_ext hw hx,hu,rfl⟩
def PH.nil:PH:=fun _=>none
def E2 {f:FuncId} {args:List Value} {v:Value} (h:Con P f args PH.nil fun u _=>u=v):Det P f args v:=fun w=>by
 refine(h w (fun b o hb=>by cases hb)).mono fun e w' ⟨u,H',he,hs,hu⟩=>⟨by rw[he,hu],?_⟩;exact hs.toExt (fun b o hb=>by cases hb) (fun b o hb=>by cases hb)
def E3 {t:TypeId} {e:TypeId} {a:Option Addr} {n c:Nat} {vs:List Value} (ho:o.op= .call ⟨.builtin .len,#[x],#[t]⟩) (hx:e8 [x] vs x= .slice a n c) (hu:P.underlying t=some (.slice e)):Yld P o vs (.int .i64 n):=fun w=>by
 have qE:o.op.operands.toList=[x]:=by simp[ho,Op.operands,Call.operands]
 have hE:P.elem t=e:=by simp[Program.elem,hu]
 rw[qE];simp only[execOp,ho,resolve,invoke,eK,eL,eJ,fR,bI,bR,hx];simp only[builtin,eK,run_len_slice w t _ a n c (by rw[hE];exact hu),eJ];rfl
def vd {T e:TypeId} {b q n c:Nat} {k:IntKind} {m:Int} {vs:List Value} (ho:o.op= .indexAddr T x y) (hx:e8 [x,y] vs x= .slice (some ⟨b,q,none⟩) n c) (hy:e8 [x,y] vs y= .int k m) (hu:P.underlying T=some (.slice e)) (he:r9 P e=true) (h0:0<=m) (h1:m<n):
  Yld P o vs (.pointer (some ⟨b,q+m.toNat*P.cellsOf e,none⟩)):=fun w=>by
 have qE:o.op.operands.toList=[x,y]:=by simp[ho,Op.operands]
 obtain⟨⟨i,hi⟩,_⟩:=Fh he;rw[qE];simp only[execOp,ho,hx,hy,eK,Instr.indexAt,asIntOf,eL,eJ,run_underlying hu];simp[h0,h1,Gy hi,Ky]
end
open Go.RowKit
section
variable {P:Program} {H:PH} {o:Oper} {x y z:Operand}
def PH.In.fresh {w:World} (hw:H.In w):H w.heap.size=none:=by
 cases e:H w.heap.size with
 |none=>rfl
 |some ob=>exact absurd (y9 (hw _ _ e)) (iZ _)
def Step.newB {w:World} (hw:H.In w) (ob:Obj):Step H w (H.put w.heap.size ob) (w.alloc ob):=by
 have hx:=Ext.alloc w ob;refine⟨hx.os,hx.tape,hx.output,hx.size,fun k hk _=>hx.block' hk,PH.put_in (hw.ext hx) (by show(w.heap.push ob)[w.heap.size]? =_;simp),fun b hb=> ?_,hx.dr⟩;unfold PH.put at hb;split at hb
 ·rename_i e;right;omega
 ·exact .inl hb
def Step.setB {w:World} (hw:H.In w) {r:Nat} {ob:Obj} (hr:H r=some ob) (ob':Obj):Step H w (H.put r ob') {w with heap:=w.heap.setIfInBounds r ob'}:=by
 have qB:=y9 (hw _ _ hr);refine⟨rfl,rfl,rfl,aD,fun k hk hn=> ?_,fun k o hk=> ?_,fun k hk=> ?_,aS _⟩
 ·show(w.heap.setIfInBounds r ob')[k]? =_;rw[cZ (fun e=>by rw[e,hn]at hr;cases hr)]
 ·show(w.heap.setIfInBounds r ob')[k]? =_;unfold PH.put at hk;split at hk
  ·rename_i e;subst e;rw[dJ qB];exact hk
  ·rename_i e;rw[cZ (fun e'=>e e'.symm)];exact hw k o hk
 ·unfold PH.put at hk;split at hk
  ·rename_i e;left;rw[e,hr];simp
  ·exact .inl hk
def Ih {w:World} {r:Nat} {es:Array MapEntry} {clock:Nat} (hb:w.heap[r]? =some (.map es clock)):(getObj r).run P w= .ok (.map es clock) w:=by
 simp[getObj,Sem.run,hb]
def Yz {w:World} {r:Nat} {es:Array MapEntry} {clock:Nat} (ob:Obj) (hb:w.heap[r]? =some (.map es clock)):(setObj r ob).run P w= .ok () {w with heap:=w.heap.setIfInBounds r ob}:=by
 simp[setObj,Sem.run,hb]
def vf {T:TypeId} (ho:o.op= .makeMap T none):Opn P o [] H fun v H'=>∃r,H r=none/\v= .map (some r)/\H'=H.put r (.map #[] 0):=fun w hw=>by
 unfold Stp;simp only[execOp,ho,jO,eK];rw[show(Instr.makeMap T none).run P w= .ok (.map (some w.heap.size)) (w.alloc (.map #[] 0))from rfl];exact⟨_,Step.newB hw _,_,hw.fresh,rfl,rfl⟩
def vg {T kt et:TypeId} {kd:TypeDesc} {r clock:Nat} {es:Array MapEntry} {key val:Value} {vs:List Value} (ho:o.op= .insert T x y z\/o.op= .mapUpdate T x y z) (hx:e8 [x,y,z] vs x= .map (some r)) (hy:e8 [x,y,z] vs y=key) (hz:e8 [x,y,z] vs z=val) (hu:P.underlying T=some (.map kt et)) (hk:P.underlying kt=some kd) (hck:∀w,(Instr.checkKey false 10000 kt key).run P w= .ok () w)
  (hH:H r=some (.map es clock)) (hf:Instr.findNow kd key es.toList 0=some none):Opn P o vs H fun v H'=>v=undef/\H'=H.put r (.map (es.push {key,val,born:=clock}) (clock+1)):=fun w hw=>by
 have qE:o.op.operands.toList=[x,y,z]:=by rcases ho with ho|ho<;>simp[ho,Op.operands]
 have hb:=hw _ _ hH;unfold Stp;rw[qE];have hr:(execOp (e8 [x,y,z] vs) o).run P w= .ok .skip {w with heap:=w.heap.setIfInBounds r (.map (es.push {key,val,born:=clock}) (clock+1))}:=by
  rcases ho with ho|ho<;>simp only[execOp,ho,hx,hy,hz,eK,Instr.mapUpdate,run_underlying hu,eJ,Ih hb,hck,Instr.findKey,run_underlying hk,hf,eL,Yz _ hb]
 rw[hr];exact⟨_,Step.setB hw hH _,rfl,rfl⟩
def E4 {T kt et:TypeId} {kd:TypeDesc} {r clock i:Nat} {es:Array MapEntry} {key val:Value} {vs:List Value} (ho:o.op= .lookup T x y false) (hx:e8 [x,y] vs x= .map (some r)) (hy:e8 [x,y] vs y=key) (hu:P.underlying T=some (.map kt et)) (hk:P.underlying kt=some kd) (hck:∀b w,(Instr.checkKey b 10000 kt key).run P w= .ok () w)
  (hH:H r=some (.map es clock)) (hf:Instr.findNow kd key es.toList 0=some (some (i,val))):Rds P o vs H val:=fun w hw=>by
 have qE:o.op.operands.toList=[x,y]:=by simp[ho,Op.operands]
 have hb:=hw _ _ hH;rw[qE];simp only[execOp,ho,hx,hy,eK,Instr.lookup,run_underlying hu,eJ,Ih hb,eL,hck,Instr.findKey,run_underlying hk,hf];rfl
def E5 {t:TypeId} {k:IntKind} {n:Int} (hk:P.underlying t=some (.int k)) (b:Bool) (d:Nat) (w:World):(Instr.checkKey b (d+1) t (.int k n)).run P w= .ok () w:=by
 unfold Instr.checkKey;simp only[eK,run_underlying hk,eJ,eL]
def Ld {t:TypeId} {k:IntKind} {n:Int} (hk:P.underlying t=some (.int k)) (b:Bool) (w:World):(Instr.checkKey b 10000 t (.int k n)).run P w= .ok () w:=E5 hk b 9999 w
end
section
variable {P:Program} {H:PH} {o:Oper} {x y:Operand}
def IF {T:TypeId} {s:ByteArray} {k:IntKind} {m:Nat} {vs:List Value} (ho:o.op= .index T x y) (hx:e8 [x,y] vs x= .string s) (hy:e8 [x,y] vs y= .int k (m:Nat)) (hu:P.underlying T=some .string) (h1:m<s.size):
  Yld P o vs (.int .u8 ((s.data.getD m 0).toNat:Nat)):=fun w=>by
 have qE:o.op.operands.toList=[x,y]:=by simp[ho,Op.operands]
 rw[qE];simp only[execOp,ho,hx,hy,eK,Instr.index,asIntOf,eL,eJ,run_underlying hu];rw[if_pos aA,bU,getElem?_pos s m h1];have h2:m<s.data.size:=h1;simp only[eL,eJ];rw[show s.data.getD m 0=s[m]from by rw[bD,cG h2];rfl]
def E6 {t:TypeId} {s:ByteArray} {vs:List Value} (ho:o.op= .call ⟨.builtin .len,#[x],#[t]⟩) (hx:e8 [x] vs x= .string s) (hu:P.underlying t=some .string):Yld P o vs (.int .i64 s.size):=fun w=>by
 have qE:o.op.operands.toList=[x]:=by simp[ho,Op.operands,Call.operands]
 rw[qE];simp only[execOp,ho,resolve,invoke,eK,eL,eJ,fR,bI,bR,hx];simp only[builtin,eK,run_len_string w t _ s hu,eJ];rfl
def E7 {t t':TypeId} {a b:ByteArray} {vs:List Value} (ho:o.op= .binOp .eql t x y t') (hx:e8 [x,y] vs x= .string a) (hy:e8 [x,y] vs y= .string b) (_hu:P.underlying t=some .string) (_hg:P.eqGuardType P.depth t=false):Yld P o vs (.bool (a.toList==b.toList)):=fun w=>by
 have qE:o.op.operands.toList=[x,y]:=by simp[ho,Op.operands]
 rw[qE];simp only[execOp,ho,hx,hy];simp only[eK,binOp_string_eql];simp[eqGuard,_hg]
end
open Go.RowKit
def ba (l:List UInt8):ByteArray:=⟨l.toArray⟩
def st (l:List UInt8):Value:= .string (ba l)
def Oh (l:List UInt8):(ba l).size=l.length:=by show l.toArray.size=_;simp
def vh (l:List UInt8):(ba l).toList=l:=by rw[ByteArray.toList_eq];rfl
def E8 (l:List UInt8):(st l).cells= #[st l]:=rfl
def st_one (l:List UInt8):j0 (st l).cells:=by intro c hc;simp[E8]at hc;subst hc;rfl
section
variable {P:Program} {H:PH} {o:Oper} {x y:Operand} {vs:List Value} {l m:List UInt8}
def E9 {t:TypeId} (ho:o.op= .call ⟨.builtin .len,#[x],#[t]⟩) (hx:e8 [x] vs x=st l) (hu:P.underlying t=some .string):Yld P o vs (.int .i64 l.length):=by
 have:=E6 ho hx hu
 rwa[Oh]at this
def F0 {t t':TypeId} (ho:o.op= .binOp .eql t x y t') (hx:e8 [x,y] vs x=st l) (hy:e8 [x,y] vs y=st m) (hu:P.underlying t=some .string) (hg:P.eqGuardType P.depth t=false):Yld P o vs (.bool (l==m)):=by
 have:=E7 ho hx hy hu hg
 rwa[vh,vh]at this
end
def Sl (H:PH) (sz:Nat) (v:Value) (n:Nat) (xs:List Value):Prop:=
 xs.length=n*sz/\∃a c,v= .slice a n c/\n<=c/\c<=maxLen/\(n=0\/∃b o cs T fz,a=some ⟨b,o,none⟩/\H b=some (.cells cs T fz)/\(cs.toList.drop o).take (n*sz)=xs)
def OwS (H0 H:PH) (e:TypeId) (sz:Nat) (v:Value) (n:Nat) (xs:List Value):Prop:=
 xs.length=n*sz/\((v= .slice none 0 0/\n=0)\/∃g cap cur,v= .slice (some ⟨g,0,none⟩) n cap/\H0 g=none/\H g=some (.cells cur e (0,0))/\n<=cap/\cap<=maxLen/\cur.size=cap*sz/\cur.toList.take (n*sz)=xs)
def Sl.mono {H H':PH} {sz n:Nat} {v:Value} {xs:List Value} (h:Sl H sz v n xs) (hl:Pl H H'):Sl H' sz v n xs:=by
 obtain⟨h1,a,c,h2,h3,h4,h5⟩:=h;refine⟨h1,a,c,h2,h3,h4,h5.imp id ?_⟩;rintro⟨b,o,cs,T,fz,g1,g2,g3⟩;exact⟨b,o,cs,T,fz,g1,hl _ _ g2,g3⟩
def OwS.sl {H0 H:PH} {e:TypeId} {sz n:Nat} {v:Value} {xs:List Value} (h:OwS H0 H e sz v n xs):Sl H sz v n xs:=by
 obtain⟨h1,h2|⟨g,cap,cur,h2,h3,h4,h5,h6,h7,h8⟩⟩:=h
 ·exact⟨h1,none,0,by rw[h2.1,h2.2],aA,by simp[maxLen],.inl h2.2⟩
 ·exact⟨h1,_,cap,h2,h5,h6,.inr ⟨g,0,cur,e,_,rfl,h4,by rw[cS];exact h8⟩⟩
def OwS.nil (H0 H:PH) (e:TypeId) (sz:Nat):OwS H0 H e sz (.slice none 0 0) 0 []:=⟨aD,.inl ⟨rfl,rfl⟩⟩
def OwS.mono {H0 H H':PH} {e:TypeId} {sz n:Nat} {v:Value} {xs:List Value} (h:OwS H0 H e sz v n xs) (hl:Pl H H'):OwS H0 H' e sz v n xs:=by
 obtain⟨h1,h2|⟨g,cap,cur,h2,h3,h4,h5⟩⟩:=h
 ·exact⟨h1,.inl h2⟩
 ·exact⟨h1,.inr ⟨g,cap,cur,h2,h3,hl _ _ h4,h5⟩⟩
def OwS.less {H0 H1 H:PH} {e:TypeId} {sz n:Nat} {v:Value} {xs:List Value} (h:OwS H1 H e sz v n xs) (hl:Pl H0 H1):OwS H0 H e sz v n xs:=by
 obtain⟨h1,h2|⟨g,cap,cur,h2,h3,h4,h5⟩⟩:=h
 ·exact⟨h1,.inl h2⟩
 ·refine⟨h1,.inr ⟨g,cap,cur,h2,?_,h4,h5⟩⟩;cases e:H0 g with
  |none=>rfl
  |some o=>rw[hl _ _ e]at h3;cases h3
def Sl.len_le {H:PH} {sz n:Nat} {v:Value} {xs:List Value} (h:Sl H sz v n xs):n<=maxLen:=by
 obtain⟨_,_,c,_,h3,h4,_⟩:=h;omega
section
variable {P:Program} {H H0:PH} {o:Oper} {x y:Operand} {vs:List Value}
def vi {t e:TypeId} {sz n:Nat} {v:Value} {xs:List Value} (ho:o.op= .call ⟨.builtin .len,#[x],#[t]⟩) (hx:e8 [x] vs x=v) (hu:P.underlying t=some (.slice e)) (h:Sl H sz v n xs):Yld P o vs (.int .i64 n):=by
 obtain⟨_,a,c,h2,_⟩:=h;exact E3 ho (hx.trans h2) hu
def vj {T e:TypeId} {sz n i:Nat} {k:IntKind} {v:Value} {xs:List Value} (ho:o.op= .indexAddr T x y) (hx:e8 [x,y] vs x=v) (hy:e8 [x,y] vs y= .int k (i:Nat)) (hu:P.underlying T=some (.slice e)) (he:r9 P e=true) (rN:P.cellsOf e=sz) (rS:0<sz) (h:Sl H sz v n xs) (hi:i<n):
  ∃b q cs T' fz,Yld P o vs (.pointer (some ⟨b,q,none⟩))/\H b=some (.cells cs T' fz)/\q+sz<=cs.size/\(cs.toList.drop q).take sz=(xs.drop (i*sz)).take sz:=by
 obtain⟨hl,a,c,h2,h3,h4,h5⟩:=h;rcases h5 with h5|⟨b,q,cs,T',fz,h5,h6,h7⟩
 ·omega
 ·subst h5;have yC:=vd (n:=n) (c:=c) ho (hx.trans h2) hy hu he aA aA;rw[bU,rN]at yC;have hb:(i+1)*sz<=n*sz:=bC _ hi;rw[dC,cQ]at hb;have qC:=congrArg List.length h7;simp only[bH,fG,bA]at qC;have wS:0<n*sz:=Nat.mul_pos aA rS;refine⟨b,_,cs,T',fz,yC,h6,aA,?_⟩;rw[<-h7,List.drop_take,List.drop_drop,oG];congr 1;omega
def vo {T T':TypeId} {b q:Nat} {cs:Array Value} {fz:Nat×Nat} {w:Value} (ho:o.op= .load T x) (hx:e8 [x] [.pointer (some ⟨b,q,none⟩)] x= .pointer (some ⟨b,q,none⟩)) (hH:H b=some (.cells cs T' fz)) (hT:r9 P T=true) (tM:r8 P T=false) (hc:P.cellsOf T=1) (hq:q+1<=cs.size) (hw:(cs.toList.drop q).take 1=[w]):
  Rds P o [.pointer (some ⟨b,q,none⟩)] H w:=by
 have:=Vb (P:=P) ho hx hH hT (by rw[hc];exact hq) (fun _=>hq);rw[tM]at this;have e:cs.getD q undef=w:=by
  have h1:=congrArg (fun l:List Value=>l[0]?) hw;simp only[eI,dP,cJ]at h1;rw[bD,<-cY];simp at h1;simp[h1]
 simp only[aY,if_false,e]at this;exact this
def IG {T T':TypeId} {b q sz:Nat} {cs:Array Value} {fz:Nat×Nat} {ws:List Value} (ho:o.op= .load T x) (hx:e8 [x] [.pointer (some ⟨b,q,none⟩)] x= .pointer (some ⟨b,q,none⟩)) (hH:H b=some (.cells cs T' fz)) (hT:r9 P T=true) (tM:r8 P T=true) (hc:P.cellsOf T=sz) (hq:q+sz<=cs.size) (hw:(cs.toList.drop q).take sz=ws):
  Rds P o [.pointer (some ⟨b,q,none⟩)] H (.agg ws.toArray):=by
 have:=Vb (P:=P) ho hx hH hT (by rw[hc];exact hq) (fun h=>by rw[tM]at h;cases h);rw[tM,hc]at this;have e:cs.extract q (q+sz)=ws.toArray:=by
  apply fZ;rw[Array.toList_extract,List.extract_eq_take_drop,Nat.add_sub_cancel_left,hw]
 simp only[if_true,e]at this;exact this
def F1 {T e:TypeId} {sz n i:Nat} {k:IntKind} {v:Value} {xs:List Value} {hi:Operand} (ho:o.op= .slice T x none (some hi) none) (hx:e8 [x,hi] vs x=v) (hl:e8 [x,hi] vs hi= .int k (i:Nat)) (hu:P.underlying T=some (.slice e)) (he:r9 P e=true) (h:Sl H sz v n xs) (h1:i<=n):
  ∃u,Yld P o vs u/\Sl H sz u i (xs.take (i*sz)):=by
 obtain⟨qC,a,c,h2,h3,h4,h5⟩:=h;obtain⟨⟨ie,hie⟩,_⟩:=Fh he;have qE:o.op.operands.toList=[x,hi]:=by simp[ho,Op.operands]
 have pY:i*sz<=n*sz:=bC _ h1;refine⟨.slice a i c,fun w=> ?_,by rw[bH];omega,a,c,rfl,aA,h4,?_⟩
 ·rw[qE];simp only[execOp,ho,hx,h2,cR,jO,hl,Instr.sliceAt,Instr.slice,eK,run_underlying hu,eJ,eL,Instr.sliceBounds];rw[run_sliceBound w k (i:Int) c _ aA aA];simp only[eJ,Gy hie,bU,bV,Nat.sub_zero];by_cases vV:c=0
  ·rw[if_pos vV]
  ·rw[if_neg vV];cases a with
   |none=>rfl
   |some a=>simp[Addr.add]
 ·rcases h5 with h5|⟨b,q,cs,T',fz,h5,h6,h7⟩
  ·left;omega
  ·right;refine⟨b,q,cs,T',fz,h5,h6,?_⟩;rw[<-h7,oG,cD pY]
def vu {T e:TypeId} {sz n:Nat} {kl kc:IntKind} {i:TypeInfo} {z:Value} (ho:o.op= .makeSlice T x y) (hx:e8 [x,y] vs x= .int kl (n:Nat)) (hy:e8 [x,y] vs y= .int kc (n:Nat)) (hu:P.underlying T=some (.slice e)) (hi:P.info? e=some i) (hz:i.zero=some z) (rN:i.size=sz) (hb:i.bytes*n<=281474976710656) (hm:n<=maxLen):
  Opn P o vs H fun v H'=>∃g,H g=none/\v= .slice (some ⟨g,0,none⟩) n n/\H'=H.put g (.cells (madeCells z.cells (n*sz)) e (0,0)):=fun w hw=>by
 have qE:o.op.operands.toList=[x,y]:=by simp[ho,Op.operands]
 have h63:(n:Int)<=9223372036854775807:=by have h:=hm;simp[maxLen]at h;omega
 have rO:(i.bytes:Int)*(n:Int)<=281474976710656:=by
  have h:((i.bytes*n:Nat):Int)<=281474976710656:=aA
  rwa[eA]at h
 have hr:=run_make (P:=P) w T e i z hu hi hz kl kc (n:Int) (n:Int) aA (Int.le_refl _) rO h63;simp only[bU,rN]at hr;unfold Stp;rw[qE];simp only[execOp,ho,hx,hy,eK,hr,eJ,eL];exact⟨_,Step.newB hw _,_,hw.fresh,rfl,rfl⟩
def vw {T e:TypeId} {n:Nat} {parts:Array (Nat×Operand)} {cells:Array Value} {i:TypeInfo} {z:Value} (ho:o.op= .buildSlice T n parts) (hu:P.underlying T=some (.slice e)) (hi:P.info? e=some i) (hz:i.zero=some z) (hs:¬n*i.size>2^24) (hp:¬n*i.size=0)
  (hf:Instr.fill (fun j=>some (j*i.size,i.size)) ((pE (n*i.size)).map (z.cells[· %z.cells.size]!)) (parts.toList.map fun p=>(p.1,e8 (parts.toList.map (·.2)) vs p.2))=some cells):
  Opn P o vs H fun v H'=>∃g,H g=none/\v= .slice (some ⟨g,0,none⟩) n n/\H'=H.put g (.cells cells e (0,0)):=fun w hw=>by
 have qE:o.op.operands.toList=parts.toList.map (·.2):=by simp[ho,Op.operands]
 have hr:=run_buildSlice (P:=P) w T e n (parts.map fun(j,x)=>(j,e8 (parts.toList.map (·.2)) vs x)) cells i z hu hi hz hs hp (by rw[dR];exact hf);unfold Stp;rw[qE];simp only[execOp,ho,eK,hr,eJ,eL];exact⟨_,Step.newB hw _,_,hw.fresh,rfl,rfl⟩
end
open Go.RowKit
def gy {w:World} {b q:Nat} {cs:Array Value} {T:TypeId} {fz:Nat×Nat} {n:Nat} {news:List Value} (hb:w.heap[b]? =some (.cells cs T fz)) (hn:(cs.toList.drop q).take n=news):∀j u,news[j]? =some u->w.cell? ((⟨b,q,none⟩:Addr).add j)=some u:=by
 intro j u hj;rw[<-hn,eI]at hj;split at hj
 ·rw[dP,cY]at hj;rw[Ky];simp[World.cell?,hb,hj]
 ·cases hj
section
variable {P:Program} {H H0:PH} {o:Oper} {x y:Operand} {vs:List Value}
def F2 {t e:TypeId} {i:TypeInfo} {z:Value} {sz n m:Nat} {v u:Value} {xs news:List Value} (ho:o.op= .call ⟨.builtin .append,#[x,y],#[t,t]⟩) (hx:e8 [x,y] vs x=v) (hy:e8 [x,y] vs y=u)
  (hu:P.underlying t=some (.slice e)) (hi:P.info? e=some i) (hz:i.zero=some z) (rN:i.size=sz) (hzs:z.cells.size=sz) (pY:Pl H0 H) (hv:OwS H0 H e sz v n xs) (hs:Sl H sz u m news) (hm:0<m) (h1:∀c∈news,c.oneCell'=true) (h63:n+m<=maxLen) (uM:(n+m)*i.bytes<=140737488355328):
  Opn P o vs H fun v' H'=>Pl H0 H'/\OwS H0 H' e sz v' (n+m) (xs++news)/\∃g ob,H'=H.put g ob/\H0 g=none/\(H g=none\/∃cs,H g=some (.cells cs e (0,0))):=fun w hw=>by
 have qE:o.op.operands.toList=[x,y]:=by simp[ho,Op.operands,Call.operands]
 obtain⟨hl,a,c,sB,hmc,uW,hs⟩:=hs;obtain⟨b,q,cs,T,fz,ha,hb,hn⟩:=hs.resolve_left aA;subst ha;have tH:=gy (hw _ _ hb) hn;obtain⟨sQ,hv⟩:=hv;have a6k:n+m<=9223372036854775807:=by simp only[maxLen]at h63;omega
 have qC:(xs++news).length=(n+m)*sz:=by rw[aL,sQ,hl,dC]
 have put_le:∀g ob,H0 g=none->Pl H0 (H.put g ob):=fun g ob hg k ob' hk=>by
  rw[PH.put_ne _ _ (fun e=>by rw[e,hg]at hk;cases hk)];exact pY _ _ hk
 have fresh0:H0 w.heap.size=none:=by
  cases e:H0 w.heap.size with
  |none=>rfl
  |some ob=>have:=hw.fresh;rw[pY _ _ e]at this;cases this
 have grown:∀(old:Nat) (w':World),w'=w.drew.alloc (.cells (xs.toArray++news.toArray++Builtin.zeroCells z.cells (grownCap w (n+m) old e-(n+m))) e)->
   Step H w (H.put w.heap.size (.cells (xs.toArray++news.toArray++Builtin.zeroCells z.cells (grownCap w (n+m) old e-(n+m))) e (0,0))) w'/\
   OwS H0 (H.put w.heap.size (.cells (xs.toArray++news.toArray++Builtin.zeroCells z.cells (grownCap w (n+m) old e-(n+m))) e (0,0))) e sz (.slice (some ⟨w.heap.size,0,none⟩) (n+m) (grownCap w (n+m) old e)) (n+m) (xs++news):=fun old w' rU=>by
  have vW:=grownCap_ge w (n+m) old e;have uW:grownCap w (n+m) old e<=maxLen:=grownCap_le_maxLen w (n+m) old e h63;subst rU;constructor
  ·have hd:Ext w w.drew:=⟨rfl,rfl,rfl,aS _,fun _ _=>rfl,pN _⟩;exact(Step.of_ext hw hd).trans (Step.newB (hw.ext hd) _)
  ·refine⟨qC,.inr ⟨w.heap.size,_,_,rfl,fresh0,PH.put_self _ _ _,vW,uW,?_,?_⟩⟩
   ·simp only[dN,jK,size_zeroCells,hzs,sQ,hl,<-dC];congr 1;omega
   ·simp only[eG,bL];rw[<-bL,<-qC];exact kD
 unfold Stp;rw[qE];simp only[execOp,ho,resolve,invoke,eK,eL,eJ,fR,bI,bR,hx,hy,sB,builtin];rcases hv with⟨rfl,rfl⟩|⟨g,cap,cur,rfl,vX,hg,hnc,a4b,qR,a0j⟩
 ·have hx0:xs=[]:=aT (by simpa using sQ);subst hx0;have hr:=run_append_nil (P:=P) w t o.type e i z hu hi hz ⟨b,q,none⟩ m c news (by rw[rN];exact hl) tH hm aA (by have hb:=uM;simp only[bJ]at hb;omega);have hgr:=grown 0 _ rfl;simp only[bJ,dA,mV]at hgr⊢;rw[hr];exact⟨_,hgr.1,put_le _ _ fresh0,hgr.2,_,_,rfl,fresh0,.inl hw.fresh⟩
 ·by_cases zA:n+m<=cap
  ·have zC:n*i.size+news.length<=cur.size:=by rw[hl,qR,rN,<-dC];exact bC _ zA
   have hr:=run_append_room (P:=P) w t o.type e i hu hi g n cap cur (hw _ _ hg) ⟨b,q,none⟩ m c news (by rw[rN];exact hl) tH h1 zA zC;rw[hr];refine⟨_,⟨rfl,rfl,rfl,aD,fun k hk hn=>setRow_other _ _ _ _ (fun e=>by rw[e,hg]at hn;cases hn),fun k ob hk=> ?_,fun k hk=> ?_,aS _⟩,put_le g (.cells (cur.toList.take (n*i.size)++news++cur.toList.drop (n*i.size+news.length)).toArray e (0,0)) vX,⟨qC,.inr ⟨g,cap,_,rfl,vX,PH.put_self _ _ _,zA,a4b,?_,?_⟩⟩,_,_,rfl,vX,.inr ⟨_,hg⟩⟩
   ·unfold PH.put at hk;split at hk
    ·rename_i e;subst e;cases hk;exact setRow_heap w k _ _ _ (0,0) (hw _ _ hg)
    ·rename_i e;rw[setRow_other _ _ _ _ e];exact hw k ob hk
   ·unfold PH.put at hk;split at hk
    ·rename_i e;subst e;exact .inl (by simp[hg])
    ·exact .inl hk
   ·simp only[jK,aL,bH,fG,bA];omega
   ·rw[rN,a0j,<-qC];exact kD
  ·have holds:∀j u,xs[j]? =some u->w.cell? ((⟨g,0,none⟩:Addr).add j)=some u:=gy (n:=n*sz) (hw _ _ hg) (by rw[cS];exact a0j);have hr:=run_append_grow (P:=P) w t o.type e i z hu hi hz ⟨g,0,none⟩ n cap xs (by rw[rN];exact sQ) holds ⟨b,q,none⟩ m c news (by rw[rN];exact hl) tH aA aA (growslice_fits aA uM);have hgr:=grown cap _ rfl;rw[hr];exact⟨_,hgr.1,put_le _ _ fresh0,hgr.2,_,_,rfl,fresh0,.inl hw.fresh⟩
def F3 {t e:TypeId} {i:TypeInfo} {sz n:Nat} {v u:Value} {xs news:List Value} (ho:o.op= .call ⟨.builtin .append,#[x,y],#[t,t]⟩) (hx:e8 [x,y] vs x=v) (hy:e8 [x,y] vs y=u)
  (hu:P.underlying t=some (.slice e)) (hi:P.info? e=some i) (hv:Sl H sz v n xs) (hs:Sl H sz u 0 news):Opn P o vs H fun v' H'=>v'=v/\H'=H:=fun w hw=>by
 have qE:o.op.operands.toList=[x,y]:=by simp[ho,Op.operands,Call.operands]
 obtain⟨_,a,c,sB,_⟩:=hs;obtain⟨_,a2,c2,hv2,pY,_⟩:=hv;have hr:(Builtin.append_ #[t,t] o.type #[.slice a2 n c2,.slice a 0 c]).run P w= .ok (.slice a2 n c2) w:=by
  cases a2<;>cases a<;>simp[Builtin.append_,run_underlying hu,sizeOf,typeInfo,hi,pY,storeCells,Builtin.lenOf,Builtin.firstCells,loadCells,loadCellsFrom]
 unfold Stp;rw[qE];simp only[execOp,ho,resolve,invoke,eK,eL,eJ,fR,bI,bR,hx,hy,sB,hv2,builtin];rw[hr];exact⟨_,Step.refl hw,rfl,rfl⟩
def IH {T e:TypeId} {i:TypeInfo} (ho:o.op= .buildSlice T 0 #[]) (hu:P.underlying T=some (.slice e)) (hi:P.info? e=some i):
  Opn P o vs H fun v H'=>∃g,H g=none/\v= .slice (some ⟨g,0,none⟩) 0 0/\H'=H.put g (.cells #[] e (0,0)):=fun w hw=>by
 have hr:(Instr.buildSlice T 0 #[]).run P w= .ok (.slice (some ⟨w.heap.size,0,none⟩) 0 0) (w.alloc (.cells #[] e)):=by
  simp[Instr.buildSlice,run_underlying hu,sizeOf,typeInfo,hi,newRow,Instr.fill,Array.range_zero']
 unfold Stp;simp only[execOp,ho,eK,hr,eJ,eL,nP];exact⟨_,Step.newB hw _,_,hw.fresh,rfl,rfl⟩
end
def fieldsOf (P:Program) (t:TypeId):Array Field:=match P.underlying t with|some (.struct fs)=>fs|_=> #[]
def fieldAt (P:Program) (t:TypeId) (i:Nat):Field:=((fieldsOf P t)[i]?).getD default
def F4 {P:Program} {t:TypeId} {i:Nat} (h:i<(fieldsOf P t).size):(fieldsOf P t)[i]? =some (fieldAt P t i):=by
 unfold fieldAt;rw[cG h];rfl
def PH.put_same {H:PH} {b:Nat} {ob:Obj} (h:H b=some ob):H.put b ob=H:=by
 funext k;unfold PH.put;split
 ·rename_i e;rw[e,h]
 ·rfl
section
variable {P:Program} {H:PH} {o:Oper} {x y:Operand} {vs:List Value}
def F5 {a:Addr} (ho:o.op= .nilCheck x) (hx:e8 [x] vs x= .pointer (some a)):Yld P o vs (.pointer (some a)):=fun w=>by
 have qE:o.op.operands.toList=[x]:=by simp[ho,Op.operands]
 rw[qE];simp only[execOp,ho,hx];rfl
def F6 {t t' e:TypeId} {p:Option Addr} (ho:o.op= .binOp .eql t x y t') (hx:e8 [x,y] vs x= .pointer p) (hy:e8 [x,y] vs y= .pointer none) (hu:P.underlying t=some (.pointer e)):Yld P o vs (.bool p.isNone):=fun w=>by
 have qE:o.op.operands.toList=[x,y]:=by simp[ho,Op.operands]
 rw[qE];have h:∀d:Nat,(Op.equalIn (d+1) t (.pointer p) (.pointer none)).run P w= .ok p.isNone w:=fun d=>by
  cases p<;>simp[Op.equalIn,run_underlying hu]
 have hb:(binOp .eql t (.pointer p) (.pointer none)).run P w= .ok (.bool p.isNone) w:=by
  simp only[binOp];simp[Op.equal,Op.maxDepth,h 9999]
 simp only[execOp,ho,hx,hy,eK,eqGuard];simp[hb]
def bv (c:UInt8):Value:= .int .u8 (c.toNat:Nat)
end
open Go.RowKit
section
variable {P:Program} {H:PH} {o:Oper} {x y:Operand} {vs:List Value} {l m:List UInt8}
def F7 (l m:List UInt8):ba l++ba m=ba (l++m):=ByteArray.mk_append_mk l m
def II {t t':TypeId} (ho:o.op= .binOp .add t x y t') (hx:e8 [x,y] vs x=st l) (hy:e8 [x,y] vs y=st m) (qC:l.length+m.length<=9223372036854775807):Yld P o vs (st (l++m)):=fun w=>by
 have qE:o.op.operands.toList=[x,y]:=by simp[ho,Op.operands]
 rw[qE];simp only[execOp,ho,hx,hy,st];simp only[eK,binOp_string_add];have h:=run_string_add_sum (P:=P) w (ba l) (ba m) (by rw[Oh,Oh];exact qC);rw[F7]at h;simp[eqGuard,h]
def F8 {t t':TypeId} (ho:o.op= .binOp .neq t x y t') (hx:e8 [x,y] vs x=st l) (hy:e8 [x,y] vs y=st m):Yld P o vs (.bool (!(l==m))):=fun w=>by
 have qE:o.op.operands.toList=[x,y]:=by simp[ho,Op.operands]
 rw[qE];simp only[execOp,ho,hx,hy,st];simp only[eK,binOp_string_neq,vh];simp[eqGuard]
def F9 {src dst e:TypeId} {v:Value} (ho:o.op= .convert src dst x) (hx:e8 [x] vs x=v) (hs:P.underlying src=some (.slice e)) (he:P.underlying e=some (.int .u8)) (hd:P.underlying dst=some .string) (h:Sl H 1 v l.length (l.map bv)):Rds P o vs H (st l):=fun w hw=>by
 have qE:o.op.operands.toList=[x]:=by simp[ho,Op.operands]
 rw[qE];obtain⟨_,a,c,rfl,_,_,h5⟩:=h;simp only[execOp,ho,hx,eK];have hr:(convert src dst (.slice a l.length c)).run P w= .ok (st l) w:=by
  rcases h5 with h5|⟨b,q,cs,T,fz,rfl,hb,htk⟩
  ·have hl:l=[]:=aT h5;subst hl;cases a with
   |none=>exact run_convert_bytes_nil w src e hs he 0 c dst hd
   |some a=>exact run_convert_bytes_back w src dst e a c [] hs he hd (fun j hj=>absurd hj (Nat.not_lt_zero _))
  ·refine run_convert_bytes_back w src dst e _ c l hs he hd fun j hj=> ?_;have rO:=hw _ _ hb;rw[Ky];unfold World.cell?;rw[rO];rw[fY]at htk;have h6:=congrArg (fun z=>z[j]?) htk;simp only[eI,dP,aX,if_pos hj,aG hj,cR]at h6;simp only[cY]at h6;simpa[bv]using h6
 rw[hr];rfl
def ic {t u:TypeId} {a b:Int} (ho:o.op= .call ⟨.builtin .min,#[x,y],#[t,u]⟩) (hx:e8 [x,y] vs x= .int .i64 a) (hy:e8 [x,y] vs y= .int .i64 b):Yld P o vs (.int .i64 (if b<a then b else a)):=fun w=>by
 have qE:o.op.operands.toList=[x,y]:=by simp[ho,Op.operands,Call.operands]
 rw[qE];simp only[execOp,ho,resolve,invoke,eK,eL,eJ,fR,bI,bR,hx,hy];simp only[builtin,eK,run_min_int2,eJ];rfl
def G0 {t e:TypeId} {i:TypeInfo} {z:Value} {sz m g:Nat} {u:Value} {news:List Value} (ho:o.op= .call ⟨.builtin .append,#[x,y],#[t,t]⟩) (hx:e8 [x,y] vs x= .slice (some ⟨g,0,none⟩) 0 0) (hy:e8 [x,y] vs y=u)
  (hu:P.underlying t=some (.slice e)) (hi:P.info? e=some i) (hz:i.zero=some z) (rN:i.size=sz) (hzs:z.cells.size=sz) (hs:Sl H sz u m news) (hm:0<m) (h63:m<=maxLen) (uM:m*i.bytes<=140737488355328):
  Opn P o vs H fun v' H'=>Pl H H'/\OwS H H' e sz v' m news:=fun w hw=>by
 have qE:o.op.operands.toList=[x,y]:=by simp[ho,Op.operands,Call.operands]
 obtain⟨hl,a,c,sB,hmc,uW,hs⟩:=hs;obtain⟨b,q,cs,T,fz,ha,hb,hn⟩:=hs.resolve_left aA;subst ha;have tH:=gy (hw _ _ hb) hn;have vW:=grownCap_ge w m 0 e;have a4c:grownCap w m 0 e<=maxLen:=grownCap_le_maxLen w m 0 e h63;have hr:=run_append_grow (P:=P) w t o.type e i z hu hi hz ⟨g,0,none⟩ 0 0 [] aD (fun j u hj=>by simp at hj) ⟨b,q,none⟩ m c news (by rw[rN];exact hl) tH aA (by simp only[maxLen]at h63;omega) (growslice_fits aA (by rw[bJ];exact uM));unfold Stp;rw[qE];simp only[execOp,ho,resolve,invoke,eK,eL,eJ,fR,bI,bR,hx,hy,sB,builtin];simp only[bJ,mV]at hr;rw[hr];have hd:Ext w w.drew:=⟨rfl,rfl,rfl,aS _,fun _ _=>rfl,pN _⟩;refine⟨_,(Step.of_ext hw hd).trans (Step.newB (hw.ext hd) _),PH.le_put hw.fresh _,hl,.inr ⟨w.heap.size,_,_,rfl,hw.fresh,PH.put_self _ _ _,vW,a4c,?_,?_⟩⟩
 ·simp only[dN,jK,size_zeroCells,hzs,hl,<-dC];congr 1;omega
 ·simp only[eG];rw[<-hl];exact kD
def we {S T:TypeId} {i b q off:Nat} (ho:o.op= .fieldAddr S x i) (hx:e8 [x] vs x= .pointer (some ⟨b,q,none⟩)) (hS:P.underlying S=some (.struct (fieldsOf P S))) (hi:i<(fieldsOf P S).size) (hT:(fieldAt P S i).type=T) (hof:(fieldAt P S i).offset=off) (hT':r9 P T=true) (hc:P.cellsOf T≠0):Yld P o vs (.pointer (some ⟨b,q+off,none⟩)):=fun w=>by
 have qE:o.op.operands.toList=[x]:=by simp[ho,Op.operands]
 rw[qE];simp only[execOp,ho,hx,eK];rw[HC hS (F4 hi) (by rw[hT];exact hT') (by rw[hT];exact hc),hof];rfl
def ig {T e:TypeId} {n b q:Nat} (ho:o.op= .slice T x none none none) (hx:e8 [x] vs x= .pointer (some ⟨b,q,none⟩)) (hu:P.underlying T=some (.array n e)) (he:r9 P e=true):
  Yld P o vs (.slice (some ⟨b,q,none⟩) n n):=fun w=>by
 have qE:o.op.operands.toList=[x]:=by simp[ho,Op.operands]
 obtain⟨⟨i,hi⟩,_⟩:=Fh he;rw[qE];simp only[execOp,ho,hx,jO,Instr.sliceAt,eK,run_underlying hu,eJ,Instr.sureAddr,eL,Instr.sliceBounds,Gy hi,Ky];simp
def G4 {dT sT e T:TypeId} {i:TypeInfo} {g q dLen dCap m:Nat} {cur:Array Value} {u:Value} {news:List Value} (ho:o.op= .call ⟨.builtin .copy,#[x,y],#[dT,sT]⟩) (hx:e8 [x,y] vs x= .slice (some ⟨g,q,none⟩) dLen dCap) (hy:e8 [x,y] vs y=u)
  (hu:P.underlying dT=some (.slice e)) (hi:P.info? e=some i) (rN:i.size=1) (hg:H g=some (.cells cur T (0,0))) (hs:Sl H 1 u m news) (h1:∀c∈news,c.oneCell'=true) (hm:m<=dLen) (zC:q+m<=cur.size):
  Opn P o vs H fun _ H'=>H'=H.put g (.cells (cur.toList.take q++news++cur.toList.drop (q+m)).toArray T (0,0)):=fun w hw=>by
 have qE:o.op.operands.toList=[x,y]:=by simp[ho,Op.operands,Call.operands]
 have hgw:=hw _ _ hg;obtain⟨hl,a,c,sB,hmc,uW,hs⟩:=hs;rw[fY]at hl;have tA:(P.info? e).map (·.size)=some 1:=by rw[hi];simp[rN]
 unfold Stp;rw[qE];simp only[execOp,ho,resolve,invoke,eK,eL,eJ,fR,bI,bR,hx,hy,sB,builtin];rcases hs with h0|⟨b,q',cs,T',fz,ha,hb,hn⟩
 ·subst h0;obtain rfl:news=[]:=aT hl;rw[run_copy_none w dT sT o.type e (some ⟨g,q,none⟩) a dLen dCap 0 c hu tA aD];refine⟨_,Step.refl hw,?_⟩;rw[cC,cJ,dQ,Array.toArray_toList,PH.put_same hg]
 ·subst ha;rw[fY]at hn;have tH:=gy (hw _ _ hb) hn;have hr:=run_copy_row (P:=P) w dT sT o.type e g q dLen dCap ⟨b,q',none⟩ m c cur T news hu tA hgw (by rw[hl];exact(cD hm).symm) tH (by rw[hl];exact zC) h1;rw[hr,hl];refine⟨_,⟨rfl,rfl,rfl,aD,fun k hk hn=>setRow_other _ _ _ _ (fun e=>by rw[e,hg]at hn;cases hn),fun k ob hk=> ?_,fun k hk=> ?_,aS _⟩,rfl⟩
  ·unfold PH.put at hk;split at hk
   ·rename_i e;subst e;cases hk;exact setRow_heap w k _ _ T (0,0) hgw
   ·rename_i e;rw[setRow_other _ _ _ _ e];exact hw k ob hk
  ·unfold PH.put at hk;split at hk
   ·rename_i e;subst e;exact .inl (by simp[hg])
   ·exact .inl hk
end
end Go.RX
namespace Go.WD
open RX
def wi (k:IntKind) (n:Int):j0 (Value.int k n).cells:=by intro c hc;simp[IE]at hc;subst hc;rfl
@[irreducible] def PW (k:Nat):Nat:=2^(64*k)
def Jk:PW 0=1:=by unfold PW;rfl
def u6 (k:Nat):PW (k+1)=PW k*18446744073709551616:=by
 unfold PW;rw[iD,fW]
def Bi (k:Nat):0<PW k:=by unfold PW;exact jD aA
def Vd (i j:Nat):PW (i+j)=PW i*PW j:=by unfold PW;rw[fE,fW]
def Rw {i j:Nat} (h:i<=j):PW i<=PW j:=by unfold PW;exact bQ aA aA
def G5 {i j:Nat} (h:i<=j):PW i ∣ PW j:=by
 obtain⟨d,rfl⟩:=Nat.exists_eq_add_of_le h;rw[Vd];exact Nat.dvd_mul_right _ _
@[irreducible] def M:Nat:=PW 8
def Dn:M=PW 8:=by unfold M;rfl
def Oi:0<M:=by rw[Dn];exact Bi 8
def dig (n i:Nat):Nat:=n/PW i%18446744073709551616
def Oj (n i:Nat):dig n i<18446744073709551616:=cI _ aA
def Gz (n k:Nat):n%PW (k+1)=n%PW k+PW k*dig n k:=by rw[u6,Nat.mod_mul];rfl
def wj {a b:Nat}:∀{k:Nat},(∀i,i<k->dig a i=dig b i)->a%PW k=b%PW k:=by
 intro k;induction k with
 |zero=>intro _;rw[Jk,kW,kW]
 |succ k ih=>intro h;rw[Gz,Gz,ih (fun i hi=>h i aA),h k aA]
def IJ (a:Nat) {i k:Nat} (h:i<k):dig (a%PW k) i=dig a i:=by
 obtain⟨d,rfl⟩:=Nat.exists_eq_add_of_lt h;have e:PW (i+d+1)=PW i*PW (d+1):=by rw[jY,Vd]
 unfold dig;rw[e,Nat.mod_mul_right_div_self,u6,eF (PW d),Nat.mod_mul_right_mod]
def wk {a b k i:Nat} (h:a%PW k=b%PW k) (hi:i<k):dig a i=dig b i:=by
 rw[<-IJ a hi,h,IJ b hi]
def Za (i:Nat):dig 0 i=0:=by simp[dig]
def wf (f:Nat->Nat):Array Value:= #[.int .u64 (f 0),.int .u64 (f 1),.int .u64 (f 2),.int .u64 (f 3),.int .u64 (f 4),.int .u64 (f 5),.int .u64 (f 6),.int .u64 (f 7)]
def G6 (f:Nat->Nat):(wf f).size=8:=rfl
def G7 (f:Nat->Nat):j0 (wf f):=by
 intro c hc;simp[wf]at hc;rcases hc with h|h|h|h|h|h|h|h<;>subst h<;>rfl
def IK {i:Nat} (h:i<8):i=0\/i=1\/i=2\/i=3\/i=4\/i=5\/i=6\/i=7:=aA
def Ve (f:Nat->Nat) {i:Nat} (h:i<8):(wf f).getD i undef= .int .u64 (f i):=by
 rcases IK h with h|h|h|h|h|h|h|h<;>subst h<;>rfl
def Le {f g:Nat->Nat} (h:∀i,i<8->f i=g i):wf f=wf g:=by
 unfold wf;rw[h 0 aA,h 1 aA,h 2 aA,h 3 aA,h 4 aA,h 5 aA,h 6 aA,h 7 aA]
def G8 {f g:Nat->Nat} (h:wf f=wf g):∀i,i<8->f i=g i:=by
 intro i hi;have:=(Ve f hi).symm.trans ((congrArg (fun a=>Array.getD a i undef) h).trans (Ve g hi));simp only[kP,true_and]at this;omega
def G9 (f:Nat->Nat) {i:Nat} (h:i<8) (d:Nat):(wf f).setIfInBounds i (.int .u64 d)=wf (fun j=>if j=i then d else f j):=by
 rcases IK h with h|h|h|h|h|h|h|h<;>subst h<;>rfl
def Zb (f:Nat->Nat) {i:Nat} (h:i<8) (d:Nat):spl (wf f) i [.int .u64 d]=wf (fun j=>if j=i then d else f j):=G9 f h d
def words (n:Nat):Array Value:=wf (dig n)
def wd (n:Nat):Value:= .agg (words n)
def nb (b:Bool) (n:Nat):Value:= .agg (#[.bool b]++words n)
def words_size (n:Nat):(words n).size=8:=rfl
def words_one (n:Nat):j0 (words n):=G7 _
def Jl (n:Nat) {i:Nat} (h:i<8):(words n).getD i undef= .int .u64 (dig n i):=Ve _ h
def IL {a b:Nat} (h:a%M=b%M):words a=words b:=by rw[Dn]at h;exact Le fun _ hi=>wk h hi
def IM {a b:Nat} (h:words a=words b):a%M=b%M:=by rw[Dn];exact wj (G8 h)
def wn {f:Nat->Nat} {n:Nat} (h:∀i,i<8->f i=dig n i):wf f=words n:=Le h
def rxs:(∀(f:SV->Value) (a:SV) (l:List SV),kZ f (a::l)=f a::kZ f l)/\
  (∀f:SV->Value,kZ f []=[])/\
  (∀(a:Value) (l m:List Value),(a::l)++m=a::(l++m))/\
  (∀l:List Value,[]++l=l)/\
  (∀(a:Value) (l:List Value) (d:Value),(a::l).getD 0 d=a)/\
  (∀(a:Value) (l:List Value) (n:Nat) (d:Value),(a::l).getD (n+1) d=l.getD n d)/\
  (∀P ρ i,D P ρ (.v i)=ρ.getD i undef)/\
  (∀P ρ c,D P ρ (.k c)=c)/\
  (∀P ρ t,D P ρ (.z t)=j3 P t)/\
  (∀P ρ x,D P ρ (.ag x)= .agg (D P ρ x).cells)/\
  (∀P ρ x o s i,D P ρ (.cell x o s i)=(D P ρ x).cells.getD (o+s*t6 (D P ρ i)) undef)/\
  (∀P ρ x o n s i,D P ρ (.sub x o n s i)= .agg ((D P ρ x).cells.extract (o+s*t6 (D P ρ i)) (o+s*t6 (D P ρ i)+n)))/\
  (∀P ρ x o n y s i,D P ρ (.put x o n y s i)= .agg (spl (D P ρ x).cells (o+s*t6 (D P ρ i)) (D P ρ y).cells.toList))/\
  (∀P ρ x n y,D P ρ (.cat x n y)= .agg ((D P ρ x).cells++(D P ρ y).cells))/\
  (∀P ρ x i,D P ρ (.pj x i)=Ks i (D P ρ x))/\
  (∀P ρ o k x y,D P ρ (.op2 o k x y)=w9 o k (Go.RowKit.intOf (D P ρ x)) (Go.RowKit.intOf (D P ρ y)))/\
  (∀P ρ o k x,D P ρ (.op1 o k x)=unV o k (Go.RowKit.intOf (D P ρ x)))/\
  (∀P ρ x,D P ρ (.nt x)= .bool (!Ep (D P ρ x)))/\
  (∀P ρ k x,D P ρ (.cv k x)= .int k (k.wrap (Go.RowKit.intOf (D P ρ x))))/\
  (∀P ρ c x y,D P ρ (.ite c x y)=if Ep (D P ρ c)then D P ρ x else D P ρ y)/\
  (∀P ρ n x y,D P ρ (.eqb n x y)= .bool (n !=(Ep (D P ρ x)==Ep (D P ρ y))))/\
  (∀v,t6 v=(Go.RowKit.intOf v).toNat)/\
  (∀k n,Go.RowKit.intOf (.int k n)=n)/\
  (∀b,Ep (.bool b)=b)/\
  (∀(k:IntKind) (a b:Int),w9 .add k a b= .int k (k.wrap (a+b)))/\
  (∀(k:IntKind) (a b:Int),w9 .sub k a b= .int k (k.wrap (a-b)))/\
  (∀(k:IntKind) (a b:Int),w9 .mul k a b= .int k (k.wrap (a*b)))/\
  (∀(k:IntKind) (a b:Int),w9 .quo k a b= .int k (k.wrap (a.tdiv b)))/\
  (∀(k:IntKind) (a b:Int),w9 .rem k a b= .int k (a.tmod b))/\
  (∀(k:IntKind) (a b:Int),w9 .and k a b= .int k (k.wrap (BitVec.ofInt k.bits a&&&BitVec.ofInt k.bits b).toNat))/\
  (∀(k:IntKind) (a b:Int),w9 .or k a b= .int k (k.wrap (BitVec.ofInt k.bits a|||BitVec.ofInt k.bits b).toNat))/\
  (∀(k:IntKind) (a b:Int),w9 .xor k a b= .int k (k.wrap (BitVec.ofInt k.bits a^^^BitVec.ofInt k.bits b).toNat))/\
  (∀(k:IntKind) (a b:Int),w9 .andNot k a b= .int k (k.wrap (BitVec.ofInt k.bits a&&& ~~~BitVec.ofInt k.bits b).toNat))/\
  (∀(k:IntKind) (a b:Int),w9 .shl k a b= .int k (k.wrap (a*2^(min b.toNat k.bits))))/\
  (∀(k:IntKind) (a b:Int),w9 .shr k a b= .int k (a.fdiv (2^(min b.toNat k.bits))))/\
  (∀(k:IntKind) (a b:Int),w9 .eql k a b= .bool (a==b))/\
  (∀(k:IntKind) (a b:Int),w9 .neq k a b= .bool (a !=b))/\
  (∀(k:IntKind) (a b:Int),w9 .lss k a b= .bool (a<b))/\
  (∀(k:IntKind) (a b:Int),w9 .leq k a b= .bool (a<=b))/\
  (∀(k:IntKind) (a b:Int),w9 .gtr k a b= .bool (a>b))/\
  (∀(k:IntKind) (a b:Int),w9 .geq k a b= .bool (a≥b))/\
  (∀cs:Array Value,(Value.agg cs).cells=cs)/\
  (∀n,(wd n).cells=words n)/\
  (∀n:Nat,0+n=n)/\
  (∀n:Nat,1*n=n)/\
  (∀n:Nat,n+0=n)/\
  (∀n:Nat,0*n=0)/\
  (∀n:Nat,(n:Int).toNat=n)/\
  (∀a b:Value,Ks 0 (.tuple #[a,b])=a)/\
  (∀a b:Value,Ks 1 (.tuple #[a,b])=b)/\
  (∀a b c:Value,Ks 0 (.tuple #[a,b,c])=a)/\
  (∀a b c:Value,Ks 1 (.tuple #[a,b,c])=b)/\
  (∀a b c:Value,Ks 2 (.tuple #[a,b,c])=c)/\
  (∀(k:IntKind) (n:Int),(Value.int k n).cells.toList=[.int k n]):=by
 and_intros<;>intros<;>first|rfl|simp
def cr (a b k:Nat):Nat:=(a%PW k+b%PW k)/PW k
def I0 (a b:Nat):cr a b 0=0:=by simp[cr,Jk,kW]
def I1 (a b k:Nat):cr a b k<=1:=by
 unfold cr;have h1:=cI a (Bi k);have h2:=cI b (Bi k);have:a%PW k+b%PW k<2*PW k:=aA;have:=(Nat.div_lt_iff_lt_mul (Bi k)).2 this;omega
def I2 (a b k:Nat):cr a b (k+1)=(dig a k+dig b k+cr a b k)/18446744073709551616:=by
 unfold cr;rw[Gz,Gz,u6,<-Nat.div_div_eq_div_mul];congr 1;rw[show a%PW k+PW k*dig a k+(b%PW k+PW k*dig b k)=(a%PW k+b%PW k)+PW k*(dig a k+dig b k)from by rw[fE];omega,iW _ _ (Bi k)];omega
def I3 (a b k:Nat):(a+b)/PW k=a/PW k+b/PW k+cr a b k:=by
 unfold cr;have h1:=jA a (PW k);have h2:=jA b (PW k);rw[show a+b=(a%PW k+b%PW k)+PW k*(a/PW k+b/PW k)from by rw[fE];omega,iW _ _ (Bi k)];omega
def IN (a b k:Nat):dig (a+b) k=(dig a k+dig b k+cr a b k)%18446744073709551616:=by
 unfold dig;rw[I3];omega
def bw (a b k:Nat):Nat:=if a%PW k<b%PW k then 1 else 0
def I4 (a b:Nat):bw a b 0=0:=by simp[bw,Jk,kW]
def IP (a b k:Nat):bw a b k<=1:=by unfold bw;split<;>omega
def IQ {p x y A B:Nat} (hA:A<p) (hB:B<p):A+p*x<B+p*y↔x<y+(if A<B then 1 else 0):=by
 constructor
 ·intro h;rcases Nat.lt_trichotomy x y with h1|h1|h1
  ·split<;>omega
  ·subst h1;rw[if_pos aA];omega
  ·exfalso;have:p*(y+1)<=p*x:=gK _ h1;rw[iD]at this;omega
 ·intro h;split at h
  ·rename_i qB;rcases dU x y with h1|h1
   ·have:p*(x+1)<=p*y:=gK _ h1;rw[iD]at this;omega
   ·have:x=y:=aA;subst this;omega
  ·have:p*(x+1)<=p*y:=gK _ aA;rw[iD]at this;omega
def I5 (a b k:Nat):bw a b (k+1)=if dig a k<dig b k+bw a b k then 1 else 0:=by
 unfold bw;rw[Gz,Gz];simp only[IQ (cI a (Bi k)) (cI b (Bi k))]
def IR {a b m:Nat} (hm:m<8) (hs:∀j,m<j->j<8->dig a j=dig b j) (h:dig a m<dig b m):a%M<b%M:=by
 have key:∀t,m+1+t<=8->a%PW (m+1+t)<b%PW (m+1+t):=by
  intro t;induction t with
  |zero=>
   intro _;rw[cJ,Gz,Gz,IQ (cI a (Bi m)) (cI b (Bi m))];omega
  |succ t ih=>
   intro ht;rw[<-jY,Gz,Gz,hs (m+1+t) aA aA];have:=ih aA;omega
 have:=key (8-(m+1)) aA;rw[show m+1+(8-(m+1))=8 from aA]at this;rw[Dn];exact this
def sb (a b:Nat):Nat:=a+(M-b%M)
def I6 (a b:Nat) {k:Nat} (hk:k<8):dig (sb a b) k=(dig a k+18446744073709551616-dig b k-bw a b k)%18446744073709551616:=by
 have hs:(sb a b+b)%M=a%M:=by
  unfold sb;have:=cI b Oi;have e:=jA b M;rw[show a+(M-b%M)+b=a+M*(b/M+1)from by rw[iD];omega,Nat.add_mul_mod_self_left]
 have hd:dig (sb a b+b) k=dig a k:=wk (by rw[<-Dn];exact hs) hk;have hc:cr (sb a b) b k=bw a b k:=by
  have pY:k<=8:=aA;have wT:PW k ∣ M:=by rw[Dn];exact G5 pY
  have h1:(sb a b+b)%PW k=a%PW k:=by
   rw[<-nL _ wT,hs,nL _ wT]
  have h2:((sb a b)%PW k+b%PW k)%PW k=a%PW k:=by rw[<-Nat.add_mod];exact h1
  have hA:=cI (sb a b) (Bi k);have hB:=cI b (Bi k);unfold cr bw;rcases dU ((sb a b)%PW k+b%PW k) (PW k)with h|h
  ·rw[dV h]at h2;rw[fV h,if_neg aA]
  ·have e:=Nat.mod_eq_sub_mod h;rw[e,dV aA]at h2;rw[if_pos aA];rw[Nat.div_eq_sub_div (Bi k) h,fV aA]
 rw[IN,hc]at hd;have h1:=Oj (sb a b) k;have h2:=Oj b k;have h3:=Oj a k;have h4:=IP a b k;omega
open Go.RX
def sg (a b:Nat):Int:=if a<b then -1 else if a=b then 0 else 1
@[irreducible] def HM:Nat:=9223372036854775808*PW 7
def Vf:HM=9223372036854775808*PW 7:=by unfold HM;rfl
def Jm:M=2*HM:=by rw[Dn,Vf,show(8:Nat)=7+1 from rfl,u6];omega
def Vg:0<HM:=by rw[Vf];have:=Bi 7;omega
def rs (z:Int):Nat:=(z%(M:Int)).toNat
def I7 (z:Int):rs z<M:=by
 unfold rs;have:=Oi;have h:=Int.emod_lt_of_pos z (show(0:Int)<M by omega);have h':=Int.emod_nonneg z (show(M:Int)≠0 by omega);omega
def iw (z:Int):Value:=wd (rs z)
def nm (z:Int):Value:=nb (decide (z<0)) z.natAbs
def toI (a:Nat):Int:=if a%M<HM then(a%M:Nat)else(a%M:Nat)-(M:Int)
def Jo (z:Int):Prop:= -(HM:Int)<=z/\z<HM
def I8 (a:Nat):Jo (toI a):=by
 have h:=cI a Oi;have:=Jm;unfold Jo toI;split<;>omega
def wq {z:Int} (h0:0<=z) (h:z<M):rs z=z.toNat:=by
 unfold rs;rw[jP h0 h]
def ww {z:Int} (h0:z<0) (h: -(M:Int)<=z):rs z=(z+M).toNat:=by
 unfold rs;have:=Oi;rw[<-Int.add_emod_right,jP aA aA]
def Ii {z:Int} (h:Jo z):toI (rs z)=z:=by
 have hM:=Jm;have hl:=I7 z;obtain⟨h1,h2⟩:=h;unfold toI;rw[dV hl];by_cases h0:0<=z
 ·rw[wq h0 aA];split<;>omega
 ·rw[ww aA aA];split<;>omega
def I9 (a:Nat):dig a 7<9223372036854775808↔a%M<HM:=by
 have e:a%M=a%PW 7+PW 7*dig a 7:=by rw[Dn];exact Gz a 7
 have qB:=cI a (Bi 7);rw[e,Vf];constructor
 ·intro h;have:=gK (PW 7) (show dig a 7+1<=9223372036854775808 by omega);rw[iD]at this;rw[eF 9223372036854775808];omega
 ·intro h;rcases dU (dig a 7) 9223372036854775808 with h1|h1
  ·exact h1
  ·have:=gK (PW 7) h1;rw[eF 9223372036854775808]at h;omega
def Zc {b b':Bool} {m n:Nat} (h:b=b') (hm:m%M=n%M):nb b m=nb b' n:=by unfold nb;rw[h,IL hm]
def J0 {m n:Nat} (hm:m%M=n%M):wd m=wd n:=by unfold wd;rw[IL hm]
def J1 {i:Nat} (h:i<8):dig HM i=if i=7 then 9223372036854775808 else 0:=by
 unfold dig;rw[Vf];split
 ·rename_i e;subst e;rw[nM _ (Bi 7)]
 ·obtain⟨d,hd⟩:∃d,7=(d+1)+i:=⟨7-i-1,aA⟩;rw[hd,Vd,<-eY,nM _ (Bi i),u6,<-eY,Nat.mul_mod_left]
def J2:HM<M:=by have:=Jm;have:=Vg;omega
def J3:spl (words 0) 7 [.int .u64 9223372036854775808]=words HM:=by
 have:=Zb (dig 0) (show 7<8 by omega) 9223372036854775808;refine Eq.trans this (wn fun i hi=> ?_);rw[J1 hi,Za]
def IS {z:Int} (h:z<0) (hm:z.natAbs<M):wd (sb 0 z.natAbs)=iw z:=by
 unfold iw;refine J0 ?_;rw[ww h aA];unfold sb;rw[dV hm];congr 1;omega
def J4 {z:Int} (h:0<=z) (hm:z.natAbs<M):wd z.natAbs=iw z:=by
 unfold iw;rw[wq h aA];congr 1;omega
def sg_pos {a b:Nat}:sg a b>0↔b<a:=by unfold sg;split<;>(try split)<;>omega
def sg_zero {a b:Nat}:sg a b=0↔a=b:=by unfold sg;split<;>(try split)<;>omega
def sg_nonneg {a b:Nat}:sg a b≥0↔b<=a:=by unfold sg;split<;>(try split)<;>omega
@[irreducible] def BP (k:Nat):Nat:=2^(32*k)
def BP_zero:BP 0=1:=by unfold BP;rfl
def BP_succ (k:Nat):BP (k+1)=BP k*4294967296:=by unfold BP;rw[iD,fW]
def J5 (k:Nat):0<BP k:=by unfold BP;exact jD aA
def J6 (i j:Nat):BP (i+j)=BP i*BP j:=by unfold BP;rw[fE,fW]
def Ha {i j:Nat} (h:i<=j):BP i<=BP j:=by unfold BP;exact bQ aA aA
def BP_lt_iff {i j:Nat}:BP i<BP j↔i<j:=by
 constructor
 ·intro h;rcases dU i j with h1|h1
  ·exact h1
  ·have:=Ha h1;omega
 ·intro h;have h1:=Ha (show i+1<=j from h);have h2:=J5 i;rw[BP_succ]at h1;omega
def IU (k:Nat):BP (2*k)=PW k:=by unfold BP PW;rw[<-eY]
def J7:BP 16=M:=by rw[Dn,<-IU]
def IV {l:List Nat} {k:Nat} (h:k<l.length):l[k]? =some (l.getD k 0):=by
 rw[aJ,aG h];rfl
def J8 {l:List Nat} {k:Nat} (h:k<l.length):l.take (k+1)=l.take k++[l.getD k 0]:=by
 rw[dE,IV h];rfl
def ij {l:List Nat} {k:Nat} (h:k<l.length):l.drop k=l.getD k 0::l.drop (k+1):=by
 have:=dY h;rw[this];congr 1;rw[aJ,aG h];rfl
def IW {l:List Nat} {k x:Nat} (h:k<l.length):(l.set k x).getD k 0=x:=by
 rw[aJ,dF,if_pos rfl,if_pos h];rfl
def Lh {l:List Nat} {k j x:Nat} (h:j≠k):(l.set k x).getD j 0=l.getD j 0:=by
 rw[aJ,aJ,dF,if_neg (fun e=>h e.symm)]
def J9 {l:List Nat} {k j x:Nat} (h:k<j):(l.set k x).drop j=l.drop j:=by
 apply bP;intro i;rw[dP,dP,dF,if_neg aA]
def Zd (n k:Nat):(List.replicate n 0).getD k 0=0:=by
 rw[aJ,dI];split<;>rfl
def Vh {l:List Nat} {k:Nat} (h:l.length<=k):l.getD k 0=0:=by
 rw[aJ,aO h];rfl
end Go.WD
namespace Go.Z
open Proofs.Tryz RowKit RX
def mixed:prog.follows .mixedOrders=true:=aB
def K8:d9 prog [] [] [] [] 292=some (.rq (.cells 8 V0)
(.pm f292 1 2 [(.ag V0),(.z 237)]
(.ret [V1]))):=aB
def K9:d9 prog [] [] [⟨0,3,[],[0]⟩] [⟨5,[0,0,2,6,0,16,48,0,254,510,1022,1022,2047,6143,16383],rDx 15 41000201101100,rPx 15 0,rAx 0 13,[13,14]⟩] 247=some (.rq (.cells 8 V0) (.rq (.cells 8 V1) (.loop [(kU 0),(.ki 0),V0]
(.ri V3
(.br (.io .lss V3 (.ki 8)) (.rq (.num V3) (.rq (.lt 8 V3) (.ext 200 [(.cell V4 0 1 V3),(.cell V1 0 1 V3),V2]
(.rq (.tup 0 V5) (.rq (.tup 1 V5) (.rq (.cells 1 (.pj V5 0)) (.next 0 [(.pj V5 1),(.io .add V3 (.ki 1)),(.put V4 0 1 (.pj V5 0) 1 V3)]))))))) (.ret [(.ag V4),V2])))))):=aB
def L1:d9 prog [] [] [⟨0,3,[],[0]⟩] [⟨5,[0,0,2,6,0,16,48,0,254,510,1022,1022,2047,6143,16383],rDx 15 41000201101100,rPx 15 0,rAx 0 13,[13,14]⟩] 184=some (.rq (.cells 8 V0) (.rq (.cells 8 V1) (.loop [(kU 0),(.ki 0),V0]
(.ri V3
(.br (.io .lss V3 (.ki 8)) (.rq (.num V3) (.rq (.lt 8 V3) (.ext 218 [(.cell V4 0 1 V3),(.cell V1 0 1 V3),V2]
(.rq (.tup 0 V5) (.rq (.tup 1 V5) (.rq (.cells 1 (.pj V5 0)) (.next 0 [(.pj V5 1),(.io .add V3 (.ki 1)),(.put V4 0 1 (.pj V5 0) 1 V3)]))))))) (.ret [(.ag V4),V2])))))):=aB
def L3:d9 prog [] [] [⟨0,2,[],[]⟩] [⟨4,[0,1,3,0,8,24,63],rDx 7 110110,rPx 7 0,rAx 0 7,[]⟩,⟨5,[0,1,3,0,8,24,63],rDx 7 110110,rPx 7 0,rAx 0 7,[]⟩] 185=some (.rq (.cells 8 V0) (.rq (.cells 8 V1) (.loop [(.ki 0),(.ki 7)]
(.ri V3
(.br (.io .geq V3 (.ki 0)) (.rq (.num V3) (.rq (.lt 8 V3) (.rq (.int .u64 (.cell V0 0 1 V3)) (.rq (.int .u64 (.cell V1 0 1 V3)) (.br (.uo .neq (.cell V0 0 1 V3) (.cell V1 0 1 V3)) (.br (.uo .lss (.cell V0 0 1 V3) (.cell V1 0 1 V3)) (.ret [(kI (-1))]) (.ret [(.ki 1)])) (.next 0 [V2,(.io .sub V3 (.ki 1))])))))) (.ret [(.ki 0)])))))):=aB
@[reducible] def z6_:SV:= .uo .eql (.uo .shr (.cn V0 7) (kU 63)) (kU 1)
def L4:d9 prog [] [] [] [] 134=some (.rq (.cells 8 V0) (.rq (.int .u64 (.cell V0 7 0 noI)) (.br z6_
(.call false 184 [(.z 237),(.ag V0)]
(.rq (.tup 0 V1) (.rq (.tup 1 V1) (.rq (.cells 8 (.pj V1 0)) (.ret [(.cat z6_ 1 (.pj V1 0))]))))) (.ret [(.cat z6_ 1 (.ag V0))])))):=aB
def L5:d9 prog [] [] [] [] 135=some (.rq (.cells 9 V0) (.call false 185 [(.sub V0 1 8 0 noI),(.put (.z 237) 7 1 (kU 9223372036854775808) 0 noI)]
(.ri V1
(.br (.io .gtr V1 (.ki 0)) (.ret [(.z 51),(.ki 6)]) (.br (.io .eql V1 (.ki 0)) (.rq (.bool (.cell V0 0 0 noI)) (.br (.nt (.cell V0 0 0 noI)) (.ret [(.z 51),(.ki 6)]) (.call false 184 [(.z 237),(.sub V0 1 8 0 noI)]
(.rq (.tup 0 V2) (.rq (.tup 1 V2) (.rq (.cells 8 (.pj V2 0)) (.ret [(.ag (.pj V2 0)),(.ki 0)]))))))) (.rq (.bool (.cell V0 0 0 noI)) (.br (.cell V0 0 0 noI) (.call false 184 [(.z 237),(.sub V0 1 8 0 noI)]
(.rq (.tup 0 V2) (.rq (.tup 1 V2) (.rq (.cells 8 (.pj V2 0)) (.ret [(.ag (.pj V2 0)),(.ki 0)]))))) (.ret [(.sub V0 1 8 0 noI),(.ki 0)])))))))):=aB
def L6:d9 prog [] [] [] [⟨1,[0,1,3,7,15,31,0,127,255],rDx 9 605002500,rPx 8 0++[1],rDx 8 75436210,[8]⟩] 248=some (.rq (.cells 8 V1) (.rq (.bool V0) (.br V0
(.call true 292 [(.ag V1)]
(.rq (.bool V2) (.ret [(.cat (.nt V2) 1 (.ag V1))]))) (.ret [(.cat (.k (.bool false)) 1 (.ag V1))])))):=aB
def IX:d9 prog [] [] [] [] 181=some (.rq (.cells 9 V0) (.rq (.cells 9 V1) (.rq (.bool (.cell V0 0 0 noI)) (.rq (.bool (.cell V1 0 0 noI)) (.br (.eqb false (.cell V0 0 0 noI) (.cell V1 0 0 noI)) (.call false 247 [(.sub V0 1 8 0 noI),(.sub V1 1 8 0 noI)]
(.rq (.tup 0 V2) (.rq (.tup 1 V2) (.rq (.cells 8 (.pj V2 0)) (.call false 248 [(.cell V0 0 0 noI),(.ag (.pj V2 0))]
(.rq (.int .u64 (.pj V2 1)) (.rq (.cells 9 V3) (.ret [(.ag V3),(.uo .gtr (.pj V2 1) (kU 0))])))))))) (.call false 185 [(.sub V0 1 8 0 noI),(.sub V1 1 8 0 noI)]
(.ri V2
(.br (.io .geq V2 (.ki 0)) (.call false 184 [(.sub V0 1 8 0 noI),(.sub V1 1 8 0 noI)]
(.rq (.tup 0 V3) (.rq (.tup 1 V3) (.rq (.cells 8 (.pj V3 0)) (.call false 248 [(.cell V0 0 0 noI),(.ag (.pj V3 0))]
(.rq (.cells 9 V4) (.ret [(.ag V4),(.k (.bool false))]))))))) (.call false 184 [(.sub V1 1 8 0 noI),(.sub V0 1 8 0 noI)]
(.rq (.tup 0 V3) (.rq (.tup 1 V3) (.rq (.cells 8 (.pj V3 0)) (.call false 248 [(.cell V1 0 0 noI),(.ag (.pj V3 0))]
(.rq (.cells 9 V4) (.ret [(.ag V4),(.k (.bool false))]))))))))))))))):=aB
def L7:d9 prog [] [] [] [] 133=some (.ef false f133 1 0 []
(.ef false f133 1 1 [V0,(kB 43),(.k (.func (.func 181) #[] #[]))]
(.ef false f133 1 2 [V0,(kB 45),(.k (.func (.func 182) #[] #[]))]
(.ef false f133 1 3 [V0,(kB 42),(.k (.func (.func 183) #[] #[]))]
(.ret [V0]))))):=aB
def L8:d9 prog [] [] [] [⟨1,[0,0,3,0,9,0,57,127,255,511,511,0,3071,8191],rDx 14 4300022525102,rDx 14 100000,rDx 6 420531++rAx 6 6,[12,13]⟩] 85=some (.rq (.cells 8 V0) (.rq (.cells 8 V1) (.call true 133 []
(.pm f85 1 2 [V3,V2]
(.call true 134 [(.ag V0)]
(.call true 134 [(.ag V1)]
(.ef true f85 1 7 [V4,V5,V6]
(.rq (.tup 0 V7) (.rq (.tup 1 V7) (.rq (.cells 9 (.pj V7 0)) (.rq (.bool (.pj V7 1)) (.br (.pj V7 1) (.ret [(.z 51),(.ki 6)]) (.call false 135 [(.ag (.pj V7 0))]
(.rq (.tup 0 V8) (.rq (.tup 1 V8) (.rq (.cells 8 (.pj V8 0)) (.ret [(.ag (.pj V8 0)),(.pj V8 1)]))))))))))))))))):=aB
def L9:d9 prog [] [] [⟨0,4,[],[1]⟩] [] 33=some (.ri V0
(.br (.io .lss V0 (.ki 0)) (.loop [(.ki 1),(.put (.z 51) 0 1 (.cv .u64 V0) 0 noI)]
(.ri V1
(.br (.io .lss V1 (.ki 8)) (.rq (.num V1) (.rq (.lt 8 V1) (.next 0 [(.io .add V1 (.ki 1)),(.put V2 0 1 (kU 18446744073709551615) 1 V1)]))) (.ret [(.ag V2)])))) (.ret [(.put (.z 51) 0 1 (.cv .u64 V0) 0 noI)]))):=aB
def M0:d9 prog [] [] [] [] 32=some (.rq (.cells 8 V0) (.rq (.cells 8 V1) (.call false 85 [(.ag V0),(.ag V1),(kB 43)]
(.rq (.tup 0 V2) (.rq (.tup 1 V2) (.rq (.cells 8 (.pj V2 0)) (.ret [(.ag (.pj V2 0)),(.pj V2 1)]))))))):=aB
@[reducible] def z7_:SV:= .uo .add (.uo .mul (.uo .shr V0 (kU 32)) (.uo .and V1 (kU 4294967295))) (.uo .shr (.uo .mul (.uo .and V0 (kU 4294967295)) (.uo .and V1 (kU 4294967295))) (kU 32))
def M5:d9 prog [] [] [] [] 199=some (.ru V0
(.ru V1
(.ret [(.uo .add (.uo .add (.uo .mul (.uo .shr V0 (kU 32)) (.uo .shr V1 (kU 32))) (.uo .shr z7_ (kU 32))) (.uo .shr (.uo .add (.uo .and z7_ (kU 4294967295)) (.uo .mul (.uo .and V0 (kU 4294967295)) (.uo .shr V1 (kU 32)))) (kU 32))),(.uo .mul V0 V1)]))):=aB
@[reducible] def z8_:SV:= .uo .or (.uo .shl V0 (.cv .u64 V3)) (.uo .shr V1 (.uo .sub (kU 64) (.cv .u64 V3)))
@[reducible] def z9_:SV:= .uo .sub (.uo .add (.uo .mul V8 (kU 4294967296)) V9) (.uo .mul V13 V4)
@[reducible] def Ze:SV:= .uo .shr (.uo .shl V2 (.cv .u64 V3)) (kU 32)
def M6:d9 prog [] [(20,false),(24,false)] [⟨3,16,[2]++rAx 8 4++rAx 13 4,[]⟩,⟨1,0,[15],[]⟩,⟨3,23,[17,18,16],[]⟩,⟨1,2,[18],[]⟩,⟨0,17,[],[]⟩,⟨0,24,[],[]⟩] [⟨6,[0,0,3,0,0,24,7,127],rPx 8 0,rPx 8 0,rAx 0 8,[]⟩] 196=some (.ru V2
(.rq (.isb false (.uo .eql V2 (kU 0)))
(.ru V0
(.rq (.isb false (.uo .leq V2 V0)) (.br (.uo .eql V0 (kU 0))
(.ru V1
(.rq (.nz V2) (.ret [(.uo .quo V1 V2),(.uo .rem V1 V2)]))) (.call false 256 [V2]
(.ri V3
(.rq (.nn (.cv .u64 V3))
(.ru V1
(.rq (.nn (.uo .sub (kU 64) (.cv .u64 V3))) (.rq (.nz Ze) (.join 9
(.next 0 [(.uo .shl V2 (.cv .u64 V3)),(.cv .u64 V3),Ze,(.uo .and (.uo .shl V2 (.cv .u64 V3)) (kU 4294967295)),z8_,(.uo .shr (.uo .shl V1 (.cv .u64 V3)) (kU 32)),(.uo .and (.uo .shl V1 (.cv .u64 V3)) (kU 4294967295)),(.uo .quo z8_ Ze),(.uo .sub z8_ (.uo .mul (.uo .quo z8_ Ze) Ze))]) (.join 1
(.loop [V11,V12]
(.ru V13
(.br (.uo .geq V13 (kU 4294967296))
(.ru V14
(.ru V6
(.br (.uo .geq (.uo .add V14 V6) (kU 4294967296)) (.next 0 [(.uo .sub V13 (kU 1))]) (.next 1 [(.uo .sub V13 (kU 1)),(.uo .add V14 V6)]))))
(.ru V7
(.ru V14
(.ru V9
(.br (.uo .gtr (.uo .mul V13 V7) (.uo .add (.uo .mul (kU 4294967296) V14) V9))
(.ru V6
(.br (.uo .geq (.uo .add V14 V6) (kU 4294967296)) (.next 0 [(.uo .sub V13 (kU 1))]) (.next 1 [(.uo .sub V13 (kU 1)),(.uo .add V14 V6)]))) (.next 0 [V13]))))))))
(.ru V8
(.ru V9
(.ru V13
(.ru V4
(.ru V6
(.rq (.nz V6) (.join 3
(.next 0 [z9_,(.uo .quo z9_ V6),(.uo .sub z9_ (.uo .mul (.uo .quo z9_ V6) V6))]) (.join 1
(.loop [V15,V16]
(.ru V17
(.br (.uo .geq V17 (kU 4294967296))
(.ru V18
(.br (.uo .geq (.uo .add V18 V6) (kU 4294967296)) (.next 0 [(.uo .sub V17 (kU 1))]) (.next 1 [(.uo .sub V17 (kU 1)),(.uo .add V18 V6)])))
(.ru V7
(.ru V18
(.ru V10
(.br (.uo .gtr (.uo .mul V17 V7) (.uo .add (.uo .mul (kU 4294967296) V18) V10)) (.br (.uo .geq (.uo .add V18 V6) (kU 4294967296)) (.next 0 [(.uo .sub V17 (kU 1))]) (.next 1 [(.uo .sub V17 (kU 1)),(.uo .add V18 V6)])) (.next 0 [V17]))))))))
(.ru V17
(.ru V14
(.ru V10
(.rq (.num V5) (.rq (.nn V5) (.ret [(.uo .add (.uo .mul V13 (kU 4294967296)) V17),(.uo .shr (.uo .sub (.uo .add (.uo .mul V14 (kU 4294967296)) V10) (.uo .mul V17 V4)) V5)]))))))))))))))))))))))))))):=aB
def M7:d9 prog [] [] [⟨2,4,[0,2],[]⟩,⟨2,8,[0,2],[]⟩,⟨2,14,[0,2],[]⟩] [] 195=some (.ru V0
(.join 2
(.br (.uo .geq V0 (kU 4294967296)) (.next 0 [(.uo .shr V0 (kU 32)),(.ki 32)]) (.next 0 [V0,(.ki 0)]))
(.ru V1
(.join 2
(.br (.uo .geq V1 (kU 65536))
(.ri V2
(.next 0 [(.uo .shr V1 (kU 16)),(.io .add V2 (.ki 16))])) (.next 0 [V1,V2]))
(.ru V3
(.join 2
(.br (.uo .geq V3 (kU 256))
(.ri V4
(.next 0 [(.uo .shr V3 (kU 8)),(.io .add V4 (.ki 8))])) (.next 0 [V3,V4]))
(.ru V5
(.pm f195 10 3 [(.k (.string ⟨#[0,1,2,2,3,3,3,3,4,4,4,4,4,4,4,4,5,5,5,5,5,5,5,5,5,5,5,5,5,5,5,5,6,6,6,6,6,6,6,6,6,6,6,6,6,6,6,6,6,6,6,6,6,6,6,6,6,6,6,6,6,6,6,6,7,7,7,7,7,7,7,7,7,7,7,7,7,7,7,7,7,7,7,7,7,7,7,7,7,7,7,7,7,7,7,7,7,7,7,7,7,7,7,7,7,7,7,7,7,7,7,7,7,7,7,7,7,7,7,7,7,7,7,7,7,7,7,7,8,8,8,8,8,8,8,8,8,8,8,8,8,8,8,8,8,8,8,8,8,8,8,8,8,8,8,8,8,8,8,8,8,8,8,8,8,8,8,8,8,8,8,8,8,8,8,8,8,8,8,8,8,8,8,8,8,8,8,8,8,8,8,8,8,8,8,8,8,8,8,8,8,8,8,8,8,8,8,8,8,8,8,8,8,8,8,8,8,8,8,8,8,8,8,8,8,8,8,8,8,8,8,8,8,8,8,8,8,8,8,8,8,8,8,8,8,8,8,8,8,8,8,8,8,8,8,8]⟩)),(.cv .u8 V5)]
(.rq (.int .u8 V7)
(.ri V6
(.ret [(.io .add V6 (.cv .i64 V7))]))))))))))):=aB
def M8:d9 prog [] [] [] [] 256=some (.call false 195 [V0]
(.ri V1
(.ret [(.io .sub (.ki 64) V1)]))):=aB
end Go.Z
namespace Go.RX
open RowKit
def Con.frame {P:Program} {f:FuncId} {args:List Value} {Hr H:PH} {V:Value->PH->Prop} (h:Con P f args Hr V) (pY:Pl Hr H):
  Con P f args H fun u H'=>∃Hr',V u Hr'/\Pl Hr' H'/\∀k ob,H k=some ob->Hr k=none->Hr' k=none/\H' k=some ob:=fun w hw=>by
 refine(h w (pY.In hw)).mono ?_;rintro e w' ⟨v,Hr',he,hs,hV⟩;have none_of:∀k ob,H k=some ob->Hr k=none->Hr' k=none:=fun k ob hk hr=>by
  cases e2:Hr' k with
  |none=>rfl
  |some o2=>
   have h2:=y9 (hw _ _ hk);rcases hs.dom k (by simp[e2])with h3|h3
   ·exact absurd hr h3
   ·omega
 refine⟨v,fun k=>match Hr' k with|some o=>some o|none=>if Hr k=none then H k else none,he,⟨hs.os,hs.tape,hs.output,hs.size,fun k hk hn=> ?_,fun k ob hk=> ?_,fun k hk=> ?_,hs.dr⟩,Hr',hV,fun k ob hk=> ?_,fun k ob hk hr=>⟨none_of k ob hk hr,?_⟩⟩
 ·refine hs.block k hk ?_;cases e2:Hr k with
  |none=>rfl
  |some o2=>rw[pY _ _ e2]at hn;cases hn
 ·cases e2:Hr' k with
  |some o2=>simp only[e2]at hk;cases hk;exact hs.holds _ _ e2
  |none=>
   simp only[e2]at hk;split at hk
   ·rename_i hr;rw[hs.block k (y9 (hw _ _ hk)) hr];exact hw _ _ hk
   ·cases hk
 ·cases e2:Hr' k with
  |some o2=>
   rcases hs.dom k (by simp[e2])with h3|h3
   ·refine .inl fun hn=>h3 ?_;cases e3:Hr k with
    |none=>rfl
    |some o3=>rw[pY _ _ e3]at hn;cases hn
   ·exact .inr h3
  |none=>
   simp only[e2]at hk;split at hk
   ·exact .inl hk
   ·exact absurd rfl hk
 ·simp only[hk]
 ·simp only[none_of k ob hk hr,hr,if_true,hk]
def OwS.frame {Hr H Hr' H':PH} {e:TypeId} {sz n:Nat} {v:Value} {xs:List Value} (h:OwS Hr H e sz v n xs) (hk:∀k ob,H k=some ob->Hr k=none->Hr' k=none/\H' k=some ob):OwS Hr' H' e sz v n xs:=by
 obtain⟨h1,h2|⟨g,cap,cur,h2,h3,h4,h5⟩⟩:=h
 ·exact⟨h1,.inl h2⟩
 ·exact⟨h1,.inr ⟨g,cap,cur,h2,(hk _ _ h4 h3).1,(hk _ _ h4 h3).2,h5⟩⟩
end Go.RX
namespace Go.Z
open Proofs Proofs.Tryz RowKit RX WD
def iv (d:Nat):Value:= .int .i64 (d:Nat)
def M9 (f:Nat->Value):(pE (1*1)).map f= #[f 0]:=by
 apply fZ;simp
open Go.IntWalk
def wz (b:Bool) (n:Nat):Value.agg ((#[Value.bool b]++words n).extract 1 9)=wd n:=rfl
def Ew (b:Bool) (n:Nat):(#[Value.bool b]++words n).size=9:=rfl
def He (b:Bool) (n:Nat):j0 (#[Value.bool b]++words n):=by
 intro c hc;simp only[eG,aV]at hc;rcases hc with h|h
 ·simp at h;subst h;rfl
 ·exact words_one n c h
def Vi:j3 prog 237=wd 0:=by
 have:j3 prog 237= .agg #[.int .u64 0,.int .u64 0,.int .u64 0,.int .u64 0,.int .u64 0,.int .u64 0,.int .u64 0,.int .u64 0]:=aB;rw[this];simp[wd,words,wf,Za]
def Ij:j3 prog 51=wd 0:=by
 have:j3 prog 51= .agg #[.int .u64 0,.int .u64 0,.int .u64 0,.int .u64 0,.int .u64 0,.int .u64 0,.int .u64 0,.int .u64 0]:=aB;rw[this];simp[wd,words,wf,Za]
def ik (x y c:Nat) (hx:x<18446744073709551616) (hy:y<18446744073709551616) (hc:c<=1):Own prog 200 [.int .u64 x,.int .u64 y,.int .u64 c] (.tuple #[.int .u64 (((x+y+c)%18446744073709551616:Nat):Int),.int .u64 (((x+y+c)/18446744073709551616:Nat):Int)]):=fun w=>by
 show(callFunc _ #[_,_,_]).run _ w=_;rw[run_callFunc_extern Tryz.func200 aB aB aB (e:=add64Entry) aB,run_add64 x y c aA aA aA aA];simp only[Result.andThen];congr 5<;>omega
def IY (x y b:Nat) (hb:b<=1):Own prog 218 [.int .u64 x,.int .u64 y,.int .u64 b] (.tuple #[.int .u64 (((x+18446744073709551616-y-b)%18446744073709551616:Nat):Int),.int .u64 ((if x<y+b then 1 else 0:Nat):Int)]):=fun w=>by
 show(callFunc _ #[_,_,_]).run _ w=_;rw[run_callFunc_extern Tryz.func218 aB aB aB (e:=sub64Entry) aB,run_sub64 x y b hb];rfl
def IZ (f g:Nat->Nat) (k i:Nat):(if i=k then f k else if i<k then f i else g i)=if i<k+1 then f i else g i:=by
 by_cases h1:i=k
 ·subst h1;rw[if_pos rfl,if_pos aA]
 ·rw[if_neg h1];by_cases h2:i<k
  ·rw[if_pos h2,if_pos aA]
  ·rw[if_neg h2,if_neg aA]
def N0 (a b:Nat):Det prog 247 [wd a,wd b] (.tuple #[wd (a+b),.int .u64 (cr a b 8)]):=by
 refine Dk mixed K9 aB rfl ?_;refine i6 ⟨words_size a,words_one a⟩ (i6 ⟨words_size b,words_one b⟩ ?_);refine⟨fun l=>∃k,k<=8/\l=[.int .u64 (cr a b k),.int .i64 (k:Nat),.agg (wf fun j=>if j<k then dig (a+b) j else dig a j)],fun l=>(8-intOf (l.getD 1 undef)).toNat,⟨0,aA,?_⟩,?_⟩
 ·rw[I0];rfl
 ·rintro vals-⟨k,hk,rfl⟩;refine i6 ⟨_,rfl⟩ (Ap (b:=decide ((k:Int)<8)) rfl (fun h=> ?_) (fun h=> ?_))
  ·have hk:k<8:=by simp at h;omega
   refine i6 ⟨_,_,rfl⟩ (i6 ⟨?_,?_⟩ ?_)
   ·show(0:Int)<=(k:Int);omega
   ·show(k:Int)<8;omega
   ·refine ID (ik (dig a k) (dig b k) (cr a b k) (Oj _ _) (Oj _ _) (I1 _ _ _)) ?_ ?_
    ·simp only[rxs,Ve _ hk,Jl b hk,iZ,if_false]
    ·refine i6 ⟨_,rfl,eM _⟩ (i6 ⟨_,rfl,bW _⟩ (i6 ⟨rfl,?_⟩ ?_))
     ·exact wi _ _
     ·refine⟨⟨k+1,aA,?_⟩,?_⟩
      ·have e:(k:Int)+1=((k+1:Nat):Int):=aA;simp only[rxs,<-I2,<-IN,e,i64_in _ (show -9223372036854775808<=((k+1:Nat):Int)/\((k+1:Nat):Int)<=9223372036854775807 from aA)];rw[Zb _ hk,Le (g:=fun j=>if j<k+1 then dig (a+b) j else dig a j) (fun i _=> ?_)];exact IZ _ _ k i
      ·simp only[rxs,i64_in _ (show -9223372036854775808<=(k:Int)+1/\(k:Int)+1<=9223372036854775807 from aA)];omega
  ·have hk:k=8:=by simp at h;omega
   subst hk;refine Ah ?_ rfl;simp only[rxs,Ab,wn (n:=a+b) (f:=fun j=>if j<8 then dig (a+b) j else dig a j) (fun i hi=>by rw[if_pos hi])];rfl
def Zf (a b:Nat):Det prog 184 [wd a,wd b] (.tuple #[wd (sb a b),.int .u64 (bw a b 8)]):=by
 refine Dk mixed L1 aB rfl ?_;refine i6 ⟨words_size a,words_one a⟩ (i6 ⟨words_size b,words_one b⟩ ?_);refine⟨fun l=>∃k,k<=8/\l=[.int .u64 (bw a b k),.int .i64 (k:Nat),.agg (wf fun j=>if j<k then dig (sb a b) j else dig a j)],fun l=>(8-intOf (l.getD 1 undef)).toNat,⟨0,aA,?_⟩,?_⟩
 ·rw[I4];rfl
 ·rintro vals-⟨k,hk,rfl⟩;refine i6 ⟨_,rfl⟩ (Ap (b:=decide ((k:Int)<8)) rfl (fun h=> ?_) (fun h=> ?_))
  ·have hk:k<8:=by simp at h;omega
   refine i6 ⟨_,_,rfl⟩ (i6 ⟨?_,?_⟩ ?_)
   ·show(0:Int)<=(k:Int);omega
   ·show(k:Int)<8;omega
   ·refine ID (IY (dig a k) (dig b k) (bw a b k) (IP _ _ _)) ?_ ?_
    ·simp only[rxs,Ve _ hk,Jl b hk,iZ,if_false]
    ·refine i6 ⟨_,rfl,eM _⟩ (i6 ⟨_,rfl,bW _⟩ (i6 ⟨rfl,?_⟩ ?_))
     ·exact wi _ _
     ·refine⟨⟨k+1,aA,?_⟩,?_⟩
      ·have e:(k:Int)+1=((k+1:Nat):Int):=aA;simp only[rxs,<-I5,<-I6 a b hk,e,i64_in _ (show -9223372036854775808<=((k+1:Nat):Int)/\((k+1:Nat):Int)<=9223372036854775807 from aA)];rw[Zb _ hk,Le (g:=fun j=>if j<k+1 then dig (sb a b) j else dig a j) (fun i _=> ?_)];exact IZ _ _ k i
      ·simp only[rxs,i64_in _ (show -9223372036854775808<=(k:Int)+1/\(k:Int)+1<=9223372036854775807 from aA)];omega
  ·have hk:k=8:=by simp at h;omega
   subst hk;refine Ah ?_ rfl;simp only[rxs,Ab,wn (n:=sb a b) (f:=fun j=>if j<8 then dig (sb a b) j else dig a j) (fun i hi=>by rw[if_pos hi])];rfl
def JA (a b:Nat):Det prog 185 [wd a,wd b] (.int .i64 (sg (a%M) (b%M))):=by
 refine Dk mixed L3 aB rfl ?_;refine i6 ⟨words_size a,words_one a⟩ (i6 ⟨words_size b,words_one b⟩ ?_);refine⟨fun l=>∃k,k<=8/\(∀j,k<=j->j<8->dig a j=dig b j)/\l=[.int .i64 0,.int .i64 ((k:Int)-1)],fun l=>(intOf (l.getD 1 undef)+1).toNat,⟨8,aA,fun j h1 h2=>aA,rfl⟩,?_⟩;rintro vals-⟨k,hk,hs,rfl⟩;refine i6 ⟨_,rfl⟩ (Ap (b:=decide ((k:Int)-1≥0)) rfl (fun h=> ?_) (fun h=> ?_))
 ·have xW:0<k:=by simp at h;omega
  obtain⟨m,rfl⟩:∃m,k=m+1:=⟨k-1,aA⟩;have hm:m<8:=aA;have em:((m+1:Nat):Int)-1=(m:Int):=aA;rw[em];refine i6 ⟨_,_,rfl⟩ (i6 ⟨?_,?_⟩ (i6 ⟨dig a m,?_⟩ (i6 ⟨dig b m,?_⟩ ?_)))
  ·show(0:Int)<=(m:Int);omega
  ·show(m:Int)<8;omega
  ·simp only[rxs,Jl a hm]
  ·simp only[rxs,Jl b hm]
  ·refine Ap (b:=decide (dig a m≠dig b m)) ?_ (fun h1=> ?_) (fun h1=> ?_)
   ·simp only[rxs,Jl a hm,Jl b hm];congr 1;rw[bY];simp;omega
   ·have h1:dig a m≠dig b m:=by simpa using h1
    refine Ap (b:=decide (dig a m<dig b m)) ?_ (fun h2=> ?_) (fun h2=> ?_)
    ·simp only[rxs,Jl a hm,Jl b hm];congr 1;rw[bY];simp
    ·have:=IR hm (fun j h h'=>hs j aA h') (by simpa using h2);exact Ah rfl (by simp[D,Ab,sg,this])
    ·have:=IR (a:=b) (b:=a) hm (fun j h h'=>(hs j aA h').symm) (by simp at h2;omega);exact Ah rfl (by simp only[rxs,Ab,sg];rw[if_neg aA,if_neg aA])
   ·have h1:dig a m=dig b m:=by simpa using h1
    refine⟨⟨m,aA,fun j h h'=> ?_,?_⟩,?_⟩
    ·rcases Nat.eq_or_lt_of_le h with rfl|h
     ·exact h1
     ·exact hs j aA h'
    ·simp only[rxs,i64_in _ (show -9223372036854775808<=(m:Int)-1/\(m:Int)-1<=9223372036854775807 from aA)]
    ·simp only[rxs,i64_in _ (show -9223372036854775808<=(m:Int)-1/\(m:Int)-1<=9223372036854775807 from aA)];omega
 ·have xW:k=0:=by simp at h;omega
  subst xW;refine Ah rfl ?_;have:a%M=b%M:=by rw[Dn];exact wj fun i hi=>hs i aA hi
  simp[D,Ab,sg,this]
open Go.RowKit Go.RX Go.WD Go.IntWalk
def N1 {P:Program} {e:TypeId} (hu:P.underlying e=some (.int .u64)) (d x y:Nat) (w:World):(Op.equalIn (d+1) e (.int .u64 x) (.int .u64 y)).run P w= .ok (decide (x=y)) w:=by
 simp only[Op.equalIn,eK,run_underlying hu,eJ,if_true,eL];congr 1;rw[bY];simp;omega
def JB {P:Program} {e:TypeId} (hT:r9 P e=true) (hc:P.cellsOf e=1) (tM:r8 P e=false) (hu:P.underlying e=some (.int .u64)) (d:Nat) (f g:Nat->Nat) (w:World):∀is:List Nat,(∀i∈is,i<8)->
  (Op.eqItems (d+1) e (P.cellsOf e) (wf f) (wf g) is).run P w= .ok (decide (∀i∈is,f i=g i)) w:=by
 intro is;induction is with
 |nil=>intro _;simp[Op.eqItems]
 |cons i is ih=>
  intro h;have hi:=h i aD;have hp:∀f:Nat->Nat,(part e (wf f) (i*P.cellsOf e)).run P w= .ok (.int .u64 (f i)) w:=fun f=>by
   rw[Rk hT (by rw[G6,hc];omega) aA w,tM,hc,fY];simp only[aY,if_false,Ve f hi]
  simp only[Op.eqItems,eK,hp,eJ,N1 hu];by_cases he:f i=g i
  ·simp only[he,decide_true,Bool.not_true,aY,if_false,ih (fun j hj=>h j (by simp[hj]))];congr 1;rw[bY];simp[he]
  ·simp[he]
def JC (a b:Nat):(∀i∈List.range 8,dig a i=dig b i)↔a%M=b%M:=
 ⟨fun h=>by rw[Dn];exact wj fun i hi=>h i (aW.2 hi),fun h i hi=>by rw[Dn]at h;exact wk h (aW.1 hi)⟩
def JD {P:Program} {o:Oper} {t t' e:TypeId} {x y:Operand} {va vb:Value} {a b:Nat} (ho:o.op= .binOp .eql t x y t') (hva:va=wd a) (hvb:vb=wd b) (hx:e8 [x,y] [va,vb] x=va) (hy:e8 [x,y] [va,vb] y=vb)
  (hu:P.underlying t=some (.array 8 e)) (hg:P.eqGuardType P.depth t=false) (hT:r9 P e=true) (hc:P.cellsOf e=1) (tM:r8 P e=false) (hue:P.underlying e=some (.int .u64)):
  Yld P o [va,vb] (.bool (decide (a%M=b%M))):=fun w=>by
 have qE:o.op.operands.toList=[x,y]:=by simp[ho,Op.operands]
 obtain⟨i,hi⟩:∃i,P.info? e=some i:=by
  unfold r9 at hT;rw[aQ,Option.isSome_iff_exists]at hT;exact hT.1
 subst hva;subst hvb;have hr:(Op.equal t (wd a) (wd b)).run P w= .ok (decide (a%M=b%M)) w:=by
  show(Op.equalIn (9999+1) t (.agg (wf (dig a))) (.agg (wf (dig b)))).run P w=_;rw[run_equalIn_array w 9999 _ _ hu hi,show(9999:Nat)=9998+1 from rfl,JB hT hc tM hue 9998 (dig a) (dig b) w _ (fun i hi=>aW.1 hi)];congr 1;rw[bY,oDi,oDi];exact JC a b
 rw[qE];simp only[execOp,ho,hx,hy];simp only[wd]at hr⊢;simp[eqGuard,binOp,hg,hr]
section
variable {o:Oper} {x y:Operand} {va vb:Value} {a b:Nat}
def N2 (ho:o.op= .binOp .eql 237 x y 237) (hva:va=wd a) (hvb:vb=wd b) (hx:e8 [x,y] [va,vb] x=va) (hy:e8 [x,y] [va,vb] y=vb):Yld prog o [va,vb] (.bool (decide (a%M=b%M))):=
 JD (e:=49) ho hva hvb hx hy aB aB aB aB aB aB
def JE (ho:o.op= .binOp .eql 51 x y 51) (hva:va=wd a) (hvb:vb=wd b) (hx:e8 [x,y] [va,vb] x=va) (hy:e8 [x,y] [va,vb] y=vb):Yld prog o [va,vb] (.bool (decide (a%M=b%M))):=
 JD (e:=49) ho hva hvb hx hy aB aB aB aB aB aB
end
def N3 (a:Nat):Det prog 292 [wd a] (.bool (decide (a%M=0))):=by
 refine Dk mixed K8 aB rfl (i6 ⟨words_size a,words_one a⟩ ?_);refine IC (N2 (a:=a) (b:=0) rfl rfl Vi rfl rfl) rfl (Ah rfl ?_);show Value.bool (decide (a%M=0%M))=Value.bool (decide (a%M=0));congr 1
def xa (b:Bool) (a:Nat):Det prog 248 [.bool b,wd a] (nb (b&& !decide (a%M=0)) a):=by
 refine Dk mixed L6 aB rfl (i6 ⟨words_size a,words_one a⟩ (i6 ⟨b,rfl⟩ (Ap (b:=b) rfl (fun h=> ?_) (fun h=> ?_))))
 ·subst h;exact Dl (N3 a) rfl (i6 ⟨_,rfl⟩ (Ah rfl rfl))
 ·subst h;exact Ah rfl rfl
end Go.Z

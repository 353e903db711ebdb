/- Operations with memory. -/
import Derived.Test.YtlmbepjdokomkaaGreatDoorRxH
import Derived.Test.YtlmbepjdokomkaaGreatDoorRows
import Derived.Laws.Slices
import Derived.Laws.Entries
import Derived.Laws.Strings
import Derived.Laws.AppendOwn
import Derived.Laws.OwnMore
import Derived.Laws.MakeOwn
import Derived.Great.BuildSlice
import Derived.Laws.Externs
import Derived.Shelf.Spec.BitsCarry
import Derived.IntWalk
open Array renaming ext'->gI,getElem?_toList->fL,map_empty->mO,range->nU
open Go.Result renaming andThen_ok->eL
open Go.Sem renaming run_bind->eM,run_pure->eO
open Go.Value.int renaming injEq->kG
open Int renaming emod_eq_of_lt->jC
open List renaming length_drop->fR,map->mD,map_toArray->gA,replicate->eS,size_toArray->kD,take_left->nD,take_take->nC
open Nat renaming add_assoc->jL,add_mul_div_left->iN,div_add_mod->iP,div_eq_of_lt->fW,lt_irrefl->jF,mod_mod_of_dvd->mI,mod_one->kH,mul_add->fK,mul_assoc->fF,mul_comm->eX,mul_div_cancel->mJ,mul_le_mul_left->fY,mul_succ->iD,pow_add->gJ,pow_pos->iW,zero_lt_succ->eP
open Option renaming map_none->kC
set_option linter.all false
namespace Go.RX
open RowKit
section
variable {P:Program} {H:PH} {o:Oper} {x y:Operand}
def PH.put_self (H:PH) (b:Nat) (ob:Obj):H.put b ob b=some ob:=by simp[PH.put]
def PH.put_ne (H:PH) {b k:Nat} (ob:Obj) (h:k≠b):H.put b ob k=H k:=by simp[PH.put,h]
def PH.put_put (H:PH) (b:Nat) (a c:Obj):(H.put b a).put b c=H.put b c:=by
 funext k;unfold PH.put;split<;>rfl
def PH.le_put {H:PH} {b:Nat} (h:H b=none) (ob:Obj):Pl H (H.put b ob):=fun k o hk=>by
 unfold PH.put;split
 ·rename_i e;subst e;rw[h]at hk;cases hk
 ·exact hk
def Sz {T T':TypeId} {b q:Nat} {cs:Array Value} {fz:Nat×Nat} (ho:o.op= .load T x) (hx:e8 [x] [.pointer (some ⟨b,q,none⟩)] x= .pointer (some ⟨b,q,none⟩)) (hH:H b=some (.cells cs T' fz)) (hT:r9 P T=true) (hq:q+P.cellsOf T<=cs.size) (h0:p8 P T=false->q<cs.size):
  Rds P o [.pointer (some ⟨b,q,none⟩)] H (if p8 P T then .agg (cs.extract q (q+P.cellsOf T))else cs.getD q undef):=fun w hw=>by
 have pD:o.op.operands.toList=[x]:=by simp[ho,Op.operands]
 rw[pD];simp only[execOp,ho,hx,eM];rw[Xa hT (hw _ _ hH) hq h0];rfl
def Ta {T T':TypeId} {b q:Nat} {cs:Array Value} {v:Value} (ho:o.op= .store T x y) (hx:e8 [x,y] [.pointer (some ⟨b,q,none⟩),v] x= .pointer (some ⟨b,q,none⟩)) (hy:e8 [x,y] [.pointer (some ⟨b,q,none⟩),v] y=v) (hH:H b=some (.cells cs T' (0,0))) (hT:r9 P T=true) (hq:q+P.cellsOf T<=cs.size) (hv:v.cells.size=P.cellsOf T) (h1:i8 v.cells):
  Opn P o [.pointer (some ⟨b,q,none⟩),v] H fun u H'=>u=undef/\H'=H.put b (.cells (spl cs q v.cells.toList) T' (0,0)):=fun w hw=>by
 have pD:o.op.operands.toList=[x,y]:=by simp[ho,Op.operands]
 have hb:=hw _ _ hH;rw[pD];have hr:(execOp (e8 [x,y] [.pointer (some ⟨b,q,none⟩),v]) o).run P w= .ok .skip (w.setRow b (spl cs q v.cells.toList)):=by
  simp only[execOp,ho,hx,hy,eM];rw[qe hT hb hq hv h1];rfl
 unfold Stp;rw[hr];refine⟨_,⟨rfl,rfl,rfl,aD,fun k hk hn=>setRow_other _ _ _ _ (fun e=>by rw[e,hH]at hn;cases hn),fun k ob hk=> ?_,fun k hk=> ?_,aS _⟩,rfl,rfl⟩
 ·unfold PH.put at hk;split at hk
  ·rename_i e;subst e;cases hk;exact setRow_heap w k _ _ T' (0,0) hb
  ·rename_i e;rw[setRow_other _ _ _ _ e];exact hw k ob hk
 ·unfold PH.put at hk;split at hk
  ·rename_i e;subst e;exact .inl (by simp[hH])
  ·exact .inl hk
def FG {T e:TypeId} {len b q:Nat} {k:IntKind} {m:Int} (ho:o.op= .indexAddr T x y) (hx:e8 [x,y] [.pointer (some ⟨b,q,none⟩),.int k m] x= .pointer (some ⟨b,q,none⟩)) (hy:e8 [x,y] [.pointer (some ⟨b,q,none⟩),.int k m] y= .int k m) (hu:P.underlying T=some (.array len e)) (he:r9 P e=true) (h0:0<=m) (h1:m<len):
  Yld P o [.pointer (some ⟨b,q,none⟩),.int k m] (.pointer (some ⟨b,q+m.toNat*P.cellsOf e,none⟩)):=fun w=>by
 have pD:o.op.operands.toList=[x,y]:=by simp[ho,Op.operands]
 rw[pD];simp only[execOp,ho,hx,hy,eM];rw[qf hu he b q k m h0 h1];rfl
def Ai {fn:Fn} {caps:Array Operand} {vs:List Value} (ho:o.op= .makeFunc fn #[] caps) (zN:caps.toList.map (e8 caps.toList vs)=vs):Run P o vs (.func fn #[] vs.toArray):=fun w=>by
 have hv:caps.map (e8 caps.toList vs)=vs.toArray:=by rw[<-cF,dO];exact zN
 have pD:o.op.operands.toList=caps.toList:=by simp[ho,Op.operands]
 unfold Stp;rw[pD];simp only[execOp,ho,eM,Instr.makeFunc,mO,hv];exact⟨rfl,Ext.refl _⟩
def Bh {f:FuncId} {az:Array Operand} {tys:Array TypeId} {caps:Array Value} {vs:List Value} {V:Value->PH->Prop} (ho:o.op= .call ⟨.value x,az,tys⟩) (hx:e8 (x::az.toList) (.func (.func f) #[] caps::vs) x= .func (.func f) #[] caps) (sV:az.toList.map (e8 (x::az.toList) (.func (.func f) #[] caps::vs))=vs) (hf:q8 P f=true)
  (hc:Con P f (vs++caps.toList) H V):Opn P o (.func (.func f) #[] caps::vs) H V:=fun w hw=>by
 have ha:az.map (e8 (x::az.toList) (.func (.func f) #[] caps::vs))=vs.toArray:=by rw[<-cF,dO];exact sV
 have pD:o.op.operands.toList=x::az.toList:=by simp[ho,Op.operands,Call.operands]
 have hr:(execOp (e8 (x::az.toList) (.func (.func f) #[] caps::vs)) o).run P w= .ok (.enter f (vs++caps.toList).toArray) w:=by
  simp only[execOp,ho,resolve,hx,ha,Deferred.ofValue,eM,eO,eL,invoke];rw[Jw hf];congr 2;simp
 unfold Stp;rw[pD,hr];exact(hc w hw).mono fun e w' ⟨v,H',he,hs,hV⟩=>⟨v,he,H',hs,hV⟩
def Xh {f:FuncId} {az:Array Operand} {tys:Array TypeId} {caps:Array Value} {vs:List Value} {V X:Value->PH->Prop} (ho:o.op= .call ⟨.value x,az,tys⟩) (hx:e8 (x::az.toList) (.func (.func f) #[] caps::vs) x= .func (.func f) #[] caps) (sV:az.toList.map (e8 (x::az.toList) (.func (.func f) #[] caps::vs))=vs) (hf:q8 P f=true)
  (hc:ConX P f (vs++caps.toList) H V X):OpnX P o (.func (.func f) #[] caps::vs) H V X:=fun w hw=>by
 have ha:az.map (e8 (x::az.toList) (.func (.func f) #[] caps::vs))=vs.toArray:=by rw[<-cF,dO];exact sV
 have pD:o.op.operands.toList=x::az.toList:=by simp[ho,Op.operands,Call.operands]
 have hr:(execOp (e8 (x::az.toList) (.func (.func f) #[] caps::vs)) o).run P w= .ok (.enter f (vs++caps.toList).toArray) w:=by
  simp only[execOp,ho,resolve,hx,ha,Deferred.ofValue,eM,eO,eL,invoke];rw[Jw hf];congr 2;simp
 unfold StpX;rw[pD,hr];exact(hc w hw).mono fun e w' hh=>hh.imp (fun⟨v,H',he,hs,hV⟩=>⟨v,he,H',hs,hV⟩) fun⟨v,H',he,hs,hV⟩=>⟨v,he,H',hs,hV⟩
def FH {T:TypeId} {u:Value} (ho:o.op= .panic x) (hx:e8 [x] [.iface T u] x= .iface T u):OpnX P o [.iface T u] H (fun _ _=>False) fun y H'=>y= .iface T u/\H'=H:=fun w hw=>by
 have pD:o.op.operands.toList=[x]:=by simp[ho,Op.operands]
 have hr:(execOp (e8 [x] [.iface T u]) o).run P w= .halt (.panic (.iface T u)) w:=by
  simp only[execOp,ho,hx,Instr.panic];rfl
 unfold StpX;rw[pD,hr];exact⟨(fun c h=>by rw[ho]at h;cases h),H,Step.refl hw,rfl,rfl⟩
end
open Go.RowKit
section
variable {P:Program} {H:PH} {o:Oper} {x y:Operand}
def Run.opn {args:List Value} {v:Value} (h:Run P o args v) (H:PH):Opn P o args H fun u H'=>u=v/\H'=H:=
 fun w hw=>(h w).mono fun u _ ⟨hu,hx⟩=>⟨H,Step.of_ext hw hx,hu,rfl⟩
def PH.nil:PH:=fun _=>none
def ZH {f:FuncId} {args:List Value} {v:Value} (h:Con P f args PH.nil fun u _=>u=v):Det P f args v:=fun w=>by
 refine(h w (fun b o hb=>by cases hb)).mono fun e w' ⟨u,H',he,hs,hu⟩=>⟨by rw[he,hu],?_⟩;exact hs.toExt (fun b o hb=>by cases hb) (fun b o hb=>by cases hb)
def ZI {t:TypeId} {e:TypeId} {a:Option Addr} {n c:Nat} {vs:List Value} (ho:o.op= .call ⟨.builtin .len,#[x],#[t]⟩) (hx:e8 [x] vs x= .slice a n c) (hu:P.underlying t=some (.slice e)):Yld P o vs (.int .i64 n):=fun w=>by
 have pD:o.op.operands.toList=[x]:=by simp[ho,Op.operands,Call.operands]
 have hE:P.elem t=e:=by simp[Program.elem,hu]
 rw[pD];simp only[execOp,ho,resolve,invoke,eM,eO,eL,gA,aU,cN,hx];simp only[builtin,eM,run_len_slice w t _ a n c (by rw[hE];exact hu),eL];rfl
def de {T e:TypeId} {b q n c:Nat} {k:IntKind} {m:Int} {vs:List Value} (ho:o.op= .indexAddr T x y) (hx:e8 [x,y] vs x= .slice (some ⟨b,q,none⟩) n c) (hy:e8 [x,y] vs y= .int k m) (hu:P.underlying T=some (.slice e)) (he:r9 P e=true) (h0:0<=m) (h1:m<n):
  Yld P o vs (.pointer (some ⟨b,q+m.toNat*P.cellsOf e,none⟩)):=fun w=>by
 have pD:o.op.operands.toList=[x,y]:=by simp[ho,Op.operands]
 obtain⟨⟨i,hi⟩,_⟩:=Ez he;rw[pD];simp only[execOp,ho,hx,hy,eM,Instr.indexAt,asIntOf,eO,eL,run_underlying hu];simp[h0,h1,Gl hi,Sr]
end
open Go.RowKit
section
variable {P:Program} {H:PH} {o:Oper} {x y z:Operand}
def PH.In.fresh {w:World} (hw:H.In w):H w.heap.size=none:=by
 cases e:H w.heap.size with
 |none=>rfl
 |some ob=>exact absurd (y5 (hw _ _ e)) (jF _)
def Step.newB {w:World} (hw:H.In w) (ob:Obj):Step H w (H.put w.heap.size ob) (w.alloc ob):=by
 have hx:=Ext.alloc w ob;refine⟨hx.os,hx.tape,hx.output,hx.size,fun k hk _=>hx.block' hk,PH.put_in (hw.ext hx) (by show(w.heap.push ob)[w.heap.size]? =_;simp),fun b hb=> ?_,hx.dr⟩;unfold PH.put at hb;split at hb
 ·rename_i e;right;omega
 ·exact .inl hb
def Step.setB {w:World} (hw:H.In w) {r:Nat} {ob:Obj} (hr:H r=some ob) (ob':Obj):Step H w (H.put r ob') {w with heap:=w.heap.setIfInBounds r ob'}:=by
 have oV:=y5 (hw _ _ hr);refine⟨rfl,rfl,rfl,aD,fun k hk hn=> ?_,fun k o hk=> ?_,fun k hk=> ?_,aS _⟩
 ·show(w.heap.setIfInBounds r ob')[k]? =_;rw[cX (fun e=>by rw[e,hn]at hr;cases hr)]
 ·show(w.heap.setIfInBounds r ob')[k]? =_;unfold PH.put at hk;split at hk
  ·rename_i e;subst e;rw[dB oV];exact hk
  ·rename_i e;rw[cX (fun e'=>e e'.symm)];exact hw k o hk
 ·unfold PH.put at hk;split at hk
  ·rename_i e;left;rw[e,hr];simp
  ·exact .inl hk
def Hn {w:World} {r:Nat} {es:Array MapEntry} {clock:Nat} (hb:w.heap[r]? =some (.map es clock)):(getObj r).run P w= .ok (.map es clock) w:=by
 simp[getObj,Sem.run,hb]
def Xi {w:World} {r:Nat} {es:Array MapEntry} {clock:Nat} (ob:Obj) (hb:w.heap[r]? =some (.map es clock)):(setObj r ob).run P w= .ok () {w with heap:=w.heap.setIfInBounds r ob}:=by
 simp[setObj,Sem.run,hb]
def dh {T:TypeId} (ho:o.op= .makeMap T none):Opn P o [] H fun v H'=>∃r,H r=none/\v= .map (some r)/\H'=H.put r (.map #[] 0):=fun w hw=>by
 unfold Stp;simp only[execOp,ho,kC,eM];rw[show(Instr.makeMap T none).run P w= .ok (.map (some w.heap.size)) (w.alloc (.map #[] 0))from rfl];exact⟨_,Step.newB hw _,_,hw.fresh,rfl,rfl⟩
def qu {T kt et:TypeId} {kd:TypeDesc} {r clock:Nat} {es:Array MapEntry} {key val:Value} {vs:List Value} (ho:o.op= .insert T x y z\/o.op= .mapUpdate T x y z) (hx:e8 [x,y,z] vs x= .map (some r)) (hy:e8 [x,y,z] vs y=key) (hz:e8 [x,y,z] vs z=val) (hu:P.underlying T=some (.map kt et)) (hk:P.underlying kt=some kd) (hck:∀w,(Instr.checkKey false 10000 kt key).run P w= .ok () w)
  (hH:H r=some (.map es clock)) (hf:Instr.findNow kd key es.toList 0=some none):Opn P o vs H fun v H'=>v=undef/\H'=H.put r (.map (es.push {key,val,born:=clock}) (clock+1)):=fun w hw=>by
 have pD:o.op.operands.toList=[x,y,z]:=by rcases ho with ho|ho<;>simp[ho,Op.operands]
 have hb:=hw _ _ hH;unfold Stp;rw[pD];have hr:(execOp (e8 [x,y,z] vs) o).run P w= .ok .skip {w with heap:=w.heap.setIfInBounds r (.map (es.push {key,val,born:=clock}) (clock+1))}:=by
  rcases ho with ho|ho<;>simp only[execOp,ho,hx,hy,hz,eM,Instr.mapUpdate,run_underlying hu,eL,Hn hb,hck,Instr.findKey,run_underlying hk,hf,eO,Xi _ hb]
 rw[hr];exact⟨_,Step.setB hw hH _,rfl,rfl⟩
def ZJ {T kt et:TypeId} {kd:TypeDesc} {r clock i:Nat} {es:Array MapEntry} {key val:Value} {vs:List Value} (ho:o.op= .lookup T x y false) (hx:e8 [x,y] vs x= .map (some r)) (hy:e8 [x,y] vs y=key) (hu:P.underlying T=some (.map kt et)) (hk:P.underlying kt=some kd) (hck:∀b w,(Instr.checkKey b 10000 kt key).run P w= .ok () w)
  (hH:H r=some (.map es clock)) (hf:Instr.findNow kd key es.toList 0=some (some (i,val))):Rds P o vs H val:=fun w hw=>by
 have pD:o.op.operands.toList=[x,y]:=by simp[ho,Op.operands]
 have hb:=hw _ _ hH;rw[pD];simp only[execOp,ho,hx,hy,eM,Instr.lookup,run_underlying hu,eL,Hn hb,eO,hck,Instr.findKey,run_underlying hk,hf];rfl
def ZK {t:TypeId} {k:IntKind} {n:Int} (hk:P.underlying t=some (.int k)) (b:Bool) (d:Nat) (w:World):(Instr.checkKey b (d+1) t (.int k n)).run P w= .ok () w:=by
 unfold Instr.checkKey;simp only[eM,run_underlying hk,eL,eO]
def Jy {t:TypeId} {k:IntKind} {n:Int} (hk:P.underlying t=some (.int k)) (b:Bool) (w:World):(Instr.checkKey b 10000 t (.int k n)).run P w= .ok () w:=ZK hk b 9999 w
end
section
variable {P:Program} {H:PH} {o:Oper} {x y:Operand}
def ZL {T:TypeId} {s:ByteArray} {k:IntKind} {m:Nat} {vs:List Value} (ho:o.op= .index T x y) (hx:e8 [x,y] vs x= .string s) (hy:e8 [x,y] vs y= .int k (m:Nat)) (hu:P.underlying T=some .string) (h1:m<s.size):
  Yld P o vs (.int .u8 ((s.data.getD m 0).toNat:Nat)):=fun w=>by
 have pD:o.op.operands.toList=[x,y]:=by simp[ho,Op.operands]
 rw[pD];simp only[execOp,ho,hx,hy,eM,Instr.index,asIntOf,eO,eL,run_underlying hu];rw[if_pos aA,bO,getElem?_pos s m h1];have h2:m<s.data.size:=h1;simp only[eO,eL];rw[show s.data.getD m 0=s[m]from by rw[bX,cI h2];rfl]
def ZM {t:TypeId} {s:ByteArray} {vs:List Value} (ho:o.op= .call ⟨.builtin .len,#[x],#[t]⟩) (hx:e8 [x] vs x= .string s) (hu:P.underlying t=some .string):Yld P o vs (.int .i64 s.size):=fun w=>by
 have pD:o.op.operands.toList=[x]:=by simp[ho,Op.operands,Call.operands]
 rw[pD];simp only[execOp,ho,resolve,invoke,eM,eO,eL,gA,aU,cN,hx];simp only[builtin,eM,run_len_string w t _ s hu,eL];rfl
def ZN {t t':TypeId} {a b:ByteArray} {vs:List Value} (ho:o.op= .binOp .eql t x y t') (hx:e8 [x,y] vs x= .string a) (hy:e8 [x,y] vs y= .string b) (_hu:P.underlying t=some .string) (_hg:P.eqGuardType P.depth t=false):Yld P o vs (.bool (a.toList==b.toList)):=fun w=>by
 have pD:o.op.operands.toList=[x,y]:=by simp[ho,Op.operands]
 rw[pD];simp only[execOp,ho,hx,hy];simp only[eM,binOp_string_eql];simp[eqGuard,_hg]
end
open Go.RowKit
def ba (l:List UInt8):ByteArray:=⟨l.toArray⟩
def st (l:List UInt8):Value:= .string (ba l)
def Nn (l:List UInt8):(ba l).size=l.length:=by show l.toArray.size=_;simp
def qw (l:List UInt8):(ba l).toList=l:=by rw[ByteArray.toList_eq];rfl
def ZO (l:List UInt8):(st l).cells= #[st l]:=rfl
def st_one (l:List UInt8):i8 (st l).cells:=by intro c hc;simp[ZO]at hc;subst hc;rfl
section
variable {P:Program} {H:PH} {o:Oper} {x y:Operand} {vs:List Value} {l m:List UInt8}
def FI {t:TypeId} (ho:o.op= .call ⟨.builtin .len,#[x],#[t]⟩) (hx:e8 [x] vs x=st l) (hu:P.underlying t=some .string):Yld P o vs (.int .i64 l.length):=by
 have:=ZM ho hx hu
 rwa[Nn]at this
def FK {t t':TypeId} (ho:o.op= .binOp .eql t x y t') (hx:e8 [x,y] vs x=st l) (hy:e8 [x,y] vs y=st m) (hu:P.underlying t=some .string) (hg:P.eqGuardType P.depth t=false):Yld P o vs (.bool (l==m)):=by
 have:=ZN ho hx hy hu hg
 rwa[qw,qw]at this
end
def Sl (H:PH) (sz:Nat) (v:Value) (n:Nat) (xs:List Value):Prop:=
 xs.length=n*sz/\∃a c,v= .slice a n c/\n<=c/\c<=maxLen/\(n=0\/∃b o cs T fz,a=some ⟨b,o,none⟩/\H b=some (.cells cs T fz)/\(cs.toList.drop o).take (n*sz)=xs)
def OwS (H0 H:PH) (e:TypeId) (sz:Nat) (v:Value) (n:Nat) (xs:List Value):Prop:=
 xs.length=n*sz/\((v= .slice none 0 0/\n=0)\/∃g cap cur,v= .slice (some ⟨g,0,none⟩) n cap/\H0 g=none/\H g=some (.cells cur e (0,0))/\n<=cap/\cap<=maxLen/\cur.size=cap*sz/\cur.toList.take (n*sz)=xs)
def Sl.mono {H H':PH} {sz n:Nat} {v:Value} {xs:List Value} (h:Sl H sz v n xs) (hl:Pl H H'):Sl H' sz v n xs:=by
 obtain⟨h1,a,c,h2,h3,h4,h5⟩:=h;refine⟨h1,a,c,h2,h3,h4,h5.imp id ?_⟩;rintro⟨b,o,cs,T,fz,g1,g2,g3⟩;exact⟨b,o,cs,T,fz,g1,hl _ _ g2,g3⟩
def OwS.sl {H0 H:PH} {e:TypeId} {sz n:Nat} {v:Value} {xs:List Value} (h:OwS H0 H e sz v n xs):Sl H sz v n xs:=by
 obtain⟨h1,h2|⟨g,cap,cur,h2,h3,h4,h5,h6,h7,h8⟩⟩:=h
 ·exact⟨h1,none,0,by rw[h2.1,h2.2],aA,by simp[maxLen],.inl h2.2⟩
 ·exact⟨h1,_,cap,h2,h5,h6,.inr ⟨g,0,cur,e,_,rfl,h4,by rw[dS];exact h8⟩⟩
def OwS.nil (H0 H:PH) (e:TypeId) (sz:Nat):OwS H0 H e sz (.slice none 0 0) 0 []:=⟨aD,.inl ⟨rfl,rfl⟩⟩
def OwS.mono {H0 H H':PH} {e:TypeId} {sz n:Nat} {v:Value} {xs:List Value} (h:OwS H0 H e sz v n xs) (hl:Pl H H'):OwS H0 H' e sz v n xs:=by
 obtain⟨h1,h2|⟨g,cap,cur,h2,h3,h4,h5⟩⟩:=h
 ·exact⟨h1,.inl h2⟩
 ·exact⟨h1,.inr ⟨g,cap,cur,h2,h3,hl _ _ h4,h5⟩⟩
def OwS.less {H0 H1 H:PH} {e:TypeId} {sz n:Nat} {v:Value} {xs:List Value} (h:OwS H1 H e sz v n xs) (hl:Pl H0 H1):OwS H0 H e sz v n xs:=by
 obtain⟨h1,h2|⟨g,cap,cur,h2,h3,h4,h5⟩⟩:=h
 ·exact⟨h1,.inl h2⟩
 ·refine⟨h1,.inr ⟨g,cap,cur,h2,?_,h4,h5⟩⟩;cases e:H0 g with
  |none=>rfl
  |some o=>rw[hl _ _ e]at h3;cases h3
def Sl.len_le {H:PH} {sz n:Nat} {v:Value} {xs:List Value} (h:Sl H sz v n xs):n<=maxLen:=by
 obtain⟨_,_,c,_,h3,h4,_⟩:=h;omega
section
variable {P:Program} {H H0:PH} {o:Oper} {x y:Operand} {vs:List Value}
def qz {t e:TypeId} {sz n:Nat} {v:Value} {xs:List Value} (ho:o.op= .call ⟨.builtin .len,#[x],#[t]⟩) (hx:e8 [x] vs x=v) (hu:P.underlying t=some (.slice e)) (h:Sl H sz v n xs):Yld P o vs (.int .i64 n):=by
 obtain⟨_,a,c,h2,_⟩:=h;exact ZI ho (hx.trans h2) hu
def rh {T e:TypeId} {sz n i:Nat} {k:IntKind} {v:Value} {xs:List Value} (ho:o.op= .indexAddr T x y) (hx:e8 [x,y] vs x=v) (hy:e8 [x,y] vs y= .int k (i:Nat)) (hu:P.underlying T=some (.slice e)) (he:r9 P e=true) (qI:P.cellsOf e=sz) (qF:0<sz) (h:Sl H sz v n xs) (hi:i<n):
  ∃b q cs T' fz,Yld P o vs (.pointer (some ⟨b,q,none⟩))/\H b=some (.cells cs T' fz)/\q+sz<=cs.size/\(cs.toList.drop q).take sz=(xs.drop (i*sz)).take sz:=by
 obtain⟨hl,a,c,h2,h3,h4,h5⟩:=h;rcases h5 with h5|⟨b,q,cs,T',fz,h5,h6,h7⟩
 ·omega
 ·subst h5;have wG:=de (n:=n) (c:=c) ho (hx.trans h2) hy hu he aA aA;rw[bO,qI]at wG;have hb:(i+1)*sz<=n*sz:=bQ _ hi;rw[cM,cL]at hb;have pB:=congrArg List.length h7;simp only[bD,fR,bU]at pB;have uV:0<n*sz:=Nat.mul_pos aA qF;refine⟨b,_,cs,T',fz,wG,h6,aA,?_⟩;rw[<-h7,List.drop_take,List.drop_drop,nC];congr 1;omega
def rj {T T':TypeId} {b q:Nat} {cs:Array Value} {fz:Nat×Nat} {w:Value} (ho:o.op= .load T x) (hx:e8 [x] [.pointer (some ⟨b,q,none⟩)] x= .pointer (some ⟨b,q,none⟩)) (hH:H b=some (.cells cs T' fz)) (hT:r9 P T=true) (sD:p8 P T=false) (hc:P.cellsOf T=1) (hq:q+1<=cs.size) (hw:(cs.toList.drop q).take 1=[w]):
  Rds P o [.pointer (some ⟨b,q,none⟩)] H w:=by
 have:=Sz (P:=P) ho hx hH hT (by rw[hc];exact hq) (fun _=>hq);rw[sD]at this;have e:cs.getD q undef=w:=by
  have h1:=congrArg (fun l:List Value=>l[0]?) hw;simp only[dG,dI,cP]at h1;rw[bX,<-fL];simp at h1;simp[h1]
 simp only[aZ,if_false,e]at this;exact this
def FM {T T':TypeId} {b q sz:Nat} {cs:Array Value} {fz:Nat×Nat} {ws:List Value} (ho:o.op= .load T x) (hx:e8 [x] [.pointer (some ⟨b,q,none⟩)] x= .pointer (some ⟨b,q,none⟩)) (hH:H b=some (.cells cs T' fz)) (hT:r9 P T=true) (sD:p8 P T=true) (hc:P.cellsOf T=sz) (hq:q+sz<=cs.size) (hw:(cs.toList.drop q).take sz=ws):
  Rds P o [.pointer (some ⟨b,q,none⟩)] H (.agg ws.toArray):=by
 have:=Sz (P:=P) ho hx hH hT (by rw[hc];exact hq) (fun h=>by rw[sD]at h;cases h);rw[sD,hc]at this;have e:cs.extract q (q+sz)=ws.toArray:=by
  apply gI;rw[Array.toList_extract,List.extract_eq_take_drop,Nat.add_sub_cancel_left,hw]
 simp only[if_true,e]at this;exact this
def ZP {T e:TypeId} {sz n i:Nat} {k:IntKind} {v:Value} {xs:List Value} {hi:Operand} (ho:o.op= .slice T x none (some hi) none) (hx:e8 [x,hi] vs x=v) (hl:e8 [x,hi] vs hi= .int k (i:Nat)) (hu:P.underlying T=some (.slice e)) (he:r9 P e=true) (h:Sl H sz v n xs) (h1:i<=n):
  ∃u,Yld P o vs u/\Sl H sz u i (xs.take (i*sz)):=by
 obtain⟨pB,a,c,h2,h3,h4,h5⟩:=h;obtain⟨⟨ie,hie⟩,_⟩:=Ez he;have pD:o.op.operands.toList=[x,hi]:=by simp[ho,Op.operands]
 have oW:i*sz<=n*sz:=bQ _ h1;refine⟨.slice a i c,fun w=> ?_,by rw[bD];omega,a,c,rfl,aA,h4,?_⟩
 ·rw[pD];simp only[execOp,ho,hx,h2,cJ,kC,hl,Instr.sliceAt,Instr.slice,eM,run_underlying hu,eL,eO,Instr.sliceBounds];rw[run_sliceBound w k (i:Int) c _ aA aA];simp only[eL,Gl hie,bO,bY,Nat.sub_zero];by_cases vN:c=0
  ·rw[if_pos vN]
  ·rw[if_neg vN];cases a with
   |none=>rfl
   |some a=>simp[Addr.add]
 ·rcases h5 with h5|⟨b,q,cs,T',fz,h5,h6,h7⟩
  ·left;omega
  ·right;refine⟨b,q,cs,T',fz,h5,h6,?_⟩;rw[<-h7,nC,cH oW]
def rk {T e:TypeId} {sz n:Nat} {kl kc:IntKind} {i:TypeInfo} {z:Value} (ho:o.op= .makeSlice T x y) (hx:e8 [x,y] vs x= .int kl (n:Nat)) (hy:e8 [x,y] vs y= .int kc (n:Nat)) (hu:P.underlying T=some (.slice e)) (hi:P.info? e=some i) (hz:i.zero=some z) (qI:i.size=sz) (hb:i.bytes*n<=281474976710656) (hm:n<=maxLen):
  Opn P o vs H fun v H'=>∃g,H g=none/\v= .slice (some ⟨g,0,none⟩) n n/\H'=H.put g (.cells (madeCells z.cells (n*sz)) e (0,0)):=fun w hw=>by
 have pD:o.op.operands.toList=[x,y]:=by simp[ho,Op.operands]
 have h63:(n:Int)<=9223372036854775807:=by have h:=hm;simp[maxLen]at h;omega
 have qJ:(i.bytes:Int)*(n:Int)<=281474976710656:=by
  have h:((i.bytes*n:Nat):Int)<=281474976710656:=aA
  rwa[Int.natCast_mul]at h
 have hr:=run_make (P:=P) w T e i z hu hi hz kl kc (n:Int) (n:Int) aA (Int.le_refl _) qJ h63;simp only[bO,qI]at hr;unfold Stp;rw[pD];simp only[execOp,ho,hx,hy,eM,hr,eL,eO];exact⟨_,Step.newB hw _,_,hw.fresh,rfl,rfl⟩
def rl {T e:TypeId} {n:Nat} {parts:Array (Nat×Operand)} {cells:Array Value} {i:TypeInfo} {z:Value} (ho:o.op= .buildSlice T n parts) (hu:P.underlying T=some (.slice e)) (hi:P.info? e=some i) (hz:i.zero=some z) (hs:¬n*i.size>2^24) (hp:¬n*i.size=0)
  (hf:Instr.fill (fun j=>some (j*i.size,i.size)) ((nU (n*i.size)).map (z.cells[· %z.cells.size]!)) (parts.toList.map fun p=>(p.1,e8 (parts.toList.map (·.2)) vs p.2))=some cells):
  Opn P o vs H fun v H'=>∃g,H g=none/\v= .slice (some ⟨g,0,none⟩) n n/\H'=H.put g (.cells cells e (0,0)):=fun w hw=>by
 have pD:o.op.operands.toList=parts.toList.map (·.2):=by simp[ho,Op.operands]
 have hr:=run_buildSlice (P:=P) w T e n (parts.map fun(j,x)=>(j,e8 (parts.toList.map (·.2)) vs x)) cells i z hu hi hz hs hp (by rw[dO];exact hf);unfold Stp;rw[pD];simp only[execOp,ho,eM,hr,eL,eO];exact⟨_,Step.newB hw _,_,hw.fresh,rfl,rfl⟩
end
open Go.RowKit
def di {w:World} {b q:Nat} {cs:Array Value} {T:TypeId} {fz:Nat×Nat} {n:Nat} {news:List Value} (hb:w.heap[b]? =some (.cells cs T fz)) (hn:(cs.toList.drop q).take n=news):∀j u,news[j]? =some u->w.cell? ((⟨b,q,none⟩:Addr).add j)=some u:=by
 intro j u hj;rw[<-hn,dG]at hj;split at hj
 ·rw[dI,fL]at hj;rw[Sr];simp[World.cell?,hb,hj]
 ·cases hj
section
variable {P:Program} {H H0:PH} {o:Oper} {x y:Operand} {vs:List Value}
def ZQ {t e:TypeId} {i:TypeInfo} {z:Value} {sz n m:Nat} {v u:Value} {xs news:List Value} (ho:o.op= .call ⟨.builtin .append,#[x,y],#[t,t]⟩) (hx:e8 [x,y] vs x=v) (hy:e8 [x,y] vs y=u)
  (hu:P.underlying t=some (.slice e)) (hi:P.info? e=some i) (hz:i.zero=some z) (qI:i.size=sz) (hzs:z.cells.size=sz) (oW:Pl H0 H) (hv:OwS H0 H e sz v n xs) (hs:Sl H sz u m news) (hm:0<m) (h1:∀c∈news,c.oneCell'=true) (h63:n+m<=maxLen) (sW:(n+m)*i.bytes<=140737488355328):
  Opn P o vs H fun v' H'=>Pl H0 H'/\OwS H0 H' e sz v' (n+m) (xs++news)/\∃g ob,H'=H.put g ob/\H0 g=none/\(H g=none\/∃cs,H g=some (.cells cs e (0,0))):=fun w hw=>by
 have pD:o.op.operands.toList=[x,y]:=by simp[ho,Op.operands,Call.operands]
 obtain⟨hl,a,c,qW,hmc,yB,hs⟩:=hs;obtain⟨b,q,cs,T,fz,ha,hb,hn⟩:=hs.resolve_left aA;subst ha;have rX:=di (hw _ _ hb) hn;obtain⟨rK,hv⟩:=hv;have a5q:n+m<=9223372036854775807:=by simp only[maxLen]at h63;omega
 have pB:(xs++news).length=(n+m)*sz:=by rw[aL,rK,hl,cM]
 have put_le:∀g ob,H0 g=none->Pl H0 (H.put g ob):=fun g ob hg k ob' hk=>by
  rw[PH.put_ne _ _ (fun e=>by rw[e,hg]at hk;cases hk)];exact oW _ _ hk
 have fresh0:H0 w.heap.size=none:=by
  cases e:H0 w.heap.size with
  |none=>rfl
  |some ob=>have:=hw.fresh;rw[oW _ _ e]at this;cases this
 have grown:∀(old:Nat) (w':World),w'=w.drew.alloc (.cells (xs.toArray++news.toArray++Builtin.zeroCells z.cells (grownCap w (n+m) old e-(n+m))) e)->
   Step H w (H.put w.heap.size (.cells (xs.toArray++news.toArray++Builtin.zeroCells z.cells (grownCap w (n+m) old e-(n+m))) e (0,0))) w'/\
   OwS H0 (H.put w.heap.size (.cells (xs.toArray++news.toArray++Builtin.zeroCells z.cells (grownCap w (n+m) old e-(n+m))) e (0,0))) e sz (.slice (some ⟨w.heap.size,0,none⟩) (n+m) (grownCap w (n+m) old e)) (n+m) (xs++news):=fun old w' qS=>by
  have yW:=grownCap_ge w (n+m) old e;have yB:grownCap w (n+m) old e<=maxLen:=grownCap_le_maxLen w (n+m) old e h63;subst qS;constructor
  ·have hd:Ext w w.drew:=⟨rfl,rfl,rfl,aS _,fun _ _=>rfl,Nat.le_succ _⟩;exact(Step.of_ext hw hd).trans (Step.newB (hw.ext hd) _)
  ·refine⟨pB,.inr ⟨w.heap.size,_,_,rfl,fresh0,PH.put_self _ _ _,yW,yB,?_,?_⟩⟩
   ·simp only[cQ,kD,size_zeroCells,hzs,rK,hl,<-cM];congr 1;omega
   ·simp only[eE,bL];rw[<-bL,<-pB];exact nD
 unfold Stp;rw[pD];simp only[execOp,ho,resolve,invoke,eM,eO,eL,gA,aU,cN,hx,hy,qW,builtin];rcases hv with⟨rfl,rfl⟩|⟨g,cap,cur,rfl,rI,hg,zU,a3j,pM,zV⟩
 ·have hx0:xs=[]:=aV (by simpa using rK);subst hx0;have hr:=run_append_nil (P:=P) w t o.type e i z hu hi hz ⟨b,q,none⟩ m c news (by rw[qI];exact hl) rX hm aA (by have hb:=sW;simp only[bP]at hb;omega);have yC:=grown 0 _ rfl;simp only[bP,cU,Array.empty_append]at yC⊢;rw[hr];exact⟨_,yC.1,put_le _ _ fresh0,yC.2,_,_,rfl,fresh0,.inl hw.fresh⟩
 ·by_cases xF:n+m<=cap
  ·have sX:n*i.size+news.length<=cur.size:=by rw[hl,pM,qI,<-cM];exact bQ _ xF
   have hr:=run_append_room (P:=P) w t o.type e i hu hi g n cap cur (hw _ _ hg) ⟨b,q,none⟩ m c news (by rw[qI];exact hl) rX h1 xF sX;rw[hr];refine⟨_,⟨rfl,rfl,rfl,aD,fun k hk hn=>setRow_other _ _ _ _ (fun e=>by rw[e,hg]at hn;cases hn),fun k ob hk=> ?_,fun k hk=> ?_,aS _⟩,put_le g (.cells (cur.toList.take (n*i.size)++news++cur.toList.drop (n*i.size+news.length)).toArray e (0,0)) rI,⟨pB,.inr ⟨g,cap,_,rfl,rI,PH.put_self _ _ _,xF,a3j,?_,?_⟩⟩,_,_,rfl,rI,.inr ⟨_,hg⟩⟩
   ·unfold PH.put at hk;split at hk
    ·rename_i e;subst e;cases hk;exact setRow_heap w k _ _ _ (0,0) (hw _ _ hg)
    ·rename_i e;rw[setRow_other _ _ _ _ e];exact hw k ob hk
   ·unfold PH.put at hk;split at hk
    ·rename_i e;subst e;exact .inl (by simp[hg])
    ·exact .inl hk
   ·simp only[kD,aL,bD,fR,bU];omega
   ·rw[qI,zV,<-pB];exact nD
  ·have holds:∀j u,xs[j]? =some u->w.cell? ((⟨g,0,none⟩:Addr).add j)=some u:=di (n:=n*sz) (hw _ _ hg) (by rw[dS];exact zV);have hr:=run_append_grow (P:=P) w t o.type e i z hu hi hz ⟨g,0,none⟩ n cap xs (by rw[qI];exact rK) holds ⟨b,q,none⟩ m c news (by rw[qI];exact hl) rX aA aA (growslice_fits aA sW);have yC:=grown cap _ rfl;rw[hr];exact⟨_,yC.1,put_le _ _ fresh0,yC.2,_,_,rfl,fresh0,.inl hw.fresh⟩
def ZR {t e:TypeId} {i:TypeInfo} {sz n:Nat} {v u:Value} {xs news:List Value} (ho:o.op= .call ⟨.builtin .append,#[x,y],#[t,t]⟩) (hx:e8 [x,y] vs x=v) (hy:e8 [x,y] vs y=u)
  (hu:P.underlying t=some (.slice e)) (hi:P.info? e=some i) (hv:Sl H sz v n xs) (hs:Sl H sz u 0 news):Opn P o vs H fun v' H'=>v'=v/\H'=H:=fun w hw=>by
 have pD:o.op.operands.toList=[x,y]:=by simp[ho,Op.operands,Call.operands]
 obtain⟨_,a,c,qW,_⟩:=hs;obtain⟨_,a2,c2,hv2,oW,_⟩:=hv;have hr:(Builtin.append_ #[t,t] o.type #[.slice a2 n c2,.slice a 0 c]).run P w= .ok (.slice a2 n c2) w:=by
  cases a2<;>cases a<;>simp[Builtin.append_,run_underlying hu,sizeOf,typeInfo,hi,oW,storeCells,Builtin.lenOf,Builtin.firstCells,loadCells,loadCellsFrom]
 unfold Stp;rw[pD];simp only[execOp,ho,resolve,invoke,eM,eO,eL,gA,aU,cN,hx,hy,qW,hv2,builtin];rw[hr];exact⟨_,Step.refl hw,rfl,rfl⟩
def FN {T e:TypeId} {i:TypeInfo} (ho:o.op= .buildSlice T 0 #[]) (hu:P.underlying T=some (.slice e)) (hi:P.info? e=some i):
  Opn P o vs H fun v H'=>∃g,H g=none/\v= .slice (some ⟨g,0,none⟩) 0 0/\H'=H.put g (.cells #[] e (0,0)):=fun w hw=>by
 have hr:(Instr.buildSlice T 0 #[]).run P w= .ok (.slice (some ⟨w.heap.size,0,none⟩) 0 0) (w.alloc (.cells #[] e)):=by
  simp[Instr.buildSlice,run_underlying hu,sizeOf,typeInfo,hi,newRow,Instr.fill,Array.range_zero']
 unfold Stp;simp only[execOp,ho,eM,hr,eL,eO,mO];exact⟨_,Step.newB hw _,_,hw.fresh,rfl,rfl⟩
end
end Go.RX
namespace Go.Z
open Proofs.Tryz RowKit RX
def mixed:prog.follows .mixedOrders=true:=aB
def ZS:g6 prog [] [] [] [] 257=some (.rq (.cells 8 V0)
(.pm f257 1 2 [(.ag V0),(.z 180)]
(.ret [V1]))):=aB
def ZT:g6 prog [] [] [⟨0,3,[],[0]⟩] [⟨5,[0,0,2,6,0,16,48,0,254,510,1022,1022,2047,6143,16383],rDx 15 41000201101100,rPx 15 0,rAx 0 13,[13,14]⟩] 217=some (.rq (.cells 8 V0) (.rq (.cells 8 V1) (.loop [(kU 0),(.ki 0),V0]
(.ri V3
(.br (.io .lss V3 (.ki 8)) (.rq (.num V3) (.rq (.lt 8 V3) (.ext 201 [(.cell V4 0 1 V3),(.cell V1 0 1 V3),V2]
(.rq (.tup 0 V5) (.rq (.tup 1 V5) (.rq (.cells 1 (.pj V5 0)) (.next 0 [(.pj V5 1),(.io .add V3 (.ki 1)),(.put V4 0 1 (.pj V5 0) 1 V3)]))))))) (.ret [(.ag V4),V2])))))):=aB
def ZU:g6 prog [] [] [⟨0,3,[],[0]⟩] [⟨5,[0,0,2,6,0,16,48,0,254,510,1022,1022,2047,6143,16383],rDx 15 41000201101100,rPx 15 0,rAx 0 13,[13,14]⟩] 150=some (.rq (.cells 8 V0) (.rq (.cells 8 V1) (.loop [(kU 0),(.ki 0),V0]
(.ri V3
(.br (.io .lss V3 (.ki 8)) (.rq (.num V3) (.rq (.lt 8 V3) (.ext 221 [(.cell V4 0 1 V3),(.cell V1 0 1 V3),V2]
(.rq (.tup 0 V5) (.rq (.tup 1 V5) (.rq (.cells 1 (.pj V5 0)) (.next 0 [(.pj V5 1),(.io .add V3 (.ki 1)),(.put V4 0 1 (.pj V5 0) 1 V3)]))))))) (.ret [(.ag V4),V2])))))):=aB
def ZV:g6 prog [] [] [⟨0,2,[],[]⟩] [⟨4,[0,1,3,0,8,24,63],rDx 7 110110,rPx 7 0,rAx 0 7,[]⟩,⟨5,[0,1,3,0,8,24,63],rDx 7 110110,rPx 7 0,rAx 0 7,[]⟩] 151=some (.rq (.cells 8 V0) (.rq (.cells 8 V1) (.loop [(.ki 0),(.ki 7)]
(.ri V3
(.br (.io .geq V3 (.ki 0)) (.rq (.num V3) (.rq (.lt 8 V3) (.rq (.int .u64 (.cell V0 0 1 V3)) (.rq (.int .u64 (.cell V1 0 1 V3)) (.br (.uo .neq (.cell V0 0 1 V3) (.cell V1 0 1 V3)) (.br (.uo .lss (.cell V0 0 1 V3) (.cell V1 0 1 V3)) (.ret [(kI (-1))]) (.ret [(.ki 1)])) (.next 0 [V2,(.io .sub V3 (.ki 1))])))))) (.ret [(.ki 0)])))))):=aB
@[reducible] def z5_:SV:= .uo .eql (.uo .shr (.cn V0 7) (kU 63)) (kU 1)
def ZW:g6 prog [] [] [] [] 98=some (.rq (.cells 8 V0) (.rq (.int .u64 (.cell V0 7 0 noI)) (.br z5_
(.call false 150 [(.z 180),(.ag V0)]
(.rq (.tup 0 V1) (.rq (.tup 1 V1) (.rq (.cells 8 (.pj V1 0)) (.ret [(.cat z5_ 1 (.pj V1 0))]))))) (.ret [(.cat z5_ 1 (.ag V0))])))):=aB
def ZX:g6 prog [] [] [] [] 99=some (.rq (.cells 9 V0) (.call false 151 [(.sub V0 1 8 0 noI),(.put (.z 180) 7 1 (kU 9223372036854775808) 0 noI)]
(.ri V1
(.br (.io .gtr V1 (.ki 0)) (.ret [(.z 44),(.ki 6)]) (.br (.io .eql V1 (.ki 0)) (.rq (.bool (.cell V0 0 0 noI)) (.br (.nt (.cell V0 0 0 noI)) (.ret [(.z 44),(.ki 6)]) (.call false 150 [(.z 180),(.sub V0 1 8 0 noI)]
(.rq (.tup 0 V2) (.rq (.tup 1 V2) (.rq (.cells 8 (.pj V2 0)) (.ret [(.ag (.pj V2 0)),(.ki 0)]))))))) (.rq (.bool (.cell V0 0 0 noI)) (.br (.cell V0 0 0 noI) (.call false 150 [(.z 180),(.sub V0 1 8 0 noI)]
(.rq (.tup 0 V2) (.rq (.tup 1 V2) (.rq (.cells 8 (.pj V2 0)) (.ret [(.ag (.pj V2 0)),(.ki 0)]))))) (.ret [(.sub V0 1 8 0 noI),(.ki 0)])))))))):=aB
def ZY:g6 prog [] [] [] [⟨1,[0,1,3,7,15,31,0,127,255],rDx 9 605002500,rPx 8 0++[1],rDx 8 75436210,[8]⟩] 218=some (.rq (.cells 8 V1) (.rq (.bool V0) (.br V0
(.call true 257 [(.ag V1)]
(.rq (.bool V2) (.ret [(.cat (.nt V2) 1 (.ag V1))]))) (.ret [(.cat (.k (.bool false)) 1 (.ag V1))])))):=aB
def FO:g6 prog [] [] [] [] 147=some (.rq (.cells 9 V0) (.rq (.cells 9 V1) (.rq (.bool (.cell V0 0 0 noI)) (.rq (.bool (.cell V1 0 0 noI)) (.br (.eqb false (.cell V0 0 0 noI) (.cell V1 0 0 noI)) (.call false 217 [(.sub V0 1 8 0 noI),(.sub V1 1 8 0 noI)]
(.rq (.tup 0 V2) (.rq (.tup 1 V2) (.rq (.cells 8 (.pj V2 0)) (.call false 218 [(.cell V0 0 0 noI),(.ag (.pj V2 0))]
(.rq (.int .u64 (.pj V2 1)) (.rq (.cells 9 V3) (.ret [(.ag V3),(.uo .gtr (.pj V2 1) (kU 0))])))))))) (.call false 151 [(.sub V0 1 8 0 noI),(.sub V1 1 8 0 noI)]
(.ri V2
(.br (.io .geq V2 (.ki 0)) (.call false 150 [(.sub V0 1 8 0 noI),(.sub V1 1 8 0 noI)]
(.rq (.tup 0 V3) (.rq (.tup 1 V3) (.rq (.cells 8 (.pj V3 0)) (.call false 218 [(.cell V0 0 0 noI),(.ag (.pj V3 0))]
(.rq (.cells 9 V4) (.ret [(.ag V4),(.k (.bool false))]))))))) (.call false 150 [(.sub V1 1 8 0 noI),(.sub V0 1 8 0 noI)]
(.rq (.tup 0 V3) (.rq (.tup 1 V3) (.rq (.cells 8 (.pj V3 0)) (.call false 218 [(.cell V1 0 0 noI),(.ag (.pj V3 0))]
(.rq (.cells 9 V4) (.ret [(.ag V4),(.k (.bool false))]))))))))))))))):=aB
def ZZ:g6 prog [] [] [] [] 97=some (.ef false f97 1 0 []
(.ef false f97 1 1 [V0,(kB 43),(.k (.func (.func 147) #[] #[]))]
(.ef false f97 1 2 [V0,(kB 45),(.k (.func (.func 148) #[] #[]))]
(.ef false f97 1 3 [V0,(kB 42),(.k (.func (.func 149) #[] #[]))]
(.ret [V0]))))):=aB
def A0:g6 prog [] [] [] [⟨1,[0,0,3,0,9,0,57,127,255,511,511,0,3071,8191],rDx 14 4300022525102,rDx 14 100000,rDx 6 420531++rAx 6 6,[12,13]⟩] 60=some (.rq (.cells 8 V0) (.rq (.cells 8 V1) (.call true 97 []
(.pm f60 1 2 [V3,V2]
(.call true 98 [(.ag V0)]
(.call true 98 [(.ag V1)]
(.ef true f60 1 7 [V4,V5,V6]
(.rq (.tup 0 V7) (.rq (.tup 1 V7) (.rq (.cells 9 (.pj V7 0)) (.rq (.bool (.pj V7 1)) (.br (.pj V7 1) (.ret [(.z 44),(.ki 6)]) (.call false 99 [(.ag (.pj V7 0))]
(.rq (.tup 0 V8) (.rq (.tup 1 V8) (.rq (.cells 8 (.pj V8 0)) (.ret [(.ag (.pj V8 0)),(.pj V8 1)]))))))))))))))))):=aB
def A1:g6 prog [] [] [⟨0,4,[],[1]⟩] [] 26=some (.ri V0
(.br (.io .lss V0 (.ki 0)) (.loop [(.ki 1),(.put (.z 44) 0 1 (.cv .u64 V0) 0 noI)]
(.ri V1
(.br (.io .lss V1 (.ki 8)) (.rq (.num V1) (.rq (.lt 8 V1) (.next 0 [(.io .add V1 (.ki 1)),(.put V2 0 1 (kU 18446744073709551615) 1 V1)]))) (.ret [(.ag V2)])))) (.ret [(.put (.z 44) 0 1 (.cv .u64 V0) 0 noI)]))):=aB
def A2:g6 prog [] [] [] [] 25=some (.rq (.cells 8 V0) (.rq (.cells 8 V1) (.call false 60 [(.ag V0),(.ag V1),(kB 43)]
(.rq (.tup 0 V2) (.rq (.tup 1 V2) (.rq (.cells 8 (.pj V2 0)) (.ret [(.ag (.pj V2 0)),(.pj V2 1)]))))))):=aB
@[reducible] def z6_:SV:= .uo .add (.uo .mul (.uo .shr V0 (kU 32)) (.uo .and V1 (kU 4294967295))) (.uo .shr (.uo .mul (.uo .and V0 (kU 4294967295)) (.uo .and V1 (kU 4294967295))) (kU 32))
def A3:g6 prog [] [] [] [] 200=some (.ru V0
(.ru V1
(.ret [(.uo .add (.uo .add (.uo .mul (.uo .shr V0 (kU 32)) (.uo .shr V1 (kU 32))) (.uo .shr z6_ (kU 32))) (.uo .shr (.uo .add (.uo .and z6_ (kU 4294967295)) (.uo .mul (.uo .and V0 (kU 4294967295)) (.uo .shr V1 (kU 32)))) (kU 32))),(.uo .mul V0 V1)]))):=aB
@[reducible] def z7_:SV:= .uo .or (.uo .shl V0 (.cv .u64 V3)) (.uo .shr V1 (.uo .sub (kU 64) (.cv .u64 V3)))
@[reducible] def z8_:SV:= .uo .sub (.uo .add (.uo .mul V8 (kU 4294967296)) V9) (.uo .mul V13 V4)
@[reducible] def z9_:SV:= .uo .shr (.uo .shl V2 (.cv .u64 V3)) (kU 32)
def A4:g6 prog [] [(20,false),(24,false)] [⟨3,16,[2]++rAx 8 4++rAx 13 4,[]⟩,⟨1,0,[15],[]⟩,⟨3,23,[17,18,16],[]⟩,⟨1,2,[18],[]⟩,⟨0,17,[],[]⟩,⟨0,24,[],[]⟩] [⟨6,[0,0,3,0,0,24,7,127],rPx 8 0,rPx 8 0,rAx 0 8,[]⟩] 259=some (.ru V2
(.rq (.isb false (.uo .eql V2 (kU 0)))
(.ru V0
(.rq (.isb false (.uo .leq V2 V0)) (.br (.uo .eql V0 (kU 0))
(.ru V1
(.rq (.nz V2) (.ret [(.uo .quo V1 V2),(.uo .rem V1 V2)]))) (.call false 298 [V2]
(.ri V3
(.rq (.nn (.cv .u64 V3))
(.ru V1
(.rq (.nn (.uo .sub (kU 64) (.cv .u64 V3))) (.rq (.nz z9_) (.join 9
(.next 0 [(.uo .shl V2 (.cv .u64 V3)),(.cv .u64 V3),z9_,(.uo .and (.uo .shl V2 (.cv .u64 V3)) (kU 4294967295)),z7_,(.uo .shr (.uo .shl V1 (.cv .u64 V3)) (kU 32)),(.uo .and (.uo .shl V1 (.cv .u64 V3)) (kU 4294967295)),(.uo .quo z7_ z9_),(.uo .sub z7_ (.uo .mul (.uo .quo z7_ z9_) z9_))]) (.join 1
(.loop [V11,V12]
(.ru V13
(.br (.uo .geq V13 (kU 4294967296))
(.ru V14
(.ru V6
(.br (.uo .geq (.uo .add V14 V6) (kU 4294967296)) (.next 0 [(.uo .sub V13 (kU 1))]) (.next 1 [(.uo .sub V13 (kU 1)),(.uo .add V14 V6)]))))
(.ru V7
(.ru V14
(.ru V9
(.br (.uo .gtr (.uo .mul V13 V7) (.uo .add (.uo .mul (kU 4294967296) V14) V9))
(.ru V6
(.br (.uo .geq (.uo .add V14 V6) (kU 4294967296)) (.next 0 [(.uo .sub V13 (kU 1))]) (.next 1 [(.uo .sub V13 (kU 1)),(.uo .add V14 V6)]))) (.next 0 [V13]))))))))
(.ru V8
(.ru V9
(.ru V13
(.ru V4
(.ru V6
(.rq (.nz V6) (.join 3
(.next 0 [z8_,(.uo .quo z8_ V6),(.uo .sub z8_ (.uo .mul (.uo .quo z8_ V6) V6))]) (.join 1
(.loop [V15,V16]
(.ru V17
(.br (.uo .geq V17 (kU 4294967296))
(.ru V18
(.br (.uo .geq (.uo .add V18 V6) (kU 4294967296)) (.next 0 [(.uo .sub V17 (kU 1))]) (.next 1 [(.uo .sub V17 (kU 1)),(.uo .add V18 V6)])))
(.ru V7
(.ru V18
(.ru V10
(.br (.uo .gtr (.uo .mul V17 V7) (.uo .add (.uo .mul (kU 4294967296) V18) V10)) (.br (.uo .geq (.uo .add V18 V6) (kU 4294967296)) (.next 0 [(.uo .sub V17 (kU 1))]) (.next 1 [(.uo .sub V17 (kU 1)),(.uo .add V18 V6)])) (.next 0 [V17]))))))))
(.ru V17
(.ru V14
(.ru V10
(.rq (.num V5) (.rq (.nn V5) (.ret [(.uo .add (.uo .mul V13 (kU 4294967296)) V17),(.uo .shr (.uo .sub (.uo .add (.uo .mul V14 (kU 4294967296)) V10) (.uo .mul V17 V4)) V5)]))))))))))))))))))))))))))):=aB
def A5:g6 prog [] [] [⟨2,4,[0,2],[]⟩,⟨2,8,[0,2],[]⟩,⟨2,14,[0,2],[]⟩] [] 164=some (.ru V0
(.join 2
(.br (.uo .geq V0 (kU 4294967296)) (.next 0 [(.uo .shr V0 (kU 32)),(.ki 32)]) (.next 0 [V0,(.ki 0)]))
(.ru V1
(.join 2
(.br (.uo .geq V1 (kU 65536))
(.ri V2
(.next 0 [(.uo .shr V1 (kU 16)),(.io .add V2 (.ki 16))])) (.next 0 [V1,V2]))
(.ru V3
(.join 2
(.br (.uo .geq V3 (kU 256))
(.ri V4
(.next 0 [(.uo .shr V3 (kU 8)),(.io .add V4 (.ki 8))])) (.next 0 [V3,V4]))
(.ru V5
(.pm f164 10 3 [(.k (.string ⟨#[0,1,2,2,3,3,3,3,4,4,4,4,4,4,4,4,5,5,5,5,5,5,5,5,5,5,5,5,5,5,5,5,6,6,6,6,6,6,6,6,6,6,6,6,6,6,6,6,6,6,6,6,6,6,6,6,6,6,6,6,6,6,6,6,7,7,7,7,7,7,7,7,7,7,7,7,7,7,7,7,7,7,7,7,7,7,7,7,7,7,7,7,7,7,7,7,7,7,7,7,7,7,7,7,7,7,7,7,7,7,7,7,7,7,7,7,7,7,7,7,7,7,7,7,7,7,7,7,8,8,8,8,8,8,8,8,8,8,8,8,8,8,8,8,8,8,8,8,8,8,8,8,8,8,8,8,8,8,8,8,8,8,8,8,8,8,8,8,8,8,8,8,8,8,8,8,8,8,8,8,8,8,8,8,8,8,8,8,8,8,8,8,8,8,8,8,8,8,8,8,8,8,8,8,8,8,8,8,8,8,8,8,8,8,8,8,8,8,8,8,8,8,8,8,8,8,8,8,8,8,8,8,8,8,8,8,8,8,8,8,8,8,8,8,8,8,8,8,8,8,8,8,8,8,8,8]⟩)),(.cv .u8 V5)]
(.rq (.int .u8 V7)
(.ri V6
(.ret [(.io .add V6 (.cv .i64 V7))]))))))))))):=aB
def A6:g6 prog [] [] [] [] 298=some (.call false 164 [V0]
(.ri V1
(.ret [(.io .sub (.ki 64) V1)]))):=aB
end Go.Z
namespace Go.WD
open RX
def rn (k:IntKind) (n:Int):i8 (Value.int k n).cells:=by intro c hc;simp[FD]at hc;subst hc;rfl
@[irreducible] def PW (k:Nat):Nat:=2^(64*k)
def Iy:PW 0=1:=by unfold PW;rfl
def s9 (k:Nat):PW (k+1)=PW k*18446744073709551616:=by
 unfold PW;rw[iD,gJ]
def Aw (k:Nat):0<PW k:=by unfold PW;exact iW aA
def Tc (i j:Nat):PW (i+j)=PW i*PW j:=by unfold PW;rw[fK,gJ]
def Qh {i j:Nat} (h:i<=j):PW i<=PW j:=by unfold PW;exact bB aA aA
def A7 {i j:Nat} (h:i<=j):PW i ∣ PW j:=by
 obtain⟨d,rfl⟩:=Nat.exists_eq_add_of_le h;rw[Tc];exact Nat.dvd_mul_right _ _
@[irreducible] def M:Nat:=PW 8
def Db:M=PW 8:=by unfold M;rfl
def Np:0<M:=by rw[Db];exact Aw 8
def dig (n i:Nat):Nat:=n/PW i%18446744073709551616
def Nq (n i:Nat):dig n i<18446744073709551616:=cO _ aA
def Gm (n k:Nat):n%PW (k+1)=n%PW k+PW k*dig n k:=by rw[s9,Nat.mod_mul];rfl
def rx {a b:Nat}:∀{k:Nat},(∀i,i<k->dig a i=dig b i)->a%PW k=b%PW k:=by
 intro k;induction k with
 |zero=>intro _;rw[Iy,kH,kH]
 |succ k ih=>intro h;rw[Gm,Gm,ih (fun i hi=>h i aA),h k aA]
def FP (a:Nat) {i k:Nat} (h:i<k):dig (a%PW k) i=dig a i:=by
 obtain⟨d,rfl⟩:=Nat.exists_eq_add_of_lt h;have e:PW (i+d+1)=PW i*PW (d+1):=by rw[jL,Tc]
 unfold dig;rw[e,Nat.mod_mul_right_div_self,s9,eX (PW d),Nat.mod_mul_right_mod]
def ry {a b k i:Nat} (h:a%PW k=b%PW k) (hi:i<k):dig a i=dig b i:=by
 rw[<-FP a hi,h,FP b hi]
def Xj (i:Nat):dig 0 i=0:=by simp[dig]
def wf (f:Nat->Nat):Array Value:= #[.int .u64 (f 0),.int .u64 (f 1),.int .u64 (f 2),.int .u64 (f 3),.int .u64 (f 4),.int .u64 (f 5),.int .u64 (f 6),.int .u64 (f 7)]
def A8 (f:Nat->Nat):(wf f).size=8:=rfl
def A9 (f:Nat->Nat):i8 (wf f):=by
 intro c hc;simp[wf]at hc;rcases hc with h|h|h|h|h|h|h|h<;>subst h<;>rfl
def FQ {i:Nat} (h:i<8):i=0\/i=1\/i=2\/i=3\/i=4\/i=5\/i=6\/i=7:=aA
def Ti (f:Nat->Nat) {i:Nat} (h:i<8):(wf f).getD i undef= .int .u64 (f i):=by
 rcases FQ h with h|h|h|h|h|h|h|h<;>subst h<;>rfl
def Jz {f g:Nat->Nat} (h:∀i,i<8->f i=g i):wf f=wf g:=by
 unfold wf;rw[h 0 aA,h 1 aA,h 2 aA,h 3 aA,h 4 aA,h 5 aA,h 6 aA,h 7 aA]
def B3 {f g:Nat->Nat} (h:wf f=wf g):∀i,i<8->f i=g i:=by
 intro i hi;have:=(Ti f hi).symm.trans ((congrArg (fun a=>Array.getD a i undef) h).trans (Ti g hi));simp only[kG,true_and]at this;omega
def B4 (f:Nat->Nat) {i:Nat} (h:i<8) (d:Nat):(wf f).setIfInBounds i (.int .u64 d)=wf (fun j=>if j=i then d else f j):=by
 rcases FQ h with h|h|h|h|h|h|h|h<;>subst h<;>rfl
def Xk (f:Nat->Nat) {i:Nat} (h:i<8) (d:Nat):spl (wf f) i [.int .u64 d]=wf (fun j=>if j=i then d else f j):=B4 f h d
def words (n:Nat):Array Value:=wf (dig n)
def wd (n:Nat):Value:= .agg (words n)
def nb (b:Bool) (n:Nat):Value:= .agg (#[.bool b]++words n)
def words_size (n:Nat):(words n).size=8:=rfl
def words_one (n:Nat):i8 (words n):=A9 _
def Iz (n:Nat) {i:Nat} (h:i<8):(words n).getD i undef= .int .u64 (dig n i):=Ti _ h
def FR {a b:Nat} (h:a%M=b%M):words a=words b:=by rw[Db]at h;exact Jz fun _ hi=>ry h hi
def FS {a b:Nat} (h:words a=words b):a%M=b%M:=by rw[Db];exact rx (B3 h)
def sd {f:Nat->Nat} {n:Nat} (h:∀i,i<8->f i=dig n i):wf f=words n:=Jz h
def rxs:(∀(f:SV->Value) (a:SV) (l:List SV),mD f (a::l)=f a::mD f l)/\
  (∀f:SV->Value,mD f []=[])/\
  (∀(a:Value) (l m:List Value),(a::l)++m=a::(l++m))/\
  (∀l:List Value,[]++l=l)/\
  (∀(a:Value) (l:List Value) (d:Value),(a::l).getD 0 d=a)/\
  (∀(a:Value) (l:List Value) (n:Nat) (d:Value),(a::l).getD (n+1) d=l.getD n d)/\
  (∀P ρ i,D P ρ (.v i)=ρ.getD i undef)/\
  (∀P ρ c,D P ρ (.k c)=c)/\
  (∀P ρ t,D P ρ (.z t)=j3 P t)/\
  (∀P ρ x,D P ρ (.ag x)= .agg (D P ρ x).cells)/\
  (∀P ρ x o s i,D P ρ (.cell x o s i)=(D P ρ x).cells.getD (o+s*x4 (D P ρ i)) undef)/\
  (∀P ρ x o n s i,D P ρ (.sub x o n s i)= .agg ((D P ρ x).cells.extract (o+s*x4 (D P ρ i)) (o+s*x4 (D P ρ i)+n)))/\
  (∀P ρ x o n y s i,D P ρ (.put x o n y s i)= .agg (spl (D P ρ x).cells (o+s*x4 (D P ρ i)) (D P ρ y).cells.toList))/\
  (∀P ρ x n y,D P ρ (.cat x n y)= .agg ((D P ρ x).cells++(D P ρ y).cells))/\
  (∀P ρ x i,D P ρ (.pj x i)=Ly i (D P ρ x))/\
  (∀P ρ o k x y,D P ρ (.op2 o k x y)=w9 o k (Go.RowKit.intOf (D P ρ x)) (Go.RowKit.intOf (D P ρ y)))/\
  (∀P ρ o k x,D P ρ (.op1 o k x)=unV o k (Go.RowKit.intOf (D P ρ x)))/\
  (∀P ρ x,D P ρ (.nt x)= .bool (!Ee (D P ρ x)))/\
  (∀P ρ k x,D P ρ (.cv k x)= .int k (k.wrap (Go.RowKit.intOf (D P ρ x))))/\
  (∀P ρ c x y,D P ρ (.ite c x y)=if Ee (D P ρ c)then D P ρ x else D P ρ y)/\
  (∀P ρ n x y,D P ρ (.eqb n x y)= .bool (n !=(Ee (D P ρ x)==Ee (D P ρ y))))/\
  (∀v,x4 v=(Go.RowKit.intOf v).toNat)/\
  (∀k n,Go.RowKit.intOf (.int k n)=n)/\
  (∀b,Ee (.bool b)=b)/\
  (∀(k:IntKind) (a b:Int),w9 .add k a b= .int k (k.wrap (a+b)))/\
  (∀(k:IntKind) (a b:Int),w9 .sub k a b= .int k (k.wrap (a-b)))/\
  (∀(k:IntKind) (a b:Int),w9 .mul k a b= .int k (k.wrap (a*b)))/\
  (∀(k:IntKind) (a b:Int),w9 .quo k a b= .int k (k.wrap (a.tdiv b)))/\
  (∀(k:IntKind) (a b:Int),w9 .rem k a b= .int k (a.tmod b))/\
  (∀(k:IntKind) (a b:Int),w9 .and k a b= .int k (k.wrap (BitVec.ofInt k.bits a&&&BitVec.ofInt k.bits b).toNat))/\
  (∀(k:IntKind) (a b:Int),w9 .or k a b= .int k (k.wrap (BitVec.ofInt k.bits a|||BitVec.ofInt k.bits b).toNat))/\
  (∀(k:IntKind) (a b:Int),w9 .xor k a b= .int k (k.wrap (BitVec.ofInt k.bits a^^^BitVec.ofInt k.bits b).toNat))/\
  (∀(k:IntKind) (a b:Int),w9 .andNot k a b= .int k (k.wrap (BitVec.ofInt k.bits a&&& ~~~BitVec.ofInt k.bits b).toNat))/\
  (∀(k:IntKind) (a b:Int),w9 .shl k a b= .int k (k.wrap (a*2^(min b.toNat k.bits))))/\
  (∀(k:IntKind) (a b:Int),w9 .shr k a b= .int k (a.fdiv (2^(min b.toNat k.bits))))/\
  (∀(k:IntKind) (a b:Int),w9 .eql k a b= .bool (a==b))/\
  (∀(k:IntKind) (a b:Int),w9 .neq k a b= .bool (a !=b))/\
  (∀(k:IntKind) (a b:Int),w9 .lss k a b= .bool (a<b))/\
  (∀(k:IntKind) (a b:Int),w9 .leq k a b= .bool (a<=b))/\
  (∀(k:IntKind) (a b:Int),w9 .gtr k a b= .bool (a>b))/\
  (∀(k:IntKind) (a b:Int),w9 .geq k a b= .bool (a≥b))/\
  (∀cs:Array Value,(Value.agg cs).cells=cs)/\
  (∀n,(wd n).cells=words n)/\
  (∀n:Nat,0+n=n)/\
  (∀n:Nat,1*n=n)/\
  (∀n:Nat,n+0=n)/\
  (∀n:Nat,0*n=0)/\
  (∀n:Nat,(n:Int).toNat=n)/\
  (∀a b:Value,Ly 0 (.tuple #[a,b])=a)/\
  (∀a b:Value,Ly 1 (.tuple #[a,b])=b)/\
  (∀a b c:Value,Ly 0 (.tuple #[a,b,c])=a)/\
  (∀a b c:Value,Ly 1 (.tuple #[a,b,c])=b)/\
  (∀a b c:Value,Ly 2 (.tuple #[a,b,c])=c)/\
  (∀(k:IntKind) (n:Int),(Value.int k n).cells.toList=[.int k n]):=by
 and_intros<;>intros<;>first|rfl|simp
def cr (a b k:Nat):Nat:=(a%PW k+b%PW k)/PW k
def B5 (a b:Nat):cr a b 0=0:=by simp[cr,Iy,kH]
def B6 (a b k:Nat):cr a b k<=1:=by
 unfold cr;have h1:=cO a (Aw k);have h2:=cO b (Aw k);have:a%PW k+b%PW k<2*PW k:=aA;have:=(eF (Aw k)).2 this;omega
def B7 (a b k:Nat):cr a b (k+1)=(dig a k+dig b k+cr a b k)/18446744073709551616:=by
 unfold cr;rw[Gm,Gm,s9,<-Nat.div_div_eq_div_mul];congr 1;rw[show a%PW k+PW k*dig a k+(b%PW k+PW k*dig b k)=(a%PW k+b%PW k)+PW k*(dig a k+dig b k)from by rw[fK];omega,iN _ _ (Aw k)];omega
def B8 (a b k:Nat):(a+b)/PW k=a/PW k+b/PW k+cr a b k:=by
 unfold cr;have h1:=iP a (PW k);have h2:=iP b (PW k);rw[show a+b=(a%PW k+b%PW k)+PW k*(a/PW k+b/PW k)from by rw[fK];omega,iN _ _ (Aw k)];omega
def FT (a b k:Nat):dig (a+b) k=(dig a k+dig b k+cr a b k)%18446744073709551616:=by
 unfold dig;rw[B8];omega
def bw (a b k:Nat):Nat:=if a%PW k<b%PW k then 1 else 0
def B9 (a b:Nat):bw a b 0=0:=by simp[bw,Iy,kH]
def FU (a b k:Nat):bw a b k<=1:=by unfold bw;split<;>omega
def FV {p x y A B:Nat} (hA:A<p) (hB:B<p):A+p*x<B+p*y↔x<y+(if A<B then 1 else 0):=by
 constructor
 ·intro h;rcases Nat.lt_trichotomy x y with h1|h1|h1
  ·split<;>omega
  ·subst h1;rw[if_pos aA];omega
  ·exfalso;have:p*(y+1)<=p*x:=fY _ h1;rw[iD]at this;omega
 ·intro h;split at h
  ·rename_i oV;rcases eB x y with h1|h1
   ·have:p*(x+1)<=p*y:=fY _ h1;rw[iD]at this;omega
   ·have:x=y:=aA;subst this;omega
  ·have:p*(x+1)<=p*y:=fY _ aA;rw[iD]at this;omega
def C0 (a b k:Nat):bw a b (k+1)=if dig a k<dig b k+bw a b k then 1 else 0:=by
 unfold bw;rw[Gm,Gm];simp only[FV (cO a (Aw k)) (cO b (Aw k))]
def FW {a b m:Nat} (hm:m<8) (hs:∀j,m<j->j<8->dig a j=dig b j) (h:dig a m<dig b m):a%M<b%M:=by
 have key:∀t,m+1+t<=8->a%PW (m+1+t)<b%PW (m+1+t):=by
  intro t;induction t with
  |zero=>
   intro _;rw[cP,Gm,Gm,FV (cO a (Aw m)) (cO b (Aw m))];omega
  |succ t ih=>
   intro ht;rw[<-jL,Gm,Gm,hs (m+1+t) aA aA];have:=ih aA;omega
 have:=key (8-(m+1)) aA;rw[show m+1+(8-(m+1))=8 from aA]at this;rw[Db];exact this
def sb (a b:Nat):Nat:=a+(M-b%M)
def C1 (a b:Nat) {k:Nat} (hk:k<8):dig (sb a b) k=(dig a k+18446744073709551616-dig b k-bw a b k)%18446744073709551616:=by
 have hs:(sb a b+b)%M=a%M:=by
  unfold sb;have:=cO b Np;have e:=iP b M;rw[show a+(M-b%M)+b=a+M*(b/M+1)from by rw[iD];omega,Nat.add_mul_mod_self_left]
 have hd:dig (sb a b+b) k=dig a k:=ry (by rw[<-Db];exact hs) hk;have hc:cr (sb a b) b k=bw a b k:=by
  have oW:k<=8:=aA;have uW:PW k ∣ M:=by rw[Db];exact A7 oW
  have h1:(sb a b+b)%PW k=a%PW k:=by
   rw[<-mI _ uW,hs,mI _ uW]
  have h2:((sb a b)%PW k+b%PW k)%PW k=a%PW k:=by rw[<-Nat.add_mod];exact h1
  have hA:=cO (sb a b) (Aw k);have hB:=cO b (Aw k);unfold cr bw;rcases eB ((sb a b)%PW k+b%PW k) (PW k)with h|h
  ·rw[eH h]at h2;rw[fW h,if_neg aA]
  ·have e:=Nat.mod_eq_sub_mod h;rw[e,eH aA]at h2;rw[if_pos aA];rw[Nat.div_eq_sub_div (Aw k) h,fW aA]
 rw[FT,hc]at hd;have h1:=Nq (sb a b) k;have h2:=Nq b k;have h3:=Nq a k;have h4:=FU a b k;omega
open Go.RX
def sg (a b:Nat):Int:=if a<b then -1 else if a=b then 0 else 1
@[irreducible] def HM:Nat:=9223372036854775808*PW 7
def Tj:HM=9223372036854775808*PW 7:=by unfold HM;rfl
def Ja:M=2*HM:=by rw[Db,Tj,show(8:Nat)=7+1 from rfl,s9];omega
def Tn:0<HM:=by rw[Tj];have:=Aw 7;omega
def rs (z:Int):Nat:=(z%(M:Int)).toNat
def C2 (z:Int):rs z<M:=by
 unfold rs;have:=Np;have h:=Int.emod_lt_of_pos z (show(0:Int)<M by omega);have h':=Int.emod_nonneg z (show(M:Int)≠0 by omega);omega
def iw (z:Int):Value:=wd (rs z)
def nm (z:Int):Value:=nb (decide (z<0)) z.natAbs
def toI (a:Nat):Int:=if a%M<HM then(a%M:Nat)else(a%M:Nat)-(M:Int)
def Jb (z:Int):Prop:= -(HM:Int)<=z/\z<HM
def C3 (a:Nat):Jb (toI a):=by
 have h:=cO a Np;have:=Ja;unfold Jb toI;split<;>omega
def sh {z:Int} (h0:0<=z) (h:z<M):rs z=z.toNat:=by
 unfold rs;rw[jC h0 h]
def si {z:Int} (h0:z<0) (h: -(M:Int)<=z):rs z=(z+M).toNat:=by
 unfold rs;have:=Np;rw[<-Int.add_emod_right,jC aA aA]
def Ho {z:Int} (h:Jb z):toI (rs z)=z:=by
 have hM:=Ja;have hl:=C2 z;obtain⟨h1,h2⟩:=h;unfold toI;rw[eH hl];by_cases h0:0<=z
 ·rw[sh h0 aA];split<;>omega
 ·rw[si aA aA];split<;>omega
def C4 (a:Nat):dig a 7<9223372036854775808↔a%M<HM:=by
 have e:a%M=a%PW 7+PW 7*dig a 7:=by rw[Db];exact Gm a 7
 have oV:=cO a (Aw 7);rw[e,Tj];constructor
 ·intro h;have:=fY (PW 7) (show dig a 7+1<=9223372036854775808 by omega);rw[iD]at this;rw[eX 9223372036854775808];omega
 ·intro h;rcases eB (dig a 7) 9223372036854775808 with h1|h1
  ·exact h1
  ·have:=fY (PW 7) h1;rw[eX 9223372036854775808]at h;omega
def Xl {b b':Bool} {m n:Nat} (h:b=b') (hm:m%M=n%M):nb b m=nb b' n:=by unfold nb;rw[h,FR hm]
def C5 {m n:Nat} (hm:m%M=n%M):wd m=wd n:=by unfold wd;rw[FR hm]
def C6 {i:Nat} (h:i<8):dig HM i=if i=7 then 9223372036854775808 else 0:=by
 unfold dig;rw[Tj];split
 ·rename_i e;subst e;rw[mJ _ (Aw 7)]
 ·obtain⟨d,hd⟩:∃d,7=(d+1)+i:=⟨7-i-1,aA⟩;rw[hd,Tc,<-fF,mJ _ (Aw i),s9,<-fF,Nat.mul_mod_left]
def C7:HM<M:=by have:=Ja;have:=Tn;omega
def C8:spl (words 0) 7 [.int .u64 9223372036854775808]=words HM:=by
 have:=Xk (dig 0) (show 7<8 by omega) 9223372036854775808;refine Eq.trans this (sd fun i hi=> ?_);rw[C6 hi,Xj]
def FX {z:Int} (h:z<0) (hm:z.natAbs<M):wd (sb 0 z.natAbs)=iw z:=by
 unfold iw;refine C5 ?_;rw[si h aA];unfold sb;rw[eH hm];congr 1;omega
def C9 {z:Int} (h:0<=z) (hm:z.natAbs<M):wd z.natAbs=iw z:=by
 unfold iw;rw[sh h aA];congr 1;omega
def sg_pos {a b:Nat}:sg a b>0↔b<a:=by unfold sg;split<;>(try split)<;>omega
def sg_zero {a b:Nat}:sg a b=0↔a=b:=by unfold sg;split<;>(try split)<;>omega
def sg_nonneg {a b:Nat}:sg a b≥0↔b<=a:=by unfold sg;split<;>(try split)<;>omega
end Go.WD
namespace Go.Z
open Proofs Proofs.Tryz RowKit RX WD IntWalk
def sj (b:Bool) (n:Nat):Value.agg ((#[Value.bool b]++words n).extract 1 9)=wd n:=rfl
def Ei (b:Bool) (n:Nat):(#[Value.bool b]++words n).size=9:=rfl
def Gn (b:Bool) (n:Nat):i8 (#[Value.bool b]++words n):=by
 intro c hc;simp only[eE,bC]at hc;rcases hc with h|h
 ·simp at h;subst h;rfl
 ·exact words_one n c h
def To:j3 prog 180=wd 0:=by
 have:j3 prog 180= .agg #[.int .u64 0,.int .u64 0,.int .u64 0,.int .u64 0,.int .u64 0,.int .u64 0,.int .u64 0,.int .u64 0]:=aB;rw[this];simp[wd,words,wf,Xj]
def Jc:j3 prog 44=wd 0:=by
 have:j3 prog 44= .agg #[.int .u64 0,.int .u64 0,.int .u64 0,.int .u64 0,.int .u64 0,.int .u64 0,.int .u64 0,.int .u64 0]:=aB;rw[this];simp[wd,words,wf,Xj]
def dj (x y c:Nat) (hx:x<18446744073709551616) (hy:y<18446744073709551616) (hc:c<=1):Own prog 201 [.int .u64 x,.int .u64 y,.int .u64 c] (.tuple #[.int .u64 (((x+y+c)%18446744073709551616:Nat):Int),.int .u64 (((x+y+c)/18446744073709551616:Nat):Int)]):=fun w=>by
 show(callFunc _ #[_,_,_]).run _ w=_;rw[run_callFunc_extern Tryz.func201 aB aB aB (e:=add64Entry) aB,run_add64 x y c aA aA aA aA];simp only[Result.andThen];congr 5<;>omega
def FY (x y b:Nat) (hb:b<=1):Own prog 221 [.int .u64 x,.int .u64 y,.int .u64 b] (.tuple #[.int .u64 (((x+18446744073709551616-y-b)%18446744073709551616:Nat):Int),.int .u64 ((if x<y+b then 1 else 0:Nat):Int)]):=fun w=>by
 show(callFunc _ #[_,_,_]).run _ w=_;rw[run_callFunc_extern Tryz.func221 aB aB aB (e:=sub64Entry) aB,run_sub64 x y b hb];rfl
def FZ (f g:Nat->Nat) (k i:Nat):(if i=k then f k else if i<k then f i else g i)=if i<k+1 then f i else g i:=by
 by_cases h1:i=k
 ·subst h1;rw[if_pos rfl,if_pos aA]
 ·rw[if_neg h1];by_cases h2:i<k
  ·rw[if_pos h2,if_pos aA]
  ·rw[if_neg h2,if_neg aA]
def D0 (a b:Nat):Det prog 217 [wd a,wd b] (.tuple #[wd (a+b),.int .u64 (cr a b 8)]):=by
 refine Cm mixed ZT aB rfl ?_;refine i6 ⟨words_size a,words_one a⟩ (i6 ⟨words_size b,words_one b⟩ ?_);refine⟨fun l=>∃k,k<=8/\l=[.int .u64 (cr a b k),.int .i64 (k:Nat),.agg (wf fun j=>if j<k then dig (a+b) j else dig a j)],fun l=>(8-intOf (l.getD 1 undef)).toNat,⟨0,aA,?_⟩,?_⟩
 ·rw[B5];rfl
 ·rintro vals-⟨k,hk,rfl⟩;refine i6 ⟨_,rfl⟩ (Af (b:=decide ((k:Int)<8)) rfl (fun h=> ?_) (fun h=> ?_))
  ·have hk:k<8:=by simp at h;omega
   refine i6 ⟨_,_,rfl⟩ (i6 ⟨?_,?_⟩ ?_)
   ·show(0:Int)<=(k:Int);omega
   ·show(k:Int)<8;omega
   ·refine FC (dj (dig a k) (dig b k) (cr a b k) (Nq _ _) (Nq _ _) (B6 _ _ _)) ?_ ?_
    ·simp only[rxs,Ti _ hk,Iz b hk,jF,if_false]
    ·refine i6 ⟨_,rfl,eP _⟩ (i6 ⟨_,rfl,cY _⟩ (i6 ⟨rfl,?_⟩ ?_))
     ·exact rn _ _
     ·refine⟨⟨k+1,aA,?_⟩,?_⟩
      ·have e:(k:Int)+1=((k+1:Nat):Int):=aA;simp only[rxs,<-B7,<-FT,e,i64_in _ (show -9223372036854775808<=((k+1:Nat):Int)/\((k+1:Nat):Int)<=9223372036854775807 from aA)];rw[Xk _ hk,Jz (g:=fun j=>if j<k+1 then dig (a+b) j else dig a j) (fun i _=> ?_)];exact FZ _ _ k i
      ·simp only[rxs,i64_in _ (show -9223372036854775808<=(k:Int)+1/\(k:Int)+1<=9223372036854775807 from aA)];omega
  ·have hk:k=8:=by simp at h;omega
   subst hk;refine Aa ?_ rfl;simp only[rxs,y9,sd (n:=a+b) (f:=fun j=>if j<8 then dig (a+b) j else dig a j) (fun i hi=>by rw[if_pos hi])];rfl
def Xm (a b:Nat):Det prog 150 [wd a,wd b] (.tuple #[wd (sb a b),.int .u64 (bw a b 8)]):=by
 refine Cm mixed ZU aB rfl ?_;refine i6 ⟨words_size a,words_one a⟩ (i6 ⟨words_size b,words_one b⟩ ?_);refine⟨fun l=>∃k,k<=8/\l=[.int .u64 (bw a b k),.int .i64 (k:Nat),.agg (wf fun j=>if j<k then dig (sb a b) j else dig a j)],fun l=>(8-intOf (l.getD 1 undef)).toNat,⟨0,aA,?_⟩,?_⟩
 ·rw[B9];rfl
 ·rintro vals-⟨k,hk,rfl⟩;refine i6 ⟨_,rfl⟩ (Af (b:=decide ((k:Int)<8)) rfl (fun h=> ?_) (fun h=> ?_))
  ·have hk:k<8:=by simp at h;omega
   refine i6 ⟨_,_,rfl⟩ (i6 ⟨?_,?_⟩ ?_)
   ·show(0:Int)<=(k:Int);omega
   ·show(k:Int)<8;omega
   ·refine FC (FY (dig a k) (dig b k) (bw a b k) (FU _ _ _)) ?_ ?_
    ·simp only[rxs,Ti _ hk,Iz b hk,jF,if_false]
    ·refine i6 ⟨_,rfl,eP _⟩ (i6 ⟨_,rfl,cY _⟩ (i6 ⟨rfl,?_⟩ ?_))
     ·exact rn _ _
     ·refine⟨⟨k+1,aA,?_⟩,?_⟩
      ·have e:(k:Int)+1=((k+1:Nat):Int):=aA;simp only[rxs,<-C0,<-C1 a b hk,e,i64_in _ (show -9223372036854775808<=((k+1:Nat):Int)/\((k+1:Nat):Int)<=9223372036854775807 from aA)];rw[Xk _ hk,Jz (g:=fun j=>if j<k+1 then dig (sb a b) j else dig a j) (fun i _=> ?_)];exact FZ _ _ k i
      ·simp only[rxs,i64_in _ (show -9223372036854775808<=(k:Int)+1/\(k:Int)+1<=9223372036854775807 from aA)];omega
  ·have hk:k=8:=by simp at h;omega
   subst hk;refine Aa ?_ rfl;simp only[rxs,y9,sd (n:=sb a b) (f:=fun j=>if j<8 then dig (sb a b) j else dig a j) (fun i hi=>by rw[if_pos hi])];rfl
def GA (a b:Nat):Det prog 151 [wd a,wd b] (.int .i64 (sg (a%M) (b%M))):=by
 refine Cm mixed ZV aB rfl ?_;refine i6 ⟨words_size a,words_one a⟩ (i6 ⟨words_size b,words_one b⟩ ?_);refine⟨fun l=>∃k,k<=8/\(∀j,k<=j->j<8->dig a j=dig b j)/\l=[.int .i64 0,.int .i64 ((k:Int)-1)],fun l=>(intOf (l.getD 1 undef)+1).toNat,⟨8,aA,fun j h1 h2=>aA,rfl⟩,?_⟩;rintro vals-⟨k,hk,hs,rfl⟩;refine i6 ⟨_,rfl⟩ (Af (b:=decide ((k:Int)-1≥0)) rfl (fun h=> ?_) (fun h=> ?_))
 ·have wB:0<k:=by simp at h;omega
  obtain⟨m,rfl⟩:∃m,k=m+1:=⟨k-1,aA⟩;have hm:m<8:=aA;have em:((m+1:Nat):Int)-1=(m:Int):=aA;rw[em];refine i6 ⟨_,_,rfl⟩ (i6 ⟨?_,?_⟩ (i6 ⟨dig a m,?_⟩ (i6 ⟨dig b m,?_⟩ ?_)))
  ·show(0:Int)<=(m:Int);omega
  ·show(m:Int)<8;omega
  ·simp only[rxs,Iz a hm]
  ·simp only[rxs,Iz b hm]
  ·refine Af (b:=decide (dig a m≠dig b m)) ?_ (fun h1=> ?_) (fun h1=> ?_)
   ·simp only[rxs,Iz a hm,Iz b hm];congr 1;rw[bS];simp;omega
   ·have h1:dig a m≠dig b m:=by simpa using h1
    refine Af (b:=decide (dig a m<dig b m)) ?_ (fun h2=> ?_) (fun h2=> ?_)
    ·simp only[rxs,Iz a hm,Iz b hm];congr 1;rw[bS];simp
    ·have:=FW hm (fun j h h'=>hs j aA h') (by simpa using h2);exact Aa rfl (by simp[D,y9,sg,this])
    ·have:=FW (a:=b) (b:=a) hm (fun j h h'=>(hs j aA h').symm) (by simp at h2;omega);exact Aa rfl (by simp only[rxs,y9,sg];rw[if_neg aA,if_neg aA])
   ·have h1:dig a m=dig b m:=by simpa using h1
    refine⟨⟨m,aA,fun j h h'=> ?_,?_⟩,?_⟩
    ·rcases Nat.eq_or_lt_of_le h with rfl|h
     ·exact h1
     ·exact hs j aA h'
    ·simp only[rxs,i64_in _ (show -9223372036854775808<=(m:Int)-1/\(m:Int)-1<=9223372036854775807 from aA)]
    ·simp only[rxs,i64_in _ (show -9223372036854775808<=(m:Int)-1/\(m:Int)-1<=9223372036854775807 from aA)];omega
 ·have wB:k=0:=by simp at h;omega
  subst wB;refine Aa rfl ?_;have:a%M=b%M:=by rw[Db];exact rx fun i hi=>hs i aA hi
  simp[D,y9,sg,this]
open Go.RowKit Go.RX Go.WD Go.IntWalk
def D1 {P:Program} {e:TypeId} (hu:P.underlying e=some (.int .u64)) (d x y:Nat) (w:World):(Op.equalIn (d+1) e (.int .u64 x) (.int .u64 y)).run P w= .ok (decide (x=y)) w:=by
 simp only[Op.equalIn,eM,run_underlying hu,eL,if_true,eO];congr 1;rw[bS];simp;omega
def GB {P:Program} {e:TypeId} (hT:r9 P e=true) (hc:P.cellsOf e=1) (sD:p8 P e=false) (hu:P.underlying e=some (.int .u64)) (d:Nat) (f g:Nat->Nat) (w:World):∀is:List Nat,(∀i∈is,i<8)->
  (Op.eqItems (d+1) e (P.cellsOf e) (wf f) (wf g) is).run P w= .ok (decide (∀i∈is,f i=g i)) w:=by
 intro is;induction is with
 |nil=>intro _;simp[Op.eqItems]
 |cons i is ih=>
  intro h;have hi:=h i aD;have hp:∀f:Nat->Nat,(part e (wf f) (i*P.cellsOf e)).run P w= .ok (.int .u64 (f i)) w:=fun f=>by
   rw[Qa hT (by rw[A8,hc];omega) aA w,sD,hc,Nat.mul_one];simp only[aZ,if_false,Ti f hi]
  simp only[Op.eqItems,eM,hp,eL,D1 hu];by_cases he:f i=g i
  ·simp only[he,decide_true,Bool.not_true,aZ,if_false,ih (fun j hj=>h j (by simp[hj]))];congr 1;rw[bS];simp[he]
  ·simp[he]
def GE (a b:Nat):(∀i∈List.range 8,dig a i=dig b i)↔a%M=b%M:=
 ⟨fun h=>by rw[Db];exact rx fun i hi=>h i (bH.2 hi),fun h i hi=>by rw[Db]at h;exact ry h (bH.1 hi)⟩
def GF {P:Program} {o:Oper} {t t' e:TypeId} {x y:Operand} {va vb:Value} {a b:Nat} (ho:o.op= .binOp .eql t x y t') (hva:va=wd a) (hvb:vb=wd b) (hx:e8 [x,y] [va,vb] x=va) (hy:e8 [x,y] [va,vb] y=vb)
  (hu:P.underlying t=some (.array 8 e)) (hg:P.eqGuardType P.depth t=false) (hT:r9 P e=true) (hc:P.cellsOf e=1) (sD:p8 P e=false) (hue:P.underlying e=some (.int .u64)):
  Yld P o [va,vb] (.bool (decide (a%M=b%M))):=fun w=>by
 have pD:o.op.operands.toList=[x,y]:=by simp[ho,Op.operands]
 obtain⟨i,hi⟩:∃i,P.info? e=some i:=by
  unfold r9 at hT;rw[aT,eG]at hT;exact hT.1
 subst hva;subst hvb;have hr:(Op.equal t (wd a) (wd b)).run P w= .ok (decide (a%M=b%M)) w:=by
  show(Op.equalIn (9999+1) t (.agg (wf (dig a))) (.agg (wf (dig b)))).run P w=_;rw[run_equalIn_array w 9999 _ _ hu hi,show(9999:Nat)=9998+1 from rfl,GB hT hc sD hue 9998 (dig a) (dig b) w _ (fun i hi=>bH.1 hi)];congr 1;rw[bS,oDi,oDi];exact GE a b
 rw[pD];simp only[execOp,ho,hx,hy];simp only[wd]at hr⊢;simp[eqGuard,binOp,hg,hr]
section
variable {o:Oper} {x y:Operand} {va vb:Value} {a b:Nat}
def D2 (ho:o.op= .binOp .eql 180 x y 180) (hva:va=wd a) (hvb:vb=wd b) (hx:e8 [x,y] [va,vb] x=va) (hy:e8 [x,y] [va,vb] y=vb):Yld prog o [va,vb] (.bool (decide (a%M=b%M))):=
 GF (e:=42) ho hva hvb hx hy aB aB aB aB aB aB
def D3 (ho:o.op= .binOp .eql 44 x y 44) (hva:va=wd a) (hvb:vb=wd b) (hx:e8 [x,y] [va,vb] x=va) (hy:e8 [x,y] [va,vb] y=vb):Yld prog o [va,vb] (.bool (decide (a%M=b%M))):=
 GF (e:=42) ho hva hvb hx hy aB aB aB aB aB aB
end
def D4 (a:Nat):Det prog 257 [wd a] (.bool (decide (a%M=0))):=by
 refine Cm mixed ZS aB rfl (i6 ⟨words_size a,words_one a⟩ ?_);refine FB (D2 (a:=a) (b:=0) rfl rfl To rfl rfl) rfl (Aa rfl ?_);show Value.bool (decide (a%M=0%M))=Value.bool (decide (a%M=0));congr 1
def sk (b:Bool) (a:Nat):Det prog 218 [.bool b,wd a] (nb (b&& !decide (a%M=0)) a):=by
 refine Cm mixed ZY aB rfl (i6 ⟨words_size a,words_one a⟩ (i6 ⟨b,rfl⟩ (Af (b:=b) rfl (fun h=> ?_) (fun h=> ?_))))
 ·subst h;exact Da (D4 a) rfl (i6 ⟨_,rfl⟩ (Aa rfl rfl))
 ·subst h;exact Aa rfl rfl
end Go.Z
namespace Go.WD
open RX
@[irreducible] def BP (k:Nat):Nat:=2^(32*k)
def BP_zero:BP 0=1:=by unfold BP;rfl
def BP_succ (k:Nat):BP (k+1)=BP k*4294967296:=by unfold BP;rw[iD,gJ]
def D5 (k:Nat):0<BP k:=by unfold BP;exact iW aA
def D6 (i j:Nat):BP (i+j)=BP i*BP j:=by unfold BP;rw[fK,gJ]
def Hq {i j:Nat} (h:i<=j):BP i<=BP j:=by unfold BP;exact bB aA aA
def BP_lt_iff {i j:Nat}:BP i<BP j↔i<j:=by
 constructor
 ·intro h;rcases eB i j with h1|h1
  ·exact h1
  ·have:=Hq h1;omega
 ·intro h;have h1:=Hq (show i+1<=j from h);have h2:=D5 i;rw[BP_succ]at h1;omega
def GG (k:Nat):BP (2*k)=PW k:=by unfold BP PW;rw[<-fF]
def D7:BP 16=M:=by rw[Db,<-GG]
def GH {l:List Nat} {k:Nat} (h:k<l.length):l[k]? =some (l.getD k 0):=by
 rw[aK,aG h];rfl
def D8 {l:List Nat} {k:Nat} (h:k<l.length):l.take (k+1)=l.take k++[l.getD k 0]:=by
 rw[cK,GH h];rfl
def du {l:List Nat} {k:Nat} (h:k<l.length):l.drop k=l.getD k 0::l.drop (k+1):=by
 have:=dP h;rw[this];congr 1;rw[aK,aG h];rfl
def GI {l:List Nat} {k x:Nat} (h:k<l.length):(l.set k x).getD k 0=x:=by
 rw[aK,bZ,if_pos rfl,if_pos h];rfl
def Ko {l:List Nat} {k j x:Nat} (h:j≠k):(l.set k x).getD j 0=l.getD j 0:=by
 rw[aK,aK,bZ,if_neg (fun e=>h e.symm)]
def D9 {l:List Nat} {k j x:Nat} (h:k<j):(l.set k x).drop j=l.drop j:=by
 apply bG;intro i;rw[dI,dI,bZ,if_neg aA]
def Xn (n k:Nat):(eS n 0).getD k 0=0:=by
 rw[aK,cZ];split<;>rfl
def Tt {l:List Nat} {k:Nat} (h:l.length<=k):l.getD k 0=0:=by
 rw[aK,aP h];rfl
def PW_lt_iff {i j:Nat}:PW i<PW j↔i<j:=by
 constructor
 ·intro h;rcases eB i j with h1|h1
  ·exact h1
  ·have:=Qh h1;omega
 ·intro h;have h1:=Qh (show i+1<=j from h);have h2:=Aw i;rw[s9]at h1;omega
def ul:List Nat->Nat
 |[]=>0
 |d::l=>d+18446744073709551616*ul l
def Eg (l:List Nat):Prop:=∀d∈l,d<18446744073709551616
def Eg.one {d:Nat} (h:d<18446744073709551616):Eg [d]:=fun e he=>by rw[bA]at he;omega
def Eg.take {l:List Nat} (h:Eg l) (k:Nat):Eg (l.take k):=fun d hd=>h d (List.mem_of_mem_take hd)
def Eg.set {l:List Nat} (h:Eg l) (k:Nat) {x:Nat} (hx:x<18446744073709551616):Eg (l.set k x):=fun d hd=>by
 rcases List.mem_or_eq_of_mem_set hd with h1|h1
 ·exact h d h1
 ·omega
def Eg.zeros (n:Nat):Eg (eS n 0):=fun d hd=>by rw[List.mem_replicate]at hd;omega
def Eg.at {l:List Nat} (h:Eg l) (k:Nat):l.getD k 0<18446744073709551616:=by
 rw[aK];cases e:l[k]? with
 |none=>simp
 |some d=>exact h d (aJ e)
def so:∀(a b:List Nat),ul (a++b)=ul a+PW a.length*ul b
 |[],b=>by simp[ul,Iy]
 |d::a,b=>by
  rw[dE,ul,ul,so a b,aO,s9,fK,<-jL,<-fF,eX (PW a.length)]
def sr (d:Nat):ul [d]=d:=by simp[ul]
def Gp:∀{l:List Nat},Eg l->ul l<PW l.length
 |[],_=>by simp[ul,Iy]
 |d::l,h=>by
  have h1:=Gp (l:=l) fun e he=>h e (by simp[he]);have h2:=h d aD;rw[ul,aO,s9];omega
def Qi:∀n,ul (eS n 0)=0
 |0=>rfl
 |n+1=>by rw[List.replicate_succ,ul,Qi n]
def Tu {l:List Nat} {k:Nat} (h:k<l.length):ul (l.take (k+1))=ul (l.take k)+PW k*l.getD k 0:=by
 rw[D8 h,so,sr,bD,cH aA]
def su {l:List Nat} {k:Nat} (h:k<l.length):ul (l.drop k)=l.getD k 0+18446744073709551616*ul (l.drop (k+1)):=by
 rw[du h];rfl
def sw (l:List Nat) {k:Nat} (h:k<=l.length):ul l=ul (l.take k)+PW k*ul (l.drop k):=by
 have:=so (l.take k) (l.drop k)
 rwa[dK,bD,cH h]at this
def Jd:∀{l:List Nat} {k:Nat} (x:Nat),k<l.length->ul (l.set k x)+PW k*l.getD k 0=ul l+PW k*x
 |[],k,x,h=>by simp at h
 |d::l,0,x,_=>by simp[ul,Iy];omega
 |d::l,k+1,x,h=>by
  have ih:=Jd (l:=l) (k:=k) x (by simpa using h);have e:(d::l).getD (k+1) 0=l.getD k 0:=rfl;rw[List.set_cons_succ,ul,ul,e,s9,eX (PW k),fF,fF];have h1:18446744073709551616*ul (l.set k x)+18446744073709551616*(PW k*l.getD k 0)=18446744073709551616*ul l+18446744073709551616*(PW k*x):=by rw[<-fK,ih,fK]
  omega
def Um (l:List Nat):Prop:=∀k,ul l<PW k->l.length<=k
def Um.nil:Um []:=fun _ _=>bJ _
def E0 {l:List Nat} {n:Nat} (hl:l.length=n+1) (h:l.getD n 0≠0):PW n<=ul l:=by
 have h1:=Tu (l:=l) (k:=n) aA;rw[aI aA]at h1;have:=fY (PW n) (show 1<=l.getD n 0 by omega);omega
def Um.of {l:List Nat} {n:Nat} (hl:l.length=n+1) (h:l.getD n 0≠0):Um l:=fun k hk=>by
 have:=PW_lt_iff.1 (aR (E0 hl h) hk);omega
def Um.ge {l:List Nat} (h:Um l) {n:Nat} (hl:l.length=n+1):PW n<=ul l:=by
 rcases eB (ul l) (PW n)with h1|h1
 ·have:=h n h1;omega
 ·exact h1
def Um.len_le {a b:List Nat} (ha:Um a) (hb:Eg b) (h:ul a<=ul b):a.length<=b.length:=ha _ (aR h (Gp hb))
def Um.lt_of_len {a b:List Nat} (ha:Eg a) (hb:Um b) (h:a.length<b.length):ul a<ul b:=by
 obtain⟨n,hn⟩:∃n,b.length=n+1:=⟨b.length-1,aA⟩;exact aM (Gp ha) (bM (Qh aA) (hb.ge hn))
def Um.pos {l:List Nat} (h:Um l):0<l.length↔0<ul l:=by
 constructor
 ·intro hl;obtain⟨n,hn⟩:∃n,l.length=n+1:=⟨l.length-1,aA⟩;exact aM (Aw n) (h.ge hn)
 ·intro hv;cases l with
  |nil=>simp[ul]at hv
  |cons d l=>simp
def GK {a b:List Nat} {i:Nat} (ha:Eg a) (hb:Eg b) (hia:i<a.length) (hib:i<b.length) (hd:a.drop (i+1)=b.drop (i+1)) (h:a.getD i 0<b.getD i 0):ul a<ul b:=by
 have e1:=sw a (show i+1<=a.length by omega);have e2:=sw b (show i+1<=b.length by omega);have f1:=Tu hia;have f2:=Tu hib;have g1:=Gp (ha.take i);rw[bD,cH aA]at g1;have h2:=fY (PW i) (show a.getD i 0+1<=b.getD i 0 from h);rw[fK]at h2;rw[hd]at e1;omega
end Go.WD
namespace Go.RX
open RowKit
def Con.frame {P:Program} {f:FuncId} {args:List Value} {Hr H:PH} {V:Value->PH->Prop} (h:Con P f args Hr V) (oW:Pl Hr H):
  Con P f args H fun u H'=>∃Hr',V u Hr'/\Pl Hr' H'/\∀k ob,H k=some ob->Hr k=none->Hr' k=none/\H' k=some ob:=fun w hw=>by
 refine(h w (oW.In hw)).mono ?_;rintro e w' ⟨v,Hr',he,hs,hV⟩;have none_of:∀k ob,H k=some ob->Hr k=none->Hr' k=none:=fun k ob hk hr=>by
  cases e2:Hr' k with
  |none=>rfl
  |some o2=>
   have h2:=y5 (hw _ _ hk);rcases hs.dom k (by simp[e2])with h3|h3
   ·exact absurd hr h3
   ·omega
 refine⟨v,fun k=>match Hr' k with|some o=>some o|none=>if Hr k=none then H k else none,he,⟨hs.os,hs.tape,hs.output,hs.size,fun k hk hn=> ?_,fun k ob hk=> ?_,fun k hk=> ?_,hs.dr⟩,Hr',hV,fun k ob hk=> ?_,fun k ob hk hr=>⟨none_of k ob hk hr,?_⟩⟩
 ·refine hs.block k hk ?_;cases e2:Hr k with
  |none=>rfl
  |some o2=>rw[oW _ _ e2]at hn;cases hn
 ·cases e2:Hr' k with
  |some o2=>simp only[e2]at hk;cases hk;exact hs.holds _ _ e2
  |none=>
   simp only[e2]at hk;split at hk
   ·rename_i hr;rw[hs.block k (y5 (hw _ _ hk)) hr];exact hw _ _ hk
   ·cases hk
 ·cases e2:Hr' k with
  |some o2=>
   rcases hs.dom k (by simp[e2])with h3|h3
   ·refine .inl fun hn=>h3 ?_;cases e3:Hr k with
    |none=>rfl
    |some o3=>rw[oW _ _ e3]at hn;cases hn
   ·exact .inr h3
  |none=>
   simp only[e2]at hk;split at hk
   ·exact .inl hk
   ·exact absurd rfl hk
 ·simp only[hk]
 ·simp only[none_of k ob hk hr,hr,if_true,hk]
def OwS.frame {Hr H Hr' H':PH} {e:TypeId} {sz n:Nat} {v:Value} {xs:List Value} (h:OwS Hr H e sz v n xs) (hk:∀k ob,H k=some ob->Hr k=none->Hr' k=none/\H' k=some ob):OwS Hr' H' e sz v n xs:=by
 obtain⟨h1,h2|⟨g,cap,cur,h2,h3,h4,h5⟩⟩:=h
 ·exact⟨h1,.inl h2⟩
 ·exact⟨h1,.inr ⟨g,cap,cur,h2,(hk _ _ h4 h3).1,(hk _ _ h4 h3).2,h5⟩⟩
end Go.RX
namespace Go.Z
open Proofs.Tryz RowKit RX WD
def iv (d:Nat):Value:= .int .i64 (d:Nat)
def E2 (f:Nat->Value):(nU (1*1)).map f= #[f 0]:=by
 apply gI;simp
end Go.Z

/- Operations with memory. -/
import Derived.Test.YtmannekkmdockaaGreatDoorRxH
import Derived.Laws.Slices
import Derived.Laws.Entries
import Derived.Laws.Strings
import Derived.Laws.AppendOwn
import Derived.Laws.OwnMore
import Derived.Laws.MakeOwn
import Derived.Great.BuildSlice
import Derived.Lib.Builder
import Derived.Lib.UnsafeStr
import Derived.LaidEqlPtr
import Derived.Laws.Concat
import Derived.Laws.IdiomStrings
import Derived.Laws.BytesArg
import Derived.Laws.IdiomCopy
open Array renaming empty_append->mW,map_empty->nR,size_append->iN,toList_append->kD,toList_map->jO
open Go.Result renaming andThen_ok->eH
open Go.Sem renaming run_bind->eI,run_pure->eJ
open List renaming getElem?_take->fF,length_drop->eU,map_toArray->gY,size_toArray->iR,take_left->lG,take_take->oK
open Nat renaming le_succ->nS
open Option renaming map_none->iW
namespace Go.RX
open RowKit
section
variable {P:Program} {H:PH} {o:Oper} {x y:Operand}
theorem PH.put_self (H:PH) (b:Nat) (ob:Obj):H.put b ob b=some ob:=by simp[PH.put]
theorem PH.put_ne (H:PH) {b k:Nat} (ob:Obj) (h:k≠b):H.put b ob k=H k:=by simp[PH.put,h]
theorem PH.put_put (H:PH) (b:Nat) (a c:Obj):(H.put b a).put b c=H.put b c:=by
 funext k;unfold PH.put;split<;>rfl
theorem PH.le_put {H:PH} {b:Nat} (h:H b=none) (ob:Obj):Pl H (H.put b ob):=fun k o hk=>by
 unfold PH.put;split
 ·rename_i e;subst e;rw[h]at hk;cases hk
 ·exact hk
theorem Rk {T T':TypeId} {b q:Nat} {cs:Array Value} {fz:Nat×Nat} (ho:o.op= .load T x) (hx:g8 [x] [.pointer (some ⟨b,q,none⟩)] x= .pointer (some ⟨b,q,none⟩)) (hH:H b=some (.cells cs T' fz)) (hT:w9 P T=true) (hq:q+P.cellsOf T<=cs.size) (h0:An P T=false->q<cs.size):
  Rds P o [.pointer (some ⟨b,q,none⟩)] H (if An P T then .agg (cs.extract q (q+P.cellsOf T))else cs.getD q undef):=fun w hw=>by
 have qK:o.op.operands.toList=[x]:=by simp[ho,Op.operands]
 rw[qK];simp only[execOp,ho,hx,eI];rw[FY hT (hw _ _ hH) hq h0];rfl
theorem Uf {T T':TypeId} {b q:Nat} {cs:Array Value} {v:Value} (ho:o.op= .store T x y) (hx:g8 [x,y] [.pointer (some ⟨b,q,none⟩),v] x= .pointer (some ⟨b,q,none⟩)) (hy:g8 [x,y] [.pointer (some ⟨b,q,none⟩),v] y=v) (hH:H b=some (.cells cs T' (0,0))) (hT:w9 P T=true) (hq:q+P.cellsOf T<=cs.size) (hv:v.cells.size=P.cellsOf T) (h1:o0 v.cells):
  Opn P o [.pointer (some ⟨b,q,none⟩),v] H fun u H'=>u=undef/\H'=H.put b (.cells (spl cs q v.cells.toList) T' (0,0)):=fun w hw=>by
 have qK:o.op.operands.toList=[x,y]:=by simp[ho,Op.operands]
 have hb:=hw _ _ hH;rw[qK];have hr:(execOp (g8 [x,y] [.pointer (some ⟨b,q,none⟩),v]) o).run P w= .ok .skip (w.setRow b (spl cs q v.cells.toList)):=by
  simp only[execOp,ho,hx,hy,eI];rw[FZ hT hb hq hv h1];rfl
 unfold Stp;rw[hr];refine⟨_,⟨rfl,rfl,rfl,aD,fun k hk hn=>setRow_other _ _ _ _ (fun e=>by rw[e,hH]at hn;cases hn),fun k ob hk=> ?_,fun k hk=> ?_,aS _⟩,rfl,rfl⟩
 ·unfold PH.put at hk;split at hk
  ·rename_i e;subst e;cases hk;exact setRow_heap w k _ _ T' (0,0) hb
  ·rename_i e;rw[setRow_other _ _ _ _ e];exact hw k ob hk
 ·unfold PH.put at hk;split at hk
  ·rename_i e;subst e;exact .inl (by simp[hH])
  ·exact .inl hk
theorem fx {T e:TypeId} {len b q:Nat} {k:IntKind} {m:Int} (ho:o.op= .indexAddr T x y) (hx:g8 [x,y] [.pointer (some ⟨b,q,none⟩),.int k m] x= .pointer (some ⟨b,q,none⟩)) (hy:g8 [x,y] [.pointer (some ⟨b,q,none⟩),.int k m] y= .int k m) (hu:P.underlying T=some (.array len e)) (he:w9 P e=true) (h0:0<=m) (h1:m<len):
  Yld P o [.pointer (some ⟨b,q,none⟩),.int k m] (.pointer (some ⟨b,q+m.toNat*P.cellsOf e,none⟩)):=fun w=>by
 have qK:o.op.operands.toList=[x,y]:=by simp[ho,Op.operands]
 rw[qK];simp only[execOp,ho,hx,hy,eI];rw[ug hu he b q k m h0 h1];rfl
theorem Rm {fn:Fn} {caps:Array Operand} {vs:List Value} (ho:o.op= .makeFunc fn #[] caps) (hv':caps.toList.map (g8 caps.toList vs)=vs):Run P o vs (.func fn #[] vs.toArray):=fun w=>by
 have hv:caps.map (g8 caps.toList vs)=vs.toArray:=by rw[<-cI,jO];exact hv'
 have qK:o.op.operands.toList=caps.toList:=by simp[ho,Op.operands]
 unfold Stp;rw[qK];simp only[execOp,ho,eI,Instr.makeFunc,nR,hv];exact⟨rfl,Ext.refl _⟩
theorem fy {f:FuncId} {az:Array Operand} {tys:Array TypeId} {caps:Array Value} {vs:List Value} {V:Value->PH->Prop} (ho:o.op= .call ⟨.value x,az,tys⟩) (hx:g8 (x::az.toList) (.func (.func f) #[] caps::vs) x= .func (.func f) #[] caps) (tI:az.toList.map (g8 (x::az.toList) (.func (.func f) #[] caps::vs))=vs) (hf:Da P f=true)
  (hc:Con P f (vs++caps.toList) H V):Opn P o (.func (.func f) #[] caps::vs) H V:=fun w hw=>by
 have ha:az.map (g8 (x::az.toList) (.func (.func f) #[] caps::vs))=vs.toArray:=by rw[<-cI,jO];exact tI
 have qK:o.op.operands.toList=x::az.toList:=by simp[ho,Op.operands,Call.operands]
 have hr:(execOp (g8 (x::az.toList) (.func (.func f) #[] caps::vs)) o).run P w= .ok (.enter f (vs++caps.toList).toArray) w:=by
  simp only[execOp,ho,resolve,hx,ha,Deferred.ofValue,eI,eJ,eH,invoke];rw[fj hf];congr 2;simp
 unfold Stp;rw[qK,hr];exact(hc w hw).mono fun e w' ⟨v,H',he,hs,hV⟩=>⟨v,he,H',hs,hV⟩
end
open Go.RowKit
section
variable {P:Program} {H:PH} {o:Oper} {x y:Operand}
theorem Run.opn {args:List Value} {v:Value} (h:Run P o args v) (H:PH):Opn P o args H fun u H'=>u=v/\H'=H:=
 fun w hw=>(h w).mono fun u _ ⟨hu,hx⟩=>⟨H,Step.of_ext hw hx,hu,rfl⟩
def PH.nil:PH:=fun _=>none
theorem C1 {T e:TypeId} {n b q:Nat} {k:IntKind} {l:Int} {hi:Operand} {vs:List Value} (ho:o.op= .slice T x none (some hi) none) (hx:g8 [x,hi] vs x= .pointer (some ⟨b,q,none⟩)) (hl:g8 [x,hi] vs hi= .int k l) (hu:P.underlying T=some (.array n e)) (he:w9 P e=true) (h0:0<=l) (h1:l<=n):
  Yld P o vs (.slice (some ⟨b,q,none⟩) l.toNat n):=fun w=>by
 have qK:o.op.operands.toList=[x,hi]:=by simp[ho,Op.operands]
 obtain⟨⟨i,hi⟩,_⟩:=Gx he;rw[qK];simp only[execOp,ho,hx,dF,iW,hl,Instr.sliceAt,eI,run_underlying hu,eH,Instr.sureAddr,eJ,Instr.sliceBounds,run_sliceBound w k l n _ h0 h1,Ht hi,Jv];simp
theorem C2 {t:TypeId} {e:TypeId} {a:Option Addr} {n c:Nat} {vs:List Value} (ho:o.op= .call ⟨.builtin .len,#[x],#[t]⟩) (hx:g8 [x] vs x= .slice a n c) (hu:P.underlying t=some (.slice e)):Yld P o vs (.int .i64 n):=fun w=>by
 have qK:o.op.operands.toList=[x]:=by simp[ho,Op.operands,Call.operands]
 have hE:P.elem t=e:=by simp[Program.elem,hu]
 rw[qK];simp only[execOp,ho,resolve,invoke,eI,eJ,eH,gY,aN,bJ,hx];simp only[builtin,eI,run_len_slice w t _ a n c (by rw[hE];exact hu),eH];rfl
theorem Xz {T e:TypeId} {b q n c:Nat} {k:IntKind} {m:Int} {vs:List Value} (ho:o.op= .indexAddr T x y) (hx:g8 [x,y] vs x= .slice (some ⟨b,q,none⟩) n c) (hy:g8 [x,y] vs y= .int k m) (hu:P.underlying T=some (.slice e)) (he:w9 P e=true) (h0:0<=m) (h1:m<n):
  Yld P o vs (.pointer (some ⟨b,q+m.toNat*P.cellsOf e,none⟩)):=fun w=>by
 have qK:o.op.operands.toList=[x,y]:=by simp[ho,Op.operands]
 obtain⟨⟨i,hi⟩,_⟩:=Gx he;rw[qK];simp only[execOp,ho,hx,hy,eI,Instr.indexAt,asIntOf,eJ,eH,run_underlying hu];simp[h0,h1,Ht hi,Jv]
end
open Go.RowKit
section
variable {P:Program} {H:PH} {o:Oper} {x y z:Operand}
theorem PH.In.fresh {w:World} (hw:H.In w):H w.heap.size=none:=by
 cases e:H w.heap.size with
 |none=>rfl
 |some ob=>exact absurd (Di (hw _ _ e)) (Nat.lt_irrefl _)
theorem Step.newB {w:World} (hw:H.In w) (ob:Obj):Step H w (H.put w.heap.size ob) (w.alloc ob):=by
 have hx:=Ext.alloc w ob;refine⟨hx.os,hx.tape,hx.output,hx.size,fun k hk _=>hx.block' hk,PH.put_in (hw.ext hx) (by show(w.heap.push ob)[w.heap.size]? =_;simp),fun b hb=> ?_,hx.dr⟩;unfold PH.put at hb;split at hb
 ·rename_i e;right;omega
 ·exact .inl hb
theorem Step.setB {w:World} (hw:H.In w) {r:Nat} {ob:Obj} (hr:H r=some ob) (ob':Obj):Step H w (H.put r ob') {w with heap:=w.heap.setIfInBounds r ob'}:=by
 have pX:=Di (hw _ _ hr);refine⟨rfl,rfl,rfl,aD,fun k hk hn=> ?_,fun k o hk=> ?_,fun k hk=> ?_,aS _⟩
 ·show(w.heap.setIfInBounds r ob')[k]? =_;rw[dK (fun e=>by rw[e,hn]at hr;cases hr)]
 ·show(w.heap.setIfInBounds r ob')[k]? =_;unfold PH.put at hk;split at hk
  ·rename_i e;subst e;rw[dI pX];exact hk
  ·rename_i e;rw[dK (fun e'=>e e'.symm)];exact hw k o hk
 ·unfold PH.put at hk;split at hk
  ·rename_i e;left;rw[e,hr];simp
  ·exact .inl hk
theorem Lp {w:World} {r:Nat} {es:Array MapEntry} {clock:Nat} (hb:w.heap[r]? =some (.map es clock)):(getObj r).run P w= .ok (.map es clock) w:=by
 simp[getObj,Sem.run,hb]
theorem gd {w:World} {r:Nat} {es:Array MapEntry} {clock:Nat} (ob:Obj) (hb:w.heap[r]? =some (.map es clock)):(setObj r ob).run P w= .ok () {w with heap:=w.heap.setIfInBounds r ob}:=by
 simp[setObj,Sem.run,hb]
theorem uu {T:TypeId} (ho:o.op= .makeMap T none):Opn P o [] H fun v H'=>∃r,H r=none/\v= .map (some r)/\H'=H.put r (.map #[] 0):=fun w hw=>by
 unfold Stp;simp only[execOp,ho,iW,eI];rw[show(Instr.makeMap T none).run P w= .ok (.map (some w.heap.size)) (w.alloc (.map #[] 0))from rfl];exact⟨_,Step.newB hw _,_,hw.fresh,rfl,rfl⟩
theorem C3 {t:TypeId} {k:IntKind} {n:Int} (hk:P.underlying t=some (.int k)) (b:Bool) (d:Nat) (w:World):(Instr.checkKey b (d+1) t (.int k n)).run P w= .ok () w:=by
 unfold Instr.checkKey;simp only[eI,run_underlying hk,eH,eJ]
theorem Ya {t:TypeId} {k:IntKind} {n:Int} (hk:P.underlying t=some (.int k)) (b:Bool) (w:World):(Instr.checkKey b 10000 t (.int k n)).run P w= .ok () w:=C3 hk b 9999 w
end
section
variable {P:Program} {H:PH} {o:Oper} {x y:Operand}
theorem C4 {T:TypeId} {s:ByteArray} {k:IntKind} {m:Nat} {vs:List Value} (ho:o.op= .index T x y) (hx:g8 [x,y] vs x= .string s) (hy:g8 [x,y] vs y= .int k (m:Nat)) (hu:P.underlying T=some .string) (h1:m<s.size):
  Yld P o vs (.int .u8 ((s.data.getD m 0).toNat:Nat)):=fun w=>by
 have qK:o.op.operands.toList=[x,y]:=by simp[ho,Op.operands]
 rw[qK];simp only[execOp,ho,hx,hy,eI,Instr.index,asIntOf,eJ,eH,run_underlying hu];rw[if_pos aA,aV,getElem?_pos s m h1];have h2:m<s.data.size:=h1;simp only[eJ,eH];rw[show s.data.getD m 0=s[m]from by rw[cR,dU h2];rfl]
end
def Sl (H:PH) (sz:Nat) (v:Value) (n:Nat) (xs:List Value):Prop:=
 xs.length=n*sz/\∃a c,v= .slice a n c/\n<=c/\c<=maxLen/\(n=0\/∃b o cs T fz,a=some ⟨b,o,none⟩/\H b=some (.cells cs T fz)/\(cs.toList.drop o).take (n*sz)=xs)
def OwS (H0 H:PH) (e:TypeId) (sz:Nat) (v:Value) (n:Nat) (xs:List Value):Prop:=
 xs.length=n*sz/\((v= .slice none 0 0/\n=0)\/∃g cap cur,v= .slice (some ⟨g,0,none⟩) n cap/\H0 g=none/\H g=some (.cells cur e (0,0))/\n<=cap/\cap<=maxLen/\cur.size=cap*sz/\cur.toList.take (n*sz)=xs)
theorem Sl.mono {H H':PH} {sz n:Nat} {v:Value} {xs:List Value} (h:Sl H sz v n xs) (hl:Pl H H'):Sl H' sz v n xs:=by
 obtain⟨h1,a,c,h2,h3,h4,h5⟩:=h;refine⟨h1,a,c,h2,h3,h4,h5.imp id ?_⟩;rintro⟨b,o,cs,T,fz,g1,g2,g3⟩;exact⟨b,o,cs,T,fz,g1,hl _ _ g2,g3⟩
theorem OwS.sl {H0 H:PH} {e:TypeId} {sz n:Nat} {v:Value} {xs:List Value} (h:OwS H0 H e sz v n xs):Sl H sz v n xs:=by
 obtain⟨h1,h2|⟨g,cap,cur,h2,h3,h4,h5,h6,h7,h8⟩⟩:=h
 ·exact⟨h1,none,0,by rw[h2.1,h2.2],aA,by simp[maxLen],.inl h2.2⟩
 ·exact⟨h1,_,cap,h2,h5,h6,.inr ⟨g,0,cur,e,_,rfl,h4,by rw[cH];exact h8⟩⟩
theorem OwS.nil (H0 H:PH) (e:TypeId) (sz:Nat):OwS H0 H e sz (.slice none 0 0) 0 []:=⟨aD,.inl ⟨rfl,rfl⟩⟩
theorem OwS.mono {H0 H H':PH} {e:TypeId} {sz n:Nat} {v:Value} {xs:List Value} (h:OwS H0 H e sz v n xs) (hl:Pl H H'):OwS H0 H' e sz v n xs:=by
 obtain⟨h1,h2|⟨g,cap,cur,h2,h3,h4,h5⟩⟩:=h
 ·exact⟨h1,.inl h2⟩
 ·exact⟨h1,.inr ⟨g,cap,cur,h2,h3,hl _ _ h4,h5⟩⟩
theorem OwS.less {H0 H1 H:PH} {e:TypeId} {sz n:Nat} {v:Value} {xs:List Value} (h:OwS H1 H e sz v n xs) (hl:Pl H0 H1):OwS H0 H e sz v n xs:=by
 obtain⟨h1,h2|⟨g,cap,cur,h2,h3,h4,h5⟩⟩:=h
 ·exact⟨h1,.inl h2⟩
 ·refine⟨h1,.inr ⟨g,cap,cur,h2,?_,h4,h5⟩⟩;cases e:H0 g with
  |none=>rfl
  |some o=>rw[hl _ _ e]at h3;cases h3
theorem Sl.len_le {H:PH} {sz n:Nat} {v:Value} {xs:List Value} (h:Sl H sz v n xs):n<=maxLen:=by
 obtain⟨_,_,c,_,h3,h4,_⟩:=h;omega
section
variable {P:Program} {H H0:PH} {o:Oper} {x y:Operand} {vs:List Value}
theorem uw {t e:TypeId} {sz n:Nat} {v:Value} {xs:List Value} (ho:o.op= .call ⟨.builtin .len,#[x],#[t]⟩) (hx:g8 [x] vs x=v) (hu:P.underlying t=some (.slice e)) (h:Sl H sz v n xs):Yld P o vs (.int .i64 n):=by
 obtain⟨_,a,c,h2,_⟩:=h;exact C2 ho (hx.trans h2) hu
theorem ux {T e:TypeId} {sz n i:Nat} {k:IntKind} {v:Value} {xs:List Value} (ho:o.op= .indexAddr T x y) (hx:g8 [x,y] vs x=v) (hy:g8 [x,y] vs y= .int k (i:Nat)) (hu:P.underlying T=some (.slice e)) (he:w9 P e=true) (rR:P.cellsOf e=sz) (rO:0<sz) (h:Sl H sz v n xs) (hi:i<n):
  ∃b q cs T' fz,Yld P o vs (.pointer (some ⟨b,q,none⟩))/\H b=some (.cells cs T' fz)/\q+sz<=cs.size/\(cs.toList.drop q).take sz=(xs.drop (i*sz)).take sz:=by
 obtain⟨hl,a,c,h2,h3,h4,h5⟩:=h;rcases h5 with h5|⟨b,q,cs,T',fz,h5,h6,h7⟩
 ·omega
 ·subst h5;have tP:=Xz (n:=n) (c:=c) ho (hx.trans h2) hy hu he aA aA;rw[aV,rR]at tP;have hb:(i+1)*sz<=n*sz:=bL _ hi;rw[cK,cM]at hb;have qD:=congrArg List.length h7;simp only[bM,eU,dC]at qD;have hnp:0<n*sz:=eE aA rO;refine⟨b,_,cs,T',fz,tP,h6,aA,?_⟩;rw[<-h7,List.drop_take,List.drop_drop,oK];congr 1;omega
theorem gf {T T':TypeId} {b q:Nat} {cs:Array Value} {fz:Nat×Nat} {w:Value} (ho:o.op= .load T x) (hx:g8 [x] [.pointer (some ⟨b,q,none⟩)] x= .pointer (some ⟨b,q,none⟩)) (hH:H b=some (.cells cs T' fz)) (hT:w9 P T=true) (uW:An P T=false) (hc:P.cellsOf T=1) (hq:q+1<=cs.size) (hw:(cs.toList.drop q).take 1=[w]):
  Rds P o [.pointer (some ⟨b,q,none⟩)] H w:=by
 have:=Rk (P:=P) ho hx hH hT (by rw[hc];exact hq) (fun _=>hq);rw[uW]at this;have e:cs.getD q undef=w:=by
  have h1:=congrArg (fun l:List Value=>l[0]?) hw;simp only[fF,cS,eF]at h1;rw[cR,<-cT];simp at h1;simp[h1]
 simp only[bZ,if_false,e]at this;exact this
theorem C5 {T T':TypeId} {b q sz:Nat} {cs:Array Value} {fz:Nat×Nat} {ws:List Value} (ho:o.op= .load T x) (hx:g8 [x] [.pointer (some ⟨b,q,none⟩)] x= .pointer (some ⟨b,q,none⟩)) (hH:H b=some (.cells cs T' fz)) (hT:w9 P T=true) (uW:An P T=true) (hc:P.cellsOf T=sz) (hq:q+sz<=cs.size) (hw:(cs.toList.drop q).take sz=ws):
  Rds P o [.pointer (some ⟨b,q,none⟩)] H (.agg ws.toArray):=by
 have:=Rk (P:=P) ho hx hH hT (by rw[hc];exact hq) (fun h=>by rw[uW]at h;cases h);rw[uW,hc]at this;have e:cs.extract q (q+sz)=ws.toArray:=by
  apply Array.ext';rw[Array.toList_extract,List.extract_eq_take_drop,Nat.add_sub_cancel_left,hw]
 simp only[if_true,e]at this;exact this
theorem uy {T e:TypeId} {sz n i:Nat} {k:IntKind} {v:Value} {xs:List Value} {hi:Operand} (ho:o.op= .slice T x none (some hi) none) (hx:g8 [x,hi] vs x=v) (hl:g8 [x,hi] vs hi= .int k (i:Nat)) (hu:P.underlying T=some (.slice e)) (he:w9 P e=true) (h:Sl H sz v n xs) (h1:i<=n):
  ∃u,Yld P o vs u/\Sl H sz u i (xs.take (i*sz)):=by
 obtain⟨qD,a,c,h2,h3,h4,h5⟩:=h;obtain⟨⟨ie,uZ⟩,_⟩:=Gx he;have qK:o.op.operands.toList=[x,hi]:=by simp[ho,Op.operands]
 have pY:i*sz<=n*sz:=bL _ h1;refine⟨.slice a i c,fun w=> ?_,by rw[bM];omega,a,c,rfl,aA,h4,?_⟩
 ·rw[qK];simp only[execOp,ho,hx,h2,dF,iW,hl,Instr.sliceAt,Instr.slice,eI,run_underlying hu,eH,eJ,Instr.sliceBounds];rw[run_sliceBound w k (i:Int) c _ aA aA];simp only[eH,Ht uZ,aV,cD,Nat.sub_zero];by_cases wZ:c=0
  ·rw[if_pos wZ]
  ·rw[if_neg wZ];cases a with
   |none=>rfl
   |some a=>simp[Addr.add]
 ·rcases h5 with h5|⟨b,q,cs,T',fz,h5,h6,h7⟩
  ·left;omega
  ·right;refine⟨b,q,cs,T',fz,h5,h6,?_⟩;rw[<-h7,oK,bY pY]
theorem gg {T e:TypeId} {sz n:Nat} {kl kc:IntKind} {i:TypeInfo} {z:Value} (ho:o.op= .makeSlice T x y) (hx:g8 [x,y] vs x= .int kl (n:Nat)) (hy:g8 [x,y] vs y= .int kc (n:Nat)) (hu:P.underlying T=some (.slice e)) (hi:P.info? e=some i) (hz:i.zero=some z) (rR:i.size=sz) (hb:i.bytes*n<=281474976710656) (hm:n<=maxLen):
  Opn P o vs H fun v H'=>∃g,H g=none/\v= .slice (some ⟨g,0,none⟩) n n/\H'=H.put g (.cells (madeCells z.cells (n*sz)) e (0,0)):=fun w hw=>by
 have qK:o.op.operands.toList=[x,y]:=by simp[ho,Op.operands]
 have zM:(n:Int)<=9223372036854775807:=by have h:=hm;simp[maxLen]at h;omega
 have rJ:(i.bytes:Int)*(n:Int)<=281474976710656:=by
  have h:((i.bytes*n:Nat):Int)<=281474976710656:=aA
  rwa[eG]at h
 have hr:=run_make (P:=P) w T e i z hu hi hz kl kc (n:Int) (n:Int) aA (Int.le_refl _) rJ zM;simp only[aV,rR]at hr;unfold Stp;rw[qK];simp only[execOp,ho,hx,hy,eI,hr,eH,eJ];exact⟨_,Step.newB hw _,_,hw.fresh,rfl,rfl⟩
theorem gh {T e:TypeId} {n:Nat} {parts:Array (Nat×Operand)} {cells:Array Value} {i:TypeInfo} {z:Value} (ho:o.op= .buildSlice T n parts) (hu:P.underlying T=some (.slice e)) (hi:P.info? e=some i) (hz:i.zero=some z) (hs:¬n*i.size>2^24) (hp:¬n*i.size=0)
  (hf:Instr.fill (fun j=>some (j*i.size,i.size)) ((Array.range (n*i.size)).map (z.cells[· %z.cells.size]!)) (parts.toList.map fun p=>(p.1,g8 (parts.toList.map (·.2)) vs p.2))=some cells):
  Opn P o vs H fun v H'=>∃g,H g=none/\v= .slice (some ⟨g,0,none⟩) n n/\H'=H.put g (.cells cells e (0,0)):=fun w hw=>by
 have qK:o.op.operands.toList=parts.toList.map (·.2):=by simp[ho,Op.operands]
 have hr:=run_buildSlice (P:=P) w T e n (parts.map fun(j,x)=>(j,g8 (parts.toList.map (·.2)) vs x)) cells i z hu hi hz hs hp (by rw[jO];exact hf);unfold Stp;rw[qK];simp only[execOp,ho,eI,hr,eH,eJ];exact⟨_,Step.newB hw _,_,hw.fresh,rfl,rfl⟩
end
open Go.RowKit
theorem Ug {w:World} {b q:Nat} {cs:Array Value} {T:TypeId} {fz:Nat×Nat} {n:Nat} {news:List Value} (hb:w.heap[b]? =some (.cells cs T fz)) (hn:(cs.toList.drop q).take n=news):∀j u,news[j]? =some u->w.cell? ((⟨b,q,none⟩:Addr).add j)=some u:=by
 intro j u hj;rw[<-hn,fF]at hj;split at hj
 ·rw[cS,cT]at hj;rw[Jv];simp[World.cell?,hb,hj]
 ·cases hj
section
variable {P:Program} {H H0:PH} {o:Oper} {x y:Operand} {vs:List Value}
theorem HB {t e:TypeId} {i:TypeInfo} {z:Value} {sz n m:Nat} {v u:Value} {xs news:List Value} (ho:o.op= .call ⟨.builtin .append,#[x,y],#[t,t]⟩) (hx:g8 [x,y] vs x=v) (hy:g8 [x,y] vs y=u)
  (hu:P.underlying t=some (.slice e)) (hi:P.info? e=some i) (hz:i.zero=some z) (rR:i.size=sz) (hzs:z.cells.size=sz) (pY:Pl H0 H) (hv:OwS H0 H e sz v n xs) (hs:Sl H sz u m news) (hm:0<m) (h1:∀c∈news,c.oneCell'=true) (zM:n+m<=maxLen) (sK:(n+m)*i.bytes<=140737488355328):
  Opn P o vs H fun v' H'=>Pl H0 H'/\OwS H0 H' e sz v' (n+m) (xs++news)/\∃g ob,H'=H.put g ob/\H0 g=none/\(H g=none\/∃cs,H g=some (.cells cs e (0,0))):=fun w hw=>by
 have qK:o.op.operands.toList=[x,y]:=by simp[ho,Op.operands,Call.operands]
 obtain⟨hl,a,c,rQ,hmc,uC,hs⟩:=hs;obtain⟨b,q,cs,T,fz,ha,hb,hn⟩:=hs.resolve_left aA;subst ha;have tO:=Ug (hw _ _ hb) hn;obtain⟨uX,hv⟩:=hv;have a4o:n+m<=9223372036854775807:=by simp only[maxLen]at zM;omega
 have qD:(xs++news).length=(n+m)*sz:=by rw[aM,uX,hl,cK]
 have put_le:∀g ob,H0 g=none->Pl H0 (H.put g ob):=fun g ob hg k ob' hk=>by
  rw[PH.put_ne _ _ (fun e=>by rw[e,hg]at hk;cases hk)];exact pY _ _ hk
 have fresh0:H0 w.heap.size=none:=by
  cases e:H0 w.heap.size with
  |none=>rfl
  |some ob=>have:=hw.fresh;rw[pY _ _ e]at this;cases this
 have grown:∀(old:Nat) (w':World),w'=w.drew.alloc (.cells (xs.toArray++news.toArray++Builtin.zeroCells z.cells (grownCap w (n+m) old e-(n+m))) e)->
   Step H w (H.put w.heap.size (.cells (xs.toArray++news.toArray++Builtin.zeroCells z.cells (grownCap w (n+m) old e-(n+m))) e (0,0))) w'/\
   OwS H0 (H.put w.heap.size (.cells (xs.toArray++news.toArray++Builtin.zeroCells z.cells (grownCap w (n+m) old e-(n+m))) e (0,0))) e sz (.slice (some ⟨w.heap.size,0,none⟩) (n+m) (grownCap w (n+m) old e)) (n+m) (xs++news):=fun old w' rP=>by
  have wB:=grownCap_ge w (n+m) old e;have uC:grownCap w (n+m) old e<=maxLen:=grownCap_le_maxLen w (n+m) old e zM;subst rP;constructor
  ·have hd:Ext w w.drew:=⟨rfl,rfl,rfl,aS _,fun _ _=>rfl,nS _⟩;exact(Step.of_ext hw hd).trans (Step.newB (hw.ext hd) _)
  ·refine⟨qD,.inr ⟨w.heap.size,_,_,rfl,fresh0,PH.put_self _ _ _,wB,uC,?_,?_⟩⟩
   ·simp only[iN,iR,size_zeroCells,hzs,uX,hl,<-cK];congr 1;omega
   ·simp only[kD,bH];rw[<-bH,<-qD];exact lG
 unfold Stp;rw[qK];simp only[execOp,ho,resolve,invoke,eI,eJ,eH,gY,aN,bJ,hx,hy,rQ,builtin];rcases hv with⟨rfl,rfl⟩|⟨g,cap,cur,rfl,rZ,hg,hnc,a4p,qM,yE⟩
 ·have hx0:xs=[]:=aI (by simpa using uX);subst hx0;have hr:=run_append_nil (P:=P) w t o.type e i z hu hi hz ⟨b,q,none⟩ m c news (by rw[rR];exact hl) tO hm aA (by have hb:=sK;simp only[bK]at hb;omega);have yV:=grown 0 _ rfl;simp only[bK,cB,mW]at yV⊢;rw[hr];exact⟨_,yV.1,put_le _ _ fresh0,yV.2,_,_,rfl,fresh0,.inl hw.fresh⟩
 ·by_cases a0d:n+m<=cap
  ·have tY:n*i.size+news.length<=cur.size:=by rw[hl,qM,rR,<-cK];exact bL _ a0d
   have hr:=run_append_room (P:=P) w t o.type e i hu hi g n cap cur (hw _ _ hg) ⟨b,q,none⟩ m c news (by rw[rR];exact hl) tO h1 a0d tY;rw[hr];refine⟨_,⟨rfl,rfl,rfl,aD,fun k hk hn=>setRow_other _ _ _ _ (fun e=>by rw[e,hg]at hn;cases hn),fun k ob hk=> ?_,fun k hk=> ?_,aS _⟩,put_le g (.cells (cur.toList.take (n*i.size)++news++cur.toList.drop (n*i.size+news.length)).toArray e (0,0)) rZ,⟨qD,.inr ⟨g,cap,_,rfl,rZ,PH.put_self _ _ _,a0d,a4p,?_,?_⟩⟩,_,_,rfl,rZ,.inr ⟨_,hg⟩⟩
   ·unfold PH.put at hk;split at hk
    ·rename_i e;subst e;cases hk;exact setRow_heap w k _ _ _ (0,0) (hw _ _ hg)
    ·rename_i e;rw[setRow_other _ _ _ _ e];exact hw k ob hk
   ·unfold PH.put at hk;split at hk
    ·rename_i e;subst e;exact .inl (by simp[hg])
    ·exact .inl hk
   ·simp only[iR,aM,bM,eU,dC];omega
   ·rw[rR,yE,<-qD];exact lG
  ·have holds:∀j u,xs[j]? =some u->w.cell? ((⟨g,0,none⟩:Addr).add j)=some u:=Ug (n:=n*sz) (hw _ _ hg) (by rw[cH];exact yE);have hr:=run_append_grow (P:=P) w t o.type e i z hu hi hz ⟨g,0,none⟩ n cap xs (by rw[rR];exact uX) holds ⟨b,q,none⟩ m c news (by rw[rR];exact hl) tO aA aA (growslice_fits aA sK);have yV:=grown cap _ rfl;rw[hr];exact⟨_,yV.1,put_le _ _ fresh0,yV.2,_,_,rfl,fresh0,.inl hw.fresh⟩
theorem C6 {t e:TypeId} {i:TypeInfo} {z:Value} {sz n m:Nat} {v u:Value} {xs news:List Value} (ho:o.op= .call ⟨.builtin .append,#[x,y],#[t,t]⟩) (hx:g8 [x,y] vs x=v) (hy:g8 [x,y] vs y=u)
  (hu:P.underlying t=some (.slice e)) (hi:P.info? e=some i) (hz:i.zero=some z) (rR:i.size=sz) (hzs:z.cells.size=sz) (pY:Pl H0 H) (hv:OwS H0 H e sz v n xs) (hs:Sl H sz u m news) (hm:0<m) (h1:∀c∈news,c.oneCell'=true) (zM:n+m<=maxLen) (sK:(n+m)*i.bytes<=140737488355328):
  Opn P o vs H fun v' H'=>Pl H0 H'/\OwS H0 H' e sz v' (n+m) (xs++news)/\∃g ob,H'=H.put g ob/\H0 g=none:=
 (HB ho hx hy hu hi hz rR hzs pY hv hs hm h1 zM sK).mono fun v' H' ⟨a,b,g,ob,c,d,_⟩=>⟨a,b,g,ob,c,d⟩
theorem uz {t e:TypeId} {i:TypeInfo} {sz n:Nat} {v u:Value} {xs news:List Value} (ho:o.op= .call ⟨.builtin .append,#[x,y],#[t,t]⟩) (hx:g8 [x,y] vs x=v) (hy:g8 [x,y] vs y=u)
  (hu:P.underlying t=some (.slice e)) (hi:P.info? e=some i) (hv:Sl H sz v n xs) (hs:Sl H sz u 0 news):Opn P o vs H fun v' H'=>v'=v/\H'=H:=fun w hw=>by
 have qK:o.op.operands.toList=[x,y]:=by simp[ho,Op.operands,Call.operands]
 obtain⟨_,a,c,rQ,_⟩:=hs;obtain⟨_,a2,c2,hv2,pY,_⟩:=hv;have hr:(Builtin.append_ #[t,t] o.type #[.slice a2 n c2,.slice a 0 c]).run P w= .ok (.slice a2 n c2) w:=by
  cases a2<;>cases a<;>simp[Builtin.append_,run_underlying hu,sizeOf,typeInfo,hi,pY,storeCells,Builtin.lenOf,Builtin.firstCells,loadCells,loadCellsFrom]
 unfold Stp;rw[qK];simp only[execOp,ho,resolve,invoke,eI,eJ,eH,gY,aN,bJ,hx,hy,rQ,hv2,builtin];rw[hr];exact⟨_,Step.refl hw,rfl,rfl⟩
theorem vc {T e:TypeId} {i:TypeInfo} (ho:o.op= .buildSlice T 0 #[]) (hu:P.underlying T=some (.slice e)) (hi:P.info? e=some i):
  Opn P o vs H fun v H'=>∃g,H g=none/\v= .slice (some ⟨g,0,none⟩) 0 0/\H'=H.put g (.cells #[] e (0,0)):=fun w hw=>by
 have hr:(Instr.buildSlice T 0 #[]).run P w= .ok (.slice (some ⟨w.heap.size,0,none⟩) 0 0) (w.alloc (.cells #[] e)):=by
  simp[Instr.buildSlice,run_underlying hu,sizeOf,typeInfo,hi,newRow,Instr.fill,Array.range_zero']
 unfold Stp;simp only[execOp,ho,eI,hr,eH,eJ,nR];exact⟨_,Step.newB hw _,_,hw.fresh,rfl,rfl⟩
end
def fieldsOf (P:Program) (t:TypeId):Array Field:=match P.underlying t with|some (.struct fs)=>fs|_=> #[]
def fieldAt (P:Program) (t:TypeId) (i:Nat):Field:=((fieldsOf P t)[i]?).getD default
theorem C7 {P:Program} {t:TypeId} {i:Nat} (h:i<(fieldsOf P t).size):(fieldsOf P t)[i]? =some (fieldAt P t i):=by
 unfold fieldAt;rw[dU h];rfl
theorem PH.put_same {H:PH} {b:Nat} {ob:Obj} (h:H b=some ob):H.put b ob=H:=by
 funext k;unfold PH.put;split
 ·rename_i e;rw[e,h]
 ·rfl
section
variable {P:Program} {H:PH} {o:Oper} {x y:Operand} {vs:List Value}
theorem C8 {a:Addr} (ho:o.op= .nilCheck x) (hx:g8 [x] vs x= .pointer (some a)):Yld P o vs (.pointer (some a)):=fun w=>by
 have qK:o.op.operands.toList=[x]:=by simp[ho,Op.operands]
 rw[qK];simp only[execOp,ho,hx];rfl
end
open Go.RowKit
section
variable {P:Program} {H:PH} {o:Oper} {x y:Operand} {vs:List Value} {l m:List UInt8}
theorem C9 {t e:TypeId} {i:TypeInfo} {z:Value} {sz m g:Nat} {u:Value} {news:List Value} (ho:o.op= .call ⟨.builtin .append,#[x,y],#[t,t]⟩) (hx:g8 [x,y] vs x= .slice (some ⟨g,0,none⟩) 0 0) (hy:g8 [x,y] vs y=u)
  (hu:P.underlying t=some (.slice e)) (hi:P.info? e=some i) (hz:i.zero=some z) (rR:i.size=sz) (hzs:z.cells.size=sz) (hs:Sl H sz u m news) (hm:0<m) (zM:m<=maxLen) (sK:m*i.bytes<=140737488355328):
  Opn P o vs H fun v' H'=>Pl H H'/\OwS H H' e sz v' m news:=fun w hw=>by
 have qK:o.op.operands.toList=[x,y]:=by simp[ho,Op.operands,Call.operands]
 obtain⟨hl,a,c,rQ,hmc,uC,hs⟩:=hs;obtain⟨b,q,cs,T,fz,ha,hb,hn⟩:=hs.resolve_left aA;subst ha;have tO:=Ug (hw _ _ hb) hn;have wB:=grownCap_ge w m 0 e;have a4q:grownCap w m 0 e<=maxLen:=grownCap_le_maxLen w m 0 e zM;have hr:=run_append_grow (P:=P) w t o.type e i z hu hi hz ⟨g,0,none⟩ 0 0 [] aD (fun j u hj=>by simp at hj) ⟨b,q,none⟩ m c news (by rw[rR];exact hl) tO aA (by simp only[maxLen]at zM;omega) (growslice_fits aA (by rw[bK];exact sK));unfold Stp;rw[qK];simp only[execOp,ho,resolve,invoke,eI,eJ,eH,gY,aN,bJ,hx,hy,rQ,builtin];simp only[bK,mW]at hr;rw[hr];have hd:Ext w w.drew:=⟨rfl,rfl,rfl,aS _,fun _ _=>rfl,nS _⟩;refine⟨_,(Step.of_ext hw hd).trans (Step.newB (hw.ext hd) _),PH.le_put hw.fresh _,hl,.inr ⟨w.heap.size,_,_,rfl,hw.fresh,PH.put_self _ _ _,wB,a4q,?_,?_⟩⟩
 ·simp only[iN,iR,size_zeroCells,hzs,hl,<-cK];congr 1;omega
 ·simp only[kD];rw[<-hl];exact lG
theorem vd {S T:TypeId} {i b q off:Nat} (ho:o.op= .fieldAddr S x i) (hx:g8 [x] vs x= .pointer (some ⟨b,q,none⟩)) (hS:P.underlying S=some (.struct (fieldsOf P S))) (hi:i<(fieldsOf P S).size) (hT:(fieldAt P S i).type=T) (hof:(fieldAt P S i).offset=off) (hT':w9 P T=true) (hc:P.cellsOf T≠0):Yld P o vs (.pointer (some ⟨b,q+off,none⟩)):=fun w=>by
 have qK:o.op.operands.toList=[x]:=by simp[ho,Op.operands]
 rw[qK];simp only[execOp,ho,hx,eI];rw[GA hS (C7 hi) (by rw[hT];exact hT') (by rw[hT];exact hc),hof];rfl
theorem Yb {T e:TypeId} {n b q:Nat} (ho:o.op= .slice T x none none none) (hx:g8 [x] vs x= .pointer (some ⟨b,q,none⟩)) (hu:P.underlying T=some (.array n e)) (he:w9 P e=true):
  Yld P o vs (.slice (some ⟨b,q,none⟩) n n):=fun w=>by
 have qK:o.op.operands.toList=[x]:=by simp[ho,Op.operands]
 obtain⟨⟨i,hi⟩,_⟩:=Gx he;rw[qK];simp only[execOp,ho,hx,iW,Instr.sliceAt,eI,run_underlying hu,eH,Instr.sureAddr,eJ,Instr.sliceBounds,Ht hi,Jv];simp
theorem HC {dT sT e T:TypeId} {i:TypeInfo} {g q dLen dCap m:Nat} {cur:Array Value} {u:Value} {news:List Value} (ho:o.op= .call ⟨.builtin .copy,#[x,y],#[dT,sT]⟩) (hx:g8 [x,y] vs x= .slice (some ⟨g,q,none⟩) dLen dCap) (hy:g8 [x,y] vs y=u)
  (hu:P.underlying dT=some (.slice e)) (hi:P.info? e=some i) (rR:i.size=1) (hg:H g=some (.cells cur T (0,0))) (hs:Sl H 1 u m news) (h1:∀c∈news,c.oneCell'=true) (hm:m<=dLen) (tY:q+m<=cur.size):
  Opn P o vs H fun _ H'=>H'=H.put g (.cells (cur.toList.take q++news++cur.toList.drop (q+m)).toArray T (0,0)):=fun w hw=>by
 have qK:o.op.operands.toList=[x,y]:=by simp[ho,Op.operands,Call.operands]
 have zN:=hw _ _ hg;obtain⟨hl,a,c,rQ,hmc,uC,hs⟩:=hs;rw[dN]at hl;have yQ:(P.info? e).map (·.size)=some 1:=by rw[hi];simp[rR]
 unfold Stp;rw[qK];simp only[execOp,ho,resolve,invoke,eI,eJ,eH,gY,aN,bJ,hx,hy,rQ,builtin];rcases hs with h0|⟨b,q',cs,T',fz,ha,hb,hn⟩
 ·subst h0;obtain rfl:news=[]:=aI hl;rw[run_copy_none w dT sT o.type e (some ⟨g,q,none⟩) a dLen dCap 0 c hu yQ aD];refine⟨_,Step.refl hw,?_⟩;rw[bQ,eF,List.take_append_drop,Array.toArray_toList,PH.put_same hg]
 ·subst ha;rw[dN]at hn;have tO:=Ug (hw _ _ hb) hn;have hr:=run_copy_row (P:=P) w dT sT o.type e g q dLen dCap ⟨b,q',none⟩ m c cur T news hu yQ zN (by rw[hl];exact(bY hm).symm) tO (by rw[hl];exact tY) h1;rw[hr,hl];refine⟨_,⟨rfl,rfl,rfl,aD,fun k hk hn=>setRow_other _ _ _ _ (fun e=>by rw[e,hg]at hn;cases hn),fun k ob hk=> ?_,fun k hk=> ?_,aS _⟩,rfl⟩
  ·unfold PH.put at hk;split at hk
   ·rename_i e;subst e;cases hk;exact setRow_heap w k _ _ T (0,0) zN
   ·rename_i e;rw[setRow_other _ _ _ _ e];exact hw k ob hk
  ·unfold PH.put at hk;split at hk
   ·rename_i e;subst e;exact .inl (by simp[hg])
   ·exact .inl hk
end
end Go.RX

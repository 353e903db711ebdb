/- Chapter 32: trees. -/
import Derived.Test.YtmannekkmdockaaGreatDoorGsJ
import Derived.Test.YtmannekkmdockaaGreatDoorGtT
import Derived.Test.YtmannekkmdockaaGreatDoorGwC
open Classical renaming byContradiction->aP
open Go.Result renaming andThen_ok->aE
open Go.Sem renaming run_bind->aG,run_pure->aT
open List renaming append_assoc->bG,append_nil->dC,drop_eq_nil_of_le->dW,getElem?_append_right->cQ,getElem?_eq_some_iff->aC,getElem?_set->bS,length_map->aR,map_append->aX,map_cons->aM,map_nil->cL,map_toArray->eC,range->bL,replicate->bC,take_length->kK,take_of_length_le->aK
open Nat renaming and_le_left->gC,and_le_right->nM,le_refl->aN,le_total->fL,lt_of_le_of_lt->aY,lt_succ_self->bQ,min_eq_left->cD,mod_lt->bO,sub_self->iQ,zero_le->bI
namespace Go.GS
structure Par (p:List Nat) (f:Nat->Nat):Prop where
 len:p.length=64
 lb:Lb f
 le:∀x y:Nat,p[x]? =some y->y<=x
 up:∀x y:Nat,p[x]? =some y->f y=f x
 fix:∀x y:Nat,p[x]? =some y->(y=x↔f x=x)
theorem Par.at {p:List Nat} {f:Nat->Nat} (h:Par p f) {x:Nat} (hx:x<64):∃y,p[x]? =some y:=⟨_,List.getElem?_eq_getElem (by rw[h.len];exact hx)⟩
theorem Par.id:Par (bL 64) id where
 len:=by simp
 lb:=⟨fun _=>rfl,fun _=>aN _⟩
 le:=fun x y h=>by rw[aC]at h;obtain⟨_,rfl⟩:=h;simp
 up:=fun x y h=>by rw[aC]at h;obtain⟨_,rfl⟩:=h;simp
 fix:=fun x y h=>by rw[aC]at h;obtain⟨_,rfl⟩:=h;simp
theorem Par.join {p:List Nat} {f:Nat->Nat} (h:Par p f) {e:Nat×Nat} (h1:e.1<64) (h2:e.2<64):Par (p.set (max (f e.1) (f e.2)) (min (f e.1) (f e.2))) (Bc f e):=by
 have la:=h.lb.le e.1;have lb:=h.lb.le e.2;have ia:=h.lb.idm e.1;have ib:=h.lb.idm e.2;have yH:=h.lb.join e;unfold Bc at yH⊢;generalize f e.1=a at*;generalize f e.2=b at*;have hm:f (min a b)=min a b:=by rcases fL a b with hh|hh;rw[cD hh,ia];rw[Nat.min_eq_right hh,ib]
 have hM:f (max a b)=max a b:=by rcases fL a b with hh|hh;rw[Nat.max_eq_right hh,ib];rw[Nat.max_eq_left hh,ia]
 have pP:min a b<=max a b:=by omega
 have hMl:max a b<p.length:=by rw[h.len];omega
 generalize max a b=M at*;generalize min a b=m at*;refine⟨by rw[List.length_set];exact h.len,yH,?_,?_,?_⟩
 ·intro x y hy;rw[bS]at hy;split at hy
  ·rename_i e;subst e;cases hy;exact pP
  ·exact h.le x y hy
 ·intro x y hy;rw[bS]at hy;split at hy
  ·rename_i e;subst e;cases hy;rw[hm,if_pos hM];split<;>rfl
  ·rw[h.up x y hy]
 ·intro x y hy;rw[bS]at hy;split at hy
  ·rename_i e;subst e;cases hy;rw[if_pos hM]
  ·rename_i pT;rw[h.fix x y hy];split
   ·rename_i hfx;constructor
    ·intro h1;exact absurd (hfx.symm.trans h1) pT
    ·intro h1;subst h1;rw[hm]at hfx;exact absurd hfx.symm pT
   ·exact Iff.rfl
end Go.GS
namespace Go.Proofs.Z
open Go.Proofs.Tryz
theorem d3S {i:Nat} (h:i<64):(bL i++bC (64-i) 0).set i i=bL (i+1)++bC (64-(i+1)) 0:=by
 obtain⟨k,hk⟩:∃k,64-i=k+1:=⟨64-i-1,by omega⟩;rw[hk,show 64-(i+1)=k by omega,List.replicate_succ,List.range_succ,bG];simp[List.set_append]
open Go.RowKit Go.RX Go.GS
theorem Vp:El prog 193 3 1 false (fun x:Nat=>[ii (x:Nat)]) (fun x:Nat=>ii (x:Nat)) where
 und:=by kernel_rfl
 has:=by kernel_rfl
 cel:=by kernel_rfl
 agg:=by kernel_rfl
 pos:=by decide
 one1:=fun _=>rfl
 small:=by decide
 inf:=⟨(prog.info? 3).getD default,ii 0,by kernel_rfl,by kernel_rfl,by kernel_rfl,rfl,oDt (by kernel_rfl)⟩
 len:=fun _=>rfl
 val:=fun _=>rfl
 cells:=fun _=>rfl
 one:=fun x c hc=>by simp at hc;subst hc;rfl
abbrev PO (H0 H:PH) (v:Value) (p:List Nat):Prop:=SO H0 H 3 1 (fun x:Nat=>[ii (x:Nat)]) v p
abbrev PS (H:PH) (v:Value) (p:List Nat):Prop:=SE H 1 (fun x:Nat=>[ii (x:Nat)]) v p
section
variable {H H0:PH} {u v w wts:Value} {p:List Nat} {wl:List Int} {n:Nat} {es:List (Nat×Nat)} {lo hi ds:Int} {set x:Nat} {f:Nat->Nat} {e:Nat×Nat}
theorem LM:Con prog 118 [] H fun r H'=>PH.le H H'/\∃v,r= .agg #[v]/\PO H H' v (bL 64):=by
 refine j3 mixed d3I ?_;refine Ux Vp (z:=(0:Nat)) Rr rfl rfl rfl (m:=64) (by omega) rfl fun v H1 l1 o1 _=> ?_;refine Om Vp rfl rfl o1.se rfl ?_;refine s9 (α:=Nat) (fun i=>[ii (i:Nat)]) (fun i=>fun H'=>i<=64/\PH.le H H'/\PO H H' v (bL i++bC (64-i) 0)) (fun i=>64-i) (0) rfl (⟨bI _,l1,o1⟩) fun i H' hQ=> ?_;obtain⟨hi,l2,o2⟩:=hQ;refine d4 (d4 ?_);refine i0 (b:=decide (((i:Nat):Int)<64)) rfl (fun h=> ?_) (fun h=> ?_)
 ·replace h:=oDt h;refine Dp Vp (a:=i) rfl rfl rfl rfl (fun _=>rfl) (fun _=>rfl) l2 o2 (by simp;omega) rfl (fun _=>rfl) rfl fun q u H3 l3 o3 _=> ?_;exact⟨i+1,by omega,(z8 (i9 rfl (by omega))),⟨by omega,l3,by rw[d3S (by omega)]at o3;exact o3⟩⟩
 ·replace h:=oDf h;have he:i=64:=by omega
  subst he;refine d9 o2.se.one ?_;exact g8 rfl ⟨l2,v,by show Value.agg v.cells=_;rw[o2.se.cells],by rw[iQ,List.replicate_zero,dC]at o2;exact o2⟩
theorem Vq (hp:PS H v p) (h:Par p f) (hx:x<64):Asks prog 121 [v,ii (x:Nat)] H (ii (f x:Nat)):=by
 refine j3 mixed d3J ?_;refine Dq (α:=Nat) (fun y=>[ii (y:Nat)]) (fun y=>y<64/\f y=f x) (fun y=>y) (x) rfl (⟨hx,rfl⟩) fun y hQ=> ?_;obtain⟨hy,hf⟩:=hQ;obtain⟨z,hz⟩:=h.at hy;refine j8 Vp hp hz fun _=> ?_;refine d4 (d4 ?_);refine r9 (p:=(z≠y)) (by show Value.bool (((z:Nat):Int) !=((y:Nat):Int))=_;rw[bN];congr 1;apply decide_eq_decide.2;omega) (fun h2=> ?_) fun h2=> ?_
 ·refine j8 Vp hp hz fun _=> ?_;have pP:=h.le y z hz;exact⟨z,by omega,rfl,⟨⟨by omega,by rw[h.up y z hz,hf]⟩,rfl⟩⟩
 ·have hzy:z=y:=aP h2;have:=(h.fix y z hz).1 hzy;exact g8 rfl ⟨rfl,by rw[<-hf,this];rfl⟩
theorem LN {o:Oper} {x y:Operand} {t u:TypeId} {a b:Int} {vs:List Value} (ho:o.op= .call ⟨.builtin .min,#[x,y],#[t,u]⟩) (hx:g9 [x,y] vs x= .int .i64 a) (hy:g9 [x,y] vs y= .int .i64 b):Yld prog o vs (.int .i64 (if b<a then b else a)):=fun w=>by
 have pZ:o.op.operands.toList=[x,y]:=by simp[ho,Op.operands,Call.operands]
 rw[pZ];simp only[execOp,ho,resolve,invoke,aG,aT,aE,eC,aM,cL,hx,hy];simp only[builtin,aG,run_min_int2,aE];rfl
theorem yh {o:Oper} {x y:Operand} {t u:TypeId} {a b:Int} {vs:List Value} (ho:o.op= .call ⟨.builtin .max,#[x,y],#[t,u]⟩) (hx:g9 [x,y] vs x= .int .i64 a) (hy:g9 [x,y] vs y= .int .i64 b):Yld prog o vs (.int .i64 (if b>a then b else a)):=fun w=>by
 have pZ:o.op.operands.toList=[x,y]:=by simp[ho,Op.operands,Call.operands]
 rw[pZ];simp only[execOp,ho,resolve,invoke,aG,aT,aE,eC,aM,cL,hx,hy];simp only[builtin,aG,run_max_int2,aE];rfl
theorem LO (pP:PH.le H0 H) (hp:PO H0 H v p) (h:Par p f) (h1:e.1<64) (h2:e.2<64):Con prog 120 [.agg #[v],ev2 e] H fun r H'=>r= .bool (decide (f e.1≠f e.2))/\PH.le H0 H'/\∃q,PO H0 H' v q/\Par q (Bc f e):=by
 refine j3 mixed d3K ?_;have sO:=hp.se;have la:=h.lb.le e.1;have lb:=h.lb.le e.2;have emin:(if((f e.2:Nat):Int)<(f e.1:Nat)then((f e.2:Nat):Int)else(f e.1:Nat))=((min (f e.1) (f e.2):Nat):Int):=by split<;>omega
 have emax:(if((f e.2:Nat):Int)>(f e.1:Nat)then((f e.2:Nat):Int)else(f e.1:Nat))=((max (f e.1) (f e.2):Nat):Int):=by split<;>omega
 refine d9 ⟨rfl,fun c hc=>by have hc:c∈[v]:=hc;rw[List.mem_singleton]at hc;subst hc;exact Af sO⟩ ?_;refine d9 (el_edge.vcells e) ?_;refine Aq (Vq sO h h1) rfl ?_;refine Aq (Vq sO h h2) rfl ?_;refine r7 ((yh (vs:=[ii (f e.1:Nat),ii (f e.2:Nat)]) rfl rfl rfl).rds _) rfl ?_;refine r7 ((LN (vs:=[ii (f e.1:Nat),ii (f e.2:Nat)]) rfl rfl rfl).rds _) rfl ?_;rw[emin,emax];refine Dp Vp (a:=min (f e.1) (f e.2)) rfl rfl rfl rfl (fun _=>rfl) (fun _=>rfl) pP hp (by rw[h.len];omega) rfl (fun _=>rfl) rfl fun q u H3 l3 o3 _=> ?_;refine d4 (d4 ?_);exact g8 rfl ⟨by show Value.bool (((f e.1:Nat):Int) !=((f e.2:Nat):Int))=_;rw[bN];exact congrArg Value.bool (decide_eq_decide.2 (by omega)),l3,_,o3,h.join h1 h2⟩
theorem LP (hs:set<M64) (h1:e.1<=64) (h2:e.2<=64):Asks prog 137 [uv set,ev2 e] H (.bool (bit set e.1&&bit set e.2)):=by
 refine j3 mixed d3L ?_;refine d9 (el_edge.vcells e) ?_;refine d4 ?_;refine d9 ⟨_,_,rfl⟩ ?_;refine d9 (by show(0:Int)<=((e.1:Nat):Int);omega) ?_;refine i0 (b:=bit set e.1) (Rm rfl hs rfl h1) (fun b1=> ?_) (fun b1=> ?_)
 ·skip
  refine d9 ⟨_,_,rfl⟩ ?_;refine d9 (by show(0:Int)<=((e.2:Nat):Int);omega) ?_;exact g8 rfl ⟨rfl,by rw[b1];exact(Rm rfl hs rfl h2)⟩
 ·skip
  exact g8 rfl ⟨rfl,by rw[b1];rfl⟩
theorem LQ (hw:SG H w es) (hg:GV n es) (hs:set<M64):Ao prog 70 [gv n w,uv set] H (ii (if set≠0/\set<2^n then 0 else 2)):=by
 refine j3 mixed d7p ?_;refine d9 (Ap hw) ?_;refine x9 (Za hw hg) rfl fun H1 l1=> ?_;refine d4 ?_;refine t6 (bF (p:=(0:Int)≠0) (by simp)) ?_;refine d4 ?_;refine r9 (p:=(set=0)) (bE0 _) (fun h0=> ?_) fun h0=> ?_
 ·exact g8 rfl ⟨l1,by rw[if_neg (fun e=>e.1 h0)];rfl⟩
 ·refine Am (Yi set hs) rfl ?_;refine d4 (d4 ?_);refine r9 (p:=(set≥2^n)) (by show Value.bool (decide (((Go.WD.blen set:Nat):Int)>((n:Nat):Int)))=_;congr 1;apply decide_eq_decide.2;constructor<;>intro hh<;>first|(have:=Go.WD.blen_ge hh;omega)|(apply Nat.le_of_not_lt;intro h2;have:=Go.WD.blen_le h2;omega)) (fun h=> ?_) fun h=> ?_
  ·exact g8 rfl ⟨l1,by rw[if_neg (by omega)];rfl⟩
  ·exact g8 rfl ⟨l1,by rw[if_pos ⟨h0,by omega⟩];rfl⟩
end
end Go.Proofs.Z
/- Concrete runs: the iterators over the edges of a set, and over the parts of a set. -/
namespace Go.Proofs.Z
open Go.Proofs.Tryz
open Go.RowKit Go.RX Go.GS
section
variable {H:PH}
theorem LR:Au prog 190=true:=by kernel_rfl
theorem c2K:Au prog 203=true:=by kernel_rfl
def Bo (p:Nat):Nat:=p&&&((M64-p)%M64)
def Hg (rest least:Nat):Nat->Nat->List Nat
 |0,_=>[]
 |n+1,part=>if part=0 then[]else((part-1)&&&rest|||least)::Hg rest least n ((part-1)&&&rest)
def Bd (p:Nat):List Nat:=Hg (sdf p (Bo p)) (Bo p) (sdf p (Bo p)+1) (sdf p (Bo p))
theorem c2L {p:Nat} (h:p<M64):Bo p<M64:=aY gC h
theorem sdf_lt {a b:Nat} (h:a<M64):sdf a b<M64:=Nat.xor_lt_two_pow (n:=64) h (aY gC h)
theorem c2M {b p:Nat} {Ro:PH} (hp:p<M64):ItC prog 203 [.pointer (some ⟨b,0,none⟩)] Ro (Dh b p) (fun pre xs=>∃y,(Bd p)[pre.length]? =some y/\xs=[uv y]) (fun xs _=>xs.length=(Bd p).length) (fun _ _=>True):=by
 intro l J Jx vR hr X hX hd w hw;refine(Aa (H:=X.or (Dh b p)) (V:=fun _ H'=>∃X' K',PH.le (X'.or K') H'/\Disj X' K'/\((∃xs,xs.length=(Bd p).length/\J xs X')\/(∃pre,True/\Jx pre X'))) mixed c7I (by kernel_rfl) rfl ?_ w hw).mono fun e w' ⟨v,H',he,qA,hV⟩=>⟨v,H',he,qA,hV⟩;have hb:=PH.or_right hd (ip b p);have hL:=c2L hp;have hR:sdf p (Bo p)<M64:=sdf_lt hp;refine w9 Hw rfl rfl hb rfl rfl ?_;refine w9 Hw rfl rfl hb rfl rfl ?_;refine d4 (d4 ?_);refine w9 Hw rfl rfl hb rfl rfl ?_;refine d4 ?_;refine s9 (α:=Nat×Nat×List Nat×PH) (fun a=>[uv a.1]) (fun a H'=>a.1<M64/\a.1<a.2.1/\H'=a.2.2.2.or (Dh b p)/\Disj a.2.2.2 (Dh b p)/\a.2.2.1++Hg (sdf p (Bo p)) (Bo p) a.2.1 a.1=Bd p/\J (a.2.2.1.map fun y:Nat=>[uv y]) a.2.2.2) (fun a=>a.2.1) (sdf p (Bo p),sdf p (Bo p)+1,[],X)
  (z8 (Rk rfl (Ej rfl (Ve rfl hp) hp (bO _ (by decide))) hp hL)) ⟨hR,bQ _,rfl,hd,rfl,hX⟩ fun a H' hQ=> ?_
 obtain⟨part,fu,pre,X'⟩:=a;obtain⟨h1,h2,rfl,qB,pV,hJ⟩:=hQ;simp only at h1 h2 qB pV hJ;simp only[cA,nA];refine d4 ?_;obtain⟨fu,rfl⟩:∃m,fu=m+1:=⟨fu-1,by omega⟩;refine r9 (p:=(part≠0)) (bN0 part) (fun h=> ?_) fun h=> ?_
 ·simp only[Hg,if_neg h]at pV;have hq:(part-1)&&&sdf p (Bo p)<M64:=aY nM hR;have pP:(part-1)&&&sdf p (Bo p)<=part-1:=gC;have dL:∀{ρ:List Value},D prog ρ (.v 2)=uv p->D prog ρ (.v 3)=uv p->D prog ρ (.op2 .and .u64 (.v 2) (.op1 .neg .u64 (.v 3)))=uv (Bo p):=fun h2 h3=>Ej h2 (Ve h3 hp) hp (bO _ (by decide));have dR:∀{ρ:List Value},D prog ρ (.v 2)=uv p->D prog ρ (.v 3)=uv p->D prog ρ (.v 4)=uv p->D prog ρ (.op2 .andNot .u64 (.v 4) (.op2 .and .u64 (.v 2) (.op1 .neg .u64 (.v 3))))=uv (sdf p (Bo p)):=fun h2 h3 h4=>Rk h4 (dL h2 h3) hp hL;have dQ:∀{ρ:List Value},D prog ρ (.v 2)=uv p->D prog ρ (.v 3)=uv p->D prog ρ (.v 4)=uv p->D prog ρ (.v 5)=uv part->D prog ρ (.op2 .and .u64 (.op2 .sub .u64 (.v 5) (.k (.int .u64 1))) (.op2 .andNot .u64 (.v 4) (.op2 .and .u64 (.v 2) (.op1 .neg .u64 (.v 3)))))=uv ((part-1)&&&sdf p (Bo p)):=fun h2 h3 h4 h5=>Ej (Yz (B:=1) h5 rfl h1 (by omega)) (dR h2 h3 h4) (by omega) hR;refine Ys (hr _ [uv ((part-1)&&&sdf p (Bo p)|||Bo p)] X' (Dh b p) ⟨_,by rw[<-pV,aR,cQ (aN _),iQ];rfl,rfl⟩ hJ qB) rfl rfl rfl (j4 rfl (Cb (dQ rfl rfl rfl rfl) (dL rfl rfl) hq hL)) rfl fun v X2 qE hV=> ?_;obtain⟨bb,rfl,qQ,qR⟩:∃bb,v= .bool bb/\(bb=true->J ((pre.map fun y:Nat=>[uv y])++[[uv ((part-1)&&&sdf p (Bo p)|||Bo p)]]) X2)/\(bb=false->Jx ((pre.map fun y:Nat=>[uv y])++[[uv ((part-1)&&&sdf p (Bo p)|||Bo p)]]) X2):=by
   rcases hV with⟨rfl,h⟩|⟨rfl,h⟩
   ·exact⟨true,rfl,fun _=>h,(fun h=>nomatch h)⟩
   ·exact⟨false,rfl,(fun h=>nomatch h),fun _=>h⟩
  refine d4 ?_;refine i0 (b:= !bb) rfl (fun qZ=> ?_) (fun qZ=> ?_)
  ·exact g8 rfl ⟨X2,Dh b p,PH.le.refl _,qE,.inr ⟨_,trivial,qR (by simpa using qZ)⟩⟩
  ·exact⟨((part-1)&&&sdf p (Bo p),fu,pre++[(part-1)&&&sdf p (Bo p)|||Bo p],X2),bQ _,z8 (dQ rfl rfl rfl rfl),⟨hq,by show(part-1)&&&sdf p (Bo p)<fu;omega,rfl,qE,by rw[bG];exact pV,by rw[aX];exact qQ (by simpa using qZ)⟩⟩
 ·have h0:part=0:=by omega
  subst h0;simp only[Hg,if_true,dC]at pV;exact g8 rfl ⟨X',Dh b p,PH.le.refl _,qB,.inl ⟨_,by rw[aR,pV],hJ⟩⟩
theorem LS:FA prog 37 1 1:=⟨by kernel_rfl,oDt (by kernel_rfl),by kernel_rfl,by kernel_rfl,oDt (by kernel_rfl)⟩
theorem LU:Sc prog 35:=⟨by kernel_rfl,by kernel_rfl,by kernel_rfl⟩
def Bq (set:Nat):Nat->List (Nat×Nat)->List (Nat×(Nat×Nat))
 |_,[]=>[]
 |i,e::r=>if(bit set e.1&&bit set e.2)=true then(i,e)::Bq set (i+1) r else Bq set (i+1) r
def Hi (b j:Nat) (x v:Value) (T:TypeId) (s:Nat):PH:=(PH.nil.put b (.cells #[x,v] T (0,0))).put j (.cells #[uv s] 54 (0,0))
theorem LW {b j s:Nat} {x v:Value} {T:TypeId} {es:List (Nat×Nat)} {Ro:PH} (hs:s<M64) (tL:b≠j) (he:∀e∈es,e.1<=64/\e.2<=64) (zI:es.length<=1000000) (hv:SE Ro 2 (fun e:Nat×Nat=>[ii (e.1:Nat),ii (e.2:Nat)]) v es) (hvc:v.cells= #[v]):
  ItC prog 190 [.pointer (some ⟨b,0,none⟩),.pointer (some ⟨j,0,none⟩)] Ro (Hi b j x v T s) (fun pre xs=>∃y,(Bq s 0 es)[pre.length]? =some y/\xs=[ii (y.1:Nat),ev2 y.2]) (fun xs _=>xs.length=(Bq s 0 es).length) (fun _ _=>True):=by
 intro l J Jx vR hr X hX hd w hw;refine(Aa (H:=X.or (Hi b j x v T s)) (V:=fun _ H'=>∃X' K',PH.le (X'.or K') H'/\Disj X' K'/\((∃xs,xs.length=(Bq s 0 es).length/\J xs X')\/(∃pre,True/\Jx pre X'))) mixed c7P (by kernel_rfl) rfl ?_ w hw).mono fun e w' ⟨v,H',he,qA,hV⟩=>⟨v,H',he,qA,hV⟩;have kb:Hi b j x v T s b=some (.cells #[x,v] T (0,0)):=by unfold Hi;rw[PH.put_ne _ _ tL];exact PH.put_self _ _ _
 have kj:Hi b j x v T s j=some (.cells #[uv s] 54 (0,0)):=PH.put_self _ _ _;have hb:=PH.or_right hd kb;refine s6 LS ?_;refine w9 LU rfl rfl hb (u:=v) (by rfl) rfl ?_;have hsl:∀{pre X'},J pre X'->SE (X'.or (Hi b j x v T s)) 2 (fun e:Nat×Nat=>[ii (e.1:Nat),ii (e.2:Nat)]) v es:=fun hJ=>hv.mono ((vR _ _ hJ).trans (PH.le_or _ _));refine j7 el_edge (hsl hX) ?_;refine s9 (α:=Nat×List (Nat×Nat×Nat)×PH) (fun a=>[ii (a.1:Nat)]) (fun a H'=>a.1<=es.length/\H'=a.2.2.or (Hi b j x v T s)/\Disj a.2.2 (Hi b j x v T s)/\a.2.1++Bq s a.1 (es.drop a.1)=Bq s 0 es/\J (a.2.1.map fun y:Nat×Nat×Nat=>[ii (y.1:Int),ev2 y.2]) a.2.2) (fun a=>es.length-a.1) (0,[],X)
  rfl ⟨bI _,rfl,hd,rfl,hX⟩ fun a H' hQ=> ?_
 obtain⟨i,pre,X'⟩:=a;obtain⟨hi,rfl,qB,pV,hJ⟩:=hQ;simp only at hi qB pV hJ;simp only[cA,nA];refine d4 (d4 ?_);refine i0 (b:=decide (((i:Nat):Int)<(es.length:Nat))) rfl (fun h=> ?_) (fun h=> ?_)
 ·replace h:=oDt h;have pW:i<es.length:=by omega
  obtain⟨e,hx,tB⟩:=t7 pW;obtain⟨he1,he2⟩:=he e (List.mem_of_getElem? hx);have vV:=PH.or_right qB kj;refine j8 el_edge (hsl hJ) hx fun _=> ?_;refine d9 (el_edge.vcells e) ?_;refine w9 Hw rfl rfl vV rfl rfl ?_;refine Aq (LP hs he1 he2) rfl ?_;refine d4 ?_;rw[tB]at pV;refine i0 (b:=bit s e.1&&bit s e.2) rfl (fun sS=> ?_) (fun sS=> ?_)
  ·simp only[Bq,sS,if_true]at pV;refine Ys (hr _ [ii (i:Nat),ev2 e] X' (Hi b j x v T s) ⟨(i,e),by rw[<-pV,aR,cQ (aN _),iQ];rfl,rfl⟩ hJ qB) rfl rfl rfl rfl rfl fun v2 X2 qE hV=> ?_;obtain⟨bb,rfl,qQ,qR⟩:∃bb,v2= .bool bb/\(bb=true->J ((pre.map fun y:Nat×Nat×Nat=>[ii (y.1:Int),ev2 y.2])++[[ii (i:Nat),ev2 e]]) X2)/\(bb=false->Jx ((pre.map fun y:Nat×Nat×Nat=>[ii (y.1:Int),ev2 y.2])++[[ii (i:Nat),ev2 e]]) X2):=by
    rcases hV with⟨rfl,h⟩|⟨rfl,h⟩
    ·exact⟨true,rfl,fun _=>h,(fun h=>nomatch h)⟩
    ·exact⟨false,rfl,(fun h=>nomatch h),fun _=>h⟩
   refine d4 ?_;refine i0 (b:= !bb) rfl (fun qZ=> ?_) (fun qZ=> ?_)
   ·exact g8 rfl ⟨X2,_,PH.le.refl _,qE,.inr ⟨_,trivial,qR (by simpa using qZ)⟩⟩
   ·exact⟨(i+1,pre++[(i,e)],X2),by show es.length-(i+1)<es.length-i;omega,z8 (i9 rfl (by omega)),⟨by show i+1<=es.length;omega,rfl,qE,by rw[bG];exact pV,by rw[aX];exact qQ (by simpa using qZ)⟩⟩
  ·simp only[Bq,sS]at pV;exact⟨(i+1,pre,X'),by show es.length-(i+1)<es.length-i;omega,z8 (i9 rfl (by omega)),⟨by show i+1<=es.length;omega,rfl,qB,by simpa using pV,hJ⟩⟩
 ·replace h:=oDf h;rw[dW (by omega)]at pV;simp only[Bq,dC]at pV;exact g8 rfl ⟨X',_,PH.le.refl _,qB,.inl ⟨_,by rw[aR,pV],hJ⟩⟩
end
end Go.Proofs.Z
/- Chapter 32: the neighbours of a node in a set. -/
namespace Go.GS
open Go.RowKit Go.RX
def nbl (es:List (Nat×Nat)) (set x:Nat):List Nat:=els (nb es x&&&set)
theorem jh {P:Program} {ρ:List Value} {a b c:SV} {p q x r:Nat} (ha:D P ρ a=ii (p:Nat)) (hb:D P ρ b=ii (q:Nat)) (hc:D P ρ c=ii (x:Nat)) (h:p+q=x+r) (hp:p<64) (hq:q<64):D P ρ (.op2 .sub .i64 (.op2 .add .i64 a b) c)=ii (r:Nat):=by
 have h1:=ik (P:=P) (ρ:=ρ) ha hb (by omega) (by omega);have h2:=Rn (P:=P) (ρ:=ρ) h1 hc (by omega) (by omega);rw[h2];show ii _=ii _;congr 1;omega
theorem GV.take {n:Nat} {es:List (Nat×Nat)} (h:GV n es) (i:Nat):∀e∈es.take i,e.1<e.2/\e.2<n:=fun e he=>h.ed e (List.mem_of_mem_take he)
end Go.GS
namespace Go.Proofs.Z
open Go.Proofs.Tryz
open Go.RowKit Go.RX Go.GS
theorem yi {es:List (Nat×Nat)} {i x:Nat} {e:Nat×Nat} (he:es[i]? =some e):nb (es.take (i+1)) x=if e.1=x then nb (es.take i) x|||2^e.2 else if e.2=x then nb (es.take i) x|||2^e.1 else nb (es.take i) x:=by
 rw[take_snoc he,im]
theorem LX:Sc prog 265:=⟨by kernel_rfl,by kernel_rfl,by kernel_rfl⟩
theorem yj:FA prog 267 0 0:=⟨by kernel_rfl,oDt (by kernel_rfl),by kernel_rfl,by kernel_rfl,oDt (by kernel_rfl)⟩
theorem d9X:FA prog 267 1 1:=⟨by kernel_rfl,oDt (by kernel_rfl),by kernel_rfl,by kernel_rfl,oDt (by kernel_rfl)⟩
theorem d9Y:FA prog 267 2 3:=⟨by kernel_rfl,oDt (by kernel_rfl),by kernel_rfl,by kernel_rfl,oDt (by kernel_rfl)⟩
theorem yk:FA prog 267 3 4:=⟨by kernel_rfl,oDt (by kernel_rfl),by kernel_rfl,by kernel_rfl,oDt (by kernel_rfl)⟩
theorem c2N:Au prog 252=true:=by kernel_rfl
def wkc (c n:Nat) (w:Value) (set left:Nat):Array Value:= #[uv c,ii (n:Nat),w,uv set,ii (left:Nat)]
def WkO (c n:Nat) (w:Value) (set left:Nat):Obj:= .cells (wkc c n w set left) 267 (0,0)
def nbx (b j bw x:Nat):PH:=(PH.nil.put b (.cells #[.pointer (some ⟨bw,0,none⟩)] 265 (0,0))).put j (.cells #[ii (x:Nat)] 3 (0,0))
section
variable {H:PH} {w:Value} {n x c set left bw:Nat} {es:List (Nat×Nat)}
theorem bEn (a b:Nat):Value.bool (((a:Nat):Int)==((b:Nat):Int))= .bool (decide (a=b)):=by
 rw[bE];congr 1;apply decide_eq_decide.2;omega
theorem c7S:Con prog 228 [.pointer (some ⟨bw,0,none⟩),ii (x:Nat)] H fun u H'=>∃b j,b≠j/\H'=H.or (nbx b j bw x)/\Disj H (nbx b j bw x)/\u= .func (.func 252) #[] #[.pointer (some ⟨b,0,none⟩),.pointer (some ⟨j,0,none⟩)]:=by
 refine j3 mixed d2X ?_;refine d9 ⟨rfl,fun c hc=>by simp[D,Value.cells]at hc;subst hc;rfl⟩ ?_;refine Ee (cs:= #[.pointer (some ⟨bw,0,none⟩)]) rfl fun b hb=> ?_;refine d9 ⟨rfl,fun c hc=>by simp[D,Value.cells,ii]at hc;subst hc;rfl⟩ ?_;refine Ee (cs:= #[ii (x:Nat)]) rfl fun j hj=> ?_;refine He (La (vs:=[.pointer (some ⟨b,0,none⟩),.pointer (some ⟨j,0,none⟩)]) rfl rfl) rfl ?_;have tL:b≠j:=fun e=>by subst e;rw[PH.put_self]at hj;cases hj
 have rG:H j=none:=by rwa[PH.put_ne _ _ (fun e=>tL e.symm)]at hj
 exact g8 rfl ⟨b,j,tL,by unfold nbx;rw[PH.put_or hb,PH.or_put (X:=H) rG],Yr (Yr (vv H) hb) rG,rfl⟩
theorem c2O {b j:Nat} {Ro:PH} (tL:b≠j) (uV:Ro bw=some (WkO c n w set left)) (hw:SG Ro w es) (hg:GV n es) (qK:n<=64) (hs:set<M64) (hT:Tb Ro):
  ItC prog 252 [.pointer (some ⟨b,0,none⟩),.pointer (some ⟨j,0,none⟩)] Ro (nbx b j bw x) (fun pre xs=>∃y,(nbl es set x)[pre.length]? =some y/\xs=[ii (y:Nat)]) (fun xs _=>xs=(nbl es set x).map fun y:Nat=>[ii (y:Int)]) (fun _ _=>True):=by
 intro l J Jx vR hr X hX hd w' sW;refine(Aa (H:=X.or (nbx b j bw x)) (V:=fun _ H'=>∃X' K',PH.le (X'.or K') H'/\Disj X' K'/\((∃xs,xs=(nbl es set x).map (fun y:Nat=>[ii (y:Int)])/\J xs X')\/(∃pre,True/\Jx pre X'))) mixed c7o (by kernel_rfl) rfl ?_ w' sW).mono fun e w' ⟨v,H',he,qA,hV⟩=>⟨v,H',he,qA,hV⟩;have kb:nbx b j bw x b=some (.cells #[.pointer (some ⟨bw,0,none⟩)] 265 (0,0)):=by unfold nbx;rw[PH.put_ne _ _ tL];exact PH.put_self _ _ _
 have kj:nbx b j bw x j=some (.cells #[ii (x:Nat)] 3 (0,0)):=PH.put_self _ _ _;have hb:=PH.or_right hd kb;have hj:=PH.or_right hd kj;have hR0:=(vR _ _ hX).trans (PH.le_or X (nbx b j bw x));have xR:=hR0 _ _ uV;have hwe:=hw.mono hR0;have hl:=hw.len;have pO:∀i,nb (es.take i) x<M64:=fun i=>ww (n:=n) (hg.take i) qK x;have pR:∀{pre X'},J pre X'->PH.le Ro (X'.or (nbx b j bw x)):=fun hJ=>(vR _ _ hJ).trans (PH.le_or _ _);refine w9 LX rfl rfl hb rfl rfl ?_;simp only[cA,nA];refine As ?_;simp only[cA,nA];refine s6 d9X ?_;simp only[cA,nA];refine s6 LS ?_;simp only[cA,nA];refine w9 LU rfl rfl xR rfl rfl ?_;simp only[cA,nA];refine j7 el_edge hwe ?_;refine Dq (α:=Nat) (fun i=>[uv (nb (es.take i) x),ii (i:Nat)]) (fun i=>i<=es.length) (fun i=>es.length-i) (0) rfl (bI _) fun i hQ=> ?_;simp only[cA,nA];refine d4 (d4 ?_);refine i0 (b:=decide (((i:Nat):Int)<(es.length:Nat))) rfl (fun h=> ?_) (fun h=> ?_)
 ·replace h:=oDt h;have pW:i<es.length:=by omega
  obtain⟨e,he,hde⟩:=t7 pW;obtain⟨he1,he2⟩:=hg.mem he;refine j8 el_edge hwe he fun _=> ?_;simp only[cA,nA];refine d9 (el_edge.vcells e) ?_;refine w9 sc_int rfl rfl hj rfl rfl ?_;simp only[cA,nA];refine d4 (d4 ?_);refine r9 (p:=(e.1=x)) (bEn _ _) (fun h2=> ?_) fun h2=> ?_
  ·refine d4 ?_;refine w9 sc_int rfl rfl hj rfl rfl ?_;simp only[cA,nA];refine d4 ?_;refine d9 (by show(0:Int)<=intOf (D prog _ _);erw [jh (p:=e.1) (q:=e.2) (x:=x) (r:=e.2) rfl rfl rfl (by omega) (by omega) (by omega)];show(0:Int)<=((e.2:Nat):Int);omega) ?_;refine d4 ?_;exact⟨i+1,by omega,(j4 (by rw[yi he,if_pos h2];exact Cb rfl (Ez (jh (p:=e.1) (q:=e.2) (x:=x) rfl rfl rfl (by omega) (by omega) (by omega)) (by omega)) (pO i) (An (by omega))) (i9 rfl (by omega))),⟨pW,rfl⟩⟩
  ·refine w9 sc_int rfl rfl hj rfl rfl ?_;simp only[cA,nA];refine d4 (d4 ?_);refine r9 (p:=(e.2=x)) (bEn _ _) (fun h3=> ?_) fun h3=> ?_
   ·refine w9 sc_int rfl rfl hj rfl rfl ?_;simp only[cA,nA];refine d4 ?_;refine d9 (by show(0:Int)<=intOf (D prog _ _);erw [jh (p:=e.1) (q:=e.2) (x:=x) (r:=e.1) rfl rfl rfl (by omega) (by omega) (by omega)];show(0:Int)<=((e.1:Nat):Int);omega) ?_;refine d4 ?_;exact⟨i+1,by omega,(j4 (by rw[yi he,if_neg h2,if_pos h3];exact Cb rfl (Ez (jh (p:=e.1) (q:=e.2) (x:=x) rfl rfl rfl (by omega) (by omega) (by omega)) (by omega)) (pO i) (An (by omega))) (i9 rfl (by omega))),⟨pW,rfl⟩⟩
   ·exact⟨i+1,by omega,(j4 (by rw[yi he,if_neg h2,if_neg h3];rfl) (i9 rfl (by omega))),⟨pW,rfl⟩⟩
 ·replace h:=oDf h;rw[aK (by omega)];refine w9 LX rfl rfl hb rfl rfl ?_;simp only[cA,nA];refine As ?_;simp only[cA,nA];refine s6 d9Y ?_;simp only[cA,nA];refine w9 Hw rfl rfl xR rfl rfl ?_;simp only[cA,nA];refine d4 (d4 ?_);refine s9 (α:=Nat×Nat×PH) (fun⟨k,s',X'⟩=>[uv s']) (fun⟨k,s',X'⟩=>fun H'=>k<=(nbl es set x).length/\s'<M64/\els s'=(nbl es set x).drop k/\H'=X'.or (nbx b j bw x)/\J (((nbl es set x).take k).map fun x:Nat=>[ii (x:Int)]) X'/\Disj X' (nbx b j bw x)) (fun⟨k,s',X'⟩=>(nbl es set x).length-k) ((0,nb es x&&&set,X)) (z8 (Ej rfl rfl (by have:=pO es.length;rwa[kK]at this) hs)) (⟨bI _,aY nM hs,rfl,rfl,hX,hd⟩) fun⟨k,s',X'⟩ H' hQ=> ?_;simp only[cA,nA];obtain⟨hk,qF,he,rfl,hJ,qB⟩:=hQ;refine d4 ?_;refine r9 (p:=(s'≠0)) (bN0 s') (fun h=> ?_) fun h=> ?_
  ·obtain⟨y,r,rJ⟩:∃y r,els s'=y::r:=by
    cases rJ:els s' with
    |nil=>exact absurd (Uz qF rJ) h
    |cons y r=>exact⟨y,r,rfl⟩
   have htz:tz s'=y:=by simp[tz,rJ]
   have qO:k<(nbl es set x).length:=by
    apply Nat.lt_of_not_le;intro hh;rw[dW hh,rJ]at he;cases he
   obtain⟨z,hz,hdz⟩:=t7 qO;rw[<-he,rJ]at hdz;obtain⟨rfl,hr'⟩:=List.cons.inj hdz;refine Aq (Yu (hT.mono (pR hJ)) qF) rfl ?_;simp only[cA,nA];rw[htz];refine Ys (hr _ [ii (y:Nat)] X' (nbx b j bw x) ⟨y,by simp[cD hk,hz],rfl⟩ hJ qB) rfl rfl rfl rfl rfl fun v X2 qE hV=> ?_;simp only[cA,nA];obtain⟨bb,rfl,qQ,qR⟩:∃bb,v= .bool bb/\(bb=true->J ((((nbl es set x).take k).map fun x:Nat=>[ii (x:Int)])++[[ii (y:Nat)]]) X2)/\(bb=false->Jx ((((nbl es set x).take k).map fun x:Nat=>[ii (x:Int)])++[[ii (y:Nat)]]) X2):=by
    rcases hV with⟨rfl,h⟩|⟨rfl,h⟩
    ·exact⟨true,rfl,fun _=>h,(fun h=>nomatch h)⟩
    ·exact⟨false,rfl,(fun h=>nomatch h),fun _=>h⟩
   refine d4 ?_;refine i0 (b:= !bb) rfl (fun qZ=> ?_) (fun qZ=> ?_)
   ·skip
    exact g8 rfl ⟨X2,_,PH.le.refl _,qE,.inr ⟨_,trivial,qR (by simpa using qZ)⟩⟩
   ·skip
    exact⟨(k+1,s'&&&(s'-1),X2),by show(nbl es set x).length-(k+1)<(nbl es set x).length-k;omega,(z8 (Ej rfl (Yz (B:=1) rfl rfl qF (by omega)) qF (aY (Nat.sub_le _ _) qF))),⟨by show k+1<=(nbl es set x).length;omega,aY gC qF,by rw[wc qF rJ];exact hr',rfl,by rw[take_snoc hz,aX];exact qQ (by simpa using qZ),qE⟩⟩
  ·have h0:s'=0:=by omega
   subst h0;have sV:(nbl es set x).length<=k:=by
    rw[show els 0=[]from rfl]at he;have:=congrArg List.length he;rw[List.length_drop]at this;simp at this;omega
   rw[aK sV]at hJ;exact g8 rfl ⟨X',_,PH.le.refl _,qB,.inl ⟨_,rfl,hJ⟩⟩
theorem b9l {b j:Nat} {Ro:PH} (tL:b≠j) (uV:Ro bw=some (WkO c n w set left)) (hw:SG Ro w es) (hg:GV n es) (qK:n<=64) (hs:set<M64) (hT:Tb Ro):
  ItC prog 252 [.pointer (some ⟨b,0,none⟩),.pointer (some ⟨j,0,none⟩)] Ro (nbx b j bw x) (fun pre xs=>∃y,((nbl es set x).map fun y:Nat=>(y:Int))[pre.length]? =some y/\xs=[ii y]) (fun xs _=>xs=((nbl es set x).map fun y:Nat=>(y:Int)).map fun y:Int=>[ii y]) (fun _ _=>True):=by
 have h:=c2O (x:=x) tL uV hw hg qK hs hT;have e1:(fun(pre:List (List Value)) (xs:List Value)=>∃y,(nbl es set x)[pre.length]? =some y/\xs=[ii (y:Nat)])=fun(pre:List (List Value)) (xs:List Value)=>∃y,((nbl es set x).map fun y:Nat=>(y:Int))[pre.length]? =some y/\xs=[ii y]:=by
  funext pre xs;apply propext;rw[List.getElem?_map];constructor
  ·rintro⟨y,h1,h2⟩;exact⟨(y:Int),by rw[h1];rfl,h2⟩
  ·rintro⟨y,h1,h2⟩;obtain⟨z,h3,rfl⟩:=Option.map_eq_some_iff.1 h1;exact⟨z,h3,h2⟩
 have e2:((nbl es set x).map fun y:Nat=>(y:Int)).map (fun y:Int=>[ii y])=(nbl es set x).map fun y:Nat=>[ii (y:Int)]:=by rw[List.map_map];rfl
 rw[e1]at h;rw[e2];exact h
theorem c7T {f:FuncId} {caps:List Value} {X K Ro:PH} {L:List Int} (hit:ItC prog f caps Ro K (fun pre xs=>∃y,L[pre.length]? =some y/\xs=[ii y]) (fun xs _=>xs=L.map fun y:Int=>[ii y]) (fun _ _=>True)) (rC:Au prog f=true) (hd:Disj X K) (vR:PH.le Ro X) (hL:L.length<=1000):
  Con prog 251 [.slice none 0 0,.func (.func f) #[] caps.toArray] (X.or K) fun u H'=>PH.le X H'/\OI X H' u L:=by
 refine j3 mixed d3a ?_;refine d9 ⟨rfl,fun c hc=>by simp[D,Value.cells]at hc;subst hc;rfl⟩ ?_;refine Uy (X:=X) (K:=K) (Ro:=Ro) (fun pre vals X'=>PH.le X X'/\∃v,vals=[v]/\v.cells= #[v]/\OI X X' v (L.take pre.length)) (fun _ _ _=>False) hit rC hd rfl (fun _ _ _ h=>vR.trans h.1) ⟨PH.le.refl _,_,rfl,rfl,SO.nil _ _ _ _ _⟩ ?_ ?_ ?_
 ·rintro pre xs vals X' ⟨y,hy,rfl⟩ _ ⟨l1,v,rfl,hvc,ho⟩;refine⟨rfl,?_⟩;refine Iz el_int rfl rfl rfl (fun _=>rfl) (fun _=>rfl) l1 ho (by rw[List.length_take];omega) rfl (fun _=>j4 (Ov rfl hvc) rfl) rfl fun p v' X2 l2 o2=> ?_;refine d9 (o2.se.one) ?_;exact⟨l2,v',rfl,o2.se.cells,by rw[List.length_append];simp only[List.length_cons,List.length_nil];rw[take_snoc hy];exact o2⟩
 ·rintro xs vals X' K' rfl hd _ ⟨l1,v,rfl,hvc,ho⟩;rw[aR,kK]at ho;simp only[cA,nA];exact g8 (Ov rfl hvc) ⟨l1.trans (PH.le_or _ _),ho.mono (PH.le_or _ _)⟩
 ·exact fun _ _ _ _ _ _ _ h=>h.elim
theorem c7U {f:FuncId} {caps:List Value} {X K Ro:PH} {L:List Int} (hit:ItC prog f caps Ro K (fun pre xs=>∃y,L[pre.length]? =some y/\xs=[ii y]) (fun xs _=>xs=L.map fun y:Int=>[ii y]) (fun _ _=>True)) (rC:Au prog f=true) (hd:Disj X K) (vR:PH.le Ro X) (hL:L.length<=1000):
  Con prog 227 [.func (.func f) #[] caps.toArray] (X.or K) fun u H'=>PH.le X H'/\OI X H' u L:=by
 refine j3 mixed d2Z ?_;refine i6 (c7T hit rC hd vR hL) rfl ?_;rintro u H1 ⟨l1,h1⟩;refine nmI ?_;exact g8 rfl ⟨l1,h1⟩
end
end Go.Proofs.Z

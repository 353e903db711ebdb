/- Lemmas of the proof. -/
import Derived.Test.YtmannekkmdockaaGreatDoorRxX
import Derived.DeepKeys3
open Array renaming all_eq_true_iff_forall_mem->jU,range->oN,toList_inj->eZ
open Bool renaming and_eq_true->aF,eq_iff_iff->bH,false_eq_true->cN
open Go.Result renaming andThen_ok->aE
open Go.Sem renaming run_bind->aG,run_pure->aT
open Go.Value.int renaming injEq->kQ
open List renaming all_eq_true->dJ,append_assoc->bG,cons->lS,map_cons->aM,map_nil->cL,map_toArray->eC,mem_cons->aL,range->bL
open Nat renaming add_mul->cP,beq->eG,blt->mN,le_refl->aN,le_succ->nD,zero_add->bM
namespace Go.RX
open Go.RowKit
section
variable {P:Program} {T e:TypeId} {sz:Nat} {ag:Bool} {α:Type} {ce:α->List Value} {ve:α->Value} (E:El P T e sz ag ce ve)
variable {G:Value->PH->Prop} {nx:List (List Value->PH->Prop)} {ρ:List Value} {H:PH} {o:Oper} {x y:Operand} {id i:Nat} {args:List SV} {t:Tree} {v u:Value} {l l2:List α} {a:α} {pf:Bool} {vs:List Value}
include E
theorem JX (ho:o.op= .buildSlice T 0 #[]) (ha:args.map (D P ρ)=[])
  (n:∀b,H b=none->den P G t nx (ρ++[.slice (some ⟨b,0,none⟩) 0 0]) (H.put b (.cells #[] e (0,0)))):den P G (.mk id i o args t) nx ρ H:=by
 obtain⟨ti,zv,h1,h2,h3,h4,h5⟩:=E.inf;refine⟨fun b=> .slice (some ⟨b,0,none⟩) 0 0,.cells #[] e (0,0),fun w=> ?_,n⟩;have hr:(Instr.buildSlice T 0 #[]).run P w= .ok (.slice (some ⟨w.heap.size,0,none⟩) 0 0) (w.alloc (.cells #[] e)):=by
  simp[Instr.buildSlice,run_underlying E.und,sizeOf,typeInfo,h1,newRow,Instr.fill,Array.range_zero']
 simp only[execOp,ho,aG,hr,aE,aT,Array.map_empty]
theorem JY (ho:o.op= .buildSlice T 1 #[(0,x)]) (hx:g9 [x] [ve a] x=ve a) (ha:args.map (D P ρ)=[ve a])
  (n:∀b,H b=none->den P G t nx (ρ++[.slice (some ⟨b,0,none⟩) 1 1]) (H.put b (.cells (ce a).toArray e (0,0)))):den P G (.mk id i o args t) nx ρ H:=by
 obtain⟨ti,zv,h1,h2,h3,h4,h5⟩:=E.inf;have qW:=E.pos;have hsm:=E.small;refine⟨fun b=> .slice (some ⟨b,0,none⟩) 1 1,.cells (ce a).toArray e (0,0),fun w=> ?_,n⟩;have pZ:o.op.operands.toList=[x]:=by simp[ho,Op.operands]
 have hf:Instr.fill (fun j=>some (j*ti.size,ti.size)) ((oN (1*ti.size)).map (zv.cells[· %zv.cells.size]!)) [(0,ve a)]=some (ce a).toArray:=by
  rw[h3,Xq _ _ _ fun p hp=> ?_]
  ·have:=vo E.len E.cells [a] 0 ((oN (1*sz)).map (zv.cells[· %zv.cells.size]!));simp only[List.zipIdx_cons,List.zipIdx_nil,aM,cL]at this;rw[this,Nat.zero_mul,eo (by rw[Lt E.len];simp)];simp
  ·simp only[List.mem_singleton]at hp;subst hp;exact⟨0*sz,sz,rfl,(E.vcells a).1,by simp⟩
 have hr:=run_buildSlice (P:=P) w T e 1 (#[((0:Nat),x)].map fun(j,x')=>(j,g9 [x] [ve a] x')) (ce a).toArray ti zv E.und h1 h2 (by rw[h3];omega) (by rw[h3];omega) (by simpa[hx]using hf);rw[pZ,ha];simp only[execOp,ho,aG,hr,aE,aT]
end
section
variable {P:Program} {H:PH} {o:Oper} {x y:Operand} {vs:List Value}
theorem b5m {t e:TypeId} {i:TypeInfo} {z:Value} {sz n m g:Nat} {cur:Array Value} {T':TypeId} {fz:Nat×Nat} {u:Value} {xs news:List Value} (ho:o.op= .call ⟨.builtin .append,#[x,y],#[t,t]⟩) (hx:g9 [x,y] vs x= .slice (some ⟨g,0,none⟩) n n) (hy:g9 [x,y] vs y=u)
  (hu:P.underlying t=some (.slice e)) (hi:P.info? e=some i) (hz:i.zero=some z) (rP:i.size=sz) (hzs:z.cells.size=sz) (hg:H g=some (.cells cur T' fz)) (tV:xs.length=n*sz) (wR:cur.toList.take (n*sz)=xs) (hs:Sl H sz u m news) (hm:0<m) (xI:n+m<=maxLen) (sX:(n+m)*i.bytes<=140737488355328):
  Opn P o vs H fun v' H'=>PH.le H H'/\OwS H H' e sz v' (n+m) (xs++news):=fun w hw=>by
 have pZ:o.op.operands.toList=[x,y]:=by simp[ho,Op.operands,Call.operands]
 obtain⟨hl,a,c,rK,hmc,uW,hs⟩:=hs;obtain⟨b,q,cs,T,fz',ha,hb,hn⟩:=hs.resolve_left (by omega);subst ha;have sR:=Uj (hw _ _ hb) hn;have a4q:n+m<=9223372036854775807:=by simp only[maxLen]at xI;omega
 have pR:(xs++news).length=(n+m)*sz:=by rw[List.length_append,tV,hl,cP]
 have grown:∀(old:Nat) (w':World),w'=w.drew.alloc (.cells (xs.toArray++news.toArray++Builtin.zeroCells z.cells (grownCap w (n+m) old e-(n+m))) e)->
   Step H w (H.put w.heap.size (.cells (xs.toArray++news.toArray++Builtin.zeroCells z.cells (grownCap w (n+m) old e-(n+m))) e (0,0))) w'/\
   OwS H (H.put w.heap.size (.cells (xs.toArray++news.toArray++Builtin.zeroCells z.cells (grownCap w (n+m) old e-(n+m))) e (0,0))) e sz (.slice (some ⟨w.heap.size,0,none⟩) (n+m) (grownCap w (n+m) old e)) (n+m) (xs++news):=fun old w' sW=>by
  have hge:=grownCap_ge w (n+m) old e;have uW:grownCap w (n+m) old e<=maxLen:=grownCap_le_maxLen w (n+m) old e xI;subst sW;constructor
  ·have hd:Ext w w.drew:=⟨rfl,rfl,rfl,aN _,fun _ _=>rfl,nD _⟩;exact(Step.of_ext hw hd).trans (Step.newB (hw.ext hd) _)
  ·refine⟨pR,.inr ⟨w.heap.size,_,_,rfl,hw.fresh,PH.put_self _ _ _,hge,uW,?_,?_⟩⟩
   ·simp only[Array.size_append,List.size_toArray,size_zeroCells,hzs,tV,hl,<-cP];congr 1;omega
   ·simp only[Array.toList_append,bG];rw[<-bG,<-pR];exact List.take_left
 unfold Stp;rw[pZ];simp only[execOp,ho,resolve,invoke,aG,aT,aE,eC,aM,cL,hx,hy,rK,builtin];have holds:∀j u,xs[j]? =some u->w.cell? ((⟨g,0,none⟩:Addr).add j)=some u:=Uj (n:=n*sz) (hw _ _ hg) (by rw[List.drop_zero];exact wR);have hr:=run_append_grow (P:=P) w t o.type e i z hu hi hz ⟨g,0,none⟩ n n xs (by rw[rP];exact tV) holds ⟨b,q,none⟩ m c news (by rw[rP];exact hl) sR (by omega) (by omega) (growslice_fits (by omega) sX);have xJ:=grown n _ rfl;rw[hr];exact⟨_,xJ.1,PH.le_put hw.fresh _,xJ.2⟩
end
section
variable {P:Program} {T e:TypeId} {sz:Nat} {ag:Bool} {α:Type} {ce:α->List Value} {ve:α->Value} (E:El P T e sz ag ce ve)
variable {G:Value->PH->Prop} {nx:List (List Value->PH->Prop)} {ρ:List Value} {H:PH} {o:Oper} {x y:Operand} {id i:Nat} {args:List SV} {t:Tree} {v u:Value} {l l2:List α} {a:α} {pf:Bool} {b:Nat} {fz:Nat×Nat} {T':TypeId}
include E
theorem JZ (ho:o.op= .call ⟨.builtin .append,#[x,y],#[T,T]⟩) (hx:g9 [x,y] [.slice (some ⟨b,0,none⟩) 0 0,u] x= .slice (some ⟨b,0,none⟩) 0 0) (hy:g9 [x,y] [.slice (some ⟨b,0,none⟩) 0 0,u] y=u) (hb:H b=some (.cells #[] e (0,0))) (h2:SE H sz ce u l2) (pR:l2.length<=68719476736)
  (ha:args.map (D P ρ)=[.slice (some ⟨b,0,none⟩) 0 0,u]) (n:∀v' H',PH.le H H'->SE H' sz ce v' l2->(∀H0,PH.le H0 H->H0 b=none->SO H0 H' e sz ce v' l2)->den P G t nx (ρ++[v']) H'):den P G (.eff pf id i o args t) nx ρ H:=by
 obtain⟨ti,zv,h1,h3,h4,h5,h6⟩:=E.inf;have a2y:∀H0,H0 b=none->SO H0 H e sz ce (.slice (some ⟨b,0,none⟩) 0 0) ([]:List α):=fun H0 h0=>⟨by simp,.inr ⟨b,0,#[],rfl,h0,hb,aN _,by simp[maxLen],by simp,by simp⟩⟩;by_cases hm:0<l2.length
 ·refine r4 (b5m (n:=0) (xs:=[]) ho hx hy E.und h1 h3 h4 h5 hb (by simp) (by simp) h2 hm (by simp only[maxLen];omega) (by rw[bM];have:=Nat.mul_le_mul pR h6;omega)) ha ?_;rintro v' H' ⟨hl,ho'⟩;simp only[bM,List.nil_append]at ho';exact⟨fun _=>hl,n v' H' hl ho'.sl fun H0 h0 sH=>OwS.less ho' h0⟩
 ·have tI:l2=[]:=List.eq_nil_of_length_eq_zero (by omega);subst tI;have yA:SE H sz ce (.slice (some ⟨b,0,none⟩) 0 0) ([]:List α):=⟨by simp,_,_,rfl,aN _,by simp[maxLen],.inl rfl⟩;refine r4 (FO ho hx hy E.und h1 yA h2) ha ?_;rintro v' H' ⟨rfl,rfl⟩;exact⟨fun _=>PH.le.refl _,n _ _ (PH.le.refl _) yA fun H0 _ sH=>a2y H0 sH⟩
theorem KA {o1 o2 o3:Oper} {x y x2 x3:Operand} {id1 i1 id2 i2 id3 i3:Nat} {args1 args2 args3:List SV} {k:IntKind} {j m n:Nat} {e2:TypeId} {c:Value} (hT:Ar P e e2 n) (hm:m<n) (hc:(ce a)[m]? =some c) (tZ:o1.op= .indexAddr T x y) (uA:o2.op= .indexAddr e x2 (.const (.int .i64 (m:Nat)))) (ho3:o3.op= .load e2 x3) (hx:g9 [x,y] [v,.int k (j:Nat)] x=v) (hy:g9 [x,y] [v,.int k (j:Nat)] y= .int k (j:Nat))
  (rR:∀p,g9 [x2,.const (.int .i64 (m:Nat))] [p,.int .i64 (m:Nat)] x2=p) (wH:∀p,g9 [x2,.const (.int .i64 (m:Nat))] [p,.int .i64 (m:Nat)] (.const (.int .i64 (m:Nat)))= .int .i64 (m:Nat)) (yL:∀p,g9 [x3] [p] x3=p) (h:SE H sz ce v l) (hj:l[j]? =some a) (ha:args1.map (D P ρ)=[v,.int k (j:Nat)]) (rX:∀p,args2.map (D P (ρ++[p]))=[p,.int .i64 (m:Nat)]) (zF:∀p p',args3.map (D P (ρ++[p]++[p']))=[p'])
  (nn:∀p p',den P G t nx (ρ++[p]++[p']++[c]) H):den P G (.prim id1 i1 o1 args1 (.prim id2 i2 o2 args2 (.prim id3 i3 o3 args3 t))) nx ρ H:=by
 refine vu E tZ hx hy h hj ha fun p hp=> ?_;obtain⟨b,q,cs,T',fz,rfl,h2,h3,h4⟩:=hp;have pO:=(List.getElem?_eq_some_iff.1 hc).1;have hi:=(fh (P:=P) (len:=n) (e:=e2) (b:=b) (q:=q) uA (rR _) (wH _) hT.und hT.sc.has (by omega) (by omega)).rds H;rw[hT.sc.cel,Int.toNat_natCast,Nat.mul_one]at hi;refine r7 hi (rX _) ?_;refine w9 hT.sc ho3 (yL _) h2 ?_ (zF _ _) (nn _ _);rw[<-Array.getElem?_toList];rw[<-h4,List.getElem?_take_of_lt pO,List.getElem?_drop]at hc;exact hc
end
end Go.RX
/- Concrete runs: an evaluator of trees. -/
namespace Go.RZ
open Go.RowKit Go.RX
noncomputable section
inductive AV where
 |int (k:IntKind) (n:Int)
 |bool (b:Bool)
 |ptr (k q:Nat)
 |nptr
 |sl (k q n c:Nat)
 |sg (k q n d:Nat)
 |nsl
 |mp (k:Nat)
 |nmp
 |fn (f:FuncId) (b c:List AV)
 |nfn
 |agg (l:List AV)
 |tup (l:List AV)
 deriving Inhabited
def len {α:Type} (l:List α):Nat:=List.rec (motive:=fun _=>Nat) 0 (fun _ _ n=>Nat.succ n) l
def ofS:Value->Option AV
 | .int k n=>some (.int k n)
 | .bool b=>some (.bool b)
 | .pointer none=>some .nptr
 | .slice none 0 0=>some .nsl
 | .map none=>some .nmp
 | .nilFunc=>some .nfn
 | .func (.func f) ⟨[]⟩ ⟨[]⟩=>some (.fn f [] [])
 |_=>none
def e1e:List Value->Option (List AV)
 |[]=>some []
 |x::r=>match ofS x,e1e r with|some a,some b=>some (a::b)|_,_=>none
def okI:IntKind->Int->Bool
 | .i64,.ofNat m=>mN m 9223372036854775808
 | .u64,.ofNat m=>mN m 18446744073709551616
 | .i64,.negSucc m=>mN m 9223372036854775808
 |_,_=>false
def eqI:Int->Int->Bool
 | .ofNat m,.ofNat n=>eG m n
 | .negSucc m,.negSucc n=>eG m n
 |_,_=>false
def ixN:Option AV->Option Nat
 |some (.int _ (.ofNat n))=>some n
 |_=>none
def e1s (ox:Option AV):Option AV:=match ox with
 |some (.bool b)=>some (.bool (not b))
 |_=>none
def isK (k l:IntKind):Bool:=k==l
def Ef:List AV->List AV->Bool
 |[],[]=>true
 | .int k a::r,.int l b::q=>isK k l&&eqI a b&&Ef r q
 | .bool a::r,.bool b::q=>(a==b)&&Ef r q
 |_,_=>false
def Dt (P:Program):Nat->TypeId->List AV->Bool
 |0,_,_=>false
 |d+1,t,l=>match P.underlying t with
  |some .bool=>match l with
   |[.bool _]=>true
   |_=>false
  |some (.int q)=>match l with
   |[.int k n]=>isK k q&&(okI k n||(Lit.int k n).wf)
   |_=>false
  |some (.array n e)=>eG (len l) (P.cellsOf t)&&(bL n).all fun i=>Dt P d e ((l.drop (Nat.mul i (P.cellsOf e))).take (P.cellsOf e))
  |some (.struct fs)=>eG (len l) (P.cellsOf t)&&fs.toList.all fun f=>Dt P d f.type ((l.drop f.offset).take (P.cellsOf f.type))
  |_=>false
def Di (P:Program) (kty:TypeId->Bool) (kt:TypeId) (v:AV):Bool:=match v with
 | .agg l=>kty kt&&Dt P 6 kt l
 | .int k _=>match P.underlying kt with
  |some (.int q)=>isK k q
  |_=>false
 |_=>false
theorem xc {α:Type}:∀l:List α,len l=l.length
 |[]=>rfl
 |x::r=>by rw[List.length_cons,<-xc r];rfl
end
end Go.RZ
/- Concrete runs: what abstract values and terms stand for. -/
namespace Go.RZ
open Go.RowKit Go.RX Go.GS
abbrev Rl:=Nat->Nat×Nat
mutual
def rz (σ:Rl):AV->Value
 | .int k n=> .int k n
 | .bool b=> .bool b
 | .ptr k q=> .pointer (some ⟨(σ k).1,q,none⟩)
 | .nptr=> .pointer none
 | .sl k q n c=> .slice (some ⟨(σ k).1,q,none⟩) n c
 | .sg k q n d=> .slice (some ⟨(σ k).1,q,none⟩) n ((σ k).2-d)
 | .nsl=> .slice none 0 0
 | .mp k=> .map (some (σ k).1)
 | .nmp=> .map none
 | .fn f b c=> .func (.func f) (rzs σ b).toArray (rzs σ c).toArray
 | .nfn=> .nilFunc
 | .agg l=> .agg (rzs σ l).toArray
 | .tup l=> .tuple (rzs σ l).toArray
def rzs (σ:Rl):List AV->List Value
 |[]=>[]
 |x::r=>rz σ x::rzs σ r
end
theorem iq (σ:Rl):∀l,rzs σ l=l.map (rz σ)
 |[]=>by simp[rzs]
 |x::r=>by simp[rzs,iq σ r]
theorem xd (σ:Rl) (l:List AV):(rzs σ l).length=l.length:=by rw[iq,List.length_map]
theorem KB (σ:Rl) (l:List AV) (j:Nat):rzs σ (l.take j)=(rzs σ l).take j:=by simp[iq,List.map_take]
theorem KC (σ:Rl) (l:List AV) (j:Nat):rzs σ (l.drop j)=(rzs σ l).drop j:=by simp[iq,List.map_drop]
theorem xe {a b:Nat} (h:mN a b=true):a<b:=by simpa[Nat.blt_eq]using h
theorem Ly {a b:Nat} (h:eG a b=true):a=b:=Nat.eq_of_beq_eq_true h
theorem KD (a b:Int):eqI a b=(a==b):=by
 rw[bH,beq_iff_eq];cases a<;>cases b<;>simp only[eqI,Nat.beq_eq]
 ·exact Int.ofNat_inj.symm
 ·exact⟨fun h=>(nomatch h),fun h=>(nomatch h)⟩
 ·exact⟨fun h=>(nomatch h),fun h=>(nomatch h)⟩
 ·exact⟨fun h=>by rw[h],fun h=>by injection h⟩
end Go.RZ
/- Concrete runs: operations that read. -/
namespace Go.RZ
open Go.RowKit Go.RX Go.GS Go.WideMaps
structure Ek (P:Program) (t:TypeId):Prop where
 at6:P.keyTypeAt 6 t=true
 tiled:P.tiled 6 t=true
 wide:(match P.underlying t with|some (.array _ _)|some (.struct _)=>true|_=>false)=true
 noguard:P.eqGuardType P.depth t=false
 key:P.keyType t=true
 big:6<=P.types.size+1
theorem xf {α β:Type} {f:α->Option β}:∀{l:List α},(∀x∈l,∃y,f x=some y)->∃ys,l.mapM f=some ys
 |[],_=>⟨[],rfl⟩
 |x::r,h=>by
  obtain⟨y,hy⟩:=h x (by simp);obtain⟨ys,hys⟩:=xf (l:=r) (f:=f) fun z hz=>h z (by simp[hz]);exact⟨y::ys,by simp[List.mapM_cons,hy,hys]⟩
theorem d7a {q:IntKind} {n:Int} (h:okI q n=true):(Lit.int q n).wf=true:=by
 unfold okI at h;split at h
 ·have:=xe h;simp[Lit.wf,IntKind.min,IntKind.max,IntKind.signed,IntKind.bits];omega
 ·have:=xe h;simp[Lit.wf,IntKind.min,IntKind.max,IntKind.signed,IntKind.bits];omega
 ·have:=xe h;simp[Lit.wf,IntKind.min,IntKind.max,IntKind.signed,IntKind.bits];omega
 ·cases h
theorem xg {P:Program} {σ:Rl}:∀(d:Nat) (t:TypeId) (l:List AV),P.keyTypeAt d t=true->Dt P d t l=true->∀D,d<=D->∃L,P.keyLits D t (rzs σ l)=some L
 |0,_,_,h,_,_,_=>by simp[Program.keyTypeAt]at h
 |d+1,t,l,hk,hf,D,hD=>by
  obtain⟨D,rfl⟩:∃E,D=E+1:=⟨D-1,by omega⟩;unfold Program.keyTypeAt at hk;unfold Dt at hf;simp only[xc]at hf;unfold Program.keyLits;cases hu:P.underlying t with
  |none=>simp[hu]at hf
  |some kd=>
   rw[hu]at hk hf;cases kd<;>simp only[cN]at hk hf
   case some.bool=>
    split at hf
    ·exact⟨_,rfl⟩
    ·cases hf
   case some.int q=>
    split at hf
    ·rename_i k n;simp only[aF,Bool.or_eq_true]at hf;have hk:k=q:=by simpa[isK]using hf.1
     subst hk;have hw:(Lit.int k n).wf=true:=hf.2.elim d7a id;exact⟨_,by simp only[rzs,rz];exact if_pos ⟨trivial,hw⟩⟩
    ·cases hf
   case some.array n e=>
    rw[aF]at hf;obtain⟨h1,h2⟩:=hf;have h1:=Ly h1;rw[dJ]at h2;have:∃ys,(bL n).mapM (fun i=>P.keyLits D e (((rzs σ l).drop (i*P.cellsOf e)).take (P.cellsOf e)))=some ys:=by
     refine xf fun i hi=> ?_;obtain⟨L,hL⟩:=xg d e _ hk (h2 i hi) D (by omega);exact⟨L,by rw[<-hL,KB,KC];rfl⟩
    obtain⟨ys,hys⟩:=this;exact⟨_,by simp only[xd,h1,if_true];rw[hys];rfl⟩
   case some.struct fs=>
    rw[aF]at hf;obtain⟨h1,h2⟩:=hf;have h1:=Ly h1;rw[dJ]at h2;simp only[aF]at hk;have hn:=jU.1 hk.1.1;have:∃ys,fs.toList.mapM (fun f=>P.keyLits D f.type (((rzs σ l).drop f.offset).take (P.cellsOf f.type)))=some ys:=by
     refine xf fun f hi=> ?_;have hf:=hn f (Array.mem_toList_iff.1 hi);rw[aF]at hf;obtain⟨L,hL⟩:=xg d f.type _ hf.2 (h2 f hi) D (by omega);exact⟨L,by rw[<-hL,KB,KC]⟩
    obtain⟨ys,hys⟩:=this;have qG:fs.all (·.name != "_")=true:=jU.2 fun f hf=>by
     have:=hn f hf;rw[aF]at this;exact this.1
    exact⟨_,by simp only[xd,h1];rw[if_pos ⟨trivial,qG⟩,hys];rfl⟩
theorem c6Z {P:Program} {t:TypeId} {l:List AV} {d:Nat} (h:Dt P (d+1) t l=true) (hw:(match P.underlying t with|some (.array _ _)|some (.struct _)=>true|_=>false)=true):l.length=P.cellsOf t:=by
 unfold Dt at h;simp only[xc]at h;split at h
 ·rename_i hu;rw[hu]at hw;cases hw
 ·rename_i hu;rw[hu]at hw;cases hw
 ·rw[aF]at h;exact Ly h.1
 ·rw[aF]at h;exact Ly h.1
 ·cases h
def ib:AV->Prop
 | .int _ _=>True
 | .bool _=>True
 |_=>False
theorem d9M {σ:Rl}:∀{v:AV} {c:Lit},rz σ v=c.toCell->ib v:=by
 intro v c h;cases v<;>simp only[ib]<;>cases c<;>simp[rz,Lit.toCell]at h
theorem KE {σ:Rl}:∀{l:List AV} {L:List Lit},rzs σ l=L.map Lit.toCell->∀v∈l,ib v
 |[],_,_,v,hv=>by cases hv
 |x::r,[],h,_,_=>by simp[rzs]at h
 |x::r,c::L,h,v,hv=>by
  simp only[rzs,aM,lS.injEq]at h;rcases aL.1 hv with rfl|hv
  ·exact d9M h.1
  ·exact KE h.2 v hv
theorem KF {σ:Rl}:∀{a b:List AV},(∀v∈a,ib v)->(Ef a b=true↔rzs σ a=rzs σ b)
 |[],[],_=>by simp[Ef]
 |[],y::q,_=>by simp[Ef,rzs]
 |x::r,[],h=>by
  have:=h x (by simp);cases x<;>simp[ib,Ef,rzs]at*
 |x::r,y::q,h=>by
  have h1:=h x (by simp);have ih:=KF (σ:=σ) (a:=r) (b:=q) fun v hv=>h v (by simp[hv]);cases x<;>simp only[ib]at h1
  ·rename_i k n;cases y<;>simp only[Ef,rzs,rz,lS.injEq,aF,KD,beq_iff_eq,isK,kQ,ih]<;>simp
  ·rename_i k;cases y<;>simp only[Ef,rzs,rz,lS.injEq,aF,beq_iff_eq,Value.bool.injEq,ih]<;>simp
section
variable {P:Program} {kty:TypeId->Bool}
theorem Zc {σ:Rl} {kt:TypeId} {l:List AV} (hK:∀t,kty t=true->Ek P t) (h:Di P kty kt (.agg l)=true):Ek P kt/\(rz σ (.agg l)).formed P kt=true/\∀D,6<=D->∃L,P.keyLits D kt (rz σ (.agg l)).cells.toList=some L:=by
 simp only[Di]at h;rw[aF]at h;have K:=hK _ h.1;refine⟨K,?_,fun D hD=> ?_⟩
 ·have hl:=c6Z h.2 K.wide;have hw:=K.wide;simp only[rz,Value.formed];split<;>simp_all[xd]
 ·obtain⟨L,hL⟩:=xg (σ:=σ) 6 kt l K.at6 h.2 D hD;exact⟨L,by simp only[rz,Value.cells];simpa using hL⟩
theorem Zd {kt:TypeId} {v:AV} (hK:∀t,kty t=true->Ek P t) (h:Di P kty kt v=true):(∃l,v= .agg l)\/∃q n,v= .int q n/\P.underlying kt=some (.int q):=by
 unfold Di at h;split at h
 ·exact .inl ⟨_,rfl⟩
 ·split at h
  ·rename_i k n _ q hu;obtain rfl:k=q:=by simpa[isK]using h
   exact .inr ⟨_,_,rfl,hu⟩
  ·cases h
 ·cases h
theorem KG {σ:Rl} {kt:TypeId} {a b:List AV} (hK:∀t,kty t=true->Ek P t) (ha:Di P kty kt (.agg a)=true) (hb:Di P kty kt (.agg b)=true) (w:World):
  (Op.equal kt (rz σ (.agg a)) (rz σ (.agg b))).run P w= .ok (Ef a b) w:=by
 obtain⟨K,fa,la⟩:=Zc (σ:=σ) hK ha;obtain⟨_,fb,lb⟩:=Zc (σ:=σ) hK hb;obtain⟨L,hL⟩:=la 6 (aN _);obtain⟨M,hM⟩:=lb 6 (aN _);obtain⟨r,hr,a5j⟩:=run_equalIn_deep (10000-6) 6 kt K.at6 w _ _ _ _ L M fa fb hL hM;have c1:=cells_of_lits 6 kt K.tiled _ _ _ hL;have c2:=cells_of_lits 6 kt K.tiled _ _ _ hM;have c1':rzs σ a=L.map Lit.toCell:=by simpa[rz,Value.cells]using c1
 have c2':rzs σ b=M.map Lit.toCell:=by simpa[rz,Value.cells]using c2
 have e:r=Ef a b:=by
  rw[bH,a5j,KF (KE c1')];constructor
  ·intro h;rw[c1',c2',h]
  ·intro h;have h2:=hL;simp only[rz,Value.cells,h]at h2;simp only[rz,Value.cells]at hM;rw[hM]at h2;exact(Option.some.inj h2).symm
 rw[<-e];exact hr
variable {σ:Rl} {wm:Nat} {H0 H:PH} {o:Oper} {vs:List AV} {x y:Operand} {v:AV}
theorem yld_imax {t u:TypeId} {a b:Int} {vs:List Value} (ho:o.op= .call ⟨.builtin .max,#[x,y],#[t,u]⟩) (hx:g9 [x,y] vs x= .int .i64 a) (hy:g9 [x,y] vs y= .int .i64 b):Yld P o vs (.int .i64 (if b>a then b else a)):=fun w=>by
 have pZ:o.op.operands.toList=[x,y]:=by simp[ho,Op.operands,Call.operands]
 rw[pZ];simp only[execOp,ho,resolve,invoke,aG,aT,aE,eC,aM,cL,hx,hy];simp only[builtin,aG,run_max_int2,aE];rfl
theorem c7a {t a e r clock:TypeId} {es:Array MapEntry} {vs:List Value} (ho:o.op= .call ⟨.builtin .len,#[x],#[t]⟩) (hx:g9 [x] vs x= .map (some r)) (hu:P.underlying t=some (.map a e)) (hH:H r=some (.map es clock)):Rds P o vs H (.int .i64 es.size):=fun w hw=>by
 have pZ:o.op.operands.toList=[x]:=by simp[ho,Op.operands,Call.operands]
 have hg:=Iu (P:=P) (hw _ _ hH);rw[pZ];simp only[execOp,ho,resolve,invoke,aG,aT,aE,eC,aM,cL,hx,builtin];have hr:(Builtin.len_ #[t] o.type #[.map (some r)]).run P w= .ok (goInt es.size) w:=by
  simp[Builtin.len_,run_underlying hu,hg]
 rw[hr];rfl
end
end Go.RZ
/- Concrete runs: slices of slices, maps; all operations that read; operations that make a block. -/
namespace Go.RZ
open Go.RowKit Go.RX Go.GS Go.WideMaps
section
variable {P:Program} {kty:TypeId->Bool} {σ:Rl} {wm:Nat} {H0 H:PH} {o:Oper} {vs:List AV} {x y:Operand} {v:AV}
theorem ir {kt:TypeId} {l:List AV} (hK:∀t,kty t=true->Ek P t) (h:Di P kty kt (.agg l)=true):∃lx,keyOf P kt (rz σ (.agg l))=some lx:=by
 obtain⟨K,fa,la⟩:=Zc (σ:=σ) hK h;obtain⟨L,hL⟩:=la _ K.big;have hw:=K.wide;refine⟨.string (keyBytes L),?_⟩;unfold keyOf;split
 ·rw[if_pos (by rw[K.key,fa];rfl),hL];rfl
 ·rw[if_pos (by rw[K.key,fa];rfl),hL];rfl
 ·rename_i h1 h2;split at hw
  ·rename_i hu;exact absurd hu (h1 _ _)
  ·rename_i hu;exact absurd hu (h2 _)
  ·cases hw
theorem xi {kt:TypeId} {l:List AV} (hK:∀t,kty t=true->Ek P t) (h:Di P kty kt (.agg l)=true):KeyLaw P kt:=by
 obtain⟨K,_⟩:=Zc (σ:=fun _=>(0,0)) hK h;exact deep_law (by omega) K.at6 K.tiled K.wide
theorem KH {kt:TypeId} {l:List AV} {q:IntKind} (hK:∀t,kty t=true->Ek P t) (h:Di P kty kt (.agg l)=true) (hu:P.underlying kt=some (.int q)):False:=by
 obtain⟨K,_⟩:=Zc (σ:=fun _=>(0,0)) hK h;have:=K.wide;rw[hu]at this;cases this
theorem c1V {kt:TypeId} (hK:∀t,kty t=true->Ek P t) (h:Di P kty kt v=true) (b:Bool) (w:World):(Instr.checkKey b 10000 kt (rz σ v)).run P w= .ok () w:=by
 rcases Zd hK h with⟨l,rfl⟩|⟨q,n,rfl,hu⟩
 ·obtain⟨lx,hlx⟩:=ir (σ:=σ) hK h;exact(xi hK h).check w b hlx
 ·rw[rz];exact Ui hu b w
theorem c1W {kt:TypeId} (hK:∀t,kty t=true->Ek P t) (h:Di P kty kt v=true) (w:World):(Instr.keyThatStays (rz σ v) (rz σ v)).run P w= .ok (rz σ v) w:=by
 rcases Zd hK h with⟨l,rfl⟩|⟨q,n,rfl,hu⟩
 ·obtain⟨lx,hlx⟩:=ir (σ:=σ) hK h;exact(xi hK h).stays w hlx
 ·simp[rz,Instr.keyThatStays,Instr.sameBits]
theorem iu {q:IntKind} {n:Int}:∀(E:List MapEntry) (i:Nat),(∀e∈E,∃b,e.key= .int q b)->(Instr.findNow (.int q) (.int q n) E i=some none/\∀e∈E,e.key≠ .int q n)\/∃j e,Instr.findNow (.int q) (.int q n) E i=some (some (i+j,e.val))/\E[j]? =some e/\e.key= .int q n
 |[],i,_=> .inl ⟨rfl,fun e he=>absurd he (by simp)⟩
 |e::r,i,h=>by
  obtain⟨b,hb⟩:=h e (by simp);by_cases hn:n=b
  ·subst hn;exact .inr ⟨0,e,by simp[Instr.findNow,Instr.sameNow,hb],rfl,hb⟩
  ·have hbe:(n==b)=false:=by simp[hn]
   rcases iu (n:=n) r (i+1) (fun e he=>h e (by simp[he]))with⟨h1,h2⟩|⟨j,e',h1,h2,h3⟩
   ·refine .inl ⟨by simp[Instr.findNow,Instr.sameNow,hb,hbe,h1],fun e' he=> ?_⟩;rcases aL.1 he with rfl|he
    ·rw[hb];intro h;injection h with _ h;exact hn h.symm
    ·exact h2 e' he
   ·exact .inr ⟨j+1,e',by simp[Instr.findNow,Instr.sameNow,hb,hbe,h1];omega,by simpa using h2,h3⟩
theorem c7b {kt:TypeId} {key:AV} (hK:∀t,kty t=true->Ek P t) (hk:Di P kty kt key=true) (E:List MapEntry) (hE:∀e∈E,∃a,e.key=rz σ a/\Di P kty kt a=true) (w:World):
  ((Instr.findKey kt (rz σ key) E).run P w= .ok none w/\∀e∈E,e.key≠rz σ key)\/∃j e,(Instr.findKey kt (rz σ key) E).run P w= .ok (some (j,e.val)) w/\E[j]? =some e/\e.key=rz σ key:=by
 rcases Zd hK hk with⟨l,rfl⟩|⟨q,n,rfl,hu⟩
 ·obtain⟨lx,hlx⟩:=ir (σ:=σ) hK hk;refine(xi hK hk).find w hlx E fun e he=> ?_;obtain⟨a,ha,hb⟩:=hE e he;rcases Zd hK hb with⟨m,rfl⟩|⟨q,n,rfl,hu⟩
  ·rw[ha];exact ir hK hb
  ·exact(KH hK hk hu).elim
 ·rw[rz];have run:∀r,Instr.findNow (.int q) (.int q n) E 0=some r->(Instr.findKey kt (.int q n) E).run P w= .ok r w:=fun r hr=>by
   simp only[Instr.findKey,aG,run_underlying hu,aE,hr,aT]
  rcases iu (q:=q) (n:=n) E 0 (fun e he=>by
   obtain⟨a,ha,hb⟩:=hE e he;rcases Zd hK hb with⟨m,rfl⟩|⟨q',n',rfl,hu'⟩
   ·exact(KH hK hb hu).elim
   ·rw[hu]at hu';cases hu';exact⟨n',by rw[ha,rz]⟩)with⟨h1,h2⟩|⟨j,e,h1,h2,h3⟩
  ·exact .inl ⟨run _ h1,h2⟩
  ·exact .inr ⟨j,e,by rw[run _ h1,bM],h2,h3⟩
end
end Go.RZ
/- Concrete runs: iterations over maps, append, copy; all operations with effects. -/
namespace Go.RZ
open Go.RowKit Go.RX Go.GS Go.WideMaps
section
variable {P:Program} {kty:TypeId->Bool} {σ:Rl} {wm:Nat} {H0 H:PH} {o:Oper} {vs:List AV} {x y:Operand} {v:AV}
theorem c7c (seen:List Nat) (b:Nat):seen.toArray.contains b=seen.any (eG b):=by
 rw[bH,List.any_eq_true];simp
theorem c1X {w:World} {r m since last clock:Nat} {seen:List Nat} {E:List MapEntry} {ty:TypeId} (hr:w.heap[r]? =some (.mapIter (some m) since seen.toArray last)) (hm:w.heap[m]? =some (.map E.toArray clock))
  (a1k:∀e∈E.filter (fun e=> !seen.any (eG e.born)),e.born<since) (a1l:seen=[]\/E=[]\/∃e∈E,e.born<last):
  (E.filter (fun e=> !seen.any (eG e.born))=[]/\(Instr.next (.pointer (some ⟨r,0,none⟩)) false ty).run P w= .ok (.tuple #[.bool false]) w)\/
  ∃e∈E.filter (fun e=> !seen.any (eG e.born)),∃w1:World,Ext w w1/\w1.heap=w.heap/\(Instr.next (.pointer (some ⟨r,0,none⟩)) false ty).run P w= .ok (.tuple #[.bool true,e.key,e.val]) {w1 with heap:=w1.heap.setIfInBounds r (.mapIter (some m) since (seen++[e.born]).toArray clock)}:=by
 have xJ:(getObj r).run P w= .ok (.mapIter (some m) since seen.toArray last) w:=by simp[getObj,Sem.run,hr]
 have qA:(!seen.toArray.isEmpty&& !E.toArray.isEmpty&&E.toArray.all fun e=>decide (e.born≥last))=false:=by
  rcases a1l with rfl|rfl|⟨e,he,pO⟩
  ·simp
  ·simp
  ·have:(E.toArray.all fun e=>decide (e.born≥last))=false:=by
    rw[Bool.eq_false_iff];intro h;rw[List.all_toArray,dJ]at h;have:=h e he;simp only[decide_eq_true_eq]at this;omega
   rw[this];simp
 have a5k:E.toArray.filter (fun e=> !seen.toArray.contains e.born)=(E.filter (fun e=> !seen.any (eG e.born))).toArray:=by
  rw[<-eZ,Array.toList_filter];simp only[c7c]
 unfold Instr.next;simp only[aG,xJ,aE,Iu hm,qA,cN,if_false];rw[a5k];generalize hL:E.filter (fun e=> !seen.any (eG e.born))=L at a1k⊢;have e1:L.toArray.filter (fun x=>decide (x.born<since))=L.toArray:=Array.filter_eq_self.2 (fun x hx=>by simpa using a1k x (by simpa using hx));have e2:L.toArray.filter (fun x=>decide (x.born≥since))= #[]:=by
  rw[Array.filter_eq_empty_iff];intro x hx;have:=a1k x (by simpa using hx);simp;omega
 simp only[e1,e2,Array.append_empty];cases L with
 |nil=>
  left;refine⟨rfl,?_⟩;simp[choose,Sem.run,Question.forced]
 |cons a L=>
  right;have hch:∃(j:Nat) (w1:World),j<(a::L).toArray.size/\Ext w w1/\w1.heap=w.heap/\(choose (Question.mapNext (a::L).toArray.size)).run P w= .ok j w1:=by
   by_cases hf:(a::L).toArray.size<=1
   ·exact⟨0,w,by simp,Ext.refl _,rfl,by
     have:L=[]:=by cases L with|nil=>rfl|cons _ _=>simp at hf
     subst this;simp[choose,Sem.run,Question.forced]⟩
   ·refine⟨w.tape w.drawn (Question.mapNext (a::L).toArray.size)%(a::L).toArray.size,w.drew,Nat.mod_lt _ (by simp),⟨rfl,rfl,rfl,aN _,fun _ _=>rfl,nD _⟩,rfl,?_⟩
    ·simp only[choose,Sem.run,Question.forced,decide_eq_true_eq,hf,if_false,Question.cut];rfl
  obtain⟨j,w1,hj,hx,hh,pQ⟩:=hch;have rG:j<(a::L).length:=by simpa using hj
  refine⟨(a::L)[j],List.getElem_mem rG,w1,hx,hh,?_⟩;have xU:∀ob':Obj,(setObj r ob').run P w1= .ok () {w1 with heap:=w1.heap.setIfInBounds r ob'}:=fun ob'=>by
   simp[setObj,Sem.run,hh,hr]
  simp only[List.isEmpty_toArray,List.isEmpty_cons,cN,if_false,Array.empty_append,Array.size_map,pQ,aE,Array.getElem?_map,Array.getElem?_eq_getElem hj,Option.map_some,aG,xU,aT];simp
end
end Go.RZ
/- Concrete runs: the evaluator is sound. -/
namespace Go.RZ
open Go.RowKit Go.RX Go.GS
theorem opn_callw {P:Program} {H:PH} {o:Oper} {x:Operand} {f:FuncId} {az:Array Operand} {tys:Array TypeId} {bs caps:Array Value} {vs ws:List Value} {V:Value->PH->Prop} (ho:o.op= .call ⟨.value x,az,tys⟩) (hx:g9 (x::az.toList) vs x= .func (.func f) bs caps) (vA:az.toList.map (g9 (x::az.toList) vs)=ws) (hf:Au P f=true)
  (hc:Con P f (bs.toList++(ws++caps.toList)) H V):Opn P o vs H V:=fun w hw=>by
 have ha:az.map (g9 (x::az.toList) vs)=ws.toArray:=by rw[<-eZ,Array.toList_map];exact vA
 have pZ:o.op.operands.toList=x::az.toList:=by simp[ho,Op.operands,Call.operands]
 have hr:(execOp (g9 (x::az.toList) vs) o).run P w= .ok (.enter f (bs.toList++(ws++caps.toList)).toArray) w:=by
  simp only[execOp,ho,resolve,hx,ha,Deferred.ofValue,aG,aT,aE,invoke];rw[er hf];congr 2;simp
 unfold Stp;rw[pZ,hr];exact(hc w hw).mono fun e w' ⟨v,H',he,hs,hV⟩=>⟨v,he,H',hs,hV⟩
end Go.RZ

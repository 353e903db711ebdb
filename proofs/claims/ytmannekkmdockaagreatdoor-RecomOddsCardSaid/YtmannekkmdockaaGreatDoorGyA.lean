/- Lemmas of the proof. -/
import Derived.DeepKeys3
import Derived.Test.YtmannekkmdockaaGreatDoorGaD
open Array renaming all_eq_true_iff_forall_mem->kN,range->jY
open Go.Result renaming andThen_ok->eH
open Go.Sem renaming run_bind->eI,run_pure->eJ
open Go.Value.int renaming injEq->kS
open List renaming cons->kY,map_toArray->gY,pairwise_cons->fG,range->eP,takeWhile_append_dropWhile->kP
open List.Perm renaming eq_of_pairwise->oY
open Nat renaming beq->gK,blt->mI,blt_eq->pO,le_succ->nS
namespace Go.RX
open RowKit
section
variable {P:Program} {T e:TypeId} {sz:Nat} {ag:Bool} {α:Type} {ce:α->List Value} {ve:α->Value} (E:El P T e sz ag ce ve)
variable {G:Value->PH->Prop} {nx:List (List Value->PH->Prop)} {ρ:List Value} {H:PH} {o:Oper} {x y:Operand} {id i:Nat} {args:List SV} {t:Tree} {v u:Value} {l l2:List α} {a:α} {pf:Bool} {vs:List Value}
include E
theorem LW (ho:o.op= .buildSlice T 0 #[]) (ha:args.map (D P ρ)=[])
  (n:∀b,H b=none->den P G t nx (ρ++[.slice (some ⟨b,0,none⟩) 0 0]) (H.put b (.cells #[] e (0,0)))):den P G (.mk id i o args t) nx ρ H:=by
 obtain⟨ti,zv,h1,h2,h3,h4,h5⟩:=E.inf;refine⟨fun b=> .slice (some ⟨b,0,none⟩) 0 0,.cells #[] e (0,0),fun w=> ?_,n⟩;have hr:(Instr.buildSlice T 0 #[]).run P w= .ok (.slice (some ⟨w.heap.size,0,none⟩) 0 0) (w.alloc (.cells #[] e)):=by
  simp[Instr.buildSlice,run_underlying E.und,sizeOf,typeInfo,h1,newRow,Instr.fill,Array.range_zero']
 simp only[execOp,ho,eI,hr,eH,eJ,Array.map_empty]
theorem Ve (ho:o.op= .buildSlice T 1 #[(0,x)]) (hx:g8 [x] [ve a] x=ve a) (ha:args.map (D P ρ)=[ve a])
  (n:∀b,H b=none->den P G t nx (ρ++[.slice (some ⟨b,0,none⟩) 1 1]) (H.put b (.cells (ce a).toArray e (0,0)))):den P G (.mk id i o args t) nx ρ H:=by
 obtain⟨ti,zv,h1,h2,h3,h4,h5⟩:=E.inf;have rO:=E.pos;have vC:=E.small;refine⟨fun b=> .slice (some ⟨b,0,none⟩) 1 1,.cells (ce a).toArray e (0,0),fun w=> ?_,n⟩;have qK:o.op.operands.toList=[x]:=by simp[ho,Op.operands]
 have hf:Instr.fill (fun j=>some (j*ti.size,ti.size)) ((jY (1*ti.size)).map (zv.cells[· %zv.cells.size]!)) [(0,ve a)]=some (ce a).toArray:=by
  rw[h3,Xq _ _ _ fun p hp=> ?_]
  ·have:=ya E.len E.cells [a] 0 ((jY (1*sz)).map (zv.cells[· %zv.cells.size]!));simp only[List.zipIdx_cons,List.zipIdx_nil,aN,bJ]at this;rw[this,cD,fi (by rw[Kq E.len];simp)];simp
  ·simp only[aL]at hp;subst hp;exact⟨0*sz,sz,rfl,(E.vcells a).1,aD⟩
 have hr:=run_buildSlice (P:=P) w T e 1 (#[((0:Nat),x)].map fun(j,x')=>(j,g8 [x] [ve a] x')) (ce a).toArray ti zv E.und h1 h2 (by rw[h3];omega) (by rw[h3];omega) (by simpa[hx]using hf);rw[qK,ha];simp only[execOp,ho,eI,hr,eH,eJ]
end
section
variable {P:Program} {H:PH} {o:Oper} {x y:Operand} {vs:List Value}
theorem b5K {t e:TypeId} {i:TypeInfo} {z:Value} {sz n m g:Nat} {cur:Array Value} {T':TypeId} {fz:Nat×Nat} {u:Value} {xs news:List Value} (ho:o.op= .call ⟨.builtin .append,#[x,y],#[t,t]⟩) (hx:g8 [x,y] vs x= .slice (some ⟨g,0,none⟩) n n) (hy:g8 [x,y] vs y=u)
  (hu:P.underlying t=some (.slice e)) (hi:P.info? e=some i) (hz:i.zero=some z) (rR:i.size=sz) (hzs:z.cells.size=sz) (hg:H g=some (.cells cur T' fz)) (uX:xs.length=n*sz) (yE:cur.toList.take (n*sz)=xs) (hs:Sl H sz u m news) (hm:0<m) (zM:n+m<=maxLen) (sK:(n+m)*i.bytes<=140737488355328):
  Opn P o vs H fun v' H'=>Pl H H'/\OwS H H' e sz v' (n+m) (xs++news):=fun w hw=>by
 have qK:o.op.operands.toList=[x,y]:=by simp[ho,Op.operands,Call.operands]
 obtain⟨hl,a,c,rQ,hmc,uC,hs⟩:=hs;obtain⟨b,q,cs,T,fz',ha,hb,hn⟩:=hs.resolve_left aA;subst ha;have tO:=Ug (hw _ _ hb) hn;have a4o:n+m<=9223372036854775807:=by simp only[maxLen]at zM;omega
 have qD:(xs++news).length=(n+m)*sz:=by rw[aM,uX,hl,cK]
 have grown:∀(old:Nat) (w':World),w'=w.drew.alloc (.cells (xs.toArray++news.toArray++Builtin.zeroCells z.cells (grownCap w (n+m) old e-(n+m))) e)->
   Step H w (H.put w.heap.size (.cells (xs.toArray++news.toArray++Builtin.zeroCells z.cells (grownCap w (n+m) old e-(n+m))) e (0,0))) w'/\
   OwS H (H.put w.heap.size (.cells (xs.toArray++news.toArray++Builtin.zeroCells z.cells (grownCap w (n+m) old e-(n+m))) e (0,0))) e sz (.slice (some ⟨w.heap.size,0,none⟩) (n+m) (grownCap w (n+m) old e)) (n+m) (xs++news):=fun old w' rP=>by
  have wB:=grownCap_ge w (n+m) old e;have uC:grownCap w (n+m) old e<=maxLen:=grownCap_le_maxLen w (n+m) old e zM;subst rP;constructor
  ·have hd:Ext w w.drew:=⟨rfl,rfl,rfl,aS _,fun _ _=>rfl,nS _⟩;exact(Step.of_ext hw hd).trans (Step.newB (hw.ext hd) _)
  ·refine⟨qD,.inr ⟨w.heap.size,_,_,rfl,hw.fresh,PH.put_self _ _ _,wB,uC,?_,?_⟩⟩
   ·simp only[Array.size_append,List.size_toArray,size_zeroCells,hzs,uX,hl,<-cK];congr 1;omega
   ·simp only[Array.toList_append,bH];rw[<-bH,<-qD];exact List.take_left
 unfold Stp;rw[qK];simp only[execOp,ho,resolve,invoke,eI,eJ,eH,gY,aN,bJ,hx,hy,rQ,builtin];have holds:∀j u,xs[j]? =some u->w.cell? ((⟨g,0,none⟩:Addr).add j)=some u:=Ug (n:=n*sz) (hw _ _ hg) (by rw[cH];exact yE);have hr:=run_append_grow (P:=P) w t o.type e i z hu hi hz ⟨g,0,none⟩ n n xs (by rw[rR];exact uX) holds ⟨b,q,none⟩ m c news (by rw[rR];exact hl) tO aA aA (growslice_fits aA sK);have yV:=grown n _ rfl;rw[hr];exact⟨_,yV.1,PH.le_put hw.fresh _,yV.2⟩
end
section
variable {P:Program} {T e:TypeId} {sz:Nat} {ag:Bool} {α:Type} {ce:α->List Value} {ve:α->Value} (E:El P T e sz ag ce ve)
variable {G:Value->PH->Prop} {nx:List (List Value->PH->Prop)} {ρ:List Value} {H:PH} {o:Oper} {x y:Operand} {id i:Nat} {args:List SV} {t:Tree} {v u:Value} {l l2:List α} {a:α} {pf:Bool} {b:Nat} {fz:Nat×Nat} {T':TypeId}
include E
theorem LX (ho:o.op= .call ⟨.builtin .append,#[x,y],#[T,T]⟩) (hx:g8 [x,y] [.slice (some ⟨b,0,none⟩) 0 0,u] x= .slice (some ⟨b,0,none⟩) 0 0) (hy:g8 [x,y] [.slice (some ⟨b,0,none⟩) 0 0,u] y=u) (hb:H b=some (.cells #[] e (0,0))) (h2:SE H sz ce u l2) (qD:l2.length<=68719476736)
  (ha:args.map (D P ρ)=[.slice (some ⟨b,0,none⟩) 0 0,u]) (n:∀v' H',Pl H H'->SE H' sz ce v' l2->(∀H0,Pl H0 H->H0 b=none->SO H0 H' e sz ce v' l2)->den P G t nx (ρ++[v']) H'):den P G (.eff pf id i o args t) nx ρ H:=by
 obtain⟨ti,zv,h1,h3,h4,h5,h6⟩:=E.inf;have a2w:∀H0,H0 b=none->SO H0 H e sz ce (.slice (some ⟨b,0,none⟩) 0 0) ([]:List α):=fun H0 h0=>⟨aD,.inr ⟨b,0,#[],rfl,h0,hb,aS _,by simp[maxLen],aD,aD⟩⟩;by_cases hm:0<l2.length
 ·refine t7 (b5K (n:=0) (xs:=[]) ho hx hy E.und h1 h3 h4 h5 hb aD aD h2 hm (by simp only[maxLen];omega) (by rw[bK];have:=bU qD h6;omega)) ha ?_;rintro v' H' ⟨hl,yM⟩;simp only[bK,cB]at yM;exact⟨fun _=>hl,n v' H' hl yM.sl fun H0 h0 sN=>OwS.less yM h0⟩
 ·have rN:l2=[]:=aI aA;subst rN;have zH:SE H sz ce (.slice (some ⟨b,0,none⟩) 0 0) ([]:List α):=⟨aD,_,_,rfl,aS _,by simp[maxLen],.inl rfl⟩;refine t7 (uz ho hx hy E.und h1 zH h2) ha ?_;rintro v' H' ⟨rfl,rfl⟩;exact⟨fun _=>Pl.refl _,n _ _ (Pl.refl _) zH fun H0 _ sN=>a2w H0 sN⟩
theorem LY {o1 o2 o3:Oper} {x y x2 x3:Operand} {id1 i1 id2 i2 id3 i3:Nat} {args1 args2 args3:List SV} {k:IntKind} {j m n:Nat} {e2:TypeId} {c:Value} (hT:Ar P e e2 n) (hm:m<n) (hc:(ce a)[m]? =some c) (sR:o1.op= .indexAddr T x y) (sS:o2.op= .indexAddr e x2 (.const (.int .i64 (m:Nat)))) (zA:o3.op= .load e2 x3) (hx:g8 [x,y] [v,.int k (j:Nat)] x=v) (hy:g8 [x,y] [v,.int k (j:Nat)] y= .int k (j:Nat))
  (rG:∀p,g8 [x2,.const (.int .i64 (m:Nat))] [p,.int .i64 (m:Nat)] x2=p) (xP:∀p,g8 [x2,.const (.int .i64 (m:Nat))] [p,.int .i64 (m:Nat)] (.const (.int .i64 (m:Nat)))= .int .i64 (m:Nat)) (vY:∀p,g8 [x3] [p] x3=p) (h:SE H sz ce v l) (hj:l[j]? =some a) (ha:args1.map (D P ρ)=[v,.int k (j:Nat)]) (rI:∀p,args2.map (D P (ρ++[p]))=[p,.int .i64 (m:Nat)]) (wP:∀p p',args3.map (D P (ρ++[p]++[p']))=[p'])
  (nn:∀p p',den P G t nx (ρ++[p]++[p']++[c]) H):den P G (.prim id1 i1 o1 args1 (.prim id2 i2 o2 args2 (.prim id3 i3 o3 args3 t))) nx ρ H:=by
 refine Yx E sR hx hy h hj ha fun p hp=> ?_;obtain⟨b,q,cs,T',fz,rfl,h2,h3,h4⟩:=hp;have pX:=(aH.1 hc).1;have hi:=(fx (P:=P) (len:=n) (e:=e2) (b:=b) (q:=q) sS (rG _) (xP _) hT.und hT.sc.has aA aA).rds H;rw[hT.sc.cel,aV,dN]at hi;refine j7 hi (rI _) ?_;refine Bn hT.sc zA (vY _) h2 ?_ (wP _ _) (nn _ _);rw[<-cT];rw[<-h4,dO pX,cS]at hc;exact hc
end
end Go.RX
namespace Go.RZ
open RowKit RX
noncomputable section
inductive AV where
 |int (k:IntKind) (n:Int)
 |bool (b:Bool)
 |ptr (k q:Nat)
 |nptr
 |sl (k q n c:Nat)
 |sg (k q n d:Nat)
 |nsl
 |mp (k:Nat)
 |nmp
 |fn (f:FuncId) (b c:List AV)
 |nfn
 |agg (l:List AV)
 |tup (l:List AV)
 deriving Inhabited
def len {α:Type} (l:List α):Nat:=List.rec (motive:=fun _=>Nat) 0 (fun _ _ n=>Nat.succ n) l
def ofS:Value->Option AV
 | .int k n=>some (.int k n)
 | .bool b=>some (.bool b)
 | .pointer none=>some .nptr
 | .slice none 0 0=>some .nsl
 | .map none=>some .nmp
 | .nilFunc=>some .nfn
 | .func (.func f) ⟨[]⟩ ⟨[]⟩=>some (.fn f [] [])
 |_=>none
def e1s:List Value->Option (List AV)
 |[]=>some []
 |x::r=>match ofS x,e1s r with|some a,some b=>some (a::b)|_,_=>none
def okI:IntKind->Int->Bool
 | .i64,.ofNat m=>mI m 9223372036854775808
 | .u64,.ofNat m=>mI m 18446744073709551616
 | .i64,.negSucc m=>mI m 9223372036854775808
 |_,_=>false
def eqI:Int->Int->Bool
 | .ofNat m,.ofNat n=>gK m n
 | .negSucc m,.negSucc n=>gK m n
 |_,_=>false
def ixN:Option AV->Option Nat
 |some (.int _ (.ofNat n))=>some n
 |_=>none
def e1G (ox:Option AV):Option AV:=match ox with
 |some (.bool b)=>some (.bool (not b))
 |_=>none
def isK (k l:IntKind):Bool:=k==l
def Ft:List AV->List AV->Bool
 |[],[]=>true
 | .int k a::r,.int l b::q=>isK k l&&eqI a b&&Ft r q
 | .bool a::r,.bool b::q=>(a==b)&&Ft r q
 |_,_=>false
def Gp (P:Program):Nat->TypeId->List AV->Bool
 |0,_,_=>false
 |d+1,t,l=>match P.underlying t with
  |some .bool=>match l with
   |[.bool _]=>true
   |_=>false
  |some (.int q)=>match l with
   |[.int k n]=>isK k q&&(okI k n||(Lit.int k n).wf)
   |_=>false
  |some (.array n e)=>gK (len l) (P.cellsOf t)&&(eP n).all fun i=>Gp P d e ((l.drop (Nat.mul i (P.cellsOf e))).take (P.cellsOf e))
  |some (.struct fs)=>gK (len l) (P.cellsOf t)&&fs.toList.all fun f=>Gp P d f.type ((l.drop f.offset).take (P.cellsOf f.type))
  |_=>false
def Dy (P:Program) (kty:TypeId->Bool) (kt:TypeId) (v:AV):Bool:=match v with
 | .agg l=>kty kt&&Gp P 6 kt l
 | .int k _=>match P.underlying kt with
  |some (.int q)=>isK k q
  |_=>false
 |_=>false
theorem yt {α:Type}:∀l:List α,len l=l.length
 |[]=>rfl
 |x::r=>by rw[aO,<-yt r];rfl
end
open Go.GS
abbrev Rl:=Nat->Nat×Nat
mutual
def rz (σ:Rl):AV->Value
 | .int k n=> .int k n
 | .bool b=> .bool b
 | .ptr k q=> .pointer (some ⟨(σ k).1,q,none⟩)
 | .nptr=> .pointer none
 | .sl k q n c=> .slice (some ⟨(σ k).1,q,none⟩) n c
 | .sg k q n d=> .slice (some ⟨(σ k).1,q,none⟩) n ((σ k).2-d)
 | .nsl=> .slice none 0 0
 | .mp k=> .map (some (σ k).1)
 | .nmp=> .map none
 | .fn f b c=> .func (.func f) (rzs σ b).toArray (rzs σ c).toArray
 | .nfn=> .nilFunc
 | .agg l=> .agg (rzs σ l).toArray
 | .tup l=> .tuple (rzs σ l).toArray
def rzs (σ:Rl):List AV->List Value
 |[]=>[]
 |x::r=>rz σ x::rzs σ r
end
theorem kw (σ:Rl):∀l,rzs σ l=l.map (rz σ)
 |[]=>by simp[rzs]
 |x::r=>by simp[rzs,kw σ r]
theorem yu (σ:Rl) (l:List AV):(rzs σ l).length=l.length:=by rw[kw,aX]
theorem LZ (σ:Rl) (l:List AV) (j:Nat):rzs σ (l.take j)=(rzs σ l).take j:=by simp[kw,List.map_take]
theorem MA (σ:Rl) (l:List AV) (j:Nat):rzs σ (l.drop j)=(rzs σ l).drop j:=by simp[kw,List.map_drop]
theorem yw {a b:Nat} (h:mI a b=true):a<b:=by simpa[pO]using h
theorem Pq {a b:Nat} (h:gK a b=true):a=b:=Nat.eq_of_beq_eq_true h
theorem MC (a b:Int):eqI a b=(a==b):=by
 rw[bC,beq_iff_eq];cases a<;>cases b<;>simp only[eqI,Nat.beq_eq]
 ·exact Int.ofNat_inj.symm
 ·exact⟨fun h=>(nomatch h),fun h=>(nomatch h)⟩
 ·exact⟨fun h=>(nomatch h),fun h=>(nomatch h)⟩
 ·exact⟨fun h=>by rw[h],fun h=>by injection h⟩
open Go.WideMaps
structure Fv (P:Program) (t:TypeId):Prop where
 at6:P.keyTypeAt 6 t=true
 tiled:P.tiled 6 t=true
 wide:(match P.underlying t with|some (.array _ _)|some (.struct _)=>true|_=>false)=true
 noguard:P.eqGuardType P.depth t=false
 key:P.keyType t=true
 big:6<=P.types.size+1
theorem yx {α β:Type} {f:α->Option β}:∀{l:List α},(∀x∈l,∃y,f x=some y)->∃ys,l.mapM f=some ys
 |[],_=>⟨[],rfl⟩
 |x::r,h=>by
  obtain⟨y,hy⟩:=h x aD;obtain⟨ys,hys⟩:=yx (l:=r) (f:=f) fun z hz=>h z (by simp[hz]);exact⟨y::ys,by simp[List.mapM_cons,hy,hys]⟩
theorem d7x {q:IntKind} {n:Int} (h:okI q n=true):(Lit.int q n).wf=true:=by
 unfold okI at h;split at h
 ·have:=yw h;simp[Lit.wf,IntKind.min,IntKind.max,IntKind.signed,IntKind.bits];omega
 ·have:=yw h;simp[Lit.wf,IntKind.min,IntKind.max,IntKind.signed,IntKind.bits];omega
 ·have:=yw h;simp[Lit.wf,IntKind.min,IntKind.max,IntKind.signed,IntKind.bits];omega
 ·cases h
theorem yy {P:Program} {σ:Rl}:∀(d:Nat) (t:TypeId) (l:List AV),P.keyTypeAt d t=true->Gp P d t l=true->∀D,d<=D->∃L,P.keyLits D t (rzs σ l)=some L
 |0,_,_,h,_,_,_=>by simp[Program.keyTypeAt]at h
 |d+1,t,l,hk,hf,D,hD=>by
  obtain⟨D,rfl⟩:∃E,D=E+1:=⟨D-1,aA⟩;unfold Program.keyTypeAt at hk;unfold Gp at hf;simp only[yt]at hf;unfold Program.keyLits;cases hu:P.underlying t with
  |none=>simp[hu]at hf
  |some kd=>
   rw[hu]at hk hf;cases kd<;>simp only[bZ]at hk hf
   case some.bool=>
    split at hf
    ·exact⟨_,rfl⟩
    ·cases hf
   case some.int q=>
    split at hf
    ·rename_i k n;simp only[bA,dB]at hf;have hk:k=q:=by simpa[isK]using hf.1
     subst hk;have hw:(Lit.int k n).wf=true:=hf.2.elim d7x id;exact⟨_,by simp only[rzs,rz];exact if_pos ⟨trivial,hw⟩⟩
    ·cases hf
   case some.array n e=>
    rw[bA]at hf;obtain⟨h1,h2⟩:=hf;have h1:=Pq h1;rw[dE]at h2;have:∃ys,(eP n).mapM (fun i=>P.keyLits D e (((rzs σ l).drop (i*P.cellsOf e)).take (P.cellsOf e)))=some ys:=by
     refine yx fun i hi=> ?_;obtain⟨L,hL⟩:=yy d e _ hk (h2 i hi) D aA;exact⟨L,by rw[<-hL,LZ,MA];rfl⟩
    obtain⟨ys,hys⟩:=this;exact⟨_,by simp only[yu,h1,if_true];rw[hys];rfl⟩
   case some.struct fs=>
    rw[bA]at hf;obtain⟨h1,h2⟩:=hf;have h1:=Pq h1;rw[dE]at h2;simp only[bA]at hk;have hn:=kN.1 hk.1.1;have:∃ys,fs.toList.mapM (fun f=>P.keyLits D f.type (((rzs σ l).drop f.offset).take (P.cellsOf f.type)))=some ys:=by
     refine yx fun f hi=> ?_;have hf:=hn f (Array.mem_toList_iff.1 hi);rw[bA]at hf;obtain⟨L,hL⟩:=yy d f.type _ hf.2 (h2 f hi) D aA;exact⟨L,by rw[<-hL,LZ,MA]⟩
    obtain⟨ys,hys⟩:=this;have rC:fs.all (·.name != "_")=true:=kN.2 fun f hf=>by
     have:=hn f hf;rw[bA]at this;exact this.1
    exact⟨_,by simp only[yu,h1];rw[if_pos ⟨trivial,rC⟩,hys];rfl⟩
theorem c8G {P:Program} {t:TypeId} {l:List AV} {d:Nat} (h:Gp P (d+1) t l=true) (hw:(match P.underlying t with|some (.array _ _)|some (.struct _)=>true|_=>false)=true):l.length=P.cellsOf t:=by
 unfold Gp at h;simp only[yt]at h;split at h
 ·rename_i hu;rw[hu]at hw;cases hw
 ·rename_i hu;rw[hu]at hw;cases hw
 ·rw[bA]at h;exact Pq h.1
 ·rw[bA]at h;exact Pq h.1
 ·cases h
def ib:AV->Prop
 | .int _ _=>True
 | .bool _=>True
 |_=>False
theorem e0g {σ:Rl}:∀{v:AV} {c:Lit},rz σ v=c.toCell->ib v:=by
 intro v c h;cases v<;>simp only[ib]<;>cases c<;>simp[rz,Lit.toCell]at h
theorem MD {σ:Rl}:∀{l:List AV} {L:List Lit},rzs σ l=L.map Lit.toCell->∀v∈l,ib v
 |[],_,_,v,hv=>by cases hv
 |x::r,[],h,_,_=>by simp[rzs]at h
 |x::r,c::L,h,v,hv=>by
  simp only[rzs,aN,kY.injEq]at h;rcases aP.1 hv with rfl|hv
  ·exact e0g h.1
  ·exact MD h.2 v hv
theorem ME {σ:Rl}:∀{a b:List AV},(∀v∈a,ib v)->(Ft a b=true↔rzs σ a=rzs σ b)
 |[],[],_=>by simp[Ft]
 |[],y::q,_=>by simp[Ft,rzs]
 |x::r,[],h=>by
  have:=h x aD;cases x<;>simp[ib,Ft,rzs]at*
 |x::r,y::q,h=>by
  have h1:=h x aD;have ih:=ME (σ:=σ) (a:=r) (b:=q) fun v hv=>h v (by simp[hv]);cases x<;>simp only[ib]at h1
  ·rename_i k n;cases y<;>simp only[Ft,rzs,rz,kY.injEq,bA,MC,beq_iff_eq,isK,kS,ih]<;>simp
  ·rename_i k;cases y<;>simp only[Ft,rzs,rz,kY.injEq,bA,beq_iff_eq,Value.bool.injEq,ih]<;>simp
section
variable {P:Program} {kty:TypeId->Bool}
theorem Zj {σ:Rl} {kt:TypeId} {l:List AV} (hK:∀t,kty t=true->Fv P t) (h:Dy P kty kt (.agg l)=true):Fv P kt/\(rz σ (.agg l)).formed P kt=true/\∀D,6<=D->∃L,P.keyLits D kt (rz σ (.agg l)).cells.toList=some L:=by
 simp only[Dy]at h;rw[bA]at h;have K:=hK _ h.1;refine⟨K,?_,fun D hD=> ?_⟩
 ·have hl:=c8G h.2 K.wide;have hw:=K.wide;simp only[rz,Value.formed];split<;>simp_all[yu]
 ·obtain⟨L,hL⟩:=yy (σ:=σ) 6 kt l K.at6 h.2 D hD;exact⟨L,by simp only[rz,Value.cells];simpa using hL⟩
theorem Zl {kt:TypeId} {v:AV} (hK:∀t,kty t=true->Fv P t) (h:Dy P kty kt v=true):(∃l,v= .agg l)\/∃q n,v= .int q n/\P.underlying kt=some (.int q):=by
 unfold Dy at h;split at h
 ·exact .inl ⟨_,rfl⟩
 ·split at h
  ·rename_i k n _ q hu;obtain rfl:k=q:=by simpa[isK]using h
   exact .inr ⟨_,_,rfl,hu⟩
  ·cases h
 ·cases h
theorem c8H {σ:Rl} {kt:TypeId} {a b:List AV} (hK:∀t,kty t=true->Fv P t) (ha:Dy P kty kt (.agg a)=true) (hb:Dy P kty kt (.agg b)=true) (w:World):
  (Op.equal kt (rz σ (.agg a)) (rz σ (.agg b))).run P w= .ok (Ft a b) w:=by
 obtain⟨K,fa,la⟩:=Zj (σ:=σ) hK ha;obtain⟨_,fb,lb⟩:=Zj (σ:=σ) hK hb;obtain⟨L,hL⟩:=la 6 (aS _);obtain⟨M,hM⟩:=lb 6 (aS _);obtain⟨r,hr,a5g⟩:=run_equalIn_deep (10000-6) 6 kt K.at6 w _ _ _ _ L M fa fb hL hM;have c1:=cells_of_lits 6 kt K.tiled _ _ _ hL;have c2:=cells_of_lits 6 kt K.tiled _ _ _ hM;have c1':rzs σ a=L.map Lit.toCell:=by simpa[rz,Value.cells]using c1
 have c2':rzs σ b=M.map Lit.toCell:=by simpa[rz,Value.cells]using c2
 have e:r=Ft a b:=by
  rw[bC,a5g,ME (MD c1')];constructor
  ·intro h;rw[c1',c2',h]
  ·intro h;have h2:=hL;simp only[rz,Value.cells,h]at h2;simp only[rz,Value.cells]at hM;rw[hM]at h2;exact(Option.some.inj h2).symm
 rw[<-e];exact hr
variable {σ:Rl} {wm:Nat} {H0 H:PH} {o:Oper} {vs:List AV} {x y:Operand} {v:AV}
theorem c8I {t a e r clock:TypeId} {es:Array MapEntry} {vs:List Value} (ho:o.op= .call ⟨.builtin .len,#[x],#[t]⟩) (hx:g8 [x] vs x= .map (some r)) (hu:P.underlying t=some (.map a e)) (hH:H r=some (.map es clock)):Rds P o vs H (.int .i64 es.size):=fun w hw=>by
 have qK:o.op.operands.toList=[x]:=by simp[ho,Op.operands,Call.operands]
 have hg:=Lp (P:=P) (hw _ _ hH);rw[qK];simp only[execOp,ho,resolve,invoke,eI,eJ,eH,gY,aN,bJ,hx,builtin];have hr:(Builtin.len_ #[t] o.type #[.map (some r)]).run P w= .ok (goInt es.size) w:=by
  simp[Builtin.len_,run_underlying hu,hg]
 rw[hr];rfl
end
section
variable {P:Program} {kty:TypeId->Bool} {σ:Rl} {wm:Nat} {H0 H:PH} {o:Oper} {vs:List AV} {x y:Operand} {v:AV}
theorem kx {kt:TypeId} {l:List AV} (hK:∀t,kty t=true->Fv P t) (h:Dy P kty kt (.agg l)=true):∃lx,keyOf P kt (rz σ (.agg l))=some lx:=by
 obtain⟨K,fa,la⟩:=Zj (σ:=σ) hK h;obtain⟨L,hL⟩:=la _ K.big;have hw:=K.wide;refine⟨.string (keyBytes L),?_⟩;unfold keyOf;split
 ·rw[if_pos (by rw[K.key,fa];rfl),hL];rfl
 ·rw[if_pos (by rw[K.key,fa];rfl),hL];rfl
 ·rename_i h1 h2;split at hw
  ·rename_i hu;exact absurd hu (h1 _ _)
  ·rename_i hu;exact absurd hu (h2 _)
  ·cases hw
theorem yz {kt:TypeId} {l:List AV} (hK:∀t,kty t=true->Fv P t) (h:Dy P kty kt (.agg l)=true):KeyLaw P kt:=by
 obtain⟨K,_⟩:=Zj (σ:=fun _=>(0,0)) hK h;exact deep_law aA K.at6 K.tiled K.wide
theorem MF {kt:TypeId} {l:List AV} {q:IntKind} (hK:∀t,kty t=true->Fv P t) (h:Dy P kty kt (.agg l)=true) (hu:P.underlying kt=some (.int q)):False:=by
 obtain⟨K,_⟩:=Zj (σ:=fun _=>(0,0)) hK h;have:=K.wide;rw[hu]at this;cases this
theorem c2S {kt:TypeId} (hK:∀t,kty t=true->Fv P t) (h:Dy P kty kt v=true) (b:Bool) (w:World):(Instr.checkKey b 10000 kt (rz σ v)).run P w= .ok () w:=by
 rcases Zl hK h with⟨l,rfl⟩|⟨q,n,rfl,hu⟩
 ·obtain⟨lx,hlx⟩:=kx (σ:=σ) hK h;exact(yz hK h).check w b hlx
 ·rw[rz];exact Ya hu b w
theorem c2T {kt:TypeId} (hK:∀t,kty t=true->Fv P t) (h:Dy P kty kt v=true) (w:World):(Instr.keyThatStays (rz σ v) (rz σ v)).run P w= .ok (rz σ v) w:=by
 rcases Zl hK h with⟨l,rfl⟩|⟨q,n,rfl,hu⟩
 ·obtain⟨lx,hlx⟩:=kx (σ:=σ) hK h;exact(yz hK h).stays w hlx
 ·simp[rz,Instr.keyThatStays,Instr.sameBits]
theorem ky {q:IntKind} {n:Int}:∀(E:List MapEntry) (i:Nat),(∀e∈E,∃b,e.key= .int q b)->(Instr.findNow (.int q) (.int q n) E i=some none/\∀e∈E,e.key≠ .int q n)\/∃j e,Instr.findNow (.int q) (.int q n) E i=some (some (i+j,e.val))/\E[j]? =some e/\e.key= .int q n
 |[],i,_=> .inl ⟨rfl,fun e he=>absurd he aD⟩
 |e::r,i,h=>by
  obtain⟨b,hb⟩:=h e aD;by_cases hn:n=b
  ·subst hn;exact .inr ⟨0,e,by simp[Instr.findNow,Instr.sameNow,hb],rfl,hb⟩
  ·have hbe:(n==b)=false:=by simp[hn]
   rcases ky (n:=n) r (i+1) (fun e he=>h e (by simp[he]))with⟨h1,h2⟩|⟨j,e',h1,h2,h3⟩
   ·refine .inl ⟨by simp[Instr.findNow,Instr.sameNow,hb,hbe,h1],fun e' he=> ?_⟩;rcases aP.1 he with rfl|he
    ·rw[hb];intro h;injection h with _ h;exact hn h.symm
    ·exact h2 e' he
   ·exact .inr ⟨j+1,e',by simp[Instr.findNow,Instr.sameNow,hb,hbe,h1];omega,by simpa using h2,h3⟩
theorem c8J {kt:TypeId} {key:AV} (hK:∀t,kty t=true->Fv P t) (hk:Dy P kty kt key=true) (E:List MapEntry) (hE:∀e∈E,∃a,e.key=rz σ a/\Dy P kty kt a=true) (w:World):
  ((Instr.findKey kt (rz σ key) E).run P w= .ok none w/\∀e∈E,e.key≠rz σ key)\/∃j e,(Instr.findKey kt (rz σ key) E).run P w= .ok (some (j,e.val)) w/\E[j]? =some e/\e.key=rz σ key:=by
 rcases Zl hK hk with⟨l,rfl⟩|⟨q,n,rfl,hu⟩
 ·obtain⟨lx,hlx⟩:=kx (σ:=σ) hK hk;refine(yz hK hk).find w hlx E fun e he=> ?_;obtain⟨a,ha,hb⟩:=hE e he;rcases Zl hK hb with⟨m,rfl⟩|⟨q,n,rfl,hu⟩
  ·rw[ha];exact kx hK hb
  ·exact(MF hK hk hu).elim
 ·rw[rz];have run:∀r,Instr.findNow (.int q) (.int q n) E 0=some r->(Instr.findKey kt (.int q n) E).run P w= .ok r w:=fun r hr=>by
   simp only[Instr.findKey,eI,run_underlying hu,eH,hr,eJ]
  rcases ky (q:=q) (n:=n) E 0 (fun e he=>by
   obtain⟨a,ha,hb⟩:=hE e he;rcases Zl hK hb with⟨m,rfl⟩|⟨q',n',rfl,hu'⟩
   ·exact(MF hK hb hu).elim
   ·rw[hu]at hu';cases hu';exact⟨n',by rw[ha,rz]⟩)with⟨h1,h2⟩|⟨j,e,h1,h2,h3⟩
  ·exact .inl ⟨run _ h1,h2⟩
  ·exact .inr ⟨j,e,by rw[run _ h1,bK],h2,h3⟩
end
section
variable {P:Program} {kty:TypeId->Bool} {σ:Rl} {wm:Nat} {H0 H:PH} {o:Oper} {vs:List AV} {x y:Operand} {v:AV}
theorem c8K (seen:List Nat) (b:Nat):seen.toArray.contains b=seen.any (gK b):=by
 rw[bC,List.any_eq_true];simp
theorem c2U {w:World} {r m since last clock:Nat} {seen:List Nat} {E:List MapEntry} {ty:TypeId} (hr:w.heap[r]? =some (.mapIter (some m) since seen.toArray last)) (hm:w.heap[m]? =some (.map E.toArray clock))
  (a1q:∀e∈E.filter (fun e=> !seen.any (gK e.born)),e.born<since) (a1r:seen=[]\/E=[]\/∃e∈E,e.born<last):
  (E.filter (fun e=> !seen.any (gK e.born))=[]/\(Instr.next (.pointer (some ⟨r,0,none⟩)) false ty).run P w= .ok (.tuple #[.bool false]) w)\/
  ∃e∈E.filter (fun e=> !seen.any (gK e.born)),∃w1:World,Ext w w1/\w1.heap=w.heap/\(Instr.next (.pointer (some ⟨r,0,none⟩)) false ty).run P w= .ok (.tuple #[.bool true,e.key,e.val]) {w1 with heap:=w1.heap.setIfInBounds r (.mapIter (some m) since (seen++[e.born]).toArray clock)}:=by
 have yV:(getObj r).run P w= .ok (.mapIter (some m) since seen.toArray last) w:=by simp[getObj,Sem.run,hr]
 have qI:(!seen.toArray.isEmpty&& !E.toArray.isEmpty&&E.toArray.all fun e=>decide (e.born≥last))=false:=by
  rcases a1r with rfl|rfl|⟨e,he,pX⟩
  ·simp
  ·simp
  ·have:(E.toArray.all fun e=>decide (e.born≥last))=false:=by
    rw[Bool.eq_false_iff];intro h;rw[List.all_toArray,dE]at h;have:=h e he;simp only[decide_eq_true_eq]at this;omega
   rw[this];simp
 have a5h:E.toArray.filter (fun e=> !seen.toArray.contains e.born)=(E.filter (fun e=> !seen.any (gK e.born))).toArray:=by
  rw[<-cI,Array.toList_filter];simp only[c8K]
 unfold Instr.next;simp only[eI,yV,eH,Lp hm,qI,bZ,if_false];rw[a5h];generalize hL:E.filter (fun e=> !seen.any (gK e.born))=L at a1q⊢;have e1:L.toArray.filter (fun x=>decide (x.born<since))=L.toArray:=Array.filter_eq_self.2 (fun x hx=>by simpa using a1q x (by simpa using hx));have e2:L.toArray.filter (fun x=>decide (x.born≥since))= #[]:=by
  rw[Array.filter_eq_empty_iff];intro x hx;have:=a1q x (by simpa using hx);simp;omega
 simp only[e1,e2,Array.append_empty];cases L with
 |nil=>
  left;refine⟨rfl,?_⟩;simp[choose,Sem.run,Question.forced]
 |cons a L=>
  right;have hch:∃(j:Nat) (w1:World),j<(a::L).toArray.size/\Ext w w1/\w1.heap=w.heap/\(choose (Question.mapNext (a::L).toArray.size)).run P w= .ok j w1:=by
   by_cases hf:(a::L).toArray.size<=1
   ·exact⟨0,w,aD,Ext.refl _,rfl,by
     have:L=[]:=by cases L with|nil=>rfl|cons _ _=>simp at hf
     subst this;simp[choose,Sem.run,Question.forced]⟩
   ·refine⟨w.tape w.drawn (Question.mapNext (a::L).toArray.size)%(a::L).toArray.size,w.drew,cO _ aD,⟨rfl,rfl,rfl,aS _,fun _ _=>rfl,nS _⟩,rfl,?_⟩
    ·simp only[choose,Sem.run,Question.forced,decide_eq_true_eq,hf,if_false,Question.cut];rfl
  obtain⟨j,w1,hj,hx,hh,pZ⟩:=hch;have sU:j<(a::L).length:=by simpa using hj
  refine⟨(a::L)[j],dS sU,w1,hx,hh,?_⟩;have zB:∀ob':Obj,(setObj r ob').run P w1= .ok () {w1 with heap:=w1.heap.setIfInBounds r ob'}:=fun ob'=>by
   simp[setObj,Sem.run,hh,hr]
  simp only[List.isEmpty_toArray,List.isEmpty_cons,bZ,if_false,Array.empty_append,Array.size_map,pZ,eH,Array.getElem?_map,dU hj,dF,eI,zB,eJ];simp
end
theorem opn_callw {P:Program} {H:PH} {o:Oper} {x:Operand} {f:FuncId} {az:Array Operand} {tys:Array TypeId} {bs caps:Array Value} {vs ws:List Value} {V:Value->PH->Prop} (ho:o.op= .call ⟨.value x,az,tys⟩) (hx:g8 (x::az.toList) vs x= .func (.func f) bs caps) (tI:az.toList.map (g8 (x::az.toList) vs)=ws) (hf:Da P f=true)
  (hc:Con P f (bs.toList++(ws++caps.toList)) H V):Opn P o vs H V:=fun w hw=>by
 have ha:az.map (g8 (x::az.toList) vs)=ws.toArray:=by rw[<-cI,Array.toList_map];exact tI
 have qK:o.op.operands.toList=x::az.toList:=by simp[ho,Op.operands,Call.operands]
 have hr:(execOp (g8 (x::az.toList) vs) o).run P w= .ok (.enter f (bs.toList++(ws++caps.toList)).toArray) w:=by
  simp only[execOp,ho,resolve,hx,ha,Deferred.ofValue,eI,eJ,eH,invoke];rw[fj hf];congr 2;simp
 unfold Stp;rw[qK,hr];exact(hc w hw).mono fun e w' ⟨v,H',he,hs,hV⟩=>⟨v,he,H',hs,hV⟩
end Go.RZ
namespace Go.Z
open Proofs.Tryz RowKit RX GS
section
variable {H:PH} {b s:Nat} {T:TypeId}
theorem d7y {G:Value->PH->Prop} {nx:List (List Value->PH->Prop)} {ρ:List Value} {t:Tree} {id i:Nat} {o:Oper} {x:Operand} {args:List SV} {ad:Addr} (ho:o.op= .nilCheck x) (hx:g8 [x] [.pointer (some ad)] x= .pointer (some ad)) (ha:args.map (D prog ρ)=[.pointer (some ad)]) (n:den prog G t nx (ρ++[.pointer (some ad)]) H):den prog G (.prim id i o args t) nx ρ H:=
 j7 ((C8 ho hx).rds H) ha n
theorem d7z {G:Value->PH->Prop} {nx:List (List Value->PH->Prop)} {ρ:List Value} {t:Tree} {id i:Nat} {o:Oper} {x:Operand} {args:List SV} {ad:Addr} (n:den prog G t nx (ρ++[.pointer (some ad)]) H) (ho:o.op= .nilCheck x:=by exact rfl) (ha:args.map (D prog ρ)=[.pointer (some ad)]:=by exact rfl) (hx:g8 [x] [.pointer (some ad)] x= .pointer (some ad):=by exact rfl):den prog G (.prim id i o args t) nx ρ H:=d7y ho hx ha n
end
def j9 (H:PH) (b:Nat):PH:=fun k=>if k=b then none else H k
section
variable {H:PH} {b s n:Nat} {Ts:TypeId}
theorem e0h:r8 prog 43=ii 0:=aB
end
def chV (s:Nat):Value:= .agg #[uv s]
theorem MG:r8 prog 63=chV 0:=aB
section
variable {H:PH} {s:Nat} {z:Int}
theorem d3I (s:Nat):(chV s).cells.size=1/\o0 (chV s).cells:=⟨rfl,fun c hc=>by simp[chV,Value.cells]at hc;subst hc;rfl⟩
end
set_option maxRecDepth 100000
theorem c8L:tree prog [] [] [⟨0,2,[],[]⟩] [] 50=some (.pm f50 1 1 [V0]
(.loop [(.ki 0),(.ki 0)]
(.ri V4
(.ri V2
(.br (.io .lss V4 V2)
(.pm f50 3 1 [V0,V4]
(.pm f50 3 2 [V5]
(.pm f50 4 2 [V1]
(.ri V7
(.br (.io .geq V4 V7) (.ret [(.ki 1)])
(.pm f50 6 2 [V1,V4]
(.pm f50 6 3 [V8]
(.cf 93 [V6,V9]
(.ri V10
(.br (.io .neq V10 (.ki 0)) (.ret [V10]) (.next 0 [V3,(.io .add V4 (.ki 1))])))))))))))
(.pm f50 11 1 [V0]
(.pm f50 11 3 [V1]
(.ri V5
(.ri V6
(.br (.io .lss V5 V6) (.ret [(kI (-1))]) (.ret [(.ki 0)]))))))))))):=aB
theorem d3J:tree prog [] [] [⟨0,4,[],[]⟩] [⟨6,[0,0,3,7,0,0,48,112,255],[0,0,1,1,0,0,1,1,1],[0,0,0,0,0,0,0,0,0],[0,1,2,3,4,5,6,7,8],[]⟩] 15=some (.pm f15 1 1 [V0]
(.pm f15 1 3 [V1]
(.ri V2
(.ri V3
(.br (.io .neq V2 V3) (.ret [kF])
(.pm f15 3 1 [V0]
(.loop [kF,(.ki 0)]
(.ri V6
(.ri V4
(.br (.io .lss V6 V4)
(.pm f15 6 2 [V0,V6]
(.pm f15 6 3 [V7]
(.pm f15 6 6 [V1,V6]
(.pm f15 6 7 [V9]
(.pm f15 6 8 [V8,V10]
(.rb V11
(.br V11
(.ret [kF]) (.next 0 [V5,(.io .add V6 (.ki 1))])))))))) (.ret [kT]))))))))))):=aB
end Go.Z
namespace Go.GS
theorem c2V {l m:List Int} (h1:l.Pairwise (· <= ·)) (h2:m.Pairwise (· <= ·)) (h:l.Perm m):l=m:=
 oY (le:=(· <= ·)) (fun a b _ _ h3 h4=>aA) h1 h2 h
def Vf (l:List Int) (x:Int):List Int:=(l.takeWhile fun y=>decide (y<=x))++x::l.dropWhile fun y=>decide (y<=x)
theorem c2W (l:List Int) (x:Int):(Vf l x).Perm (l++[x]):=by
 unfold Vf;refine List.perm_middle.trans ?_;rw[kP];exact(List.perm_append_comm (l₁:=[x]) (l₂:=l))
theorem MH {p:Int->Bool}:∀{l:List Int} {y:Int} {r:List Int},l.dropWhile p=y::r->p y=false
 |z::l,y,r,h=>by
  rw[List.dropWhile_cons]at h;split at h
  ·exact MH h
  ·rename_i hz;simp only[kY.injEq]at h;rw[<-h.1];simpa using hz
theorem d3K {l:List Int} {x:Int} (h:l.Pairwise (· <= ·)):(Vf l x).Pairwise (· <= ·):=by
 unfold Vf;have hs:l.takeWhile (fun y=>decide (y<=x))++l.dropWhile (fun y=>decide (y<=x))=l:=kP;rw[<-hs]at h;obtain⟨h1,h2,h3⟩:=dW.1 h;have ht:∀a∈l.takeWhile (fun y=>decide (y<=x)),a<=x:=fun a ha=>by
  have:=List.all_takeWhile (p:=fun y=>decide (y<=x)) (l:=l);exact oDt (dE.1 this a ha)
 have hd:∀b∈l.dropWhile (fun y=>decide (y<=x)),x<=b:=fun b hb=>by
  generalize hr:l.dropWhile (fun y=>decide (y<=x))=r at hb h2;cases r with
  |nil=>cases hb
  |cons z r=>
   have hz:=oDf (MH hr);rcases aP.1 hb with rfl|hb
   ·omega
   ·have:=(fG.1 h2).1 b hb;omega
 refine dW.2 ⟨h1,fG.2 ⟨hd,h2⟩,fun a ha b hb=> ?_⟩;rcases aP.1 hb with rfl|hb
 ·exact ht a ha
 ·exact h3 a ha b hb
end Go.GS
namespace Go.RZ
open RowKit RX
theorem d3L {P:Program} {o:Oper} {x y:Operand} {T u:TypeId} {vs:List Value} {a b:List AV} {H:PH} (hk:Fv P T) (ha:Gp P 6 T a=true) (hb:Gp P 6 T b=true) (ho:o.op= .binOp .neq T x y u) (hx:g8 [x,y] vs x=rz (fun _=>(0,0)) (.agg a)) (hy:g8 [x,y] vs y=rz (fun _=>(0,0)) (.agg b)):Rds P o vs H (.bool (!Ft a b)):=fun w _=>by
 have qK:o.op.operands.toList=[x,y]:=by simp[ho,Op.operands]
 have hK:∀t,(fun t=>gK t T) t=true->Fv P t:=fun t ht=>by rw[Pq ht];exact hk
 have h1:Dy P (fun t=>gK t T) T (.agg a)=true:=by simp[Dy,ha]
 have h2:Dy P (fun t=>gK t T) T (.agg b)=true:=by simp[Dy,hb]
 have he:=c8H (σ:=fun _=>(0,0)) hK h1 h2 w;rw[qK];simp only[execOp,ho,hx,hy,eI];simp only[rz]at he⊢;simp[eqGuard,hk.noguard,binOp,he]
end Go.RZ
namespace Go.GS
open RowKit RX
theorem d7B {P:Program} {ρ:List Value} {a:SV} {k:Nat} (ha:D P ρ a=ii ((k+1:Nat):Int)) (h:k<9223372036854775807):D P ρ (.op2 .sub .i64 a (.k (.int .i64 1)))=ii (k:Nat):=by
 have:=Ks (P:=P) (ρ:=ρ) (a:=a) (b:= .k (.int .i64 1)) ha (y:=1) rfl aA aA;rw[this];show ii _=ii _;congr 1;omega
end Go.GS
namespace Go.Z
open Proofs.Tryz RowKit RX GS RZ
theorem d3M {n:Nat} (h:n<9223372036854775808) (d:Nat):Gp prog (d+1) 3 [.int .i64 (.ofNat n)]=true:=by
 have hu:prog.underlying 3=some (.int .i64):=aB;simp only[Gp,hu,okI];rw[show mI n 9223372036854775808=true from by rw[pO];exact h];rfl
section
variable {H H0:PH} {u v w:Value} {l:List Int} {n:Nat} {es:List (Nat×Nat)}
abbrev OI (H0 H:PH) (v:Value) (l:List Int):Prop:=SO H0 H 3 1 (fun z:Int=>[ii z]) v l
end
end Go.Z

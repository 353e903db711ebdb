/- Lemmas of the proof. -/
import Derived.Test.YtlmbepjdokomkaaGreatDoorGaH
import Derived.Ground.NamesProg
import Derived.Shelf.Strings.SlTrimAscii
open Bool renaming and_false->kY,and_true->jJ,not_eq_true'->kA
open List renaming any_eq_false->mM,getElem?_of_mem->lU,range'->gR,range->eT,replicate->eS,sum_cons->eY
open Nat renaming lt_trans->iK,or_zero->oL,two_pow_pos->iT
set_option linter.all false
set_option maxRecDepth 100000
namespace Go.GS
open RowKit RX
def d7q {P:Program} {ρ:List Value} {a b:SV} {A B:Nat} (ha:D P ρ a=ii (A:Nat)) (hb:D P ρ b=ii (B:Nat)) (hA:A<9223372036854775808) (hB:B<9223372036854775808):D P ρ (.op2 .and .i64 a b)=ii ((A&&&B:Nat):Int):=by
 show w9 .and .i64 (intOf (D P ρ a)) (intOf (D P ρ b))=_;rw[ha,hb];show Value.int .i64 (IntKind.i64.wrap ((BitVec.ofInt 64 (A:Int)&&&BitVec.ofInt 64 (B:Int)).toNat:Int))=Value.int .i64 _;have hm:∀{x:Nat},x<9223372036854775808->x<M64:=fun h=>iK h aC;rw[BitVec.toNat_and,Je (hm hA),Je (hm hB)];have:A&&&B<=A:=Nat.and_le_left;congr 1;rw[IntKind.wrap_i64];omega
def Yx {P:Program} {ρ:List Value} {b:SV} {n:Nat} (hb:D P ρ b=ii (n:Nat)) (hn:n<=12):D P ρ (.op2 .shl .i64 (.k (.int .i64 1)) b)=ii ((2^n:Nat):Int):=by
 show w9 .shl .i64 (intOf (D P ρ (.k (.int .i64 1)))) (intOf (D P ρ b))=_;rw[hb]
 match n,hn with
 |0,_=>rfl
 |1,_=>rfl
 |2,_=>rfl
 |3,_=>rfl
 |4,_=>rfl
 |5,_=>rfl
 |6,_=>rfl
 |7,_=>rfl
 |8,_=>rfl
 |9,_=>rfl
 |10,_=>rfl
 |11,_=>rfl
 |12,_=>rfl
def c1J {es:List (Nat×Nat)} {n set x c:Nat} (h:∀e∈es,e.1<e.2/\e.2<n) (hc:c<M64) (hx:bit c x=true) (hr:∀y,bit c y=true->Rch es set x y) (hk:∀y,bit c y=true->∀z,bit (nb es y) z=true->bit set z=true->bit c z=true):CL es set x c:=
 ⟨hc,fun y=>⟨hr y,fun hy=>by
  induction hy with
  |base=>exact hx
  |step _ ha hs ih=>exact hk _ ih _ ((gm h).2 ha) hs⟩⟩
def c7m {es:List (Nat×Nat)} {set x c:Nat} (h:CL es set x c) (hx:bit set x=true):c=set↔Cn es set:=by
 constructor
 ·intro e;exact⟨x,hx,fun y hy=>(h.2 y).1 (by rw[e];exact hy)⟩
 ·intro hC;refine Gu fun y=> ?_;rw[bS];exact⟨fun hy=>((h.2 y).1 hy).mem hx,fun hy=>(h.2 y).2 (hC.all hx hy)⟩
structure RI (es:List (Nat×Nat)) (S x R F:Nat):Prop where
 hr:R<M64
 hf:F<M64
 hx:bit R x=true
 rch:∀y,bit R y=true->Rch es S x y
 sub:∀y,bit F y=true->bit R y=true
 cl:∀y,bit R y=true->bit F y=false->∀z,bit (nb es y) z=true->bit S z=true->bit R z=true
def RI.start {es:List (Nat×Nat)} {S x:Nat} (hx:x<64):RI es S x (2^x) (2^x):=
 ⟨Df hx,Df hx,by rw[Bj];simp,fun y hy=>by rw[Bj]at hy;simp at hy;subst hy;exact .base,fun _ h=>h,fun y h1 h2=>by rw[h1]at h2;cases h2⟩
def yd {F i:Nat} {r:List Nat} (hF:F<M64) (h:els F=i::r) (y:Nat):bit (F&&&(F-1)) y=(bit F y&&decide (y≠i)):=by
 obtain⟨h1,_,h3⟩:=Ib h;rw[Ia,Yf h1 h3];by_cases hy:y<i
 ·rw[if_pos hy,h3 y hy];rfl
 ·by_cases e:y=i
  ·subst e;rw[if_neg hy,if_pos rfl];simp
  ·rw[if_neg hy,if_neg e];simp[e]
def RI.next {es:List (Nat×Nat)} {n S x R F i:Nat} {r:List Nat} (hg:∀e∈es,e.1<e.2/\e.2<n) (hS:S<M64) (h:RI es S x R F) (he:els F=i::r):
  RI es S x (R|||sdf (nb es i&&&S) R) ((F&&&(F-1))|||sdf (nb es i&&&S) R):=by
 have hm:sdf (nb es i&&&S) R<M64:=Qk (Uh hS);have hi:=(Ib he).1;have hmb:∀y,bit (sdf (nb es i&&&S) R) y=true↔(bit (nb es i) y=true/\bit S y=true)/\bit R y=false:=fun y=>by
  rw[Jf,Ia,aT,aT,kA]
 refine⟨Ql h.hr hm,Ql (Qm h.hf) hm,by rw[Ap,h.hx];rfl,fun y hy=> ?_,fun y hy=> ?_,fun y hy hn z hz hs=> ?_⟩
 ·rw[Ap,cV]at hy;rcases hy with hy|hy
  ·exact h.rch y hy
  ·obtain⟨⟨h1,h2⟩,_⟩:=(hmb y).1 hy;exact .step (h.rch i (h.sub i hi)) ((gm hg).1 h1) h2
 ·rw[Ap,cV]at hy⊢;rcases hy with hy|hy
  ·rw[yd h.hf he,aT]at hy;exact .inl (h.sub y hy.1)
  ·exact .inr hy
 ·rw[Ap,Bool.or_eq_false_iff,yd h.hf he]at hn;rw[Ap,hn.2,Bool.or_false]at hy;rw[Ap,cV];by_cases e:y=i
  ·subst e;cases hR:bit R z with
   |true=>exact .inl rfl
   |false=>exact .inr ((hmb z).2 ⟨⟨hz,hs⟩,hR⟩)
  ·refine .inl (h.cl y hy ?_ z hz hs);have:=hn.1;cases hf:bit F y with
   |false=>rfl
   |true=>rw[hf]at this;simp[e]at this
def RI.less {es:List (Nat×Nat)} {S x R F i:Nat} {r:List Nat} (h:RI es S x R F) (hS:S<M64) (he:els F=i::r):
  (64-card (R|||sdf (nb es i&&&S) R))*65+card ((F&&&(F-1))|||sdf (nb es i&&&S) R)<(64-card R)*65+card F:=by
 have hi:=Ib he;have hm:sdf (nb es i&&&S) R<M64:=Qk (Uh hS);by_cases e:sdf (nb es i&&&S) R=0
 ·rw[e,oL,oL];have:card (F&&&(F-1))<card F:=Ym (fun y hy=>by rw[Ia,aT]at hy;exact hy.1) hi.1 (by rw[yd h.hf he];simp) hi.2.1;omega
 ·obtain⟨z,hz⟩:∃z,bit (sdf (nb es i&&&S) R) z=true:=bW fun hh=>e (Gu fun y=>by
   rw[Ej];cases hb:bit (sdf (nb es i&&&S) R) y with
   |false=>rfl
   |true=>exact absurd ⟨y,hb⟩ hh)
  have h1:card R<card (R|||sdf (nb es i&&&S) R):=Ym (fun y hy=>by rw[Ap,hy];rfl) (b:=R|||sdf (nb es i&&&S) R) (x:=z) (by rw[Ap,hz,Bool.or_true]) (by rw[Jf,aT,kA]at hz;exact hz.2) (Ug hm hz);have h2:=Uj (R|||sdf (nb es i&&&S) R);have h3:=Uj ((F&&&(F-1))|||sdf (nb es i&&&S) R);omega
def RI.done {es:List (Nat×Nat)} {n S x R:Nat} (hg:∀e∈es,e.1<e.2/\e.2<n) (hx:bit S x=true) (h:RI es S x R 0):R=S↔Cn es S:=
 c7m (c1J hg h.hr h.hx h.rch fun y hy=>h.cl y hy (Ej y)) hx
def MN {β:Type} (f:Nat->β) {m i:Nat} (a:β):((eT m).map f).set i a=(eT m).map fun t=>if t=i then a else f t:=by
 apply bG;intro j;rw[bZ,aY,aY,aW,List.length_range];by_cases e:i=j
 ·subst e;by_cases hi:i<m
  ·rw[if_pos rfl,if_pos hi,cC hi];simp
  ·rw[if_pos rfl,if_neg hi,aP (by simpa using hi)];rfl
 ·rw[if_neg e];by_cases hj:j<m
  ·rw[cC hj];simp[show ¬j=i from fun h=>e h.symm]
  ·rw[aP (by simpa using hj)];rfl
def Ge (wl:List Int) (n S:Nat):List Int:=(eT (2^n)).map fun t=>if t<S then Ac wl t else 0
noncomputable def Gy (es:List (Nat×Nat)) (wl:List Int) (lo hi:Int) (n S:Nat):List Bool:=(eT (2^n)).map fun t=>decide (t<S)&&alB es wl lo hi t
def c1K (wl:List Int):Ac wl 0=0:=by unfold Ac;rw[fm];rfl
def c7n (es:List (Nat×Nat)) (wl:List Int) (lo hi:Int):alB es wl lo hi 0=false:=by
 unfold alB;have:cnB es 0=false:=by
  cases h:cnB es 0 with
  |false=>rfl
  |true=>
   obtain⟨x,hx,_⟩:=cnB_iff.1 h;rw[Ej]at hx;cases hx
 rw[this];rfl
def MP {β:Type} (f:Nat->β) (z:β) (m:Nat) (h:∀t,t<m->f t=z):(eT m).map f=eS m z:=by
 apply bG;intro j;rw[aY,cZ];by_cases hj:j<m
 ·rw[cC hj,if_pos hj];show some (f j)=_;rw[h j hj]
 ·rw[aP (by simpa using hj),if_neg hj];rfl
def c1M (wl:List Int) (n:Nat):Ge wl n 1=eS (2^n) 0:=MP _ _ _ fun t _=>by
 split
 ·rename_i h;rw[show t=0 from aA,c1K]
 ·rfl
def c1N (es:List (Nat×Nat)) (wl:List Int) (lo hi:Int) (n:Nat):Gy es wl lo hi n 1=eS (2^n) false:=MP _ _ _ fun t _=>by
 by_cases h:t<1
 ·rw[show t=0 from aA,c7n];rfl
 ·rw[decide_eq_false h];rfl
def b8i (wl:List Int) (n S:Nat):(Ge wl n S).set S (Ac wl S)=Ge wl n (S+1):=by
 unfold Ge;rw[MN];refine dA fun t _=> ?_;by_cases e:t=S
 ·subst e;rw[if_pos rfl,if_pos aA]
 ·rw[if_neg e];by_cases h:t<S
  ·rw[if_pos h,if_pos aA]
  ·rw[if_neg h,if_neg aA]
def b8j (es:List (Nat×Nat)) (wl:List Int) (lo hi:Int) (n S:Nat):(Gy es wl lo hi n S).set S (alB es wl lo hi S)=Gy es wl lo hi n (S+1):=by
 unfold Gy;rw[MN];refine dA fun t _=> ?_;by_cases e:t=S
 ·subst e;rw[if_pos rfl,oDd aA];rfl
 ·rw[if_neg e];by_cases h:t<S
  ·rw[oDd h,oDd aA]
  ·rw[decide_eq_false h,decide_eq_false aA]
def MQ {es:List (Nat×Nat)} {wl:List Int} {lo hi:Int} {n S:Nat} (h:alB es wl lo hi S=false):Gy es wl lo hi n (S+1)=Gy es wl lo hi n S:=by
 refine dA fun t _=> ?_;by_cases e:t=S
 ·subst e;rw[h,kY,kY]
 ·by_cases h:t<S
  ·rw[oDd h,oDd aA]
  ·rw[decide_eq_false h,decide_eq_false aA]
def c1O (es:List (Nat×Nat)) (wl:List Int) (lo hi:Int) (n:Nat):Gy es wl lo hi n (2^n)=(eT (2^n)).map (alB es wl lo hi):=
 dA fun t ht=>by rw[oDd (bH.1 ht)];rfl
def c1P {wl:List Int} {S x:Nat} {r:List Nat} (hS:S<M64) (h:els S=x::r):Ac wl S=Ac wl (S&&&(S-1))+wl.getD x 0:=by
 unfold Ac;rw[vj hS h,h,aU,eY,Int.add_comm]
end Go.GS
namespace Go.Z
open Proofs.Tryz RowKit RX GS
section
variable {H:PH} {u v w wts:Value} {wl:List Int} {n:Nat} {es:List (Nat×Nat)} {lo hi ds:Int}
def MR:q8 prog 92=true:=aB
def MS (x:Int):Asks prog 92 [ii x] H (.bool (decide (x<0)||decide (x>1000000000))):=by
 refine g9 mixed c6O ?_;refine b9 ?_;refine g8 (b:=decide (x<0)) rfl (fun h=> ?_) (fun h=> ?_)
 ·replace h:=oDt h;exact c9 rfl ⟨rfl,by rw[oDd h];rfl⟩
 ·replace h:=oDf h;exact c9 rfl ⟨rfl,by rw[decide_eq_false h];rfl⟩
structure Kz (n:Nat) (wl:List Int) (lo hi ds:Int):Prop where
 len:wl.length=n
 b0:0<=lo
 b1:lo<=hi
 d1:1<=ds
 d8:ds<=8
 ok:Of wl
def ye (hw:SG H w es) (hg:GV n es) (hn:n<=12) (pY:SI H wts wl) (hb:Kz n wl lo hi ds):j5 prog 54 [gv n w,bv wts lo hi ds] H (ii 0):=by
 refine g9 mixed KA ?_;have e1:=hb.len;have e2:=hb.b0;have e3:=hb.b1;have e4:=hb.d1;have e5:=hb.d8;refine b4 (Be hw) ?_;refine b4 (Ky (t7 pY) _ _ _) ?_;refine i9 (Fv hw hg) rfl fun H1 l1=> ?_;simp only[cA,nA];refine b9 ?_;refine j1 (bF (p:=(0:Int)≠0) aD) ?_;refine b9 ?_;refine j1 (bF (p:=((n:Nat):Int)>12) aA) ?_;refine r8 el_int (pY.mono l1) ?_;refine b9 ?_;refine j1 (by show Value.bool (((wl.length:Nat):Int) !=((n:Nat):Int))=_;rw[bN,e1];simp) ?_;refine i9 (ig (caps:=[]) (q:=fun x=>decide (x<0)||decide (x>1000000000)) (pY.mono l1) MR (fun H' x _ _=>(MS x).give)) rfl fun H2 l2=> ?_;simp only[cA,nA];have xR:(wl.any fun x=>decide (x<0)||decide (x>1000000000))=false:=by
  rw[mM];intro x hx;have:=hb.ok x hx;simp;omega
 rw[xR];refine b9 ?_;refine j1 rfl ?_;refine b9 ?_;refine j1 (bF (p:=ds<1) aA) ?_;refine j1 (bF (p:=ds>8) aA) ?_;refine b9 ?_;refine j1 (bF (p:=lo<0) aA) ?_;refine b9 ?_;refine j1 (bF (p:=hi<lo) aA) ?_;exact c9 rfl ⟨l1.trans l2,rfl⟩
def d3j (hT:Tb H) {s:Nat} (hs:s<M64):Con prog 141 [.int .u64 (s:Nat)] H fun u H'=>H'=H/\u=ii (tz s):=by
 refine g9 mixed d7l ?_;refine g5 (Yg hT hs) rfl ?_;rintro _ _ ⟨rfl,rfl⟩;refine⟨fun _=>Pl.refl _,?_⟩;simp only[cA,nA];exact c9 rfl ⟨rfl,rfl⟩
def e0w:j3 prog 232= .slice none 0 0:=aB
def e0x:j3 prog 237= .nilFunc:=aB
def e0y:j3 prog 175= .pointer none:=aB
def e0z:j3 prog 241= .map none:=aB
def e0A:j3 prog 242= .nilFunc:=aB
def e0B {ρ:List Value} {a b:SV} {v:Value} (ha:D prog ρ a=ii (n:Nat)) (hb:D prog ρ b=v) (hv:v.cells= #[v]):(D prog ρ (.put (.cat a 1 (.cat (.z 232) 1 (.z 237))) 1 1 b 0 noI)).cells= #[ii (n:Nat),v,.nilFunc]:=by
 show spl ((D prog ρ a).cells++((j3 prog 232).cells++(j3 prog 237).cells)) 1 (D prog ρ b).cells.toList=_;rw[ha,hb,hv,e0w,e0x];rfl
def MU (hT:Tb H) (hw:SG H w es) (hg:GV n es) (hn:n<=12) (pY:SI H wts wl) (hb:Kz n wl lo hi ds):Con prog 94 [gv n w,bv wts lo hi ds] H fun r H'=>∃B q pm pF pd m,r= .tuple #[pt q,ii 0]/\Pl H B/\Fld B n (alB es wl lo hi) q pm pF pd m/\Mem B H' (alB es wl lo hi) m:=by
 refine g9 mixed d2G ?_;have e1:=hb.len;have hgl:=hg.len;have hp6:2^n<=4096:=bB (n:=2) aC hn;have oV:∀(es':List (Nat×Nat)) (x:Nat),(∀e∈es',e∈es)->nb es' x<M64:=fun es' x h=>wa (fun e he=>hg.ed e (h e he)) hg.n64 x;refine b4 (Be hw) ?_;refine b4 (Ky (t7 pY) _ _ _) ?_;refine i9 (ye hw hg aA pY hb) rfl fun H1 l1=> ?_;simp only[cA,nA];refine b9 ?_;refine j1 (bF (p:=(0:Int)≠0) aD) ?_;refine b4 ⟨_,_,rfl⟩ ?_;refine b4 (show(0:Int)<=((n:Nat):Int) by omega) ?_;refine Nz Fe (z:=false) ub rfl rfl rfl (show 2^n<=68719476736 by omega) (j0 (Yx rfl hn) (Yx rfl hn)) fun v3 H2 l2 o2 _=> ?_;simp only[cA,nA];refine b4 (el_int.vcells ((n:Nat):Int)) ?_;refine b4 o2.se.one ?_;refine o0 (cs:= #[ii (n:Nat),v3,.nilFunc]) (e0B rfl rfl o2.se.cells) fun q hq=> ?_;simp only[cA,nA];refine o0 (cs:= #[.pointer none]) (by rw[show D prog _ (.z 175)=j3 prog 175 from rfl,e0y];rfl) fun pF hpF=> ?_;simp only[cA,nA];refine Ek (u:=pt q) Qs rfl rfl rfl (PH.put_self _ _ _) aD rfl rfl rfl (fun h=>(nomatch h)) ?_;simp only[cA,nA];rw[PH.put_put];have hqF:pF≠q:=fun e=>by subst e;rw[PH.put_self]at hpF;cases hpF
 generalize hH5:(H2.put q (.cells #[ii (n:Nat),v3,.nilFunc] 239 (0,0))).put pF (.cells (#[.pointer none].setIfInBounds 0 (pt q)) 175 (0,0))=H5;have l25:Pl H2 H5:=by subst hH5;exact(PH.le_put hq _).trans (PH.le_put hpF _)
 have h5q:H5 q=some (.cells #[ii (n:Nat),v3,.nilFunc] 239 (0,0)):=by subst hH5;rw[PH.put_ne _ _ (fun e=>hqF e.symm)];exact PH.put_self _ _ _
 have h5F:H5 pF=some (.cells #[pt q] 175 (0,0)):=by subst hH5;exact PH.put_self _ _ _
 refine Nz el_u64 (z:=(0:Nat)) gh rfl rfl rfl (show n<=68719476736 by omega) rfl fun v7 H6 l6 o6 _=> ?_;simp only[cA,nA];rw[<-JP]at o6;have l06:=(l1.trans (l2.trans l25)).trans l6;refine r8 el_edge (hw.mono l06) ?_;refine t6 (α:=Nat) (fun i=>[ii (i:Nat)]) (fun i=>fun H'=>i<=es.length/\Pl H5 H'/\SO H5 H' 42 1 (fun s:Nat=>[GS.uv s]) v7 (nbs n (es.take i))) (fun i=>es.length-i) (0) rfl (⟨bJ _,l6,o6⟩) fun i H' hQ=> ?_;simp only[cA,nA];obtain⟨hie,l7,o7⟩:=hQ;refine b9 (b9 ?_);refine g8 (b:=decide (((i:Nat):Int)<(es.length:Nat))) rfl (fun h=> ?_) (fun h=> ?_)
 ·replace h:=oDt h;have pO:i<es.length:=aA;obtain⟨x,hx,tL⟩:=u6 pO;obtain⟨rG,rA⟩:=hg.mem hx;have l05:=l1.trans (l2.trans l25);have wH:∀y,nb (es.take i) y<M64:=fun y=>oV _ y fun e he=>List.mem_of_mem_take he;refine r6 el_edge (hw.mono (l05.trans l7)) hx fun _=> ?_;simp only[cA,nA];refine b4 (el_edge.vcells x) ?_;refine By el_u64 rfl rfl rfl rfl aF o7.se (Oe _ (show x.1<n by omega)) rfl aF fun _=> ?_;simp only[cA,nA];refine b4 ⟨_,_,rfl⟩ ?_;refine b4 (by show(0:Int)<=((x.2:Nat):Int);omega) ?_;refine b9 ?_;refine Dl el_u64 (a:=nb (es.take i) x.1|||2^x.2) rfl rfl rfl rfl aF aF l7 o7 (by rw[Oc];omega) rfl (fun _=>j0 rfl (Fq rfl (Gv rfl aA) (wH _) (Df aA))) rfl fun p u H8 l8 o8 _=> ?_;simp only[cA,nA];refine By el_u64 rfl rfl rfl rfl aF o8.se (show _=some (nb (es.take i) x.2) by rw[List.getElem?_set_ne aA,Oe _ aA]) rfl aF fun _=> ?_;simp only[cA,nA];refine b4 ⟨_,_,rfl⟩ ?_;refine b4 (by show(0:Int)<=((x.1:Nat):Int);omega) ?_;refine b9 ?_;refine Dl el_u64 (a:=nb (es.take i) x.2|||2^x.1) rfl rfl rfl rfl aF aF l8 o8 (by rw[cD,Oc];omega) rfl (fun _=>j0 rfl (Fq rfl (Gv rfl aA) (wH _) (Df aA))) rfl fun p2 u2 H9 l9 o9 _=> ?_;simp only[cA,nA];rw[JQ n _ x rG,<-take_snoc hx]at o9;exact⟨i+1,aA,(j7 (p6 rfl aA)),⟨aA,l9,o9⟩⟩
 ·replace h:=oDf h;rw[aI aA]at o7;have o3:=(o2.mono l25).mono l7;have a4g:eS (2^n) false≠[]:=fun e=>by
   have:=congrArg List.length e;rw[List.length_replicate]at this;have h0:=iT n;change 2^n=0 at this;omega
  obtain⟨g3,hg3,⟨cur3,sE⟩,oc3⟩:=xw o3 a4g;refine Nz el_int (z:=(0:Int)) wb rfl rfl rfl (show 2^n<=68719476736 by omega) (j0 (Yx rfl hn) (Yx rfl hn)) fun v10 H10 l10 o10 _=> ?_;simp only[cA,nA];have hAH:Pl (H'.cut g3) H10:=(PH.cut_le _ _).trans l10;have hHA:Pl H1 (H'.cut g3):=PH.le_cut ((l2.trans l25).trans l7) hg3;have oi3:SO (H'.cut g3) H10 4 1 (fun b:Bool=>[.bool b]) v3 (Gy es wl lo hi n 1):=by rw[c1N];exact oc3.mono l10
  have oi10:SO (H'.cut g3) H10 3 1 (fun z:Int=>[ii z]) v10 (Ge wl n 1):=by rw[c1M];exact o10.less (PH.cut_le _ _)
  have sA7:SE (H'.cut g3) 1 (fun s:Nat=>[GS.uv s]) v7 (nbs n es):=(Qu o7 sE aC).se;have uZ:q≠g3:=fun e=>by
   have h:=l7 _ _ h5q;rw[e,sE]at h
   injection h with h
   injection h with _ h _
   exact absurd h aC
  have hF3:pF≠g3:=fun e=>by
   have h:=l7 _ _ h5F;rw[e,sE]at h
   injection h with h
   injection h with _ h _
   exact absurd h aC
  have hAq:(H'.cut g3) q=some (.cells #[ii (n:Nat),v3,.nilFunc] 239 (0,0)):=by rw[PH.cut_ne _ uZ];exact l7 _ _ h5q
  have hAF:(H'.cut g3) pF=some (.cells #[pt q] 175 (0,0)):=by rw[PH.cut_ne _ hF3];exact l7 _ _ h5F
  generalize hA:H'.cut g3=A at hAH hHA oi3 oi10 sA7 hAq hAF;have hTA:=(hT.mono l1).mono hHA;have hwA:=(pY.mono l1).mono hHA;refine t6 (α:=Nat) (fun S=>[ii (S:Nat)]) (fun S=>fun H'=>1<=S/\S<=2^n/\Pl A H'/\SO A H' 4 1 (fun b:Bool=>[.bool b]) v3 (Gy es wl lo hi n S)/\SO A H' 3 1 (fun z:Int=>[ii z]) v10 (Ge wl n S)) (fun S=>2^n-S) (1) rfl (⟨aS _,iT n,hAH,oi3,oi10⟩) fun S H11 ⟨hS1,hSn,lA,p3,p10⟩=> ?_;simp only[cA,nA];refine b9 ?_;refine y7 (p:=(((S:Nat):Int)<((2^n:Nat):Int))) (by show Value.bool (decide (intOf (ii (S:Nat))<intOf (D prog _ (.op2 .shl .i64 (.k (.int .i64 1)) (.cell (.v 0) 0 0 noI)))))=_;rw[Yx (n:=n) rfl hn];rfl) (fun hlS=> ?_) fun hlS=> ?_
  ·have hS:S<2^n:=aA;have rC:S<M64:=aM hS (bM hp6 aC);obtain⟨x,r,qP⟩:∃x r,els S=x::r:=by
    cases qP:els S with
    |nil=>exact absurd (Oa rC qP) aA
    |cons x r=>exact⟨x,r,rfl⟩
   have htz:tz S=x:=by simp[tz,qP]
   obtain⟨hx,tM,rK⟩:=Ib qP;have hxn:x<n:=Uk hS hx;refine g5 (d3j (hTA.mono lA) rC) (j7 (Ob rfl rC)) ?_;rintro _ _ ⟨rfl,rfl⟩;refine nmI ?_;simp only[cA,nA];rw[htz];have a0u:S&&&(S-1)<=S-1:=Nat.and_le_right;have xT:(Ge wl n S).length=2^n:=by unfold Ge;simp
   have a0a:(Gy es wl lo hi n S).length=2^n:=by unfold Gy;simp
   have a4h:(Ge wl n S)[S&&&(S-1)]? =some (Ac wl (S&&&(S-1))):=by
    unfold Ge;rw[aY,cC aA];show some (if _ then _ else _)=_;rw[if_pos aA]
   refine By el_int rfl rfl rfl rfl aF p10.se a4h (j0 rfl (d7q rfl (ga (x:=((S:Nat):Int)) (y:=1) rfl rfl aA aA|>.trans (by show ii _=ii _;congr 1;omega)) aA (show S-1<9223372036854775808 by omega))) aF fun _=> ?_;simp only[cA,nA];have hxw:wl[x]? =some (wl.getD x 0):=by rw[aK,aG aA];rfl
   refine r6 el_int (hwA.mono lA) hxw fun _=> ?_;simp only[cA,nA];have a2h:=c1P (wl:=wl) rC qP;have zY:∀t,t<2^n->0<=Ac wl t/\Ac wl t<=64000000000:=fun t ht=>by
    have htM:t<M64:=aM ht (bM hp6 aC);have sU:=ME ((els t).map fun x=>wl.getD x 0) (fun z hz=>by
     obtain⟨a,ha,rfl⟩:=bK.1 hz;have sV:=Uk ht ((Kw htM).1 ha);rw[aK,aG aA];exact hb.ok _ (dW _))
    have sA:=Uj t;unfold card at sA;rw[aW]at sU;unfold Ac;omega
   have pV:=zY _ hS;have pS:=zY (S&&&(S-1)) aA;have yX:Ge wl n S≠[]:=fun e=>by rw[e]at xT;simp at xT;omega
   have hn3:Gy es wl lo hi n S≠[]:=fun e=>by rw[e]at a0a;simp at a0a;omega
   obtain⟨g10,a2i,⟨cur10,a4i⟩,oc10⟩:=xw p10 yX;refine b9 (b9 ?_);refine Dl el_int (a:=Ac wl S) rfl rfl rfl rfl aF aF (PH.cut_le _ _) oc10 aA rfl (fun _=>j0 rfl (by rw[a2h];exact Qo rfl rfl aA aA)) rfl fun p u H12 l12 o12 _=> ?_;simp only[cA,nA];rw[b8i]at o12;have lA12:Pl A H12:=(PH.le_cut lA a2i).trans l12;have p10:=o12.less (PH.le_cut lA a2i);have p3:=(Qu p3 a4i aC).mono l12;have a2j:(Ge wl n (S+1))[S]? =some (Ac wl S):=by
    unfold Ge;rw[aY,cC hS];show some (if _ then _ else _)=_;rw[if_pos aA]
   refine By el_int rfl rfl rfl rfl aF p10.se a2j rfl aF fun _=> ?_;simp only[cA,nA];refine b9 (b9 ?_);refine g8 (b:=decide (Ac wl S<lo)) rfl (fun yD=> ?_) (fun yD=> ?_)
   ·replace yD:=oDt yD;have vY:alB es wl lo hi S=false:=by unfold alB;rw[decide_eq_false (show ¬Ac wl S≥lo by omega)];simp
    exact⟨S+1,aA,(j7 (p6 rfl aA)),⟨aA,aA,lA12,by rw[MQ vY];exact p3,p10⟩⟩
   ·replace yD:=oDf yD;refine By el_int rfl rfl rfl rfl aF p10.se a2j rfl aF fun _=> ?_;simp only[cA,nA];refine b9 (b9 ?_);refine g8 (b:=decide (Ac wl S>hi)) rfl (fun xG=> ?_) (fun xG=> ?_)
    ·replace xG:=oDt xG;have vY:alB es wl lo hi S=false:=by unfold alB;rw[decide_eq_false (show ¬Ac wl S<=hi by omega)];simp
     exact⟨S+1,aA,(j7 (p6 rfl aA)),⟨aA,aA,lA12,by rw[MQ vY];exact p3,p10⟩⟩
    ·replace xG:=oDf xG;refine b4 ⟨_,_,rfl⟩ ?_;refine b4 (show(0:Int)<=((x:Nat):Int) by omega) ?_;refine Jg (α:=Nat×Nat) (fun⟨R,F⟩=>[GS.uv R,GS.uv F]) (fun⟨R,F⟩=>RI es S x R F) (fun⟨R,F⟩=>(64-card R)*65+card F) ((2^x,2^x)) (j0 (Gv rfl tM) (Gv rfl tM)) (RI.start tM) fun⟨R,F⟩ hQ=> ?_;simp only[cA,nA];have hR:=hQ.hr;have hF:=hQ.hf;refine b9 ?_;refine y7 (p:=(F≠0)) (bN0 F) (fun wY=> ?_) fun wY=> ?_
     ·obtain⟨i,r',zH⟩:∃x r,els F=x::r:=by
       cases qP:els F with
       |nil=>exact absurd (Oa hF qP) wY
       |cons x r=>exact⟨x,r,rfl⟩
      obtain⟨hi1,a5r,yJ⟩:=Ib zH;have a4j:tz F=i:=by simp[tz,zH]
      have pT:i<n:=Uk hS ((hQ.rch _ (hQ.sub _ hi1)).mem hx);refine s7 (Yg (hTA.mono lA12) hF) rfl ?_;simp only[cA,nA];rw[a4j];refine r6 el_u64 (sA7.mono lA12) (Oe es pT) fun _=> ?_;simp only[cA,nA];have qH:nb es i<M64:=oV es i fun _ h=>h;have hm:sdf (nb es i&&&S) R<M64:=Qk (Uh rC);refine b9 (b9 ?_);exact⟨(R|||sdf (nb es i&&&S) R,(F&&&(F-1))|||sdf (nb es i&&&S) R),hQ.less rC zH,(j0 (Fq rfl (Qn (Ic rfl (Ob rfl rC) qH rC) rfl (Uh rC) hR) hR hm) (Fq (Ic rfl (Ui (B:=1) rfl rfl hF aA) hF (aR (Nat.sub_le _ _) hF)) (Qn (Ic rfl (Ob rfl rC) qH rC) rfl (Uh rC) hR) (Qm hF) hm)),⟨hQ.next hg.ed rC zH,rfl⟩⟩
     ·obtain rfl:F=0:=aA;have vH:=hQ.done hg.ed hx;refine i7 Qs rfl rfl (lA12 _ _ hAF) rfl rfl ?_;simp only[cA,nA];refine j9 ?_;simp only[cA,nA];refine i0 xu ?_;simp only[cA,nA];refine i7 xq rfl rfl (lA12 _ _ hAq) rfl rfl ?_;simp only[cA,nA];obtain⟨gb,hAb,⟨curb,zI⟩,ocb⟩:=xw p3 hn3;have hal:alB es wl lo hi S=decide (R=S):=by
       unfold alB;rw[oDd (show Ac wl S≥lo by omega),oDd (show Ac wl S<=hi by omega),jJ,jJ,bS,cnB_iff,oDi];exact vH.symm
      refine b9 ?_;refine Dl Fe (a:=alB es wl lo hi S) rfl rfl rfl rfl aF aF (PH.cut_le _ _) ocb aA rfl (fun _=>j0 rfl (by rw[hal];show Value.bool (((R:Nat):Int)==intOf (D prog _ (.cv .u64 (.v 11))))=_;rw[Ob (n:=S) (k:= .i64) rfl rC];show Value.bool (((R:Nat):Int)==((S:Nat):Int))=_;rw[bE];congr 1;apply decide_eq_decide.2;omega)) rfl fun pp u3 H13 l13 o13 _=> ?_;simp only[cA,nA];rw[b8j]at o13;exact⟨S+1,aA,(j7 (p6 rfl aA)),⟨aA,aA,(PH.le_cut lA12 hAb).trans l13,o13.less (PH.le_cut lA12 hAb),(Qu p10 zI aC).mono l13⟩⟩
  ·obtain rfl:S=2^n:=aA;rw[c1O]at p3;refine j4 (Ji (ok:=iu) (ke:=kW2) xn rfl) rfl ?_;rintro v12 H14 ⟨l14,o14⟩;refine nmI ?_;simp only[cA,nA];obtain⟨rm,es0,clock,rfl,xB,rP,hE,rF⟩:=id o14;refine o0 (cs:= #[.map none]) (by rw[show D prog _ (.z 241)=j3 prog 241 from rfl,e0z];rfl) fun pm rQ=> ?_;simp only[cA,nA];refine Ek (u:= .map (some rm)) xp rfl rfl rfl (PH.put_self _ _ _) aD rfl rfl rfl (fun h=>(nomatch h)) ?_;simp only[cA,nA];rw[PH.put_put];refine o0 (cs:= #[.nilFunc]) (by rw[show D prog _ (.z 242)=j3 prog 242 from rfl,e0A];rfl) fun pd hpd=> ?_;simp only[cA,nA];refine x5 (Ai (vs:=[pt pm,pt pF,pt pd]) rfl rfl) rfl ?_;simp only[cA,nA];refine Ek (u:=ja pm pF pd) xr rfl rfl rfl (PH.put_self _ _ _) aD rfl rfl rfl (fun h=>(nomatch h)) ?_;simp only[cA,nA];rw[PH.put_put];have a0v:pd≠pm:=fun e=>by subst e;rw[PH.put_self]at hpd;cases hpd
   have zJ:H14 pd=none:=by rw[PH.put_ne _ _ a0v]at hpd;exact hpd
   have vT:=l14 _ _ (lA _ _ hAq);have vU:=l14 _ _ (lA _ _ hAF);have hqm:q≠pm:=fun e=>by rw[e,rQ]at vT;cases vT
   have hqd:q≠pd:=fun e=>by rw[e,zJ]at vT;cases vT
   have hFm:pF≠pm:=fun e=>by rw[e,rQ]at vU;cases vU
   have hFd:pF≠pd:=fun e=>by rw[e,zJ]at vU;cases vU
   have hrm:rm≠pm:=fun e=>by rw[e,rQ]at rP;cases rP
   have uR:rm≠pd:=fun e=>by rw[e,zJ]at rP;cases rP
   have yG:rm≠q:=fun e=>by rw[e,vT]at rP;cases rP
   have hrF:rm≠pF:=fun e=>by rw[e,vU]at rP;cases rP
   generalize hX:(H14.put pm (.cells (#[.map none].setIfInBounds 0 (.map (some rm))) 241 (0,0))).put pd (.cells (#[.nilFunc].setIfInBounds 0 (ja pm pF pd)) 242 (0,0))=X;have hXq:X q=some (.cells #[ii (n:Nat),v3,.nilFunc] 239 (0,0)):=by subst hX;rw[PH.put_ne _ _ hqd,PH.put_ne _ _ hqm];exact vT
   have hXF:X pF=some (.cells #[pt q] 175 (0,0)):=by subst hX;rw[PH.put_ne _ _ hFd,PH.put_ne _ _ hFm];exact vU
   have hXr:X rm=some (.map (eN kW2 es0).toArray clock):=by subst hX;rw[PH.put_ne _ _ uR,PH.put_ne _ _ hrm];exact rP
   have hXm:X pm=some (.cells #[.map (some rm)] 241 (0,0)):=by subst hX;rw[PH.put_ne _ _ (fun e=>a0v e.symm)];exact PH.put_self _ _ _
   have hXd:X pd=some (.cells #[ja pm pF pd] 242 (0,0)):=by subst hX;exact PH.put_self _ _ _
   have lX:Pl H14 X:=by subst hX;exact(PH.le_put rQ _).trans (PH.le_put (by rw[PH.put_ne _ _ a0v];exact zJ) _)
   refine i7 Qs rfl rfl hXF rfl rfl ?_;simp only[cA,nA];refine x5 (Ai (vs:=[pt pd,pt pF]) rfl rfl) rfl ?_;simp only[cA,nA];refine j9 ?_;simp only[cA,nA];refine i0 iz ?_;simp only[cA,nA];refine Ek (u:=jb pd pF) iy rfl rfl rfl hXq aD rfl rfl rfl (fun h=>(nomatch h)) ?_;simp only[cA,nA];generalize hY:X.put q (.cells (#[ii (n:Nat),v3,.nilFunc].setIfInBounds 2 (jb pd pF)) 239 (0,0))=Y;have hYk:∀k,k≠q->Y k=X k:=fun k hk=>by subst hY;exact PH.put_ne _ _ hk
   have hYq:Y q=some (.cells #[ii (n:Nat),v3,jb pd pF] 239 (0,0)):=by subst hY;exact PH.put_self _ _ _
   have a2k:pF≠q:=hqF;refine i7 Qs rfl rfl ((hYk pF a2k).trans hXF) rfl rfl ?_;simp only[cA,nA];have lXY:Pl (X.cut q) Y:=by subst hY;exact PH.cut_put _ _ _
   have a4k:H1 q=none:=by
    cases e:H1 q with
    |none=>rfl
    |some o=>have:=l2 _ _ e;rw[hq]at this;cases this
   have a4l:H1 rm=none:=by
    cases e:H1 rm with
    |none=>rfl
    |some o=>have:=lA _ _ (hHA _ _ e);rw[xB]at this;cases this
   have lHB:Pl H (Y.cut rm):=l1.trans (PH.le_cut ((PH.le_cut (((hHA.trans lA).trans l14).trans lX) a4k).trans lXY) a4l);have s3:SE (Y.cut rm) 1 (fun b:Bool=>[.bool b]) v3 ((eT (2^n)).map (alB es wl lo hi)):=(Qv ((Qu ((p3.mono l14).mono lX) hXq aC).mono lXY) (fun cs T fz h=>by rw[hYk _ yG,hXr]at h;cases h)).se;exact c9 rfl ⟨Y.cut rm,q,pm,pF,pd,.map (some rm),rfl,lHB,⟨hn,⟨v3,_,by rw[PH.cut_ne _ (fun e=>yG e.symm)];exact hYq,s3⟩,⟨_,by rw[PH.cut_ne _ (fun e=>hrm e.symm),hYk _ (fun e=>hqm e.symm)];exact hXm⟩,⟨_,by rw[PH.cut_ne _ (fun e=>hrF e.symm),hYk _ a2k];exact hXF⟩,⟨_,by rw[PH.cut_ne _ (fun e=>uR e.symm),hYk _ (fun e=>hqd e.symm)];exact hXd⟩⟩,PH.cut_le _ _,[],⟨rm,es0,clock,rfl,PH.cut_self _ _,by rw[hYk _ yG];exact hXr,hE,rF⟩,fun p v h=>nomatch h⟩
end
end Go.Z
namespace Go.GS
def MV {cs:List Nat} {v l n:Nat} (h:∀c∈cs,c<2^n) (hv:v<n):∀c∈z8 cs v l,c<2^n:=by
 have hp:2^v<2^n:=cR aC hv;intro c hc;unfold z8 at hc;split at hc
 ·rename_i hl;obtain⟨j,hj⟩:=lU hc;rw[List.getElem?_modify]at hj;cases e:cs[j]? with
  |none=>rw[e]at hj;cases hj
  |some d=>
   rw[e]at hj;have hd:=h d (aJ e);simp only[Functor.map,cJ,dF]at hj;subst hj;split
   ·exact dH hd hp
   ·exact hd
 ·rcases bC.1 hc with hc|hc
  ·exact h c hc
  ·rw[bA.1 hc];exact hp
def d7r {ft:Nat->Bool} {n k i:Nat}:∀v,v<=n->(∀c∈(stN ft n k i v).2.1,c<2^n)/\(stN ft n k i v).2.1.length<=v:=by
 intro v;induction v with
 |zero=>intro _;exact⟨(fun c h=>nomatch h),aS _⟩
 |succ v ih=>
  intro hv;obtain⟨h1,h2⟩:=ih aA;refine⟨MV h1 aA,?_⟩;show(z8 _ _ _).length<=_;rw[ij];split<;>omega
def Gf (ft:Nat->Bool) (n k i:Nat):List Int:=(Yr ft n k i).map fun x:Nat=>(x:Int)
def Bq (ft:Nat->Bool) (n k:Nat):Nat:=y4 ft [] (Az n 0) k
end Go.GS
namespace Go.Z
open Proofs.Tryz RowKit RX GS
section
variable {B H:PH} {n:Nat} {ft:Nat->Bool} {q pm pF pd:Nat} {m:Value}
def Fld.mono {B':PH} (h:Fld B n ft q pm pF pd m) (hl:Pl B B'):Fld B' n ft q pm pF pd m:=by
 obtain⟨h1,⟨w,T,h2,h3⟩,⟨T1,h4⟩,⟨T2,h5⟩,⟨T3,h6⟩⟩:=h;exact⟨h1,⟨w,T,hl _ _ h2,h3.mono hl⟩,⟨T1,hl _ _ h4⟩,⟨T2,hl _ _ h5⟩,⟨T3,hl _ _ h6⟩⟩
def Mem.less {B':PH} (h:Mem B' H ft m) (hl:Pl B B'):Mem B H ft m:=by
 obtain⟨h1,L,⟨r,es,c,h2,h3,h4⟩,h5⟩:=h;refine⟨hl.trans h1,L,⟨r,es,c,h2,?_,h4⟩,h5⟩;cases e:B r with
 |none=>rfl
 |some o=>rw[hl _ _ e]at h3;cases h3
def Mem.base {X:PH} {e:TypeId} (h:Mem B H ft m) (hX:Pl B X) (hk:∀k,(∀cs,H k≠some (.cells cs e (0,0)))->X k=H k):Mem B X ft m:=by
 obtain⟨h1,L,⟨r,es,c,h2,h3,h4,h6⟩,h5⟩:=h;exact⟨hX,L,⟨r,es,c,h2,h3,by rw[hk r (fun cs e=>by rw[h4]at e;cases e)];exact h4,h6⟩,h5⟩
def Mem.cut (h:Mem B H ft m):∃r,B r=none/\(∀cs T fz,H r≠some (.cells cs T fz))/\Mem (H.cut r) H ft m/\Pl B (H.cut r):=by
 obtain⟨h1,L,⟨r,es,c,h2,h3,h4,h6⟩,h5⟩:=h;exact⟨r,h3,(fun cs T fz e=>by rw[h4]at e;cases e),⟨PH.cut_le _ _,L,⟨r,es,c,h2,PH.cut_self _ _,h4,h6⟩,h5⟩,PH.le_cut h1 h3⟩
def MW (hF:Fld B n ft q pm pF pd m) (hM:Mem B H ft m) {k:Nat} (hk:k<=8):Con prog 95 [pt q,ii (k:Nat)] H fun r H'=>r=ii ((Bq ft n k:Nat):Int)/\Mem B H' ft m:=by
 refine g9 mixed d2J ?_;obtain⟨w,Tq,hq,hw⟩:=hF.fld;have hn:=hF.n6;refine j9 ?_;simp only[cA,nA];refine i0 iz ?_;simp only[cA,nA];refine i7 iy rfl rfl (hM.1 _ _ hq) rfl rfl ?_;simp only[cA,nA];refine j9 ?_;simp only[cA,nA];refine i0 xt ?_;simp only[cA,nA];refine i7 sc_int rfl rfl (hM.1 _ _ hq) rfl rfl ?_;simp only[cA,nA];refine b4 ⟨_,_,rfl⟩ ?_;refine b4 (show(0:Int)<=((n:Nat):Int) by omega) ?_;refine j4 (Bh (f:=145) (caps:= #[pt pd,pt pF]) (vs:=[.slice none 0 0,GS.uv (Az n 0),ii (k:Nat)]) rfl rfl rfl xo (MC hF [] (.slice none 0 0) (Az n 0) k H (SO.nil B B 42 1 _).se (fun c h=>nomatch h) aC (Yq n 0) hk hM)) (Ie rfl rfl (Ui (B:=1) (Gv rfl aA) rfl (Df aA) (iT n)) rfl) ?_;rintro _ X2 ⟨rfl,vB⟩;refine nmI ?_;simp only[cA,nA];exact c9 rfl ⟨rfl,vB⟩
def c7p (hF:Fld B n ft q pm pF pd m) (hM:Mem B H ft m) {k i:Nat} (hk:k<=8) (hi:i<Bq ft n k):Con prog 96 [pt q,ii (k:Nat),ii (i:Nat)] H fun r H'=>Mem B H' ft m/\SO B H' 3 1 (fun z:Int=>[ii z]) r (Gf ft n k i):=by
 refine g9 mixed d2I ?_;obtain⟨w,Tq,hq,hw⟩:=id hF.fld;have hn:=hF.n6;have a2l:∀cs R,R<2^n->y4 ft cs R k<9223372036854775807:=fun cs R hR=>aR (wz hk hR) (jd hn);have h6:(2:Nat)^n<M64:=Df aA;refine j9 ?_;simp only[cA,nA];refine i0 xt ?_;simp only[cA,nA];refine i7 sc_int rfl rfl (hM.1 _ _ hq) rfl rfl ?_;simp only[cA,nA];refine t6 (α:=Nat×Value×Value) (fun⟨v,vp,vc⟩=>[vp,vc,ii (((stN ft n k i v).2.2:Nat):Int),ii (v:Nat)]) (fun⟨v,vp,vc⟩=>fun H'=>v<=n/\Mem B H' ft m/\SO B H' 3 1 (fun z:Int=>[ii z]) vp ((stN ft n k i v).1.map fun x:Nat=>(x:Int))/\SO B H' 42 1 (fun s:Nat=>[GS.uv s]) vc (stN ft n k i v).2.1) (fun⟨v,vp,vc⟩=>n-v) ((0,.slice none 0 0,.slice none 0 0)) rfl (⟨bJ _,hM,SO.nil _ _ _ _ _,SO.nil _ _ _ _ _⟩) fun⟨v,vp,vc⟩ H' hQ=> ?_;simp only[cA,nA];obtain⟨hv,hM1,op,oc⟩:=hQ;refine b9 (b9 ?_);refine g8 (b:=decide (((v:Nat):Int)<(n:Nat))) rfl (fun wF=> ?_) (fun wF=> ?_)
 ·replace wF:=oDt wF;have wF:v<n:=aA;have pU:=KY hi v hv;obtain⟨rZ,a5n⟩:=d7r (ft:=ft) (n:=n) (k:=k) (i:=i) v hv;have hjb:=iK pU.cnt (a2l _ _ (Yq n v));have a0w:=pU.cnt;rw[KW wF,KV _ _ _ (KX wF),List.range_eq_range']at a0w;refine j9 ?_;simp only[cA,nA];refine i0 xt ?_;simp only[cA,nA];refine i7 sc_int rfl rfl (hM1.1 _ _ hq) rfl rfl ?_;simp only[cA,nA];refine b4 ⟨_,_,rfl⟩ ?_;refine b4 (show(0:Int)<=((n:Nat):Int) by omega) ?_;have a0x:∀{ρ:List Value} {a:SV},D prog ρ a=ii (v:Nat)->D prog ρ (.op2 .add .i64 a (.k (.int .i64 1)))=ii ((v+1:Nat):Int):=fun h=>p6 h aA;refine b4 (by show 0<=intOf (D prog _ (.op2 .add .i64 (.v 9) (.k (.int .i64 1))));rw[a0x rfl];show(0:Int)<=((v+1:Nat):Int);omega) ?_;generalize hc:(fun l=>y4 ft (z8 (stN ft n k i v).2.1 v l) (Az n (v+1)) k)=c at a0w;have hpe:Dq c ((stN ft n k i v).2.1.length+1) 0 (stN ft n k i v).2.2=((stN ft n k i (v+1)).1.getD v 0,(stN ft n k i (v+1)).2.2):=by
   subst hc;refine Prod.ext ?_ rfl;show _=((stN ft n k i v).1++[_]).getD v 0;rw[aK,aN (by rw[pU.len];exact aS _),pU.len,eA];rfl
  refine t6 (α:=Nat×Nat) (fun⟨l,j⟩=>[vp,vc,ii (j:Nat),ii (l:Nat)]) (fun⟨l,j⟩=>fun H'=>Mem B H' ft m/\SO B H' 3 1 (fun z:Int=>[ii z]) vp ((stN ft n k i v).1.map fun x:Nat=>(x:Int))/\SO B H' 42 1 (fun s:Nat=>[GS.uv s]) vc (stN ft n k i v).2.1/\l<=(stN ft n k i v).2.1.length+1/\j<=(stN ft n k i v).2.2/\j<((gR l ((stN ft n k i v).2.1.length+1-l)).map c).sum/\Dq c ((stN ft n k i v).2.1.length+1-l) l j=Dq c ((stN ft n k i v).2.1.length+1) 0 (stN ft n k i v).2.2) (fun⟨l,j⟩=>(stN ft n k i v).2.1.length+1-l) ((0,(stN ft n k i v).2.2)) rfl (⟨hM1,op,oc,bJ _,aS _,a0w,rfl⟩) fun⟨l,j⟩ H2 ⟨vB,op2,oc2,qD,hjs,hj,tZ⟩=> ?_;simp only[cA,nA];have hl:l<=(stN ft n k i v).2.1.length:=by
   rcases eB (stN ft n k i v).2.1.length l with h|h
   ·rw[show(stN ft n k i v).2.1.length+1-l=0 by omega]at hj;simp at hj
   ·exact h
  refine g5 (c7a oc2.se (fun c hc=>iK (rZ c hc) h6) aA hl aA) rfl ?_;rintro v17 H3 ⟨l3,s3⟩;refine nmI ?_;simp only[cA,nA];have hM3:=vB.mono l3;refine j9 ?_;simp only[cA,nA];refine i0 iz ?_;simp only[cA,nA];refine i7 iy rfl rfl (hM3.1 _ _ hq) rfl rfl ?_;simp only[cA,nA];obtain⟨rm,xB,rP,hMc,lBc⟩:=hM3.cut;have uX:(z8 (stN ft n k i v).2.1 v l).length<=1000:=by rw[ij];split<;>omega
  refine j4 (Bh (f:=145) (caps:= #[pt pd,pt pF]) (vs:=[v17,GS.uv (Az n (v+1)),ii (k:Nat)]) rfl rfl rfl xo (MC (hF.mono lBc) _ v17 (Az n (v+1)) k H3 (d3a s3.se rP) (MV rZ wF) uX (Yq n _) hk hMc)) (Ie rfl rfl (Ui (Gv rfl aA) (Gv (a0x rfl) aA) h6 (bB aC wF)) rfl) ?_;rintro _ H4 ⟨rfl,rJ⟩;refine nmI ?_;simp only[cA,nA];have hM5:=rJ.less lBc;have op4:=(Qv (op2.mono l3) rP).mono rJ.1;have oc4:=(Qv (oc2.mono l3) rP).mono rJ.1;have o17:=(Qv (s3.less vB.1) rP).mono rJ.1;have hcv:y4 ft (z8 (stN ft n k i v).2.1 v l) (Az n (v+1)) k=c l:=by rw[<-hc]
  have zI:=a2l (z8 (stN ft n k i v).2.1 v l) (Az n (v+1)) (Yq n _);rw[hcv]at zI⊢;rw[show(stN ft n k i v).2.1.length+1-l=(stN ft n k i v).2.1.length-l+1 by omega,List.range'_succ,aU,eY]at hj;rw[show(stN ft n k i v).2.1.length+1-l=(stN ft n k i v).2.1.length-l+1 by omega]at tZ;rw[b8f c ((stN ft n k i v).2.1.length-l) l j]at tZ;refine b9 (b9 ?_);refine g8 (b:=decide (((j:Nat):Int)<((c l:Nat):Int))) rfl (fun hjc=> ?_) (fun hjc=> ?_)
  ·replace hjc:=oDt hjc;rw[if_pos (show j<c l by omega),<-hc]at tZ;obtain⟨X,lBX,lXH,oX,hXk⟩:=Uu op4 hM5.1;have hlp:(stN ft n k i v).1.length=v:=pU.len;refine Hy y6 rfl rfl rfl aF aF lXH oX (by rw[aW];omega) rfl aF rfl fun pp v23 H6 l6 o6=> ?_;simp only[cA,nA];have tW:(stN ft n k i (v+1)).1.map (fun x:Nat=>(x:Int))=(stN ft n k i v).1.map (fun x:Nat=>(x:Int))++[((l:Nat):Int)]:=by
    show((stN ft n k i v).1++[_]).map _=_;rw[bI,<-tZ];rfl
   have uS:(stN ft n k i (v+1)).2.1=z8 (stN ft n k i v).2.1 v l:=by
    show z8 _ _ _=_;rw[<-tZ]
   have hs3:(stN ft n k i (v+1)).2.2=j:=by
    show(Dq _ _ _ _).2=_;rw[<-tZ]
   exact⟨(v+1,v23,v17),by show n-(v+1)<n-v;omega,(Ie rfl rfl (by show ii ((j:Nat):Int)=ii (((stN ft n k i (v+1)).2.2:Nat):Int);rw[hs3]) (a0x rfl)),⟨(by show v+1<=n;omega),(hM5.base lBX hXk).mono l6,(by show SO B H6 _ _ _ _ ((stN ft n k i (v+1)).1.map _);rw[tW];exact o6.less lBX),(by show SO B H6 _ _ _ _ (stN ft n k i (v+1)).2.1;rw[uS];exact(Yv o17 hXk aC).mono l6)⟩⟩
  ·replace hjc:=oDf hjc;rw[if_neg (show ¬j<c l by omega)]at tZ;refine b9 ?_;exact⟨(l+1,j-c l),by show(stN ft n k i v).2.1.length+1-(l+1)<(stN ft n k i v).2.1.length+1-l;omega,(Ie rfl rfl (by rw[ga (x:=((j:Nat):Int)) (y:=((c l:Nat):Int)) rfl rfl aA aA];show ii _=ii _;congr 1;show _=((j-c l:Nat):Int);omega) (p6 rfl aA)),⟨hM5,op4,oc4,(by show l+1<=_;omega),(by show j-c l<=_;omega),(by show j-c l<((gR (l+1) ((stN ft n k i v).2.1.length+1-(l+1))).map c).sum;rw[show(stN ft n k i v).2.1.length+1-(l+1)=(stN ft n k i v).2.1.length-l by omega];omega),(by show Dq c ((stN ft n k i v).2.1.length+1-(l+1)) (l+1) (j-c l)=_;rw[show(stN ft n k i v).2.1.length+1-(l+1)=(stN ft n k i v).2.1.length-l by omega];exact tZ)⟩⟩
 ·replace wF:=oDf wF;obtain rfl:v=n:=aA;exact c9 rfl ⟨hM1,op⟩
end
section
variable {H:PH} {w wts:Value} {wl:List Int} {n:Nat} {es:List (Nat×Nat)} {lo hi:Int}
def c7q {k:Nat} (hT:Tb H) (hw:SG H w es) (hg:GV n es) (hn:n<=12) (pY:SI H wts wl) (hb:Kz n wl lo hi (k:Nat)) (h4:Bq (alB es wl lo hi) n k<=400):Con prog 58 [gv n w,bv wts lo hi (k:Nat)] H fun r H'=>Pl H H'/\∃v m,r= .tuple #[v,ii 0]/\SE H' 1 (fun s:Slc=>[vs s]) v m/\m.length=Bq (alB es wl lo hi) n k/\∀(i:Nat) (s:Slc),m[i]? =some s->SI H' (vs s) (Gf (alB es wl lo hi) n k i):=by
 refine g9 mixed KC ?_;have vS:k<=8:=by have:=hb.d8;omega
 refine b4 (Be hw) ?_;refine b4 (Ky (t7 pY) _ _ _) ?_;refine g5 (MU hT hw hg hn pY hb) rfl ?_;rintro _ H1 ⟨B,q,pm,pF,pd,m,rfl,lB,hF,hM⟩;refine nmI ?_;simp only[cA,nA];refine g7 (g7 (b9 ?_));refine j1 (bF (p:=(0:Int)≠0) aD) ?_;refine g5 (MW hF hM vS) rfl ?_;rintro _ H2 ⟨rfl,vB⟩;refine nmI ?_;simp only[cA,nA];refine b9 ?_;refine j1 (bF (p:=((Bq (alB es wl lo hi) n k:Nat):Int)>400) aA) ?_;refine t6 (α:=Nat×List Slc×Value) (fun⟨i,l,v⟩=>[v,ii (i:Nat)]) (fun⟨i,l,v⟩=>fun H'=>i<=Bq (alB es wl lo hi) n k/\l.length=i/\Mem B H' (alB es wl lo hi) m/\SO B H' 49 1 (fun s:Slc=>[vs s]) v l/\∀(j:Nat) (s:Slc),l[j]? =some s->SO B H' 3 1 (fun z:Int=>[ii z]) (vs s) (Gf (alB es wl lo hi) n k j)) (fun⟨i,l,v⟩=>Bq (alB es wl lo hi) n k-i) ((0,[],.slice none 0 0)) rfl (⟨bJ _,rfl,vB,SO.nil _ _ _ _ _,(fun j s h=>nomatch h)⟩) fun⟨i,l,v⟩ H' hQ=> ?_;simp only[cA,nA];obtain⟨hik,hl,hM3,o3,hs3⟩:=hQ;refine b9 ?_;refine g8 (b:=decide (((i:Nat):Int)<((Bq (alB es wl lo hi) n k:Nat):Int))) rfl (fun pT=> ?_) (fun pT=> ?_)
 ·replace pT:=oDt pT;obtain⟨rm,xB,rP,hMc,lBc⟩:=hM3.cut;refine g5 (c7p (hF.mono lBc) hMc vS (show i<Bq (alB es wl lo hi) n k by omega)) rfl ?_;rintro v6 H4 ⟨rJ,s4⟩;refine nmI ?_;simp only[cA,nA];obtain⟨s,rfl⟩:=JV s4.se;have hM5:=rJ.less lBc;have o4:=(Qv o3 rP).mono rJ.1;obtain⟨X,lBX,lXH,oX,hXk⟩:=Uu o4 hM5.1;refine Hy Yn rfl rfl rfl aF aF lXH oX aA rfl aF rfl fun pp v8 H6 l6 o6=> ?_;simp only[cA,nA];have hM7:=(hM5.base lBX hXk).mono l6;have hs6:∀(j:Nat) (s':Slc),(l++[s])[j]? =some s'->SO B H6 3 1 (fun z:Int=>[ii z]) (vs s') (Gf (alB es wl lo hi) n k j):=fun j s' h=>by
   rcases eB j l.length with hj|hj
   ·rw[aQ hj]at h;exact(Yv ((Qv (hs3 j s' h) rP).mono rJ.1) hXk aC).mono l6
   ·rw[aN hj]at h;rcases dX (j-l.length)with h0|h0
    ·rw[h0]at h
     injection h with h
     subst h;rw[show j=i by omega];exact(Yv (s4.less lBc) hXk aC).mono l6
    ·rw[aP (by simp;omega)]at h;cases h
  exact⟨(i+1,l++[s],v8),aA,(j0 rfl (p6 rfl aA)),⟨aA,by simp[hl],hM7,o6.less lBX,hs6⟩⟩
 ·replace pT:=oDf pT;rw[show i=Bq (alB es wl lo hi) n k by omega]at hl;exact c9 rfl ⟨lB.trans hM3.1,v,l,rfl,o3.se,hl,fun j s h=>(hs3 j s h).se⟩
def c1R {k:Nat} (hT:Tb H) (hw:SG H w es) (hg:GV n es) (hn:n<=12) (pY:SI H wts wl) (hb:Kz n wl lo hi (k:Nat)) (h4:400<Bq (alB es wl lo hi) n k):Con prog 58 [gv n w,bv wts lo hi (k:Nat)] H fun r H'=>Pl H H'/\r= .tuple #[.slice none 0 0,ii 3]:=by
 refine g9 mixed KC ?_;have vS:k<=8:=by have:=hb.d8;omega
 have h8:Bq (alB es wl lo hi) n k<9223372036854775807:=aR (wz vS (Yq n 0)) (jd hn);refine b4 (Be hw) ?_;refine b4 (Ky (t7 pY) _ _ _) ?_;refine g5 (MU hT hw hg hn pY hb) rfl ?_;rintro _ H1 ⟨B,q,pm,pF,pd,m,rfl,lB,hF,hM⟩;refine nmI ?_;simp only[cA,nA];refine g7 (g7 (b9 ?_));refine j1 (bF (p:=(0:Int)≠0) aD) ?_;refine g5 (MW hF hM vS) rfl ?_;rintro _ H2 ⟨rfl,vB⟩;refine nmI ?_;simp only[cA,nA];refine b9 ?_;refine Ah (bT (p:=((Bq (alB es wl lo hi) n k:Nat):Int)>400) aA) ?_;exact c9 rfl ⟨lB.trans vB.1,rfl⟩
def MY {k:Nat} (hT:Tb H) (hw:SG H w es) (hg:GV n es) (hn:n<=12) (pY:SI H wts wl) (hb:Kz n wl lo hi (k:Nat)):Con prog 58 [gv n w,bv wts lo hi (k:Nat)] H fun r H'=>Pl H H'/\∃v e,r= .tuple #[v,ii e]/\((e=0/\Bq (alB es wl lo hi) n k<=400/\∃m,SE H' 1 (fun s:Slc=>[vs s]) v m/\m.length=Bq (alB es wl lo hi) n k/\∀(i:Nat) (s:Slc),m[i]? =some s->SI H' (vs s) (Gf (alB es wl lo hi) n k i))\/(e=3/\400<Bq (alB es wl lo hi) n k)):=by
 by_cases h:Bq (alB es wl lo hi) n k<=400
 ·exact(c7q hT hw hg hn pY hb h).mono fun r H' ⟨h1,v,m,h2,h3⟩=>⟨h1,v,0,h2,.inl ⟨rfl,h,m,h3⟩⟩
 ·exact(c1R hT hw hg hn pY hb aA).mono fun r H' ⟨h1,h2⟩=>⟨h1,_,3,h2,.inr ⟨rfl,aA⟩⟩
end
end Go.Z
namespace Go.Proofs
open Shelf
def Tryz.lays160_ren:Go.Shelf.Ren:=⟨fun|160=>138|232=>207|231=>206|227=>208|234=>210|233=>209|236=>212|235=>211|228=>253|271=>256|151=>255|197=>254|120=>297|152=>296|260=>295|137=>319|119=>320|224=>321|225=>322|217=>332|266=>339|n=>n,fun|9=>9|4=>4|3=>3|5=>5|117=>318|116=>317|0=>0|124=>321|21=>21|105=>361|46=>191|119=>414|139=>417|138=>416|n=>n,fun|3=>4|4=>5|n=>n⟩
def Tryz.lays160:Go.Proofs.Lays.n160 prog Tryz.lays160_ren:={
 mixed:=aB
 f119:=Tryz.func320.trans (congrArg some aB)
 f120:=Tryz.func297.trans (congrArg some aB)
 f137:=Tryz.func319.trans (congrArg some aB)
 f151:=Tryz.func255.trans (congrArg some aB)
 f152:=Tryz.func296.trans (congrArg some aB)
 f160:=Tryz.func138.trans (congrArg some aB)
 f197:=Tryz.func254.trans (congrArg some aB)
 f217:=Tryz.func332.trans (congrArg some aB)
 f224:=Tryz.func321.trans (congrArg some aB)
 f225:=Tryz.func322.trans (congrArg some aB)
 f227:=Tryz.func208.trans (congrArg some aB)
 f228:=Tryz.func253.trans (congrArg some aB)
 f231:=Tryz.func206.trans (congrArg some aB)
 f232:=Tryz.func207.trans (congrArg some aB)
 f233:=Tryz.func209.trans (congrArg some aB)
 f234:=Tryz.func210.trans (congrArg some aB)
 f235:=Tryz.func211.trans (congrArg some aB)
 f236:=Tryz.func212.trans (congrArg some aB)
 f260:=Tryz.func295.trans (congrArg some aB)
 f266:=Tryz.func339.trans (congrArg some aB)
 f271:=Tryz.func256.trans (congrArg some aB)
 t0:=Tryz.underlying0
 a0:=Tryz.isAgg0
 z0:=Tryz.sizeOf0
 v0:=Tryz.zeroValue0
 t3:=Tryz.underlying3
 a3:=Tryz.isAgg3
 z3:=Tryz.sizeOf3
 v3:=Tryz.zeroValue3
 t4:=Tryz.underlying4
 a4:=Tryz.isAgg4
 z4:=Tryz.sizeOf4
 v4:=Tryz.zeroValue4
 t5:=Tryz.underlying5
 a5:=Tryz.isAgg5
 z5:=Tryz.sizeOf5
 v5:=Tryz.zeroValue5
 t9:=Tryz.underlying9
 a9:=Tryz.isAgg9
 z9:=Tryz.sizeOf9
 v9:=Tryz.zeroValue9
 t21:=Tryz.underlying21
 a21:=Tryz.isAgg21
 z21:=Tryz.sizeOf21
 v21:=Tryz.zeroValue21
 t46:=Tryz.underlying191
 a46:=Tryz.isAgg191
 z46:=Tryz.sizeOf191
 v46:=Tryz.zeroValue191
 t105:=Tryz.underlying361
 a105:=Tryz.isAgg361
 z105:=Tryz.sizeOf361
 v105:=Tryz.zeroValue361
 t116:=Tryz.underlying317
 a116:=Tryz.isAgg317
 z116:=Tryz.sizeOf317
 t117:=Tryz.underlying318
 a117:=Tryz.isAgg318
 z117:=Tryz.sizeOf318
 v117:=Tryz.zeroValue318
 t119:=Tryz.underlying414
 a119:=Tryz.isAgg414
 z119:=Tryz.sizeOf414
 t124:=Tryz.underlying321
 a124:=Tryz.isAgg321
 z124:=Tryz.sizeOf321
 v124:=Tryz.zeroValue321
 t138:=Tryz.underlying416
 a138:=Tryz.isAgg416
 z138:=Tryz.sizeOf416
 v138:=Tryz.zeroValue416
 t139:=Tryz.underlying417
 a139:=Tryz.isAgg417
 z139:=Tryz.sizeOf417
 v139:=Tryz.zeroValue417
 g3:=aB
 g4:=by kernel_rfl}
end Go.Proofs
namespace Go.GS
structure Un where
 name:List UInt8
 ppl:Int
 grp:List Int
 vot:List Int
 par:List Int
 wat:Bool
structure Dm where
 g:Nat
 p:Nat
 l:Nat
def Oh:List UInt8:=[65,66,67,68,69,70,71,72,73,74,75,76,77,78,79,80,81,82,83,84,85,86,87,88,89,90,97,98,99,100,101,102,103,104,105,106,107,108,109,110,111,112,113,114,115,116,117,118,119,120,121,122,48,49,50,51,52,53,54,55,56,57,45,95]
structure UnV (dm:Dm) (x:Un):Prop where
 n0:x.name≠[]
 n12:x.name.length<=12
 trm:Go.Lib.trimS x.name Oh=[]
 p0:0<=x.ppl
 p1:x.ppl<=if x.wat then 0 else 1000000000
 gl:x.grp.length=dm.g
 gz:∀z∈x.grp,0<=z/\z<=x.ppl
 vl:x.vot.length=dm.p
 vz:∀z∈x.vot,0<=z/\z<=if x.wat then 0 else 1000000000
 pl:x.par.length=dm.l
 pz:∀z∈x.par,0<=z/\z<=if x.wat then 0 else 63
structure RoV (dm:Dm) (n:Nat) (us:List Un):Prop where
 dg:dm.g<=6
 dp:dm.p<=12
 dl:dm.l<=3
 n1:1<=n
 le:n<=us.length
 l64:us.length<=64
 un:∀x∈us,UnV dm x
 wat:∀(i:Nat) x,us[i]? =some x->x.wat=decide (n<=i)
 nd:(us.map (·.name)).Nodup
end Go.GS
namespace Go.Z
open Proofs.Tryz RowKit RX GS
structure UC where
 name:List UInt8
 ppl:Int
 grp:Slc
 vot:Slc
 par:Slc
 wat:Bool
def ceU (u:UC):List Value:=[st u.name,ii u.ppl,vs u.grp,vs u.vot,vs u.par,.bool u.wat]
def veU (u:UC):Value:= .agg (ceU u).toArray
def La (u:UC):(veU u).cells.size=6/\i8 (veU u).cells:=⟨rfl,fun c hc=>by
 simp[veU,ceU,Value.cells]at hc;rcases hc with rfl|rfl|rfl|rfl|rfl|rfl<;>rfl⟩
def el_unit:El prog 26 35 6 true ceU veU where
 und:=aB
 has:=aB
 cel:=aB
 agg:=aB
 pos:=aC
 one1:=fun h=>by cases h
 small:=aC
 inf:=⟨(prog.info? 35).getD default,veU ⟨[],0,(none,0,0),(none,0,0),(none,0,0),false⟩,aB,aB,aB,rfl,oDt aB⟩
 len:=fun p=>rfl
 val:=fun p=>rfl
 cells:=fun p=>rfl
 one:=fun p c hc=>(La p).2 c (by simpa[veU,Value.cells]using hc)
structure UnR (H:PH) (u:UC) (x:Un):Prop where
 name:u.name=x.name
 ppl:u.ppl=x.ppl
 wat:u.wat=x.wat
 grp:SI H (vs u.grp) x.grp
 vot:SI H (vs u.vot) x.vot
 par:SI H (vs u.par) x.par
def UnR.mono {H H':PH} {u:UC} {x:Un} (h:UnR H u x) (hl:Pl H H'):UnR H' u x:=⟨h.name,h.ppl,h.wat,h.grp.mono hl,h.vot.mono hl,h.par.mono hl⟩
def RoR (H:PH) (w:Value) (us:List Un):Prop:=∃l:List UC,SE H 6 ceU w l/\l.length=us.length/\∀(i:Nat) u x,l[i]? =some u->us[i]? =some x->UnR H u x
def RoR.mono {H H':PH} {w:Value} {us:List Un} (h:RoR H w us) (hl:Pl H H'):RoR H' w us:=by
 obtain⟨l,h1,h2,h3⟩:=h;exact⟨l,h1.mono hl,h2,fun i u x a b=>(h3 i u x a b).mono hl⟩
def rov (dm:Dm) (w:Value):Value:= .agg #[ii (dm.g:Nat),ii (dm.p:Nat),ii (dm.l:Nat),w]
def Oi {dm:Dm} {w:Value} (h:n8 w=true):(rov dm w).cells.size=4/\i8 (rov dm w).cells:=⟨rfl,fun c hc=>by
 simp[rov,Value.cells]at hc;rcases hc with rfl|rfl|rfl|rfl
 ·rfl
 ·rfl
 ·rfl
 ·exact h⟩
section
variable {dm:Dm} {H:PH} {u v w:Value} {n:Nat} {us:List Un}
def RoR.one (h:RoR H w us):n8 w=true:=by
 obtain⟨l,h1,_⟩:=h;exact t7 h1
def MZ (l:List UInt8) (h0:l≠[]) (hl:l.length<=100):j5 prog 138 [st l,st Oh] H (st (Go.Lib.trimS l Oh)):=fun w hw=>by
 have hp:0<l.length:=List.length_pos_iff.2 h0;have hi:(prog.info? (Go.Proofs.Tryz.lays160_ren.t 116)).map (fun i=>(i.zero,i.size))=some (some (.agg (Array.replicate 256 (.bool false))),256):=aB;have h:=Go.Proofs.Any.strings_Trim_set Go.Proofs.Tryz.lays160 (Go.zero_of_info hi).1 (Go.zero_of_info hi).2 (ba l) (ba Oh) w (by rw[Nn];decide) (by rw[Nn];exact hp) (by rw[Nn];omega) (by rw[Nn];decide) (Go.Proofs.ascii_of_all aC);exact h.mono fun e w' ⟨he,q,hb⟩=>⟨_,H,he,Step.of_ext hw (by
  subst hb;exact((Ext.alloc w _).trans (Ext.alloc _ _)).trans ⟨rfl,rfl,rfl,aS _,fun _ _=>rfl,Nat.le_add_right _ _⟩),Pl.refl _,rfl⟩
def d7s (l:List Bool):(!l.contains false)=l.all id:=by
 induction l with
 |nil=>rfl
 |cons a l ih=>rw[List.contains_cons,List.all_cons,<-ih];cases a<;>simp
def c7r {l:List Bool} (hu:SE H 1 (fun b:Bool=>[.bool b]) u l) (hl:l.length<1000000) (y:Bool):Con prog 205 [u,.bool y] H fun r H'=>H'=H/\∃z:Int,r=ii z/\decide (z≥0)=l.contains y:=by
 refine g9 mixed d2D ?_;refine r8 Fe hu ?_;refine Jg (α:=Nat×Int) (fun⟨i,p⟩=>[ii p,ii (i:Nat)]) (fun⟨i,p⟩=>i<=l.length/\(l.take i).contains y=false) (fun⟨i,p⟩=>l.length-i) ((0,0)) rfl (⟨bJ _,rfl⟩) fun⟨i,p⟩ hQ=> ?_;simp only[cA,nA];obtain⟨hi,hq⟩:=hQ;refine b9 (b9 ?_);refine g8 (b:=decide (((i:Nat):Int)<(l.length:Nat))) rfl (fun h=> ?_) (fun h=> ?_)
 ·replace h:=oDt h;have pO:i<l.length:=aA;obtain⟨x,hx,tL⟩:=u6 pO;refine r6 Fe hu hx fun _=> ?_;simp only[cA,nA];refine b9 (b9 ?_);refine g8 (b:=(false !=(y==x))) rfl (fun hyx=> ?_) (fun hyx=> ?_)
  ·skip
   exact c9 rfl ⟨rfl,_,rfl,by rw[List.contains_iff_mem.2 (by have:=aJ hx;simp at hyx;rw[hyx];exact this)];exact oDd aA⟩
  ·skip
   exact⟨(i+1,p),by show l.length-(i+1)<l.length-i;omega,(j0 rfl (p6 rfl aA)),⟨⟨pO,by rw[take_snoc hx,List.contains_append,hq];simp at hyx;simp[hyx]⟩,rfl⟩⟩
 ·replace h:=oDf h;rw[aI aA]at hq;exact c9 rfl ⟨rfl,_,rfl,by rw[hq];rfl⟩
def Oj {l:List Bool} (hu:SE H 1 (fun b:Bool=>[.bool b]) u l) (hl:l.length<1000000):Asks prog 89 [u] H (.bool (l.all id)):=by
 refine g9 mixed d2A ?_;have a4m:Asks prog 137 [u,.bool false] H (.bool (l.contains false)):=by
  refine g9 mixed d2C ?_;refine g5 (c7r hu hl false) rfl ?_;rintro _ _ ⟨rfl,z,rfl,hz⟩;refine nmI ?_;simp only[cA,nA];refine b9 ?_;exact c9 rfl ⟨rfl,hz ▸ rfl⟩
 refine s7 (a4m) rfl ?_;simp only[cA,nA];refine b9 ?_;exact c9 rfl ⟨rfl,by rw[<-d7s];rfl⟩
def c1S:q8 prog 213=true:=aB
def c1T {b:Nat} {T:TypeId} {mx:Int} (hb:H b=some (.cells #[ii mx] T (0,0))) (x:Int):Asks prog 213 [ii x,.pointer (some ⟨b,0,none⟩)] H (.bool (decide (x<0)||decide (x>mx))):=by
 refine g9 mixed c6N ?_;refine b9 ?_;refine g8 (b:=decide (x<0)) rfl (fun h=> ?_) (fun h=> ?_)
 ·replace h:=oDt h;exact c9 rfl ⟨rfl,by rw[oDd h];rfl⟩
 ·replace h:=oDf h;refine i7 sc_int rfl rfl hb rfl rfl ?_;simp only[cA,nA];refine b9 ?_;exact c9 rfl ⟨rfl,by rw[decide_eq_false h];rfl⟩
def Uy {l:List Int} {k:Nat} {mx:Int} (hu:SI H u l) (hl:l.length=k) (hz:∀z∈l,0<=z/\z<=mx):j5 prog 139 [u,ii (k:Nat),ii mx] H (.bool true):=by
 refine g9 mixed d2B ?_;refine b4 (el_int.vcells mx) ?_;refine o0 (cs:= #[ii mx]) rfl fun b hb=> ?_;simp only[cA,nA];refine r8 el_int (hu.mono (PH.le_put hb _)) ?_;refine b9 (b9 ?_);refine Ah (bT (p:=((l.length:Nat):Int)=((k:Nat):Int)) aA) ?_;refine x5 (Ai (vs:=[.pointer (some ⟨b,0,none⟩)]) rfl rfl) rfl ?_;simp only[cA,nA];have pS:=PH.put_self H b (.cells #[ii mx] 3 (0,0));refine i9 (ig (caps:=[.pointer (some ⟨b,0,none⟩)]) (q:=fun x=>decide (x<0)||decide (x>mx)) (hu.mono (PH.le_put hb _)) c1S (fun H' x oW _=>(c1T (oW _ _ pS) x).give)) rfl fun H2 l2=> ?_;simp only[cA,nA];have xR:(l.any fun x=>decide (x<0)||decide (x>mx))=false:=by
  rw[mM];intro x hx;have:=hz x hx;simp;omega
 rw[xR];refine b9 ?_;exact c9 rfl ⟨(PH.le_put hb _).trans l2,rfl⟩
def jf:prog.underlying 9=some .string:=aB
def NA:prog.eqGuardType prog.depth 9=false:=aB
def yf:prog.underlying 170=some (.map 9 4):=aB
def NB:∀w,(zeroValue 4).run prog w= .ok (.bool false) w:=fun w=>by rfl
def c1V {u:UC} {x:Un} (hw:n8 w=true) (hu:UnR H u x) (hx:UnV dm x):j5 prog 90 [rov dm w,veU u] H (.bool true):=by
 refine g9 mixed JY ?_;have hn:=hu.name;have hp:=hu.ppl;have pY:=hu.wat;have sP:u.name≠[]:=hn ▸ hx.n0;have a4n:u.name.length<=12:=hn ▸ hx.n12;refine b4 (Oi hw) ?_;refine b4 (La u) ?_;refine⟨(fun l H'=>l=[ii (if x.wat then 0 else 1000000000),ii (if x.wat then 0 else 63)]/\H'=H),?_,?_⟩
 ·skip
  refine b9 ?_;refine g8 (b:=u.wat) rfl (fun hb=> ?_) (fun hb=> ?_)
  ·skip
   exact⟨by rw[<-pY,hb];rfl,rfl⟩
  ·skip
   exact⟨by rw[<-pY,hb];rfl,rfl⟩
 rintro vals H' _ ⟨rfl,rfl⟩;simp only[cA,nA];refine j6 ((HJ (l:=u.name) (m:=[]) (vs:=[st u.name,st []]) rfl rfl rfl).rds _) rfl ?_;simp only[cA,nA];refine j6 ((FI (l:=u.name) (vs:=[st u.name]) rfl rfl jf).rds _) rfl ?_;simp only[cA,nA];refine b9 (b9 (b9 ?_));refine i9 (MZ u.name sP aA) rfl fun H1 l1=> ?_;simp only[cA,nA];rw[show Go.Lib.trimS u.name Oh=[]from hn ▸ hx.trm];refine j6 ((FK (l:=[]) (m:=[]) (vs:=[st [],st []]) rfl rfl rfl jf NA).rds _) rfl ?_;simp only[cA,nA];refine i9 (Uy (hu.grp.mono l1) hx.gl (mx:=u.ppl) (fun z hz=>by rw[hp];exact hx.gz z hz)) rfl fun H2 l2=> ?_;simp only[cA,nA];refine i9 (Uy (hu.vot.mono (l1.trans l2)) hx.vl hx.vz) rfl fun H3 l3=> ?_;simp only[cA,nA];refine i9 (Uy (hu.par.mono ((l1.trans l2).trans l3)) hx.pl hx.pz) rfl fun H4 l4=> ?_;simp only[cA,nA];refine Ba Fe (N:=8) (l:=[!(u.name==[]),decide (((u.name.length:Nat):Int)<=12),([]:List UInt8)==[],decide (u.ppl≥0),decide (u.ppl<=if x.wat then 0 else 1000000000),true,true,true]) (vs:=[.bool (!(u.name==[])),.bool (decide (((u.name.length:Nat):Int)<=12)),.bool (([]:List UInt8)==[]),.bool (decide (u.ppl≥0)),.bool (decide (u.ppl<=if x.wat then 0 else 1000000000)),.bool true,.bool true,.bool true]) rfl aC aC rfl rfl rfl fun v11 H5 l5 o5 _=> ?_;simp only[cA,nA];refine i9 ((Oj o5.se aD).give) rfl fun H6 l6=> ?_;simp only[cA,nA];have e1:(!(u.name==[]))=true:=by cases h:u.name with|nil=>exact absurd h sP|cons a l=>rfl
 have e2:decide (((u.name.length:Nat):Int)<=12)=true:=oDd aA;have e3:decide (u.ppl≥0)=true:=oDd (by rw[hp];exact hx.p0);have e4:decide (u.ppl<=if x.wat then 0 else 1000000000)=true:=oDd (by rw[hp];exact hx.p1);exact c9 rfl ⟨((((l1.trans l2).trans l3).trans l4).trans l5).trans l6,by show Value.bool (List.all _ id)=_;rw[e1,e2,e3,e4];rfl⟩
def Uz (hr:RoR H w us) (hv:RoV dm n us):j5 prog 53 [rov dm w] H (ii 0):=by
 refine g9 mixed JZ ?_;obtain⟨ul,hw,pB,sC⟩:=id hr;have yA:=hv.n1;have oW:=hv.le;have sA:=hv.l64;refine b4 (Oi hr.one) ?_;refine r8 el_unit hw ?_;simp only[cA,nA];refine b9 (b9 (b9 (b9 ?_)));refine Ba Fe (N:=8) (l:=[decide (((dm.g:Nat):Int)≥0),decide (((dm.g:Nat):Int)<=6),decide (((dm.p:Nat):Int)≥0),decide (((dm.p:Nat):Int)<=12),decide (((dm.l:Nat):Int)≥0),decide (((dm.l:Nat):Int)<=3),decide (((ul.length:Nat):Int)>0),decide (((ul.length:Nat):Int)<=64)]) (vs:=[.bool (decide (((dm.g:Nat):Int)≥0)),.bool (decide (((dm.g:Nat):Int)<=6)),.bool (decide (((dm.p:Nat):Int)≥0)),.bool (decide (((dm.p:Nat):Int)<=12)),.bool (decide (((dm.l:Nat):Int)≥0)),.bool (decide (((dm.l:Nat):Int)<=3)),.bool (decide (((ul.length:Nat):Int)>0)),.bool (decide (((ul.length:Nat):Int)<=64))]) rfl aC aC rfl rfl rfl fun v2 H1 l1 o1 _=> ?_;simp only[cA,nA];refine i9 ((Oj o1.se aD).give) rfl fun H2 l2=> ?_;simp only[cA,nA];have tD:=hv.dg;have pE:=hv.dp;have hd3:=hv.dl;rw[oDd (show((dm.g:Nat):Int)≥0 by omega),oDd (show((dm.g:Nat):Int)<=6 by omega),oDd (show((dm.p:Nat):Int)≥0 by omega),oDd (show((dm.p:Nat):Int)<=12 by omega),oDd (show((dm.l:Nat):Int)≥0 by omega),oDd (show((dm.l:Nat):Int)<=3 by omega),oDd (show((ul.length:Nat):Int)>0 by omega),oDd (show((ul.length:Nat):Int)<=64 by omega)];refine b9 ?_;refine j1 rfl ?_;refine j4 (Ji (ok:=fun l:List UInt8=>l.length<=maxLen) (ke:=st) Yu rfl) rfl ?_;rintro v4 H3 ⟨l3,o3⟩;refine nmI ?_;simp only[cA,nA];have l03:=(l1.trans l2).trans l3;refine r8 el_unit (hw.mono l03) ?_;simp only[cA,nA];refine t6 (α:=Nat×List (List UInt8×Value)) (fun⟨i,L⟩=>[ii 0,.bool (decide (n<i)),ii (i:Nat)]) (fun⟨i,L⟩=>fun H'=>i<=us.length/\Pl H2 H'/\MKO (fun l:List UInt8=>l.length<=maxLen) st H2 H' v4 L/\L.map (·.1)=(us.take i).map (·.name)) (fun⟨i,L⟩=>us.length-i) ((0,[])) rfl (⟨bJ _,l3,o3,rfl⟩) fun⟨i,L⟩ H' hQ=> ?_;simp only[cA,nA];obtain⟨hi,l4,o4,hL⟩:=hQ;refine b9 (b9 ?_);refine g8 (b:=decide (((i:Nat):Int)<(ul.length:Nat))) rfl (fun yJ=> ?_) (fun yJ=> ?_)
 ·replace yJ:=oDt yJ;have pO:i<us.length:=aA;obtain⟨x,hx,tL⟩:=u6 pO;have yR:i<ul.length:=aA;obtain⟨u,hu,_⟩:=u6 yR;have l04:=(l1.trans l2).trans l4;have wO:=(sC i u x hu hx).mono l04;have hxm:=aJ hx;have hUV:=hv.un x hxm;have pY:u.wat=decide (n<=i):=wO.wat.trans (hv.wat i x hx);refine r6 el_unit (hw.mono l04) hu fun _=> ?_;simp only[cA,nA];refine b4 (La u) ?_;have vY:u.name∉L.map (·.1):=by
   rw[hL,wO.name];intro hm;obtain⟨y,hy,hye⟩:=bK.1 hm;obtain⟨j,hj⟩:=lU hy;have hji:j<i:=by
    have:=(aH.1 hj).1;rw[bD]at this;omega
   rw[dU hji]at hj;have h1:(us.map (·.name))[j]? =some x.name:=by rw[aY,hj,<-hye];rfl
   have h2:(us.map (·.name))[i]? =some x.name:=by rw[aY,hx];rfl
   have:=(List.getElem?_inj (by simpa using(show j<us.length by omega)) hv.nd).1 (h1.trans h2.symm);omega
  have hnl:u.name.length<=maxLen:=by rw[wO.name];exact bM hUV.n12 aC
  refine⟨(fun l Hx=>l=[.bool false]/\Pl H' Hx),?_,?_⟩
  ·skip
   refine j6 (Yt Yu (vs:=[v4,st u.name]) (ok2:=false) (k:=u.name) (u:= .bool false) (b:=false) rfl rfl rfl yf hnl NB o4.mk (.inl ⟨rfl,rfl,vY⟩)) rfl ?_;simp only[cA,nA];refine b9 ?_;refine i9 (c1V hr.one wO hUV) rfl fun H6 l6=> ?_;simp only[cA,nA];refine b9 ?_;refine g8 (b:=u.wat) rfl (fun hb=> ?_) (fun hb=> ?_)
   ·skip
    have hni:n<=i:=by rw[pY]at hb;exact oDt hb
    refine Ah (bT (p:=((i:Nat):Int)>0) aA) ?_;refine Ba Fe (N:=4) (l:=[true,true,true,true]) (vs:=[.bool true,.bool true,.bool true,.bool true]) rfl aC aC rfl rfl rfl fun v13 H7 l7 o7 _=> ?_;simp only[cA,nA];refine i9 ((Oj o7.se aD).give) rfl fun H8 l8=> ?_;simp only[cA,nA];refine b9 ?_;exact⟨rfl,(l6.trans l7).trans l8⟩
   ·skip
    have hni:¬n<=i:=by rw[pY]at hb;exact oDf hb
    refine b9 ?_;refine g8 (b:=decide (((i:Nat):Int)>0)) rfl (fun tI=> ?_) (fun tI=> ?_)
    ·replace tI:=oDt tI;refine Ba Fe (N:=4) (l:=[true,true,!decide (n<i),true]) (vs:=[.bool true,.bool true,.bool (!decide (n<i)),.bool true]) rfl aC aC rfl rfl rfl fun v13 H7 l7 o7 _=> ?_;simp only[cA,nA];refine i9 ((Oj o7.se aD).give) rfl fun H8 l8=> ?_;simp only[cA,nA];refine b9 ?_;exact⟨by rw[decide_eq_false (show ¬n<i by omega)];rfl,(l6.trans l7).trans l8⟩
    ·replace tI:=oDf tI;refine Ba Fe (N:=4) (l:=[true,true,!decide (n<i),!u.wat]) (vs:=[.bool true,.bool true,.bool (!decide (n<i)),.bool (!u.wat)]) rfl aC aC rfl rfl rfl fun v13 H7 l7 o7 _=> ?_;simp only[cA,nA];refine i9 ((Oj o7.se aD).give) rfl fun H8 l8=> ?_;simp only[cA,nA];refine b9 ?_;exact⟨by rw[decide_eq_false (show ¬n<i by omega),hb];rfl,(l6.trans l7).trans l8⟩
  rintro vals H5 _ ⟨rfl,l5⟩;simp only[cA,nA];refine b9 ?_;refine j1 rfl ?_;refine j4 (Up Yu (k:=u.name) (vs:=[v4,st u.name,.bool true]) rfl rfl rfl rfl yf hnl (l4.trans l5) (o4.mono l5)) rfl ?_;rintro _ H9 ⟨rfl,l9,o9,-⟩;refine nmI ?_;simp only[cA,nA];have hk9:(Dh L u.name (Value.bool true)).map (·.1)=(us.take (i+1)).map (·.name):=by
   unfold Dh;rw[if_neg vY,bI,hL,take_snoc hx,bI,wO.name];rfl
  exact⟨(i+1,Dh L u.name (.bool true)),by show us.length-(i+1)<us.length-i;omega,(Dp rfl (by show Value.bool u.wat=Value.bool (decide (n<i+1));rw[pY];congr 1;apply decide_eq_decide.2;omega) (p6 rfl aA)),⟨by show i+1<=_;omega,l9,o9,hk9⟩⟩
 ·replace yJ:=oDf yJ;exact c9 rfl ⟨(l1.trans l2).trans l4,rfl⟩
end
end Go.Z

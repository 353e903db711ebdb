/- Lemmas: chapter 32. -/
import Derived.Test.YtmannekkmdockaaGreatDoorGsP
import Derived.Test.YtmannekkmdockaaGreatDoorGaD
import Derived.Test.YtmannekkmdockaaGreatDoorRzJ
open Bool renaming and_eq_true->aF,eq_iff_iff->bH
open Classical renaming byContradiction->aP,propDecidable->dU
open Go.Sem renaming run_bind->aG
open List renaming drop->pH,filter_cons->bX,foldl_append->fO,getElem?_eq_none->aW,length_append->aJ,length_cons->bA,length_nil->dM,mem_append->aV,mem_map->aH,mem_of_getElem?->aI,mem_singleton->aQ,range->bL,take->pG
open List.Perm renaming refl->oK
open Nat renaming beq->eG,blt->mN,blt_eq->pF,le_refl->aN,lt_of_lt_of_le->bK,mul->pN,pow_le_pow_right->aU
open Prod.mk renaming injEq->eB
namespace Go.RZ
open Go.RowKit Go.RX
theorem d3k {P:Program} {o:Oper} {x y:Operand} {T u:TypeId} {vs:List Value} {a b:List AV} {H:PH} (hk:Ek P T) (ha:Dt P 6 T a=true) (hb:Dt P 6 T b=true) (ho:o.op= .binOp .eql T x y u) (hx:g9 [x,y] vs x=rz (fun _=>(0,0)) (.agg a)) (hy:g9 [x,y] vs y=rz (fun _=>(0,0)) (.agg b)):Rds P o vs H (.bool (Ef a b)):=fun w _=>by
 have pZ:o.op.operands.toList=[x,y]:=by simp[ho,Op.operands]
 have hK:∀t,(fun t=>eG t T) t=true->Ek P t:=fun t ht=>by rw[Ly ht];exact hk
 have h1:Di P (fun t=>eG t T) T (.agg a)=true:=by simp[Di,ha]
 have h2:Di P (fun t=>eG t T) T (.agg b)=true:=by simp[Di,hb]
 have he:=KG (σ:=fun _=>(0,0)) hK h1 h2 w;rw[pZ];simp only[execOp,ho,hx,hy,aG];simp only[rz]at he⊢;simp[eqGuard,hk.noguard,binOp,he]
theorem KX {P:Program} {o:Oper} {x y:Operand} {T u:TypeId} {vs:List Value} {a b:List AV} {H:PH} (hk:Ek P T) (ha:Dt P 6 T a=true) (hb:Dt P 6 T b=true) (ho:o.op= .binOp .neq T x y u) (hx:g9 [x,y] vs x=rz (fun _=>(0,0)) (.agg a)) (hy:g9 [x,y] vs y=rz (fun _=>(0,0)) (.agg b)):Rds P o vs H (.bool (!Ef a b)):=fun w _=>by
 have pZ:o.op.operands.toList=[x,y]:=by simp[ho,Op.operands]
 have hK:∀t,(fun t=>eG t T) t=true->Ek P t:=fun t ht=>by rw[Ly ht];exact hk
 have h1:Di P (fun t=>eG t T) T (.agg a)=true:=by simp[Di,ha]
 have h2:Di P (fun t=>eG t T) T (.agg b)=true:=by simp[Di,hb]
 have he:=KG (σ:=fun _=>(0,0)) hK h1 h2 w;rw[pZ];simp only[execOp,ho,hx,hy,aG];simp only[rz]at he⊢;simp[eqGuard,hk.noguard,binOp,he]
end Go.RZ
namespace Go.GS
open Go.RowKit Go.RX
theorem Ou {P:Program} {ρ:List Value} {a:SV} {k:Nat} (ha:D P ρ a=ii ((k+1:Nat):Int)) (h:k<9223372036854775807):D P ρ (.op2 .sub .i64 a (.k (.int .i64 1)))=ii (k:Nat):=by
 have:=Rn (P:=P) (ρ:=ρ) (a:=a) (b:= .k (.int .i64 1)) ha (y:=1) rfl (by omega) (by omega);rw[this];show ii _=ii _;congr 1;omega
end Go.GS
namespace Go.Proofs.Z
open Go.Proofs.Tryz
open Go.RowKit Go.RX Go.GS Go.RZ
theorem c7t:Ek prog 99:=by
 have big:6<=(prog).types.size+1:=oDt (by kernel_rfl);exact⟨by kernel_rfl,by kernel_rfl,by kernel_rfl,by kernel_rfl,by kernel_rfl,big⟩
theorem d3l:Ek prog 63:=by
 have big:6<=(prog).types.size+1:=oDt (by kernel_rfl);exact⟨by kernel_rfl,by kernel_rfl,by kernel_rfl,by kernel_rfl,by kernel_rfl,big⟩
def pA (a b:Nat):List AV:=[.int .i64 (.ofNat a),.int .i64 (.ofNat b)]
def cA1 (s:Nat):List AV:=[.int .u64 (.ofNat s)]
theorem xu {n:Nat} (h:n<9223372036854775808) (d:Nat):Dt prog (d+1) 3 [.int .i64 (.ofNat n)]=true:=by
 have hu:prog.underlying 3=some (.int .i64):=by kernel_rfl
 simp only[Dt,hu,okI];rw[show mN n 9223372036854775808=true from by rw[pF];exact h];rfl
theorem d3m {n:Nat} (h:n<M64) (d:Nat):Dt prog (d+1) 54 [.int .u64 (.ofNat n)]=true:=by
 have hu:prog.underlying 54=some (.int .u64):=by kernel_rfl
 simp only[Dt,hu,okI];rw[show mN n 18446744073709551616=true from by rw[pF];exact h];rfl
theorem KY {a b:Nat} (ha:a<9223372036854775808) (hb:b<9223372036854775808):Dt prog 6 99 (pA a b)=true:=by
 have hu:prog.underlying 99=some (.array 2 3):=by kernel_rfl
 have h1:prog.cellsOf 99=2:=by kernel_rfl
 have h2:prog.cellsOf 3=1:=by kernel_rfl
 have hr:bL 2=[0,1]:=by decide
 unfold Dt;rw[hu];simp only[h1,h2,hr,List.all_cons,List.all_nil,Bool.and_true,pA];rw[show(pG 1 (pH (pN 0 1) [AV.int .i64 (.ofNat a),.int .i64 (.ofNat b)]))=[.int .i64 (.ofNat a)]from rfl,show(pG 1 (pH (pN 1 1) [AV.int .i64 (.ofNat a),.int .i64 (.ofNat b)]))=[.int .i64 (.ofNat b)]from rfl,xu ha,xu hb];rfl
theorem KZ {s:Nat} (hs:s<M64):Dt prog 6 63 (cA1 s)=true:=by
 have hu:∃nm ex,prog.underlying 63=some (.struct (fieldsOf prog 63))/\nm=ex:=⟨(),(),by kernel_rfl,rfl⟩;obtain⟨_,_,hu,_⟩:=hu;have h1:prog.cellsOf 63=1:=by kernel_rfl
 have h2:prog.cellsOf 54=1:=by kernel_rfl
 have h3:(fieldsOf prog 63).toList.map (fun f=>(f.type,f.offset))=[(54,0)]:=by kernel_rfl
 unfold Dt;rw[hu];simp only[h1];rw[aF];refine⟨rfl,List.all_eq_true.2 fun f hf=> ?_⟩;have hm:(f.type,f.offset)∈[(54,0)]:=by rw[<-h3];exact aH.2 ⟨f,hf,rfl⟩
 simp only[aQ,eB]at hm;rw[hm.1,hm.2,h2];exact d3m hs 4
theorem d3n {o:Oper} {x y:Operand} {a b c d:Nat} {H:PH} (ho:o.op= .binOp .eql 99 x y 99) {vs:List Value} (hx:g9 [x,y] vs x=ev2 (a,b)) (hy:g9 [x,y] vs y=ev2 (c,d)) (ha:a<9223372036854775808) (hb:b<9223372036854775808) (hc:c<9223372036854775808) (hd:d<9223372036854775808):
  Rds prog o vs H (.bool (decide ((a,b)=(c,d)))):=by
 have h:=d3k (H:=H) c7t (KY ha hb) (KY hc hd) ho (hx.trans (by simp only[pA,rz,rzs];rfl)) (hy.trans (by simp only[pA,rz,rzs];rfl));have e:Ef (pA a b) (pA c d)=decide ((a,b)=(c,d)):=by
  rw[bH,oDi];simp[pA,Ef,isK,eqI,Prod.ext_iff]
 rw[e]at h;exact h
theorem d7j {o:Oper} {x y:Operand} {s t:Nat} {H:PH} (ho:o.op= .binOp .neq 63 x y 63) {vs:List Value} (hx:g9 [x,y] vs x= .agg #[uv s]) (hy:g9 [x,y] vs y= .agg #[uv t]) (hs:s<M64) (ht:t<M64):Rds prog o vs H (.bool (!decide (s=t))):=by
 have h:=KX (H:=H) d3l (KZ hs) (KZ ht) ho (hx.trans (by simp only[cA1,rz,rzs];rfl)) (hy.trans (by simp only[cA1,rz,rzs];rfl));have e:Ef (cA1 s) (cA1 t)=decide (s=t):=by
  rw[bH,oDi];simp[cA1,Ef,isK,eqI]
 rw[e]at h;exact h
theorem d3o (x y:Int):Det prog 259 [ii x,ii y] (.bool (decide (x<y))):=by
 refine Fv mixed d3f (by kernel_rfl) rfl (Jt (wq x) rfl ?_);exact j6 ⟨_,rfl⟩ (rh rfl (j6 ⟨_,rfl⟩ (j6 ⟨_,rfl⟩ (Cf rfl rfl))))
theorem c2j {s:Nat} (hs:s<M64):Det prog 92 [uv s] (ii (Go.WD.blen s)):=Fv mixed c7q (by kernel_rfl) rfl (Jt (Yi s hs) rfl (Cf rfl rfl))
section
variable {H H0:PH} {u v w:Value} {l:List Int} {n:Nat} {es:List (Nat×Nat)}
abbrev OI (H0 H:PH) (v:Value) (l:List Int):Prop:=SO H0 H 3 1 (fun z:Int=>[ii z]) v l
theorem c7u (pP:PH.le H0 H) (ho:OI H0 H u l):Con prog 253 [u,ii 0,ii (l.length:Nat)] H fun _ H'=>PH.le H0 H'/\∃m,m.Perm l/\m.Pairwise (· <= ·)/\OI H0 H' u m:=by
 refine j3 mixed d3e ?_;have hl:=ho.se.len;refine d4 ?_;refine s9 (α:=Nat×List Int) (fun⟨i,m⟩=>[ii (i:Nat)]) (fun⟨i,m⟩=>fun H'=>1<=i/\(i<=l.length\/i=1)/\m.length=l.length/\PH.le H0 H'/\OI H0 H' u m/\m.Perm l/\SoT m i) (fun⟨i,m⟩=>l.length+1-i) ((1,l)) rfl (⟨aN _,.inr rfl,rfl,pP,ho,oK _,d3i _⟩) fun⟨i,m⟩ H' hQ=> ?_;simp only[cA,nA];obtain⟨hi1,uG,hml,l1,o1,hp,hs⟩:=hQ;refine d4 (d4 ?_);refine i0 (b:=decide (((i:Nat):Int)<(l.length:Nat))) rfl (fun h=> ?_) (fun h=> ?_)
 ·replace h:=oDt h;have hi:i<l.length:=by omega
  refine s9 (α:=Nat×List Int) (fun⟨j,m2⟩=>[ii (j:Nat)]) (fun⟨j,m2⟩=>fun H2=>j<=i/\m2.length=l.length/\PH.le H0 H2/\OI H0 H2 u m2/\Ze l m2 i j) (fun⟨j,m2⟩=>j) ((i,m)) rfl (⟨aN _,hml,l1,o1,c2c hp hs⟩) fun⟨j,m2⟩ H2 wI=> ?_;simp only[cA,nA];obtain⟨hji,uM,l2,o2,hI⟩:=wI;refine d4 ?_;refine i0 (b:=decide (((j:Nat):Int)>0)) rfl (fun h2=> ?_) (fun h2=> ?_)
  ·replace h2:=oDt h2;obtain⟨k,rfl⟩:∃k,j=k+1:=⟨j-1,by omega⟩;obtain⟨x,hx,_⟩:=t7 (l:=m2) (i:=k+1) (by omega);obtain⟨y,hy,_⟩:=t7 (l:=m2) (i:=k) (by omega);have sL:m2[k+1-1]? =some y:=hy;refine Do el_int rfl rfl rfl rfl (fun _=>rfl) o2.se hx rfl (fun _=>rfl) fun _=> ?_;simp only[cA,nA];refine Do el_int rfl rfl rfl rfl (fun _=>rfl) o2.se hy (j4 rfl (Ou rfl (by omega))) (fun _=>rfl) fun _=> ?_;simp only[cA,nA];refine Am (d3o x y) rfl ?_;simp only[cA,nA];refine d4 ?_;refine i0 (b:=decide (x<y)) rfl (fun h3=> ?_) (fun h3=> ?_)
   ·replace h3:=oDt h3;refine Do el_int rfl rfl rfl rfl (fun _=>rfl) o2.se hy (j4 rfl (Ou rfl (by omega))) (fun _=>rfl) fun _=> ?_;simp only[cA,nA];refine Do el_int rfl rfl rfl rfl (fun _=>rfl) o2.se hx rfl (fun _=>rfl) fun _=> ?_;simp only[cA,nA];refine Dp el_int (a:=y) rfl rfl rfl rfl (fun _=>rfl) (fun _=>rfl) l2 o2 (show k+1<m2.length by omega) rfl (fun _=>rfl) rfl fun p3 u3 H3 l3 o3 _=> ?_;simp only[cA,nA];refine Dp el_int (a:=x) rfl rfl rfl rfl (fun _=>rfl) (fun _=>rfl) l3 o3 (show k<(m2.set (k+1) y).length by rw[List.length_set];omega) (j4 rfl (Ou rfl (by omega))) (fun _=>rfl) rfl fun p4 u4 H4 l4 o4 _=> ?_;simp only[cA,nA];exact⟨(k,(m2.set (k+1) y).set k x),by show k<k+1;omega,(z8 (Ou rfl (by omega))),⟨by show k<=i;omega,by simp[uM],l4,o4,c7r hI hx sL (by omega) (by omega) h3⟩⟩
   ·replace h3:=oDf h3;exact⟨(i+1,m2),by show l.length+1-(i+1)<l.length+1-i;omega,(z8 (i9 rfl (by omega))),⟨by show 1<=i+1;omega,.inl (by show i+1<=l.length;omega),uM,l2,o2,hI.1,KU hI (.inr ⟨x,y,hx,sL,h3⟩)⟩⟩
  ·replace h2:=oDf h2;exact⟨(i+1,m2),by show l.length+1-(i+1)<l.length+1-i;omega,(z8 (i9 rfl (by omega))),⟨by show 1<=i+1;omega,.inl (by show i+1<=l.length;omega),uM,l2,o2,hI.1,KU hI (.inl (by omega))⟩⟩
 ·replace h:=oDf h;exact g8 rfl ⟨l1,m,hp,d7i fun a b x y h1 h2 h3 h4=>hs a b x y h1 (by omega) h3 h4,o1⟩
theorem c7v {k:Int} (pP:PH.le H0 H) (ho:OI H0 H u l) (hn:l.length<=12):Con prog 229 [u,ii 0,ii (l.length:Nat),ii k] H fun _ H'=>PH.le H0 H'/\∃m,m.Perm l/\m.Pairwise (· <= ·)/\OI H0 H' u m:=by
 refine j3 mixed d3d ?_;refine s9 (α:=Unit) (fun⟨⟩=>[ii k,.bool true,ii 0,.bool true,ii (l.length:Nat)]) (fun⟨⟩=>fun H'=>H'=H) (fun⟨⟩=>0) (()) rfl (rfl) fun⟨⟩ H' hQ=> ?_;simp only[cA,nA];subst hQ;have dd:D prog ([u,ii 0,ii (l.length:Nat),ii k]++[ii k,.bool true,ii 0,.bool true,ii (l.length:Nat)]) (.op2 .sub .i64 (.v 8) (.v 6))=ii ((l.length:Nat):Int):=(Rn (x:=((l.length:Nat):Int)) (y:=0) rfl rfl (by omega) (by omega)).trans (by rw[Int.sub_zero]);refine d4 (d4 ?_);refine d9 (by show D _ _ _= .bool true;show t8 .leq .i64 (intOf (D _ _ _)) 12= .bool true;erw [dd];show Value.bool (decide (((l.length:Nat):Int)<=12))=_;rw[oDd (by omega)]) ?_;refine i6 (c7u pP ho) rfl ?_;rintro _ H2 ⟨l2,h2⟩;refine nmI ?_;simp only[cA,nA];exact g8 rfl ⟨l2,h2⟩
theorem c7w (pP:PH.le H0 H) (ho:OI H0 H u l) (hn:l.length<=12):Con prog 187 [u] H fun _ H'=>PH.le H0 H'/\∃m,m.Perm l/\m.Pairwise (· <= ·)/\OI H0 H' u m:=by
 refine j3 mixed d3c ?_;have hl:=ho.se.len;refine Om el_int rfl rfl ho.se rfl ?_;refine d4 ?_;refine Am (c2j (s:=l.length) (by simp only[M64];omega)) (z8 (gy rfl (by simp only[M64];omega))) ?_;refine i6 (c7v pP ho hn) rfl ?_;rintro _ H2 ⟨l2,h2⟩;refine nmI ?_;exact g8 rfl ⟨l2,h2⟩
theorem c7x {a b:Nat} (hw:SG H w es) (hg:GV n es) (qK:n<=64) (ha:a<64) (hb:b<64):Asks prog 186 [w,ev2 (a,b)] H (ii (Il es (a,b))):=by
 refine j3 mixed d3b ?_;have hl:=hw.len;refine d9 (el_edge.vcells (a,b)) ?_;refine j7 el_edge hw ?_;refine Dq (α:=Nat×Value) (fun⟨i,z⟩=>[z,ii (i:Nat)]) (fun⟨i,z⟩=>i<=es.length/\∀y∈es.take i,y≠(a,b)) (fun⟨i,z⟩=>es.length-i) ((0,ii 0)) rfl (⟨Nat.zero_le _,fun y hy=>by cases hy⟩) fun⟨i,z⟩ hQ=> ?_;obtain⟨hi,hq⟩:=hQ;refine d4 (d4 ?_);refine i0 (b:=decide (((i:Nat):Int)<(es.length:Nat))) rfl (fun h=> ?_) (fun h=> ?_)
 ·replace h:=oDt h;have pW:i<es.length:=by omega
  obtain⟨e,he,hde⟩:=t7 pW;refine j8 el_edge hw he fun _=> ?_;have vW:=hg.mem he;obtain⟨c,d⟩:=e;refine r7 (d3n (a:=a) (b:=b) (c:=c) (d:=d) rfl rfl rfl (by omega) (by omega) (by omega) (by omega)) rfl ?_;refine d4 ?_;refine i0 (b:=decide ((a,b)=(c,d))) rfl (fun h2=> ?_) (fun h2=> ?_)
  ·replace h2:=oDt h2;exact g8 rfl ⟨rfl,congrArg ii (c2e (h2 ▸ he) hq).symm⟩
  ·replace h2:=oDf h2;exact⟨(i+1,z),by show es.length-(i+1)<es.length-i;omega,(j4 rfl (i9 rfl (by omega))),⟨⟨pW,by rw[take_snoc he];intro y hy;rw[aV,aQ]at hy;rcases hy with hy|rfl;(exact hq y hy);exact fun e=>h2 e.symm⟩,rfl⟩⟩
 ·replace h:=oDf h;rw[List.take_of_length_le (by omega)]at hq;exact g8 rfl ⟨rfl,congrArg ii (c7s hq).symm⟩
end
end Go.Proofs.Z
/- What can be reached. -/
namespace Go.GS
def adj (es:List (Nat×Nat)) (y z:Nat):Prop:=∃e∈es,(e.1=y/\e.2=z)\/(e.2=y/\e.1=z)
theorem adj.symm {es:List (Nat×Nat)} {y z:Nat} (h:adj es y z):adj es z y:=by
 obtain⟨e,he,h|h⟩:=h
 ·exact⟨e,he,.inr ⟨h.2,h.1⟩⟩
 ·exact⟨e,he,.inl ⟨h.2,h.1⟩⟩
inductive Rch (es:List (Nat×Nat)) (set x:Nat):Nat->Prop
 |base:Rch es set x x
 |step {y z:Nat}:Rch es set x y->adj es y z->bit set z=true->Rch es set x z
theorem Rch.trans {es:List (Nat×Nat)} {set x y z:Nat} (h1:Rch es set x y) (h2:Rch es set y z):Rch es set x z:=by
 induction h2 with
 |base=>exact h1
 |step _ ha hz ih=>exact ih.step ha hz
theorem Rch.mem {es:List (Nat×Nat)} {set x y:Nat} (h:Rch es set x y) (hx:bit set x=true):bit set y=true:=by
 cases h with
 |base=>exact hx
 |step _ _ hz=>exact hz
theorem Rch.symm {es:List (Nat×Nat)} {set x y:Nat} (h:Rch es set x y) (hx:bit set x=true):Rch es set y x:=by
 induction h with
 |base=>exact .base
 |step h1 ha hz ih=>exact((Rch.base.step ha.symm (h1.mem hx)).trans ih)
def CL (es:List (Nat×Nat)) (set x c:Nat):Prop:=c<M64/\∀y,bit c y=true↔Rch es set x y
theorem CL.uniq {es:List (Nat×Nat)} {set x c d:Nat} (h:CL es set x c) (k:CL es set x d):c=d:=Ax fun y=>by
 rw[bH,h.2,k.2]
def Cn (es:List (Nat×Nat)) (set:Nat):Prop:=∃x,bit set x=true/\∀y,bit set y=true->Rch es set x y
theorem Cn.all {es:List (Nat×Nat)} {set x y:Nat} (h:Cn es set) (hx:bit set x=true) (hy:bit set y=true):Rch es set x y:=by
 obtain⟨z,hz,h⟩:=h;exact((h x hx).symm hz).trans (h y hy)
theorem xw {n:Nat} {es:List (Nat×Nat)} (h:∀e∈es,e.1<e.2/\e.2<n) {x y:Nat}:bit (nb es x) y=true↔adj es x y:=by
 rw[JW];constructor
 ·rintro⟨e,he,h1|h1⟩
  ·exact⟨e,he,.inl h1⟩
  ·exact⟨e,he,.inr h1.2⟩
 ·rintro⟨e,he,h1|h1⟩
  ·exact⟨e,he,.inl h1⟩
  ·exact⟨e,he,.inr ⟨by have:=h e he;omega,h1⟩⟩
def grow (es:List (Nat×Nat)) (set part:Nat) (l:List Nat):Nat:=l.foldl (fun s n=>s|||(nb es n&&&set)) part
theorem xx (es:List (Nat×Nat)) (set part:Nat) (l:List Nat) (x:Nat):grow es set part (l++[x])=grow es set part l|||(nb es x&&&set):=by
 unfold grow;rw[fO];rfl
theorem Zf {es:List (Nat×Nat)} {set part:Nat} (l:List Nat) (y:Nat):bit (grow es set part l) y=true↔bit part y=true\/∃x∈l,bit (nb es x) y=true/\bit set y=true:=by
 induction l using Hy with
 |nil=>simp[grow]
 |snoc l x ih=>
  rw[xx,Ac,Gq,Bool.or_eq_true,ih,aF];simp only[aV,aQ];constructor
  ·rintro((h|⟨a,h1,h2⟩)|h)
   ·exact .inl h
   ·exact .inr ⟨a,.inl h1,h2⟩
   ·exact .inr ⟨x,.inr rfl,h⟩
  ·rintro(h|⟨a,h1|rfl,h2⟩)
   ·exact .inl (.inl h)
   ·exact .inl (.inr ⟨a,h1,h2⟩)
   ·exact .inr h2
theorem LA {es:List (Nat×Nat)} {set part:Nat} (hs:set<M64) (hp:part<M64) (l:List Nat):grow es set part l<M64:=by
 induction l using Hy with
 |nil=>exact hp
 |snoc l x ih=>rw[xx];exact Hv ih (d2x hs)
theorem c7y {n:Nat} {es:List (Nat×Nat)} (h:∀e∈es,e.1<e.2/\e.2<n) {set part x:Nat} (hp:part<M64) (hx:bit part x=true) (hr:∀y,bit part y=true->Rch es set x y) (he:grow es set part (els part)=part):CL es set x part:=by
 refine⟨hp,fun y=>⟨hr y,fun hy=> ?_⟩⟩;induction hy with
 |base=>exact hx
 | @step u v _ ha hz ih=>
  rw[<-he,Zf];exact .inr ⟨u,(Gf hp).2 ih,(xw h).2 ha,hz⟩
theorem c7z {n:Nat} {es:List (Nat×Nat)} (h:∀e∈es,e.1<e.2/\e.2<n) {set part x:Nat} (hp:part<M64) (hr:∀y,bit part y=true->Rch es set x y):∀y,bit (grow es set part (els part)) y=true->Rch es set x y:=by
 intro y hy;rw[Zf]at hy;rcases hy with hy|⟨z,h1,h2,h3⟩
 ·exact hr y hy
 ·exact(hr z ((Gf hp).1 h1)).step ((xw h).1 h2) h3
theorem c2m {p q:Nat->Bool} (hpq:∀y,p y=true->q y=true) {x:Nat} (hq:q x=true) (hp:p x=false):∀l:List Nat,x∈l->(l.filter p).length<(l.filter q).length:=by
 have pP:∀l:List Nat,(l.filter p).length<=(l.filter q).length:=by
  intro l;induction l with
  |nil=>exact aN _
  |cons a l ih=>
   rw[bX,bX];split
   ·rename_i h;rw[if_pos (hpq a h)];simp;exact ih
   ·split
    ·simp;omega
    ·exact ih
 intro l;induction l with
 |nil=>intro h;cases h
 |cons a l ih=>
  intro h;rw[bX,bX];rcases List.mem_cons.1 h with rfl|h
  ·rw[if_neg (by simp[hp]),if_pos hq];have:=pP l;simp;omega
  ·have:=ih h;split
   ·rename_i h;rw[if_pos (hpq a h)];simp;exact this
   ·split
    ·simp;omega
    ·exact this
theorem Vj {a b x:Nat} (h:∀y,bit a y=true->bit b y=true) (hb:bit b x=true) (ha:bit a x=false) (hx:x<64):card a<card b:=
 c2m h hb ha _ (List.mem_range.2 hx)
theorem Me (a:Nat):card a<=64:=by
 have:=List.length_filter_le (bit a) (bL 64);simpa[card,els]using this
theorem Ru {a b:Nat} (h:a≠b) (rL:∀y,bit a y=true->bit b y=true):∃x,bit b x=true/\bit a x=false:=by
 apply aP;intro hn;apply h;apply Ax;intro y;cases hy:bit a y with
 |true=>rw[rL y hy]
 |false=>
  cases hb:bit b y with
  |false=>rfl
  |true=>exact absurd ⟨y,hb,hy⟩ hn
def CS (es:List (Nat×Nat)) (set rest k:Nat):Prop:=(k=0/\rest=set)\/(k=1/\∃x c,bit set x=true/\CL es set x c/\rest=sdf set c)\/(2<=k/\¬Cn es set)
theorem CS.end {es:List (Nat×Nat)} {set k:Nat} (h:CS es set 0 k):k=1↔Cn es set:=by
 rcases h with⟨rfl,h⟩|⟨rfl,x,c,hx,hc,h⟩|⟨h1,h2⟩
 ·subst h;constructor
  ·intro h;cases h
  ·rintro⟨x,hx,_⟩;rw[Bz]at hx;cases hx
 ·refine⟨fun _=>⟨x,hx,fun y hy=> ?_⟩,fun _=>rfl⟩;have:bit (sdf set c) y=false:=by rw[<-h,Bz]
  rw[Ad,hy]at this;exact(hc.2 y).1 (by simpa using this)
 ·exact⟨fun h=>by omega,fun h=>absurd h h2⟩
theorem CS.next {es:List (Nat×Nat)} {set rest k x c:Nat} (h:CS es set rest k) (hx:bit rest x=true) (hxs:bit set x=true) (hc:CL es set x c):CS es set (sdf rest c) (k+1):=by
 rcases h with⟨rfl,rfl⟩|⟨rfl,y,d,hy,hd,rfl⟩|⟨h1,h2⟩
 ·exact .inr (.inl ⟨rfl,x,c,hxs,hc,rfl⟩)
 ·refine .inr (.inr ⟨by omega,fun hn=> ?_⟩);rw[Ad,(hd.2 x).2 (hn.all hy hxs)]at hx;simp at hx
 ·exact .inr (.inr ⟨by omega,h2⟩)
end Go.GS
/- Chapter 32: graphs, part 3. -/
namespace Go.RX
open Go.RowKit
theorem Ov {P:Program} {ρ:List Value} {x:SV} {v:Value} (h:D P ρ x=v) (hc:v.cells= #[v]):D P ρ (.cell x 0 0 noI)=v:=by
 show(D P ρ x).cells.getD (0+0*z6 (D P ρ noI)) undef=v;rw[h,hc,Nat.zero_mul];rfl
end Go.RX
namespace Go.Proofs.Z
open Go.Proofs.Tryz
open Go.RowKit Go.RX Go.GS
section
variable {H:PH} {n:Nat} {w:Value} {es:List (Nat×Nat)} {set:Nat}
theorem Ci {n:Nat} (h:n<=64) {s:Nat} (hs:s<2^n):s<M64:=bK hs (aU (n:=2) (by decide) h)
theorem Zg {n s x:Nat} (hs:s<2^n) (h:bit s x=true):x<n:=by
 apply Nat.lt_of_not_le;intro hn;have:=Nat.testBit_lt_two_pow (bK hs (aU (n:=2) (by decide) hn));rw[bit,this]at h;cases h
set_option maxHeartbeats 1000000 in
theorem c2o (hT:Tb H) (hw:SG H w es) (hg:GV n es) (hs:set<2^n):Con prog 182 [gv n w,uv set] H fun u H'=>PH.le H H'/\∃l,SU H' u l/\(l.length=1↔Cn es set):=by
 refine j3 mixed Z3 ?_;have hn:=hg.n64;have qF:=Ci hn hs;refine d9 (Ap hw) ?_;refine d9 (el_u64.vcells set) ?_;refine i6 (d2E hw hg) rfl ?_;rintro u H1 ⟨l1,o1⟩;refine nmI ?_;have hu:=o1.se;refine d9 hu.one ?_;refine s9 (α:=Value×Nat×List Nat) (fun⟨v,rest,l⟩=>[v,uv rest,gv n w,uv set,u]) (fun⟨v,rest,l⟩=>fun H'=>PH.le H1 H'/\SO H1 H' 54 1 (fun s:Nat=>[uv s]) v l/\rest<M64/\(∀y,bit rest y=true->bit set y=true)/\CS es set rest l.length/\l.length+card rest<=64) (fun⟨v,rest,l⟩=>card rest) ((.slice none 0 0,set,[])) rfl (⟨PH.le.refl _,SO.nil _ _ _ _ _,qF,fun _ h=>h,.inl ⟨rfl,rfl⟩,by simpa using Me set⟩) fun⟨v,rest,l⟩ H' hQ=> ?_;obtain⟨l2,o2,hr,hrs,hC,uR⟩:=hQ;refine d4 ?_;refine r9 (p:=(rest≠0)) (bN0 rest) (fun h=> ?_) fun h=> ?_
 ·obtain⟨x,r,rJ⟩:∃x r,els rest=x::r:=by
   cases rJ:els rest with
   |nil=>exact absurd (Uz hr rJ) h
   |cons x r=>exact⟨x,r,rfl⟩
  obtain⟨hx,xW,_⟩:=Va rJ;have hxs:=hrs x hx;refine s9 (α:=Nat) (fun part=>[uv part,gv n w,uv set,u]) (fun part=>fun H''=>PH.le H' H''/\part<M64/\bit part x=true/\∀y,bit part y=true->Rch es set x y) (fun part=>64-card part) (2^x) (Ot (by rw[Ej (B:=(M64-rest)%M64) rfl (Ve rfl hr) hr (Nat.mod_lt _ (by decide)),Yt hr rJ]) rfl rfl rfl) (⟨PH.le.refl _,An xW,by rw[Ae];simp,fun y hy=>by rw[Ae]at hy;simp at hy;subst hy;exact .base⟩) fun part H2 wI=> ?_;obtain⟨l3,hp,hpx,qT⟩:=wI;refine d9 (el_u64.vcells part) ?_;refine i6 (c6W (H:=H2) (s:=part)) rfl ?_;rintro _ _ ⟨b,hb,rfl,rfl⟩;refine nmI ?_;have l4:PH.le H1 H2:=l2.trans l3;have rK:SU H2 u (nbs n es):=hu.mono l4;have vQ:∀y,bit part y=true->y<n:=fun y hy=>Zg hs ((qT y hy).mem hxs);refine Uy (X:=H2) (K:=Dh b part) (Ro:=H2) (fun pre vals X'=>X'=H2/\vals=[uv (grow es set part ((els part).take pre.length))]) (fun _ _ _=>False) (c1S hp ((hT.mono l1).mono l4)) c1Q (xa _ hb) rfl (fun _ _ _ h=>by rw[h.1];exact PH.le.refl _) ⟨rfl,rfl⟩ ?_ ?_ ?_
  ·rintro pre xs vals X' ⟨y,hy,rfl,pV⟩ _ ⟨rfl,rfl⟩;refine⟨rfl,?_⟩;have hyp:bit part y=true:=(Gf hp).1 (aI hy);refine Do el_u64 rfl rfl rfl rfl (fun _=>rfl) rK (Zb es (vQ y hyp)) (j4 (Ov rfl rK.cells) rfl) (fun _=>rfl) fun _=> ?_;have hgl:=LA (es:=es) qF hp ((els part).take pre.length);have rY:=ww hg.ed hn y;refine d4 (d4 (d4 ?_));exact⟨rfl,by rw[aJ];simp only[bA,dM];rw[take_snoc hy,xx];exact z8 (Cb rfl (Ej rfl rfl rY qF) hgl (gw rY))⟩
  ·rintro xs vals X' K' rfl hd _ ⟨rfl,rfl⟩;rw[List.length_map,List.take_length];simp only[cA,nA];have hgl:=LA (es:=es) qF hp (els part);have l5:PH.le X' (X'.or K'):=PH.le_or _ _;refine d4 (d4 ?_);refine r9 (p:=(grow es set part (els part)=part)) (by show Value.bool (((grow es set part (els part):Nat):Int)==((part:Nat):Int))=_;rw[bE];congr 1;apply decide_eq_decide.2;omega) (fun h2=> ?_) fun h2=> ?_
   ·have a5l:=c7y hg.ed hp hpx qT h2;refine Iz el_u64 rfl rfl rfl (fun _=>rfl) (fun _=>rfl) (l4.trans l5) (o2.mono (l3.trans l5)) (by omega) rfl (fun _=>rfl) rfl fun p v2 H3 l6 o3=> ?_;have pO:card (sdf rest part)<card rest:=Vj (fun y hy=>by rw[Ad]at hy;exact(aF _ _ ▸ hy).1) hx (by rw[Ad,hpx];simp) xW;exact⟨(v2,sdf rest part,l++[part]),pO,(by simp only[List.map_cons,List.map_nil];rw[Rk rfl rfl hr hp];rfl),⟨l6,o3,sdf_lt hr,fun y hy=>hrs y (by rw[Ad]at hy;exact(aF _ _ ▸ hy).1),by rw[aJ];exact hC.next hx hxs a5l,by rw[aJ];simp only[bA,dM];omega⟩⟩
   ·obtain⟨z,hz1,yI⟩:=Ru (fun e=>h2 e.symm) (fun y hy=>by rw[Zf];exact .inl hy);have pO:card part<card (grow es set part (els part)):=Vj (fun y hy=>by rw[Zf];exact .inl hy) hz1 yI (Db hgl hz1);have xP:=Me (grow es set part (els part));exact⟨grow es set part (els part),by omega,rfl,⟨l3.trans l5,hgl,by rw[Zf];exact .inl hpx,c7z hg.ed hp qT⟩⟩
  ·exact fun _ _ _ _ _ _ _ h=>h.elim
 ·have h0:rest=0:=by omega
  subst h0;exact g8 rfl ⟨l1.trans l2,l,o2.se,hC.end⟩
end
end Go.Proofs.Z
/- Plans. -/
namespace Go.GS
def LabOk (p:List Int) (k:Int):Prop:=(∀x∈p,0<=x/\x<k)/\0<p.length/\p.length<=64
instance (p:List Int) (k:Int):Decidable (LabOk p k):=inferInstanceAs (Decidable (_/\_/\_))
def mkN (p:List Int) (d:Int) (m:Nat):Nat:=(bL m).foldl (fun s i=>if p[i]? =some d then s|||2^i else s) 0
theorem LC (p:List Int) (d:Int) (m:Nat):mkN p d (m+1)=if p[m]? =some d then mkN p d m|||2^m else mkN p d m:=by
 unfold mkN;rw[List.range_succ,fO];rfl
theorem jd (p:List Int) (d:Int) (m i:Nat):bit (mkN p d m) i=(decide (i<m)&&decide (p[i]? =some d)):=by
 induction m with
 |zero=>simp[mkN,bit]
 |succ m ih=>
  rw[LC];split
  ·rename_i h;rw[Ac,Ae,ih];by_cases e:m=i
   ·subst e;simp[h]
   ·simp[e,show(i<m+1)=(i<m)from by apply propext;omega]
  ·rename_i h;rw[ih];by_cases e:i=m
   ·subst e;simp[h]
   ·simp[show(i<m+1)=(i<m)from by apply propext;omega]
theorem Ox (p:List Int) (d:Int) {m:Nat} (h:m<=64):mkN p d m<2^m:=by
 apply Nat.lt_pow_two_of_testBit;intro i hi;have:=jd p d m i;unfold bit at this;rw[this];simp[show ¬i<m by omega]
theorem Zh (p:List Int) (d:Int) {m:Nat} (h:m<=64):mkN p d m<M64:=bK (Ox p d h) (aU (n:=2) (by decide) h)
def j5 (p:List Int) (d:Int):Nat:=mkN p d p.length
def Ia (p:List Int) (k m:Nat):List Nat:=(bL k).map fun d:Nat=>mkN p d m
theorem je (p:List Int) (k m:Nat):(Ia p k m).length=k:=by simp[Ia]
theorem Rw (p:List Int) (m:Nat) {k d:Nat} (h:d<k):(Ia p k m)[d]? =some (mkN p d m):=by simp[Ia,h]
theorem c2p (p:List Int) (k:Nat):Ia p k 0=List.replicate k 0:=by
 apply List.ext_getElem
 ·simp[Ia]
 ·intro i h1 h2;simp[Ia,mkN]
theorem c2q (p:List Int) (k:Nat) {m d:Nat} (h:p[m]? =some (d:Int)):(Ia p k m).set d (mkN p d m|||2^m)=Ia p k (m+1):=by
 apply List.ext_getElem?;intro i;by_cases hi:i<k
 ·rw[Rw _ _ hi,LC];by_cases e:d=i
  ·subst e;rw[List.getElem?_set_self (by simp[je,hi]),if_pos h]
  ·rw[List.getElem?_set_ne e,Rw _ _ hi,if_neg (by rw[h];simp;omega)]
 ·rw[aW (by simp[je];omega),aW (by simp[je];omega)]
def masks (p:List Int) (k:Nat):List Nat:=Ia p k p.length
def Ak (p:List Int) (k:Nat):Prop:=∀d,d<k->j5 p (d:Nat)≠0
instance (p:List Int) (k:Nat):Decidable (Ak p k):=inferInstanceAs (Decidable (∀d,d<k->_))
def plE (n:Nat) (p:List Int) (k:Int):Int:=if k<1\/k>8 then 2 else if p.length=n/\LabOk p k/\Ak p k.toNat then 0 else 210
theorem LabOk.at {p:List Int} {k:Int} (h:LabOk p k) {i:Nat} {x:Int} (hx:p[i]? =some x):0<=x/\x<k:=h.1 x (aI hx)
noncomputable def cnB (es:List (Nat×Nat)) (set:Nat):Bool:= @decide (Cn es set) (dU _)
theorem cnB_iff {es:List (Nat×Nat)} {set:Nat}:cnB es set=true↔Cn es set:= @decide_eq_true_iff _ (dU _)
theorem xy {n:Nat} {p:List Int} {k:Int} (h:plE n p k=0):1<=k/\k<=8/\p.length=n/\LabOk p k/\Ak p k.toNat:=by
 unfold plE at h;split at h
 ·cases h
 ·split at h
  ·rename_i h1 h2;exact⟨by omega,by omega,h2⟩
  ·cases h
theorem xz {p:List Int} {k s:Nat} (h:s∈masks p k) (hp:p.length<=64):s<2^p.length:=by
 simp only[masks,Ia,aH]at h;obtain⟨d,_,rfl⟩:=h;exact Ox p d hp
end Go.GS

/- Soundness of the symbolic terms. -/
import Derived.Test.YtmannekkmdockaaGreatDoorRxC
import Derived.Laws.CopyRow
import Derived.Laws.Cells
import Derived.ChangeKeysEq
import Derived.Laws.Small
import Derived.WalkSmall
open Array renaming ext_getElem?->mD,extract_append->gV,getD_eq_getD_getElem?->dD,getElem?_append_left->cO,getElem?_append_right->eK,getElem?_eq_none->iW,getElem?_extract->iV,mem_toList_iff->gU,size_append->gI,size_extract->mF,toList_append->jJ,toList_inj->eZ
open Bool renaming and_eq_true->aF,or_eq_true->bW
open Go.Result renaming andThen_ok->aE
open Go.Sem renaming run_bind->aG,run_pure->aT
open List renaming foldl_cons->eP
open Nat renaming add_zero->cZ,zero_add->bM,zero_mul->dV
open Option renaming isSome_iff_exists->eU
open Option.some renaming injEq->aD
namespace Go.RX
open Go.RowKit
theorem WH {ρ r:List Value} {i:Nat} (h:i<ρ.length):(ρ++r).getD i undef=ρ.getD i undef:=by
 simp[List.getD_eq_getElem?_getD,List.getElem?_append_left h]
theorem Ho (P:Program) (ρ r:List Value):∀x:SV,x.lt ρ.length=true->D P (ρ++r) x=D P ρ x:=by
 intro x;induction x with
 |v i=>intro h;simp only[SV.lt,decide_eq_true_eq]at h;exact WH h
 |k c=>intro _;rfl
 |z t=>intro _;rfl
 |ag x ih=>intro h;simp only[SV.lt]at h;simp only[D,ih h]
 |cell x o s i ih1 ih2=>intro h;simp only[SV.lt,aF]at h;simp only[D,ih1 h.1,ih2 h.2]
 |sub x o n s i ih1 ih2=>intro h;simp only[SV.lt,aF]at h;simp only[D,ih1 h.1,ih2 h.2]
 |put x o n y s i ih1 ih2 ih3=>intro h;simp only[SV.lt,aF]at h;simp only[D,ih1 h.1.1,ih2 h.1.2,ih3 h.2]
 |cat x n y ih1 ih2=>intro h;simp only[SV.lt,aF]at h;simp only[D,ih1 h.1,ih2 h.2]
 |proj x i ih=>intro h;simp only[SV.lt]at h;simp only[D,ih h]
 |op2 o k x y ih1 ih2=>intro h;simp only[SV.lt,aF]at h;simp only[D,ih1 h.1,ih2 h.2]
 |op1 o k x ih=>intro h;simp only[SV.lt]at h;simp only[D,ih h]
 |nt x ih=>intro h;simp only[SV.lt]at h;simp only[D,ih h]
 |cv k x ih=>intro h;simp only[SV.lt]at h;simp only[D,ih h]
 |ite c x y ih1 ih2 ih3=>intro h;simp only[SV.lt,aF]at h;simp only[D,ih1 h.1.1,ih2 h.1.2,ih3 h.2]
 |eqb n x y ih1 ih2=>intro h;simp only[SV.lt,aF]at h;simp only[D,ih1 h.1,ih2 h.2]
theorem DT (P:Program) (ρ r:List Value) (q:Rq) (h:q.sv.lt ρ.length=true):q.holds P (ρ++r)↔q.holds P ρ:=by
 cases q<;>simp only[Rq.sv]at h<;>simp only[Rq.holds,Ho P ρ r _ h]
theorem DU {a b:Value} (h:cm a b=true):a=b:=by
 unfold cm at h;split at h<;>first|rfl|(exfalso;cases h;done)|skip
 ·simp at h;rw[h]
 ·simp at h;rw[h.1,h.2]
 ·simp at h;rw[h.1,h.2]
 ·rename_i a b;simp at h;congr 1;cases a;cases b;simp at h;rw[h]
 ·simp at h;rw[h.1.1.1.1,h.1.1.1.2,h.1.1.2,h.1.2,h.2]
 ·simp at h;rw[h.1,h.2]
theorem SV.beq_sound:∀{x y:SV},x.beq y=true->x=y:=by
 intro x;induction x with
 |v i=>intro y h;cases y<;>simp[SV.beq]at h;rw[h]
 |k c=>intro y h;cases y<;>simp[SV.beq]at h;rw[DU h]
 |z t=>intro y h;cases y<;>simp[SV.beq]at h;rw[h]
 |ag x ih=>intro y h;cases y<;>simp[SV.beq]at h;rw[ih h]
 |cell x o s i ih1 ih2=>intro y h;cases y<;>simp[SV.beq]at h;rw[ih1 h.1.1.1,h.1.1.2,h.1.2,ih2 h.2]
 |sub x o n s i ih1 ih2=>intro y h;cases y<;>simp[SV.beq]at h;rw[ih1 h.1.1.1.1,h.1.1.1.2,h.1.1.2,h.1.2,ih2 h.2]
 |put x o n y s i ih1 ih2 ih3=>intro y h;cases y<;>simp[SV.beq]at h;rw[ih1 h.1.1.1.1.1,h.1.1.1.1.2,h.1.1.1.2,ih2 h.1.1.2,h.1.2,ih3 h.2]
 |cat x n y ih1 ih2=>intro y h;cases y<;>simp[SV.beq]at h;rw[ih1 h.1.1,h.1.2,ih2 h.2]
 |proj x i ih=>intro y h;cases y<;>simp[SV.beq]at h;rw[ih h.1,h.2]
 |op2 o k x y ih1 ih2=>intro y h;cases y<;>simp[SV.beq]at h;rw[h.1.1.1,h.1.1.2,ih1 h.1.2,ih2 h.2]
 |op1 o k x ih=>intro y h;cases y<;>simp[SV.beq]at h;rw[h.1.1,h.1.2,ih h.2]
 |nt x ih=>intro y h;cases y<;>simp[SV.beq]at h;rw[ih h]
 |cv k x ih=>intro y h;cases y<;>simp[SV.beq]at h;rw[h.1,ih h.2]
 |ite c x y ih1 ih2 ih3=>intro y h;cases y<;>simp[SV.beq]at h;rw[ih1 h.1.1,ih2 h.1.2,ih3 h.2]
 |eqb n x y ih1 ih2=>intro y h;cases y<;>simp[SV.beq]at h;rw[h.1.1,ih1 h.1.2,ih2 h.2]
theorem SL.beq_sound {x y:SL} (h:x.beq y=true):x=y\/x= .u:=by
 cases x<;>cases y<;>simp[SL.beq]at h
 ·exact .inl (by rw[SV.beq_sound h])
 ·exact .inl (by rw[h.1.1.1,h.1.1.2,h.1.2,SV.beq_sound h.2])
 all_goals exact .inr rfl
theorem Rq.beq_sound {x y:Rq} (h:x.beq y=true):x=y:=by
 cases x<;>cases y<;>simp[Rq.beq]at h<;>first
  |rw[SV.beq_sound h]
  |rw[h.1,SV.beq_sound h.2]
section
variable {P:Program} {ρ:List Value} {kn:List Rq}
theorem Gm (hk:∀r∈kn,r.holds P ρ) {r:Rq} (h:has kn r=true):r.holds P ρ:=by
 unfold has at h;rw[List.any_eq_true]at h;obtain⟨r',hm,hb⟩:=h;rw[<-Rq.beq_sound hb];exact hk r' hm
theorem DV {o:BinOp} (h:Qa o=false) (k:IntKind) (a b:Int):∃n,t8 o k a b= .int k n:=by
 cases o<;>simp[Qa]at h<;>exact⟨_,rfl⟩
theorem WI {o:BinOp} (h:Qa o=true) (k:IntKind) (a b:Int):∃n,t8 o k a b= .bool n:=by
 cases o<;>simp[Qa]at h<;>exact⟨_,rfl⟩
theorem DW (o:UnOp) (k:IntKind) (a:Int):∃n,unV o k a= .int k n:=by
 cases o<;>exact⟨_,rfl⟩
theorem WJ {k:IntKind} {x:SV} (h:ou k x=true):∃n,D P ρ x= .int k n:=by
 unfold ou at h;split at h
 ·simp at h;subst h;exact⟨_,rfl⟩
 ·simp at h;obtain⟨h1,rfl⟩:=h;exact DV h1 _ _ _
 ·simp at h;subst h;exact DW _ _ _
 ·simp at h;subst h;exact⟨_,rfl⟩
 ·cases h
theorem DX {x:SV} (h:cn x=true):∃k n,D P ρ x= .int k n:=by
 unfold cn at h;split at h
 ·exact⟨_,_,rfl⟩
 ·simp at h;obtain⟨n,hn⟩:=DV h _ _ _;exact⟨_,n,hn⟩
 ·obtain⟨n,hn⟩:=DW _ _ _;exact⟨_,n,hn⟩
 ·exact⟨_,_,rfl⟩
 ·cases h
theorem DY {x:SV} (h:cp x=true):∃b,D P ρ x= .bool b:=by
 unfold cp at h;split at h
 ·exact⟨_,rfl⟩
 ·exact WI h _ _ _
 ·exact⟨_,rfl⟩
 ·exact⟨_,rfl⟩
 ·cases h
theorem qm {x:SV} (h:Qb x=true):(D P ρ x).cells= #[D P ρ x]/\Dx (D P ρ x)=true:=by
 unfold Qb at h;simp only[bW]at h;rcases h with(h|h)|h
 ·obtain⟨k,n,hn⟩:=DX (P:=P) (ρ:=ρ) h;rw[hn];exact⟨rfl,rfl⟩
 ·obtain⟨b,hb⟩:=DY (P:=P) (ρ:=ρ) h;rw[hb];exact⟨rfl,rfl⟩
 ·split at h
  ·exact⟨rfl,rfl⟩
  ·cases h
theorem DZ {v:Value} (h:cq v=true):v= .agg v.cells:=by
 cases v<;>simp[cq]at h;rfl
theorem EA {x:SV} (h:ct P x=true):D P ρ x= .agg (D P ρ x).cells:=by
 unfold ct at h;split at h
 ·rfl
 ·rfl
 ·rfl
 ·rfl
 ·exact DZ h
 ·exact DZ h
 ·cases h
theorem EB {n:Nat} {v:Value} (h:cw n v=true):v.cells.size=n/\s8 v.cells:=by
 unfold cw at h;rw[aF,beq_iff_eq,List.all_eq_true]at h;exact⟨h.1,h.2⟩
theorem eh (x:SV):D P ρ (Qe P x)= .agg (D P ρ x).cells:=by
 unfold Qe;split
 ·rename_i h;exact EA h
 ·rfl
theorem Xo:∀(ys:List Value) (cs:Array Value) (q:Nat),(spl cs q ys).size=cs.size:=by
 intro ys;induction ys with
 |nil=>intro cs q;rfl
 |cons y ys ih=>intro cs q;simp only[spl,ih];simp
theorem ei:∀(ys:List Value) (cs:Array Value) (q j:Nat),(spl cs q ys)[j]? =if j<cs.size then(if q<=j/\j<q+ys.length then ys[j-q]? else cs[j]?)else none:=by
 intro ys;induction ys with
 | nil => intro cs q j; simp only [spl, List.length_nil, cZ]; split
          · rw[if_neg (by omega)]
          · rw[iW (by omega)]
 |cons y ys ih=>
  intro cs q j;simp only[spl,ih,Array.size_setIfInBounds,List.length_cons];split
  ·rename_i hj;by_cases h1:q+1<=j/\j<q+1+ys.length
   ·rw[if_pos h1,if_pos (by omega),show j-q=(j-(q+1))+1 from by omega];simp
   ·rw[if_neg h1];by_cases h2:q=j
    ·subst h2;rw[if_pos (by omega)];simp[hj]
    ·rw[if_neg (by omega),Array.getElem?_setIfInBounds_ne h2]
  ·rfl
theorem WL {c:Value}:∀(ys:List Value) (cs:Array Value) (q:Nat),c∈(spl cs q ys).toList->c∈cs.toList\/c∈ys:=by
 intro ys;induction ys with
 |nil=>intro cs q h;exact .inl h
 |cons y ys ih=>
  intro cs q h;rcases ih _ _ h with h|h
  ·have:=gU.1 h;rcases Array.mem_or_eq_of_mem_setIfInBounds this with h|h
   ·exact .inl (gU.2 h)
   ·exact .inr (by simp[h])
  ·exact .inr (by simp[h])
theorem EC {cs:Array Value} {q:Nat} {ys:List Value} (h1:s8 cs) (h2:∀c∈ys,Dx c=true):s8 (spl cs q ys):=fun c hc=>(WL _ _ _ hc).elim (h1 c) (h2 c)
theorem WM {cs:Array Value} {a b:Nat} (h:s8 cs):s8 (cs.extract a b):=fun c hc=>h c (by
 have:=gU.1 hc;rw[gU];obtain⟨i,hi,rfl⟩:=Array.mem_iff_getElem.1 this;simp)
theorem WN {a b:Array Value} (h1:s8 a) (h2:s8 b):s8 (a++b):=fun c hc=>by
 simp at hc;rcases hc with h|h
 ·exact h1 c (by simpa using h)
 ·exact h2 c (by simpa using h)
theorem WO (hk:∀r∈kn,r.holds P ρ):∀{l:List Rq} {x:SV} {n:Nat},(∀r∈l,r∈kn)->Qc l x=some n->(D P ρ x).cells.size=n/\s8 (D P ρ x).cells:=by
 intro l;induction l with
 |nil=>intro x n _ h;simp[Qc]at h
 |cons r l ih=>
  intro x n hl h;cases r with
  |cells m y=>
   simp only[Qc]at h;split at h
   ·rename_i hb;simp at h;subst h;have:=hk (.cells m y) (hl (.cells m y) (by simp));rw[<-SV.beq_sound hb];exact this
   ·exact ih (fun r hr=>hl r (by simp[hr])) h
  |_=>exact ih (fun r hr=>hl r (by simp[hr])) (by simpa[Qc]using h)
theorem Jq (hk:∀r∈kn,r.holds P ρ):∀{x:SV} {n:Nat},Be P kn x n=true->(D P ρ x).cells.size=n/\s8 (D P ρ x).cells:=by
 intro x;have dflt:∀(x:SV) (n:Nat),((n==1&&Qb x)||has kn (.cells n x))=true->(D P ρ x).cells.size=n/\s8 (D P ρ x).cells:=fun x n h=>by
  simp only[bW,aF,beq_iff_eq]at h;rcases h with⟨rfl,h⟩|h
  ·obtain⟨h1,h2⟩:=qm (P:=P) (ρ:=ρ) h;rw[h1];exact⟨rfl,fun c hc=>by simp at hc;rw[hc];exact h2⟩
  ·exact Gm hk h
 induction x with
 |z t=>intro n h;simp only[Be]at h;exact EB h
 |k c=>intro n h;simp only[Be]at h;exact EB h
 |ag x ih=>intro n h;simp only[Be]at h;exact ih h
 |cat x m y ih1 ih2=>
  intro n h;simp only[Be,bW,aF,decide_eq_true_eq]at h;rcases h with⟨⟨h1,h2⟩,h3⟩|h
  ·obtain⟨a1,b1⟩:=ih1 h1;obtain⟨a2,b2⟩:=ih2 h3;refine⟨?_,WN b1 b2⟩;show((D P ρ x).cells++(D P ρ y).cells).size=n;simp;omega
  ·exact Gm hk h
 |put x o m y s i ih1 ih2 ih3=>
  intro n h;simp only[Be,bW,aF]at h;rcases h with⟨h1,h2⟩|h
  ·obtain⟨a1,b1⟩:=ih1 h1;obtain⟨a2,b2⟩:=ih2 h2;refine⟨?_,EC b1 b2⟩;show(spl _ _ _).size=n;rw[Xo];exact a1
  ·exact Gm hk h
 |sub x o m s i ih1 ih2=>
  intro n h;simp only[Be,bW,aF,beq_iff_eq]at h;rcases h with⟨⟨rfl,rfl⟩,h⟩|h
  ·split at h
   ·rename_i N hN;simp at h;obtain⟨a1,b1⟩:=WO hk (fun r hr=>hr) hN;refine⟨?_,WM b1⟩;show((D P ρ x).cells.extract _ _).size=m;simp;omega
   ·cases h
  ·exact Gm hk h
 |v i=>intro n h;exact dflt _ _ (by simpa only[Be]using h)
 |cell x o s i _ _=>intro n h;exact dflt _ _ (by simpa only[Be]using h)
 |proj x i _=>intro n h;exact dflt _ _ (by simpa only[Be]using h)
 |op2 o k x y _ _=>intro n h;exact dflt _ _ (by simpa only[Be]using h)
 |op1 o k x _=>intro n h;exact dflt _ _ (by simpa only[Be]using h)
 |nt x _=>intro n h;exact dflt _ _ (by simpa only[Be]using h)
 |cv k x _=>intro n h;exact dflt _ _ (by simpa only[Be]using h)
 |ite c x y _ _ _=>intro n h;exact dflt _ _ (by simpa only[Be]using h)
 |eqb b x y _ _=>intro n h;exact dflt _ _ (by simpa only[Be]using h)
theorem ED (hk:∀r∈kn,r.holds P ρ) {r:Rq} (h:ev P kn r=true):r.holds P ρ:=by
 unfold ev at h;split at h
 ·simp only[bW]at h;exact h.elim WJ (Gm hk)
 ·simp only[bW]at h;exact h.elim DX (Gm hk)
 ·simp only[bW]at h;rcases h with h|h|h|h
  ·exact DY h
  ·exact Gm hk h
  ·exact⟨true,Gm hk h⟩
  ·exact⟨false,Gm hk h⟩
 ·exact Jq hk h
 ·simp only[bW,aF]at h;refine h.elim (fun⟨h1,h2⟩=> ?_) (Gm hk);exact⟨_,EA h1,(Jq hk h2).1⟩
 ·exact Gm hk h
 ·simpa[Rq.holds,D,intOf]using h
 ·exact Gm hk h
 ·simpa[Rq.holds,D,intOf]using h
 ·exact Gm hk h
 ·simpa[Rq.holds,D,intOf]using h
 ·exact Gm hk h
 ·rw[beq_iff_eq]at h;rw[h];rfl
 ·exact Gm hk h
theorem WP (c x y:SV):D P ρ (ow c x y)=if Fg (D P ρ c)then D P ρ x else D P ρ y:=by
 unfold ow;split<;>simp[D,Fg]
theorem ek (o:Nat):o+0*z6 (D P ρ noI)=o:=by simp
theorem qn (hk:∀r∈kn,r.holds P ρ) (n:Nat):∀(x:SV) (o:Nat),D P ρ (Nq P kn o n x)= .agg ((D P ρ x).cells.extract o (o+n)):=by
 have dflt:∀(x:SV) (o:Nat),D P ρ (if o=0/\Be P kn x n=true then Qe P x else .sub x o n 0 noI)= .agg ((D P ρ x).cells.extract o (o+n)):=fun x o=>by
  split
  ·rename_i h;obtain⟨rfl,h⟩:=h;rw[eh,bM];have:=(Jq hk h).1;rw[<-this];simp
  ·simp[D]
 intro x;induction x with
 |cat x m y ih1 ih2=>
  intro o;simp only[Nq];split
  ·rename_i h;obtain⟨rfl,rfl,h⟩:=h;have hs:=(Jq hk h).1;rw[eh];show _=Value.agg (((D P ρ x).cells++(D P ρ y).cells).extract 0 (0+n));congr 1;rw[bM,gV,hs];simp[<-hs]
  ·split
   ·rename_i h;have hs:=(Jq hk h.2).1;rw[ih2];show _=Value.agg (((D P ρ x).cells++(D P ρ y).cells).extract o (o+n));congr 1;have e:(D P ρ x).cells.extract o (o+n)= #[]:=Array.extract_eq_empty_iff.2 (by omega);rw[gV,hs,e,Array.empty_append,show o-m+n=o+n-m from by omega]
   ·split
    ·rename_i h;have hs:=(Jq hk h.2).1;simp only[D,ek];congr 1;rw[show Value.cells (Value.agg ((D P ρ x).cells++(D P ρ y).cells))=(D P ρ x).cells++(D P ρ y).cells from rfl];rw[gV,hs,show o+n-m=0 from by omega];simp
    ·simp only[D,ek]
 |ag x ih=>intro o;simp only[Nq,ih];rfl
 |v i=>intro o;exact dflt _ o
 |k c=>intro o;exact dflt _ o
 |z t=>intro o;exact dflt _ o
 |cell x o' s i _ _=>intro o;exact dflt _ o
 |sub x o' n' s i _ _=>intro o;exact dflt _ o
 |put x o' n' y s i _ _ _=>intro o;exact dflt _ o
 |proj x i _=>intro o;exact dflt _ o
 |op2 o' k x y _ _=>intro o;exact dflt _ o
 |op1 o' k x _=>intro o;exact dflt _ o
 |nt x _=>intro o;exact dflt _ o
 |cv k x _=>intro o;exact dflt _ o
 |ite c x y _ _ _=>intro o;exact dflt _ o
 |eqb b x y _ _=>intro o;exact dflt _ o
theorem qo (hk:∀r∈kn,r.holds P ρ):∀(x:SV) (o:Nat),D P ρ (Nr P kn o x)=(D P ρ x).cells.getD o undef:=by
 have dflt:∀(x:SV) (o:Nat),D P ρ (if o=0/\Qb x=true then x else .cell x o 0 noI)=(D P ρ x).cells.getD o undef:=fun x o=>by
  split
  ·rename_i h;obtain⟨rfl,h⟩:=h;have:=(qm (P:=P) (ρ:=ρ) h).1;rw[this];rfl
  ·simp[D]
 intro x;induction x with
 |cat x m y ih1 ih2=>
  intro o;have hc:(D P ρ (.cat x m y)).cells=(D P ρ x).cells++(D P ρ y).cells:=rfl;simp only[Nr];split
  ·rename_i h;have hs:=(Jq hk h.2).1;rw[ih2,hc];simp only[dD];rw[eK (by omega),hs]
  ·split
   ·rename_i h;obtain⟨rfl,h⟩:=h;have:=(qm (P:=P) (ρ:=ρ) h).1;rw[hc,this];simp only[dD];rw[cO (by simp)];rfl
   ·split
    ·rename_i h;have hs:=(Jq hk h.2).1;rw[hc];simp only[D,ek,dD];rw[cO (by omega)]
    ·simp only[D,ek]
 |ag x ih=>intro o;simp only[Nr,ih];rfl
 |v i=>intro o;exact dflt _ o
 |k c=>intro o;exact dflt _ o
 |z t=>intro o;exact dflt _ o
 |cell x o' s i _ _=>intro o;exact dflt _ o
 |sub x o' n' s i _ _=>intro o;exact dflt _ o
 |put x o' n' y s i _ _ _=>intro o;exact dflt _ o
 |proj x i _=>intro o;exact dflt _ o
 |op2 o' k x y _ _=>intro o;exact dflt _ o
 |op1 o' k x _=>intro o;exact dflt _ o
 |nt x _=>intro o;exact dflt _ o
 |cv k x _=>intro o;exact dflt _ o
 |ite c x y _ _ _=>intro o;exact dflt _ o
 |eqb b x y _ _=>intro o;exact dflt _ o
theorem en {xs:Array Value} {o:Nat} {ys:List Value} (h:o+ys.length<=xs.size):spl xs o ys=xs.extract 0 o++ys.toArray++xs.extract (o+ys.length) xs.size:=by
 apply mD;intro j;rw[ei];by_cases hj:j<xs.size
 ·rw[if_pos hj];by_cases h1:j<o
  ·rw[if_neg (by omega),cO (by simp;omega),cO (by simp;omega),iV,if_pos (by omega),bM]
  ·by_cases h2:j<o+ys.length
   ·rw[if_pos (by omega),cO (by simp;omega),eK (by simp;omega)];simp only[mF,List.getElem?_toArray];congr 1;omega
   ·rw[if_neg (by omega),eK (by simp;omega),iV];simp only[gI,mF,List.size_toArray];rw[if_pos (by omega)];congr 1;omega
 ·rw[if_neg hj,iW (by simp;omega)]
theorem eo {xs:Array Value} {ys:List Value} (h:ys.length=xs.size):spl xs 0 ys=ys.toArray:=by
 rw[en (by omega),bM,h];simp
theorem WQ {xs r:Array Value} {ys:List Value} (h:ys.length=xs.size):spl (xs++r) 0 ys=ys.toArray++r:=by
 rw[en (by simp;omega)];simp only[bM,gI,gV,h];simp
theorem WR {xs r:Array Value} {o:Nat} {ys:List Value} (h:xs.size<=o):spl (xs++r) o ys=xs++spl r (o-xs.size) ys:=by
 apply mD;intro j;rw[ei];by_cases h1:j<xs.size
 ·rw[cO h1,if_pos (by simp;omega),if_neg (by omega),cO h1]
 ·have e1:(xs++spl r (o-xs.size) ys)[j]? =(spl r (o-xs.size) ys)[j-xs.size]?:=eK (by omega);rw[e1,ei];simp only[gI];by_cases h2:j<xs.size+r.size
  ·have h4:j-xs.size<r.size:=by omega
   by_cases h3:o<=j/\j<o+ys.length
   ·have h5:o-xs.size<=j-xs.size/\j-xs.size<o-xs.size+ys.length:=by omega
    simp only[h2,h3,h4,h5,and_self,if_true];congr 1;omega
   ·have h5:¬(o-xs.size<=j-xs.size/\j-xs.size<o-xs.size+ys.length):=by omega
    simp only[h2,h3,h4,h5,if_true,if_false];exact eK (by omega)
  ·have h4:¬(j-xs.size<r.size):=by omega
   simp only[h2,h4,if_false]
theorem EE (hk:∀r∈kn,r.holds P ρ) (sf:Bool) (n:Nat) (y:SV) (hy:(D P ρ y).cells.size=n):∀(x:SV) (N o:Nat),(D P ρ x).cells.size=N->o+n<=N->
  (D P ρ (Qf P kn sf N o n y x)).cells=spl (D P ρ x).cells o (D P ρ y).cells.toList:=by
 have hl:(D P ρ y).cells.toList.length=n:=by simpa using hy
 have dflt:∀(x:SV) (N o:Nat),(D P ρ x).cells.size=N->o+n<=N->
   (D P ρ (if o=0/\n=N then y else if sf=true then
    (if o=0 then .cat y n (.sub x n (N-n) 0 noI)else if o+n=N then .cat (.sub x 0 o 0 noI) o y else .cat (.sub x 0 o 0 noI) o (.cat y n (.sub x (o+n) (N-(o+n)) 0 noI)))
   else .put x o n y 0 noI)).cells=spl (D P ρ x).cells o (D P ρ y).cells.toList:=fun x N o hN ho=>by
  split
  ·rename_i h;obtain⟨rfl,rfl⟩:=h;rw[eo (by omega)]
  ·split
   ·rw[en (by omega)];split
    ·rename_i h0;subst h0;show(D P ρ y).cells++(D P ρ x).cells.extract (n+0*_) (n+0*_+(N-n))=_;simp only[dV,cZ,bM,hl];rw[show n+(N-n)=(D P ρ x).cells.size from by omega];simp
    ·split
     ·rename_i h1;show(D P ρ x).cells.extract (0+0*_) (0+0*_+o)++(D P ρ y).cells=_;simp only[dV,cZ,bM,hl];rw[show o+n=(D P ρ x).cells.size from by omega];simp
     ·show(D P ρ x).cells.extract (0+0*_) (0+0*_+o)++((D P ρ y).cells++(D P ρ x).cells.extract (o+n+0*_) (o+n+0*_+(N-(o+n))))=_;simp only[dV,cZ,bM,hl];rw[show o+n+(N-(o+n))=(D P ρ x).cells.size from by omega];simp
   ·show spl (D P ρ x).cells (o+0*_) _=_;simp
 intro x;induction x with
 |cat x m r ih1 ih2=>
  intro N o hN ho;have hc:(D P ρ (.cat x m r)).cells=(D P ρ x).cells++(D P ρ r).cells:=rfl;rw[hc]at hN⊢;simp only[gI]at hN;simp only[Qf];split
  ·rename_i h;obtain⟨rfl,rfl,h⟩:=h;have hs:=(Jq hk h).1;rw[WQ (by omega)];show(D P ρ y).cells++(D P ρ r).cells=_;simp
  ·split
   ·rename_i h;have hs:=(Jq hk h.2).1;rw[WR (by omega),hs];show(D P ρ x).cells++(D P ρ (Qf P kn sf (N-m) (o-m) n y r)).cells=_;rw[ih2 (N-m) (o-m) (by omega) (by omega)]
   ·show spl (D P ρ (.cat x m r)).cells (o+0*_) _=_;simp[hc]
 |v i=>intro N o h1 h2;exact dflt _ N o h1 h2
 |k c=>intro N o h1 h2;exact dflt _ N o h1 h2
 |z t=>intro N o h1 h2;exact dflt _ N o h1 h2
 |ag x _=>intro N o h1 h2;exact dflt _ N o h1 h2
 |cell x o' s i _ _=>intro N o h1 h2;exact dflt _ N o h1 h2
 |sub x o' n' s i _ _=>intro N o h1 h2;exact dflt _ N o h1 h2
 |put x o' n' y s i _ _ _=>intro N o h1 h2;exact dflt _ N o h1 h2
 |proj x i _=>intro N o h1 h2;exact dflt _ N o h1 h2
 |op2 o' k x y _ _=>intro N o h1 h2;exact dflt _ N o h1 h2
 |op1 o' k x _=>intro N o h1 h2;exact dflt _ N o h1 h2
 |nt x _=>intro N o h1 h2;exact dflt _ N o h1 h2
 |cv k x _=>intro N o h1 h2;exact dflt _ N o h1 h2
 |ite c x y _ _ _=>intro N o h1 h2;exact dflt _ N o h1 h2
 |eqb b x y _ _=>intro N o h1 h2;exact dflt _ N o h1 h2
theorem WS:∀{a b:List Value},Tv a b=true->a=b:=by
 intro a;induction a with
 |nil=>intro b h;cases b<;>simp[Tv]at h;rfl
 |cons x a ih=>
  intro b h;cases b with
  |nil=>simp[Tv]at h
  |cons y b=>simp[Tv]at h;rw[DU h.1,ih h.2]
theorem WT:∀(l:List (Nat×SV)),(D P ρ (Qg l)).cells.toList=l.flatMap fun p=>(D P ρ p.2).cells.toList:=by
 intro l;induction l with
 |nil=>rfl
 |cons p r ih=>
  obtain⟨n,x⟩:=p;cases r with
  |nil=>simp[Qg]
  |cons q r=>
   have:Qg ((n,x)::q::r)= .cat x n (Qg (q::r)):=rfl;rw[this];show((D P ρ x).cells++(D P ρ (Qg (q::r))).cells).toList=_;rw[jJ,ih];simp
theorem EF (T:TypeId):(D P ρ (exZ P T)).cells=(s7 P T).cells:=by
 unfold exZ;split
 ·rename_i fs _;split
  ·rename_i h;have h2:=WS h.2;have h3:=WT (P:=P) (ρ:=ρ) (fs.toList.map fun f=>((s7 P f.type).cells.size,SV.z f.type));apply eZ.1;rw[h3,h2];simp[List.flatMap_map,D]
  ·rfl
 ·rfl
theorem qp:∀{kb:List (SV×Bool)},(∀p∈kb,D P ρ p.1= .bool p.2)->∀c,D P ρ (Ns kb c)=D P ρ c:=by
 intro kb;induction kb with
 |nil=>intro _ c;rfl
 |cons p r ih=>
  intro h c;obtain⟨x,b⟩:=p;simp only[Ns];split
  ·rename_i hb;have:=h (x,b) (by simp);rw[<-SV.beq_sound hb,this];rfl
  ·exact ih (fun p hp=>h p (by simp[hp])) c
end
open Go.RowKit
section
variable {P:Program}
theorem EG (v:Value):v.oneCell'=Dx v:=by cases v<;>rfl
theorem Hq {t:TypeId} (h:z7 P t=true):(∃i,P.info? t=some i)/\∃d,P.underlying t=some d:=by
 unfold z7 at h;rw[aF,eU,eU]at h;exact h
theorem EH {t:TypeId} {d:TypeDesc} (h:P.underlying t=some d) (w:World):(isAgg t).run P w= .ok (Aw P t) w:=by
 unfold isAgg Aw;simp only[aG,run_underlying h,aE,h];cases d<;>rfl
theorem Ii {t:TypeId} {i:TypeInfo} (h:P.info? t=some i) (w:World):(sizeOf t).run P w= .ok (P.cellsOf t) w:=run_sizeOf w h
theorem EI {w:World} {b:Nat} {cs:Array Value} {T:TypeId} {fz:Nat×Nat} (h:w.heap[b]? =some (.cells cs T fz)) (q:Nat):w.cell? ⟨b,q,none⟩=cs[q]?:=by
 simp[World.cell?,h]
theorem Kx (b q i:Nat):(⟨b,q,none⟩:Addr).add i=⟨b,q+i,none⟩:=by
 unfold Addr.add;split
 ·simp_all
 ·rfl
theorem EJ {w:World} {b q:Nat} {cs:Array Value} {T t:TypeId} {fz:Nat×Nat} (hT:z7 P t=true) (h:w.heap[b]? =some (.cells cs T fz)) (hq:q+P.cellsOf t<=cs.size) (h0:Aw P t=false->q<cs.size):
  (Instr.loadAt t (.pointer (some ⟨b,q,none⟩))).run P w= .ok (if Aw P t then .agg (cs.extract q (q+P.cellsOf t))else cs.getD q undef) w:=by
 obtain⟨⟨i,hi⟩,⟨d,hd⟩⟩:=Hq hT;unfold Instr.loadAt Instr.sureAddr loadVar;simp only[aG,aT,aE,EH hd];cases uB:Aw P t with
 |true=>
  simp only[if_true,aG,Ii hi,aE];have hl:(cs.extract q (q+P.cellsOf t)).toList.length=P.cellsOf t:=by simp;omega
  have:=run_loadCells_list (P:=P) w ⟨b,q,none⟩ (cs.extract q (q+P.cellsOf t)).toList (fun j v hj=>by
   rw[Kx,EI h];simp only[Array.getElem?_toList,iV]at hj;split at hj
   ·exact hj
   ·cases hj)
  rw[hl]at this;rw[this];simp only[aE,aT,Array.toArray_toList]
 |false=>
  simp only[Bool.false_eq_true,if_false,run_load,EI h];have pO:=h0 uB;rw[Array.getElem?_eq_getElem pO];simp[pO]
theorem EK {w:World} {b q:Nat} {cs:Array Value} {T t:TypeId} {v:Value} (hT:z7 P t=true) (h:w.heap[b]? =some (.cells cs T (0,0))) (hq:q+P.cellsOf t<=cs.size) (hv:v.cells.size=P.cellsOf t) (h1:s8 v.cells):
  (Instr.storeAt t (.pointer (some ⟨b,q,none⟩)) v).run P w= .ok () (w.setRow b (spl cs q v.cells.toList)):=by
 obtain⟨⟨i,hi⟩,⟨d,hd⟩⟩:=Hq hT;unfold Instr.storeAt Instr.sureAddr storeVar;simp only[aG,aT,aE,Ii hi,hv,ne_eq,not_true_eq_false,if_false];have hl:v.cells.toList.length=P.cellsOf t:=by simpa using hv
 rw[run_storeCells_at P b q T v.cells.toList 0 cs w h (by omega) (fun x hx=>by rw[EG];exact h1 x hx)];congr 2;apply eZ.1;rw[en (by omega),cZ];simp only[jJ,Array.toList_extract,List.extract];simp;rw[List.take_of_length_le (by simp)]
theorem EL {S f:Nat} {fs:Array Field} {fd:Field} (hS:P.underlying S=some (.struct fs)) (hf:fs[f]? =some fd) (hT:z7 P fd.type=true) (hn:P.cellsOf fd.type≠0) (b q:Nat) (w:World):
  (Instr.fieldAt S (.pointer (some ⟨b,q,none⟩)) f).run P w= .ok (.pointer (some ⟨b,q+fd.offset,none⟩)) w:=by
 obtain⟨⟨i,hi⟩,_⟩:=Hq hT;unfold Instr.fieldAt;simp only[aG,run_underlying hS,aE,hf];simp only[Instr.sureAddr,aG,aT,aE,fieldPlace,Ii hi,hn,if_false,Kx]
theorem qq {T len e:Nat} (hT:P.underlying T=some (.array len e)) (he:z7 P e=true) (b q:Nat) (k:IntKind) (m:Int) (h0:0<=m) (h1:m<len) (w:World):
  (Instr.indexAt T (.pointer (some ⟨b,q,none⟩)) (.int k m)).run P w= .ok (.pointer (some ⟨b,q+m.toNat*P.cellsOf e,none⟩)) w:=by
 obtain⟨⟨i,hi⟩,_⟩:=Hq he;unfold Instr.indexAt;simp only[asIntOf,aG,aT,aE,run_underlying hT,Instr.sureAddr];simp[h0,h1,Ii hi,Kx]
theorem Xp {t:TypeId} {cs:Array Value} {q:Nat} (hT:z7 P t=true) (hq:q+P.cellsOf t<=cs.size) (h0:0<P.cellsOf t) (w:World):
  (part t cs q).run P w= .ok (if Aw P t then .agg (cs.extract q (q+P.cellsOf t))else cs.getD q undef) w:=by
 obtain⟨⟨i,hi⟩,⟨d,hd⟩⟩:=Hq hT;unfold part;simp only[aG,aE,EH hd];cases uB:Aw P t with
 |true=>simp[Ii hi]
 |false=>
  have pO:q<cs.size:=by omega
  simp[pO]
theorem WU {S f:Nat} {fs:Array Field} {fd:Field} {cs:Array Value} (hS:P.underlying S=some (.struct fs)) (hf:fs[f]? =some fd) (hT:z7 P fd.type=true) (hq:fd.offset+P.cellsOf fd.type<=cs.size) (h0:0<P.cellsOf fd.type) (w:World):
  (Instr.field S (.agg cs) f).run P w= .ok (if Aw P fd.type then .agg (cs.extract fd.offset (fd.offset+P.cellsOf fd.type))else cs.getD fd.offset undef) w:=by
 unfold Instr.field;simp only[aG,run_underlying hS,aE,hf,asAgg,aT];exact Xp hT hq h0 w
theorem EM {T len e:Nat} {cs:Array Value} (hT:P.underlying T=some (.array len e)) (he:z7 P e=true) (k:IntKind) (m:Int) (h0:0<=m) (h1:m<len) (hq:len*P.cellsOf e<=cs.size) (hn:0<P.cellsOf e) (w:World):
  (Instr.index T (.agg cs) (.int k m)).run P w= .ok (if Aw P e then .agg (cs.extract (m.toNat*P.cellsOf e) (m.toNat*P.cellsOf e+P.cellsOf e))else cs.getD (m.toNat*P.cellsOf e) undef) w:=by
 obtain⟨⟨i,hi⟩,_⟩:=Hq he;unfold Instr.index;simp only[asIntOf,aG,aT,aE,run_underlying hT];rw[if_pos ⟨h0,h1⟩];simp only[aG,Ii hi,aE];refine Xp he ?_ hn w;have h2:m.toNat+1<=len:=by omega
 have h3:(m.toNat+1)*P.cellsOf e<=len*P.cellsOf e:=Nat.mul_le_mul_right _ h2;rw[Nat.add_mul,Nat.one_mul]at h3;omega
theorem WV {op:BinOp} {k:IntKind} {a b:Int} {T:TypeId} {x y:Operand} (hs:op≠ .shl/\op≠ .shr) (hz:(op= .quo\/op= .rem)->b≠0) (w:World):
  (do eqGuard op T x y (.int k a) (.int k b);binOp op T (.int k a) (.int k b):Sem Value).run P w= .ok (t8 op k a b) w:=by
 have hg:(eqGuard op T x y (.int k a) (.int k b)).run P w= .ok () w:=by
  unfold eqGuard;cases op<;>rfl
 simp only[aG,hg,aE];cases op<;>simp_all[binOp,Op.intArith,Op.intDiv,Op.intBits,Op.intCmp,t8]
theorem WW {op:BinOp} {k l:IntKind} {a b:Int} {T:TypeId} {x y:Operand} (hs:op= .shl\/op= .shr) (hz:0<=b) (w:World):
  (do eqGuard op T x y (.int k a) (.int l b);binOp op T (.int k a) (.int l b):Sem Value).run P w= .ok (t8 op k a b) w:=by
 have hg:(eqGuard op T x y (.int k a) (.int l b)).run P w= .ok () w:=by
  unfold eqGuard;rcases hs with rfl|rfl<;>rfl
 simp only[aG,hg,aE];have:¬b<0:=by omega
 rcases hs with rfl|rfl<;>simp[binOp,Op.shift,t8,this]
theorem WX {op:BinOp} {a b:Bool} {T:TypeId} {x y:Operand} (hT:P.underlying T=some .bool) (ho:op= .eql\/op= .neq) (w:World):
  (do eqGuard op T x y (.bool a) (.bool b);binOp op T (.bool a) (.bool b):Sem Value).run P w= .ok (.bool ((op== .neq) !=(a==b))) w:=by
 have hg:(eqGuard op T x y (.bool a) (.bool b)).run P w= .ok () w:=by
  unfold eqGuard;rcases ho with rfl|rfl<;>rfl
 simp only[aG,hg,aE];rcases ho with rfl|rfl<;>simp only[binOp,aG,run_equal_bool _ T a b hT,aE,aT]<;>cases a<;>cases b<;>rfl
theorem WY (off:Nat):∀(ys:List Value) (k:Nat) (cs:Array Value),(ys.zipIdx k).foldl (fun cs (p:Value×Nat)=>cs.setIfInBounds (off+p.2) p.1) cs=spl cs (off+k) ys:=by
 intro ys;induction ys with
 |nil=>intro k cs;rfl
 |cons y ys ih=>intro k cs;simp only[List.zipIdx_cons,eP,spl];rw[ih];rfl
theorem Xq (place:Nat->Option (Nat×Nat)):∀(ps:List (Nat×Value)) (cells:Array Value),(∀p∈ps,∃q n,place p.1=some (q,n)/\p.2.cells.size=n/\q+n<=cells.size)->
  Instr.fill place cells ps=some (ps.foldl (fun acc p=>spl acc ((place p.1).getD (0,0)).1 p.2.cells.toList) cells):=by
 intro ps;induction ps with
 |nil=>intro cells _;rfl
 |cons p ps ih=>
  intro cells h;obtain⟨i,v⟩:=p;obtain⟨q,n,hp,hn,hq⟩:=h (i,v) (by simp);simp only[Instr.fill,hp];simp only at hn;rw[if_neg (by simp[hn];omega)];have e:v.cells.zipIdx.foldl (fun cs (p:Value×Nat)=>cs.setIfInBounds (q+p.2) p.1) cells=spl cells q v.cells.toList:=by
   rw[<-Array.foldl_toList,Array.toList_zipIdx];exact WY q _ 0 _
  simp only[eP,hp,Option.getD_some];rw[<-e];refine ih _ fun p hp=> ?_;rw[e,Xo];exact h p (by simp[hp])
theorem WZ {T:TypeId} {pl:Nat->Option (Nat×Nat)} {it:TypeInfo} {z:Value} (qN:oy P T=some pl) (hpt:pe P T=true) (hit:P.info? T=some it) (hz:it.zero=some z) (parts:Array (Nat×Value))
  (h:∀p∈parts.toList,∃q n,pl p.1=some (q,n)/\p.2.cells.size=n/\q+n<=z.cells.size) (w:World):
  (Instr.build T parts).run P w= .ok (.agg (parts.toList.foldl (fun acc p=>spl acc ((pl p.1).getD (0,0)).1 p.2.cells.toList) z.cells)) w:=by
 refine run_build w T parts _ ?_;unfold Program.built;unfold oy at qN;unfold pe at hpt;cases hu:P.underlying T with
 |none=>simp[hu]at qN
 |some d=>
  cases d<;>simp only[hu]at qN hpt<;>try (cases qN;done)
  case array n e=>
   obtain⟨⟨i,hi⟩,_⟩:=Hq hpt;have hs:P.cellsOf e=i.size:=by simp[Program.cellsOf,hi]
   simp only[aD]at qN;subst qN;simp only[hit,hz,hi];rw[<-hs];exact Xq _ _ _ h
  case struct fs=>
   simp only[aD]at qN;subst qN;have hm:fs.toList.mapM (fun f=>(P.info? f.type).map fun i=>(f.offset,i.size))=some (fs.toList.map fun f=>(f.offset,P.cellsOf f.type)):=by
    have qG:∀f∈fs.toList,(P.info? f.type).map (fun i=>(f.offset,i.size))=some (f.offset,P.cellsOf f.type):=fun f hf=>by
     rw[Array.all_eq_true_iff_forall_mem]at hpt;obtain⟨⟨i,hi⟩,_⟩:=Hq (hpt f (by simpa using hf));simp[hi,Program.cellsOf]
    have go:∀l:List Field,(∀f∈l,(P.info? f.type).map (fun i=>(f.offset,i.size))=some (f.offset,P.cellsOf f.type))->l.mapM (fun f=>(P.info? f.type).map fun i=>(f.offset,i.size))=some (l.map fun f=>(f.offset,P.cellsOf f.type)):=by
     intro l;induction l with
     |nil=>intro _;rfl
     |cons f l ih=>
      intro hl;rw[List.mapM_cons,hl f (by simp),ih (fun g hg=>hl g (by simp[hg]))];rfl
    exact go _ qG
   simp only[hit,hz,hm];have hp:(fun i:Nat=>(fs.toList.map fun f=>(f.offset,P.cellsOf f.type)).toArray[i]?)=fun i:Nat=>(fs[i]?).map fun f:Field=>(f.offset,P.cellsOf f.type):=by
    funext i;simp
   rw[hp];exact Xq _ _ _ h
end
end Go.RX

/- Soundness of the symbolic terms. -/
import Derived.Test.YtmannekkmdockaaGreatDoorRxC
import Derived.Laws.CopyRow
import Derived.Laws.Cells
import Derived.ChangeKeysEq
import Derived.Laws.Small
import Derived.WalkSmall
open Array renaming ext_getElem?->mT,extract_append->iU,getElem?_append_left->eX,getElem?_append_right->gB,getElem?_eq_none->iM,getElem?_extract->jQ,mem_toList_iff->iT,size_append->iN,size_extract->mU,toList_append->kD
open Go.Result renaming andThen_ok->eH
open Go.Sem renaming run_bind->eI,run_pure->eJ
open List renaming foldl_cons->fV
open Option renaming isSome_iff_exists->gU
namespace Go.RX
open RowKit
theorem YB {ρ r:List Value} {i:Nat} (h:i<ρ.length):(ρ++r).getD i undef=ρ.getD i undef:=by
 simp[aK,bS h]
theorem Hq (P:Program) (ρ r:List Value):∀x:SV,x.lt ρ.length=true->D P (ρ++r) x=D P ρ x:=by
 intro x;induction x with
 |v i=>intro h;simp only[SV.lt,decide_eq_true_eq]at h;exact YB h
 |k c=>intro _;rfl
 |z t=>intro _;rfl
 |ag x ih=>intro h;simp only[SV.lt]at h;simp only[D,ih h]
 |cell x o s i ih1 ih2=>intro h;simp only[SV.lt,bA]at h;simp only[D,ih1 h.1,ih2 h.2]
 |sub x o n s i ih1 ih2=>intro h;simp only[SV.lt,bA]at h;simp only[D,ih1 h.1,ih2 h.2]
 |put x o n y s i ih1 ih2 ih3=>intro h;simp only[SV.lt,bA]at h;simp only[D,ih1 h.1.1,ih2 h.1.2,ih3 h.2]
 |cat x n y ih1 ih2=>intro h;simp only[SV.lt,bA]at h;simp only[D,ih1 h.1,ih2 h.2]
 |pj x i ih=>intro h;simp only[SV.lt]at h;simp only[D,ih h]
 |op2 o k x y ih1 ih2=>intro h;simp only[SV.lt,bA]at h;simp only[D,ih1 h.1,ih2 h.2]
 |op1 o k x ih=>intro h;simp only[SV.lt]at h;simp only[D,ih h]
 |nt x ih=>intro h;simp only[SV.lt]at h;simp only[D,ih h]
 |cv k x ih=>intro h;simp only[SV.lt]at h;simp only[D,ih h]
 |ite c x y ih1 ih2 ih3=>intro h;simp only[SV.lt,bA]at h;simp only[D,ih1 h.1.1,ih2 h.1.2,ih3 h.2]
 |eqb n x y ih1 ih2=>intro h;simp only[SV.lt,bA]at h;simp only[D,ih1 h.1,ih2 h.2]
theorem FG (P:Program) (ρ r:List Value) (q:Rq) (h:q.sv.lt ρ.length=true):q.holds P (ρ++r)↔q.holds P ρ:=by
 cases q<;>simp only[Rq.sv]at h<;>simp only[Rq.holds,Hq P ρ r _ h]
theorem FH {a b:Value} (h:dj a b=true):a=b:=by
 unfold dj at h;split at h<;>first|rfl|(exfalso;cases h;done)|skip
 ·simp at h;rw[h]
 ·simp at h;rw[h.1,h.2]
 ·simp at h;rw[h.1,h.2]
 ·rename_i a b;simp at h;congr 1;cases a;cases b;simp at h;rw[h]
 ·simp at h;rw[h.1.1.1.1,h.1.1.1.2,h.1.1.2,h.1.2,h.2]
 ·simp at h;rw[h.1,h.2]
theorem SV.beq_sound:∀{x y:SV},x.beq y=true->x=y:=by
 intro x;induction x with
 |v i=>intro y h;cases y<;>simp[SV.beq]at h;rw[h]
 |k c=>intro y h;cases y<;>simp[SV.beq]at h;rw[FH h]
 |z t=>intro y h;cases y<;>simp[SV.beq]at h;rw[h]
 |ag x ih=>intro y h;cases y<;>simp[SV.beq]at h;rw[ih h]
 |cell x o s i ih1 ih2=>intro y h;cases y<;>simp[SV.beq]at h;rw[ih1 h.1.1.1,h.1.1.2,h.1.2,ih2 h.2]
 |sub x o n s i ih1 ih2=>intro y h;cases y<;>simp[SV.beq]at h;rw[ih1 h.1.1.1.1,h.1.1.1.2,h.1.1.2,h.1.2,ih2 h.2]
 |put x o n y s i ih1 ih2 ih3=>intro y h;cases y<;>simp[SV.beq]at h;rw[ih1 h.1.1.1.1.1,h.1.1.1.1.2,h.1.1.1.2,ih2 h.1.1.2,h.1.2,ih3 h.2]
 |cat x n y ih1 ih2=>intro y h;cases y<;>simp[SV.beq]at h;rw[ih1 h.1.1,h.1.2,ih2 h.2]
 |pj x i ih=>intro y h;cases y<;>simp[SV.beq]at h;rw[ih h.1,h.2]
 |op2 o k x y ih1 ih2=>intro y h;cases y<;>simp[SV.beq]at h;rw[h.1.1.1,h.1.1.2,ih1 h.1.2,ih2 h.2]
 |op1 o k x ih=>intro y h;cases y<;>simp[SV.beq]at h;rw[h.1.1,h.1.2,ih h.2]
 |nt x ih=>intro y h;cases y<;>simp[SV.beq]at h;rw[ih h]
 |cv k x ih=>intro y h;cases y<;>simp[SV.beq]at h;rw[h.1,ih h.2]
 |ite c x y ih1 ih2 ih3=>intro y h;cases y<;>simp[SV.beq]at h;rw[ih1 h.1.1,ih2 h.1.2,ih3 h.2]
 |eqb n x y ih1 ih2=>intro y h;cases y<;>simp[SV.beq]at h;rw[h.1.1,ih1 h.1.2,ih2 h.2]
theorem SL.beq_sound {x y:SL} (h:x.beq y=true):x=y\/x= .u:=by
 cases x<;>cases y<;>simp[SL.beq]at h
 ·exact .inl (by rw[SV.beq_sound h])
 ·exact .inl (by rw[h.1.1.1,h.1.1.2,h.1.2,SV.beq_sound h.2])
 all_goals exact .inr rfl
theorem Rq.beq_sound {x y:Rq} (h:x.beq y=true):x=y:=by
 cases x<;>cases y<;>simp[Rq.beq]at h<;>first
  |rw[SV.beq_sound h]
  |rw[h.1,SV.beq_sound h.2]
section
variable {P:Program} {ρ:List Value} {kn:List Rq}
theorem Gj (hk:∀r∈kn,r.holds P ρ) {r:Rq} (h:has kn r=true):r.holds P ρ:=by
 unfold has at h;rw[List.any_eq_true]at h;obtain⟨r',hm,hb⟩:=h;rw[<-Rq.beq_sound hb];exact hk r' hm
theorem FI {o:BinOp} (h:Qm o=false) (k:IntKind) (a b:Int):∃n,Aa o k a b= .int k n:=by
 cases o<;>simp[Qm]at h<;>exact⟨_,rfl⟩
theorem YC {o:BinOp} (h:Qm o=true) (k:IntKind) (a b:Int):∃n,Aa o k a b= .bool n:=by
 cases o<;>simp[Qm]at h<;>exact⟨_,rfl⟩
theorem FK (o:UnOp) (k:IntKind) (a:Int):∃n,unV o k a= .int k n:=by
 cases o<;>exact⟨_,rfl⟩
theorem YD {k:IntKind} {x:SV} (h:qy k x=true):∃n,D P ρ x= .int k n:=by
 unfold qy at h;split at h
 ·simp at h;subst h;exact⟨_,rfl⟩
 ·simp at h;obtain⟨h1,rfl⟩:=h;exact FI h1 _ _ _
 ·simp at h;subst h;exact FK _ _ _
 ·simp at h;subst h;exact⟨_,rfl⟩
 ·cases h
theorem FM {x:SV} (h:dm x=true):∃k n,D P ρ x= .int k n:=by
 unfold dm at h;split at h
 ·exact⟨_,_,rfl⟩
 ·simp at h;obtain⟨n,hn⟩:=FI h _ _ _;exact⟨_,n,hn⟩
 ·obtain⟨n,hn⟩:=FK _ _ _;exact⟨_,n,hn⟩
 ·exact⟨_,_,rfl⟩
 ·cases h
theorem FN {x:SV} (h:dp x=true):∃b,D P ρ x= .bool b:=by
 unfold dp at h;split at h
 ·exact⟨_,rfl⟩
 ·exact YC h _ _ _
 ·exact⟨_,rfl⟩
 ·exact⟨_,rfl⟩
 ·cases h
theorem uc {x:SV} (h:Qn x=true):(D P ρ x).cells= #[D P ρ x]/\Dm (D P ρ x)=true:=by
 unfold Qn at h;simp only[dB]at h;rcases h with(h|h)|h
 ·obtain⟨k,n,hn⟩:=FM (P:=P) (ρ:=ρ) h;rw[hn];exact⟨rfl,rfl⟩
 ·obtain⟨b,hb⟩:=FN (P:=P) (ρ:=ρ) h;rw[hb];exact⟨rfl,rfl⟩
 ·split at h
  ·exact⟨rfl,rfl⟩
  ·cases h
theorem FO {v:Value} (h:du v=true):v= .agg v.cells:=by
 cases v<;>simp[du]at h;rfl
theorem FP {x:SV} (h:dw P x=true):D P ρ x= .agg (D P ρ x).cells:=by
 unfold dw at h;split at h
 ·rfl
 ·rfl
 ·rfl
 ·rfl
 ·exact FO h
 ·exact FO h
 ·cases h
theorem FQ {n:Nat} {v:Value} (h:dz n v=true):v.cells.size=n/\o0 v.cells:=by
 unfold dz at h;rw[bA,beq_iff_eq,dE]at h;exact⟨h.1,h.2⟩
theorem fc (x:SV):D P ρ (Qp P x)= .agg (D P ρ x).cells:=by
 unfold Qp;split
 ·rename_i h;exact FP h
 ·rfl
theorem Xo:∀(ys:List Value) (cs:Array Value) (q:Nat),(spl cs q ys).size=cs.size:=by
 intro ys;induction ys with
 |nil=>intro cs q;rfl
 |cons y ys ih=>intro cs q;simp only[spl,ih];simp
theorem fe:∀(ys:List Value) (cs:Array Value) (q j:Nat),(spl cs q ys)[j]? =if j<cs.size then(if q<=j/\j<q+ys.length then ys[j-q]? else cs[j]?)else none:=by
 intro ys;induction ys with
 | nil => intro cs q j; simp only [spl, bX, eF]; split
          · rw[if_neg aA]
          · rw[iM aA]
 |cons y ys ih=>
  intro cs q j;simp only[spl,ih,Array.size_setIfInBounds,aO];split
  ·rename_i hj;by_cases h1:q+1<=j/\j<q+1+ys.length
   ·rw[if_pos h1,if_pos aA,show j-q=(j-(q+1))+1 from aA];simp
   ·rw[if_neg h1];by_cases h2:q=j
    ·subst h2;rw[if_pos aA];simp[hj]
    ·rw[if_neg aA,dK h2]
  ·rfl
theorem YE {c:Value}:∀(ys:List Value) (cs:Array Value) (q:Nat),c∈(spl cs q ys).toList->c∈cs.toList\/c∈ys:=by
 intro ys;induction ys with
 |nil=>intro cs q h;exact .inl h
 |cons y ys ih=>
  intro cs q h;rcases ih _ _ h with h|h
  ·have:=iT.1 h;rcases Array.mem_or_eq_of_mem_setIfInBounds this with h|h
   ·exact .inl (iT.2 h)
   ·exact .inr (by simp[h])
  ·exact .inr (by simp[h])
theorem FR {cs:Array Value} {q:Nat} {ys:List Value} (h1:o0 cs) (h2:∀c∈ys,Dm c=true):o0 (spl cs q ys):=fun c hc=>(YE _ _ _ hc).elim (h1 c) (h2 c)
theorem YF {cs:Array Value} {a b:Nat} (h:o0 cs):o0 (cs.extract a b):=fun c hc=>h c (by
 have:=iT.1 hc;rw[iT];obtain⟨i,hi,rfl⟩:=Array.mem_iff_getElem.1 this;simp)
theorem YG {a b:Array Value} (h1:o0 a) (h2:o0 b):o0 (a++b):=fun c hc=>by
 simp at hc;rcases hc with h|h
 ·exact h1 c (by simpa using h)
 ·exact h2 c (by simpa using h)
theorem YH (hk:∀r∈kn,r.holds P ρ):∀{l:List Rq} {x:SV} {n:Nat},(∀r∈l,r∈kn)->Qo l x=some n->(D P ρ x).cells.size=n/\o0 (D P ρ x).cells:=by
 intro l;induction l with
 |nil=>intro x n _ h;simp[Qo]at h
 |cons r l ih=>
  intro x n hl h;cases r with
  |cells m y=>
   simp only[Qo]at h;split at h
   ·rename_i hb;simp at h;subst h;have:=hk (.cells m y) (hl (.cells m y) aD);rw[<-SV.beq_sound hb];exact this
   ·exact ih (fun r hr=>hl r (by simp[hr])) h
  |_=>exact ih (fun r hr=>hl r (by simp[hr])) (by simpa[Qo]using h)
theorem Ju (hk:∀r∈kn,r.holds P ρ):∀{x:SV} {n:Nat},Au P kn x n=true->(D P ρ x).cells.size=n/\o0 (D P ρ x).cells:=by
 intro x;have dflt:∀(x:SV) (n:Nat),((n==1&&Qn x)||has kn (.cells n x))=true->(D P ρ x).cells.size=n/\o0 (D P ρ x).cells:=fun x n h=>by
  simp only[dB,bA,beq_iff_eq]at h;rcases h with⟨rfl,h⟩|h
  ·obtain⟨h1,h2⟩:=uc (P:=P) (ρ:=ρ) h;rw[h1];exact⟨rfl,fun c hc=>by simp at hc;rw[hc];exact h2⟩
  ·exact Gj hk h
 induction x with
 |z t=>intro n h;simp only[Au]at h;exact FQ h
 |k c=>intro n h;simp only[Au]at h;exact FQ h
 |ag x ih=>intro n h;simp only[Au]at h;exact ih h
 |cat x m y ih1 ih2=>
  intro n h;simp only[Au,dB,bA,decide_eq_true_eq]at h;rcases h with⟨⟨h1,h2⟩,h3⟩|h
  ·obtain⟨a1,b1⟩:=ih1 h1;obtain⟨a2,b2⟩:=ih2 h3;refine⟨?_,YG b1 b2⟩;show((D P ρ x).cells++(D P ρ y).cells).size=n;simp;omega
  ·exact Gj hk h
 |put x o m y s i ih1 ih2 ih3=>
  intro n h;simp only[Au,dB,bA]at h;rcases h with⟨h1,h2⟩|h
  ·obtain⟨a1,b1⟩:=ih1 h1;obtain⟨a2,b2⟩:=ih2 h2;refine⟨?_,FR b1 b2⟩;show(spl _ _ _).size=n;rw[Xo];exact a1
  ·exact Gj hk h
 |sub x o m s i ih1 ih2=>
  intro n h;simp only[Au,dB,bA,beq_iff_eq]at h;rcases h with⟨⟨rfl,rfl⟩,h⟩|h
  ·split at h
   ·rename_i N hN;simp at h;obtain⟨a1,b1⟩:=YH hk (fun r hr=>hr) hN;refine⟨?_,YF b1⟩;show((D P ρ x).cells.extract _ _).size=m;simp;omega
   ·cases h
  ·exact Gj hk h
 |v i=>intro n h;exact dflt _ _ (by simpa only[Au]using h)
 |cell x o s i _ _=>intro n h;exact dflt _ _ (by simpa only[Au]using h)
 |pj x i _=>intro n h;exact dflt _ _ (by simpa only[Au]using h)
 |op2 o k x y _ _=>intro n h;exact dflt _ _ (by simpa only[Au]using h)
 |op1 o k x _=>intro n h;exact dflt _ _ (by simpa only[Au]using h)
 |nt x _=>intro n h;exact dflt _ _ (by simpa only[Au]using h)
 |cv k x _=>intro n h;exact dflt _ _ (by simpa only[Au]using h)
 |ite c x y _ _ _=>intro n h;exact dflt _ _ (by simpa only[Au]using h)
 |eqb b x y _ _=>intro n h;exact dflt _ _ (by simpa only[Au]using h)
theorem FS (hk:∀r∈kn,r.holds P ρ) {r:Rq} (h:ev P kn r=true):r.holds P ρ:=by
 unfold ev at h;split at h
 ·simp only[dB]at h;exact h.elim YD (Gj hk)
 ·simp only[dB]at h;exact h.elim FM (Gj hk)
 ·simp only[dB]at h;rcases h with h|h|h|h
  ·exact FN h
  ·exact Gj hk h
  ·exact⟨true,Gj hk h⟩
  ·exact⟨false,Gj hk h⟩
 ·exact Ju hk h
 ·simp only[dB,bA]at h;refine h.elim (fun⟨h1,h2⟩=> ?_) (Gj hk);exact⟨_,FP h1,(Ju hk h2).1⟩
 ·exact Gj hk h
 ·simpa[Rq.holds,D,intOf]using h
 ·exact Gj hk h
 ·simpa[Rq.holds,D,intOf]using h
 ·exact Gj hk h
 ·simpa[Rq.holds,D,intOf]using h
 ·exact Gj hk h
 ·rw[beq_iff_eq]at h;rw[h];rfl
 ·exact Gj hk h
theorem YI (c x y:SV):D P ρ (qz c x y)=if Gh (D P ρ c)then D P ρ x else D P ρ y:=by
 unfold qz;split<;>simp[D,Gh]
theorem fg (o:Nat):o+0*t6 (D P ρ noI)=o:=aD
theorem ud (hk:∀r∈kn,r.holds P ρ) (n:Nat):∀(x:SV) (o:Nat),D P ρ (Oa P kn o n x)= .agg ((D P ρ x).cells.extract o (o+n)):=by
 have dflt:∀(x:SV) (o:Nat),D P ρ (if o=0/\Au P kn x n=true then Qp P x else .sub x o n 0 noI)= .agg ((D P ρ x).cells.extract o (o+n)):=fun x o=>by
  split
  ·rename_i h;obtain⟨rfl,h⟩:=h;rw[fc,bK];have:=(Ju hk h).1;rw[<-this];simp
  ·simp[D]
 intro x;induction x with
 |cat x m y ih1 ih2=>
  intro o;simp only[Oa];split
  ·rename_i h;obtain⟨rfl,rfl,h⟩:=h;have hs:=(Ju hk h).1;rw[fc];show _=Value.agg (((D P ρ x).cells++(D P ρ y).cells).extract 0 (0+n));congr 1;rw[bK,iU,hs];simp[<-hs]
  ·split
   ·rename_i h;have hs:=(Ju hk h.2).1;rw[ih2];show _=Value.agg (((D P ρ x).cells++(D P ρ y).cells).extract o (o+n));congr 1;have e:(D P ρ x).cells.extract o (o+n)= #[]:=Array.extract_eq_empty_iff.2 aA;rw[iU,hs,e,Array.empty_append,show o-m+n=o+n-m from aA]
   ·split
    ·rename_i h;have hs:=(Ju hk h.2).1;simp only[D,fg];congr 1;rw[show Value.cells (Value.agg ((D P ρ x).cells++(D P ρ y).cells))=(D P ρ x).cells++(D P ρ y).cells from rfl];rw[iU,hs,show o+n-m=0 from aA];simp
    ·simp only[D,fg]
 |ag x ih=>intro o;simp only[Oa,ih];rfl
 |v i=>intro o;exact dflt _ o
 |k c=>intro o;exact dflt _ o
 |z t=>intro o;exact dflt _ o
 |cell x o' s i _ _=>intro o;exact dflt _ o
 |sub x o' n' s i _ _=>intro o;exact dflt _ o
 |put x o' n' y s i _ _ _=>intro o;exact dflt _ o
 |pj x i _=>intro o;exact dflt _ o
 |op2 o' k x y _ _=>intro o;exact dflt _ o
 |op1 o' k x _=>intro o;exact dflt _ o
 |nt x _=>intro o;exact dflt _ o
 |cv k x _=>intro o;exact dflt _ o
 |ite c x y _ _ _=>intro o;exact dflt _ o
 |eqb b x y _ _=>intro o;exact dflt _ o
theorem ue (hk:∀r∈kn,r.holds P ρ):∀(x:SV) (o:Nat),D P ρ (Ob P kn o x)=(D P ρ x).cells.getD o undef:=by
 have dflt:∀(x:SV) (o:Nat),D P ρ (if o=0/\Qn x=true then x else .cell x o 0 noI)=(D P ρ x).cells.getD o undef:=fun x o=>by
  split
  ·rename_i h;obtain⟨rfl,h⟩:=h;have:=(uc (P:=P) (ρ:=ρ) h).1;rw[this];rfl
  ·simp[D]
 intro x;induction x with
 |cat x m y ih1 ih2=>
  intro o;have hc:(D P ρ (.cat x m y)).cells=(D P ρ x).cells++(D P ρ y).cells:=rfl;simp only[Ob];split
  ·rename_i h;have hs:=(Ju hk h.2).1;rw[ih2,hc];simp only[cR];rw[gB aA,hs]
  ·split
   ·rename_i h;obtain⟨rfl,h⟩:=h;have:=(uc (P:=P) (ρ:=ρ) h).1;rw[hc,this];simp only[cR];rw[eX aD];rfl
   ·split
    ·rename_i h;have hs:=(Ju hk h.2).1;rw[hc];simp only[D,fg,cR];rw[eX aA]
    ·simp only[D,fg]
 |ag x ih=>intro o;simp only[Ob,ih];rfl
 |v i=>intro o;exact dflt _ o
 |k c=>intro o;exact dflt _ o
 |z t=>intro o;exact dflt _ o
 |cell x o' s i _ _=>intro o;exact dflt _ o
 |sub x o' n' s i _ _=>intro o;exact dflt _ o
 |put x o' n' y s i _ _ _=>intro o;exact dflt _ o
 |pj x i _=>intro o;exact dflt _ o
 |op2 o' k x y _ _=>intro o;exact dflt _ o
 |op1 o' k x _=>intro o;exact dflt _ o
 |nt x _=>intro o;exact dflt _ o
 |cv k x _=>intro o;exact dflt _ o
 |ite c x y _ _ _=>intro o;exact dflt _ o
 |eqb b x y _ _=>intro o;exact dflt _ o
theorem fh {xs:Array Value} {o:Nat} {ys:List Value} (h:o+ys.length<=xs.size):spl xs o ys=xs.extract 0 o++ys.toArray++xs.extract (o+ys.length) xs.size:=by
 apply mT;intro j;rw[fe];by_cases hj:j<xs.size
 ·rw[if_pos hj];by_cases h1:j<o
  ·rw[if_neg aA,eX (by simp;omega),eX (by simp;omega),jQ,if_pos aA,bK]
  ·by_cases h2:j<o+ys.length
   ·rw[if_pos aA,eX (by simp;omega),gB (by simp;omega)];simp only[mU,List.getElem?_toArray];congr 1;omega
   ·rw[if_neg aA,gB (by simp;omega),jQ];simp only[iN,mU,List.size_toArray];rw[if_pos aA];congr 1;omega
 ·rw[if_neg hj,iM (by simp;omega)]
theorem fi {xs:Array Value} {ys:List Value} (h:ys.length=xs.size):spl xs 0 ys=ys.toArray:=by
 rw[fh aA,bK,h];simp
theorem YJ {xs r:Array Value} {ys:List Value} (h:ys.length=xs.size):spl (xs++r) 0 ys=ys.toArray++r:=by
 rw[fh (by simp;omega)];simp only[bK,iN,iU,h];simp
theorem YK {xs r:Array Value} {o:Nat} {ys:List Value} (h:xs.size<=o):spl (xs++r) o ys=xs++spl r (o-xs.size) ys:=by
 apply mT;intro j;rw[fe];by_cases h1:j<xs.size
 ·rw[eX h1,if_pos (by simp;omega),if_neg aA,eX h1]
 ·have e1:(xs++spl r (o-xs.size) ys)[j]? =(spl r (o-xs.size) ys)[j-xs.size]?:=gB aA;rw[e1,fe];simp only[iN];by_cases h2:j<xs.size+r.size
  ·have h4:j-xs.size<r.size:=aA;by_cases h3:o<=j/\j<o+ys.length
   ·have h5:o-xs.size<=j-xs.size/\j-xs.size<o-xs.size+ys.length:=aA;simp only[h2,h3,h4,h5,and_self,if_true];congr 1;omega
   ·have h5:¬(o-xs.size<=j-xs.size/\j-xs.size<o-xs.size+ys.length):=aA;simp only[h2,h3,h4,h5,if_true,if_false];exact gB aA
  ·have h4:¬(j-xs.size<r.size):=aA;simp only[h2,h4,if_false]
theorem FT (hk:∀r∈kn,r.holds P ρ) (sf:Bool) (n:Nat) (y:SV) (hy:(D P ρ y).cells.size=n):∀(x:SV) (N o:Nat),(D P ρ x).cells.size=N->o+n<=N->
  (D P ρ (Qq P kn sf N o n y x)).cells=spl (D P ρ x).cells o (D P ρ y).cells.toList:=by
 have hl:(D P ρ y).cells.toList.length=n:=by simpa using hy
 have dflt:∀(x:SV) (N o:Nat),(D P ρ x).cells.size=N->o+n<=N->
   (D P ρ (if o=0/\n=N then y else if sf=true then
    (if o=0 then .cat y n (.sub x n (N-n) 0 noI)else if o+n=N then .cat (.sub x 0 o 0 noI) o y else .cat (.sub x 0 o 0 noI) o (.cat y n (.sub x (o+n) (N-(o+n)) 0 noI)))
   else .put x o n y 0 noI)).cells=spl (D P ρ x).cells o (D P ρ y).cells.toList:=fun x N o hN ho=>by
  split
  ·rename_i h;obtain⟨rfl,rfl⟩:=h;rw[fi aA]
  ·split
   ·rw[fh aA];split
    ·rename_i h0;subst h0;show(D P ρ y).cells++(D P ρ x).cells.extract (n+0*_) (n+0*_+(N-n))=_;simp only[cD,eF,bK,hl];rw[show n+(N-n)=(D P ρ x).cells.size from aA];simp
    ·split
     ·rename_i h1;show(D P ρ x).cells.extract (0+0*_) (0+0*_+o)++(D P ρ y).cells=_;simp only[cD,eF,bK,hl];rw[show o+n=(D P ρ x).cells.size from aA];simp
     ·show(D P ρ x).cells.extract (0+0*_) (0+0*_+o)++((D P ρ y).cells++(D P ρ x).cells.extract (o+n+0*_) (o+n+0*_+(N-(o+n))))=_;simp only[cD,eF,bK,hl];rw[show o+n+(N-(o+n))=(D P ρ x).cells.size from aA];simp
   ·show spl (D P ρ x).cells (o+0*_) _=_;simp
 intro x;induction x with
 |cat x m r ih1 ih2=>
  intro N o hN ho;have hc:(D P ρ (.cat x m r)).cells=(D P ρ x).cells++(D P ρ r).cells:=rfl;rw[hc]at hN⊢;simp only[iN]at hN;simp only[Qq];split
  ·rename_i h;obtain⟨rfl,rfl,h⟩:=h;have hs:=(Ju hk h).1;rw[YJ aA];show(D P ρ y).cells++(D P ρ r).cells=_;simp
  ·split
   ·rename_i h;have hs:=(Ju hk h.2).1;rw[YK aA,hs];show(D P ρ x).cells++(D P ρ (Qq P kn sf (N-m) (o-m) n y r)).cells=_;rw[ih2 (N-m) (o-m) aA aA]
   ·show spl (D P ρ (.cat x m r)).cells (o+0*_) _=_;simp[hc]
 |v i=>intro N o h1 h2;exact dflt _ N o h1 h2
 |k c=>intro N o h1 h2;exact dflt _ N o h1 h2
 |z t=>intro N o h1 h2;exact dflt _ N o h1 h2
 |ag x _=>intro N o h1 h2;exact dflt _ N o h1 h2
 |cell x o' s i _ _=>intro N o h1 h2;exact dflt _ N o h1 h2
 |sub x o' n' s i _ _=>intro N o h1 h2;exact dflt _ N o h1 h2
 |put x o' n' y s i _ _ _=>intro N o h1 h2;exact dflt _ N o h1 h2
 |pj x i _=>intro N o h1 h2;exact dflt _ N o h1 h2
 |op2 o' k x y _ _=>intro N o h1 h2;exact dflt _ N o h1 h2
 |op1 o' k x _=>intro N o h1 h2;exact dflt _ N o h1 h2
 |nt x _=>intro N o h1 h2;exact dflt _ N o h1 h2
 |cv k x _=>intro N o h1 h2;exact dflt _ N o h1 h2
 |ite c x y _ _ _=>intro N o h1 h2;exact dflt _ N o h1 h2
 |eqb b x y _ _=>intro N o h1 h2;exact dflt _ N o h1 h2
theorem YL:∀{a b:List Value},Tu a b=true->a=b:=by
 intro a;induction a with
 |nil=>intro b h;cases b<;>simp[Tu]at h;rfl
 |cons x a ih=>
  intro b h;cases b with
  |nil=>simp[Tu]at h
  |cons y b=>simp[Tu]at h;rw[FH h.1,ih h.2]
theorem YM:∀(l:List (Nat×SV)),(D P ρ (Qr l)).cells.toList=l.flatMap fun p=>(D P ρ p.2).cells.toList:=by
 intro l;induction l with
 |nil=>rfl
 |cons p r ih=>
  obtain⟨n,x⟩:=p;cases r with
  |nil=>simp[Qr]
  |cons q r=>
   have:Qr ((n,x)::q::r)= .cat x n (Qr (q::r)):=rfl;rw[this];show((D P ρ x).cells++(D P ρ (Qr (q::r))).cells).toList=_;rw[kD,ih];simp
theorem FU (T:TypeId):(D P ρ (exZ P T)).cells=(r8 P T).cells:=by
 unfold exZ;split
 ·rename_i fs _;split
  ·rename_i h;have h2:=YL h.2;have h3:=YM (P:=P) (ρ:=ρ) (fs.toList.map fun f=>((r8 P f.type).cells.size,SV.z f.type));apply cI.1;rw[h3,h2];simp[List.flatMap_map,D]
  ·rfl
 ·rfl
theorem uf:∀{kb:List (SV×Bool)},(∀p∈kb,D P ρ p.1= .bool p.2)->∀c,D P ρ (Oc kb c)=D P ρ c:=by
 intro kb;induction kb with
 |nil=>intro _ c;rfl
 |cons p r ih=>
  intro h c;obtain⟨x,b⟩:=p;simp only[Oc];split
  ·rename_i hb;have:=h (x,b) aD;rw[<-SV.beq_sound hb,this];rfl
  ·exact ih (fun p hp=>h p (by simp[hp])) c
end
open Go.RowKit
section
variable {P:Program}
theorem FV (v:Value):v.oneCell'=Dm v:=by cases v<;>rfl
theorem Gx {t:TypeId} (h:w9 P t=true):(∃i,P.info? t=some i)/\∃d,P.underlying t=some d:=by
 unfold w9 at h;rw[bA,gU,gU]at h;exact h
theorem FW {t:TypeId} {d:TypeDesc} (h:P.underlying t=some d) (w:World):(isAgg t).run P w= .ok (An P t) w:=by
 unfold isAgg An;simp only[eI,run_underlying h,eH,h];cases d<;>rfl
theorem Ht {t:TypeId} {i:TypeInfo} (h:P.info? t=some i) (w:World):(sizeOf t).run P w= .ok (P.cellsOf t) w:=run_sizeOf w h
theorem FX {w:World} {b:Nat} {cs:Array Value} {T:TypeId} {fz:Nat×Nat} (h:w.heap[b]? =some (.cells cs T fz)) (q:Nat):w.cell? ⟨b,q,none⟩=cs[q]?:=by
 simp[World.cell?,h]
theorem Jv (b q i:Nat):(⟨b,q,none⟩:Addr).add i=⟨b,q+i,none⟩:=by
 unfold Addr.add;split
 ·simp_all
 ·rfl
theorem FY {w:World} {b q:Nat} {cs:Array Value} {T t:TypeId} {fz:Nat×Nat} (hT:w9 P t=true) (h:w.heap[b]? =some (.cells cs T fz)) (hq:q+P.cellsOf t<=cs.size) (h0:An P t=false->q<cs.size):
  (Instr.loadAt t (.pointer (some ⟨b,q,none⟩))).run P w= .ok (if An P t then .agg (cs.extract q (q+P.cellsOf t))else cs.getD q undef) w:=by
 obtain⟨⟨i,hi⟩,⟨d,hd⟩⟩:=Gx hT;unfold Instr.loadAt Instr.sureAddr loadVar;simp only[eI,eJ,eH,FW hd];cases uW:An P t with
 |true=>
  simp only[if_true,eI,Ht hi,eH];have hl:(cs.extract q (q+P.cellsOf t)).toList.length=P.cellsOf t:=by simp;omega
  have:=run_loadCells_list (P:=P) w ⟨b,q,none⟩ (cs.extract q (q+P.cellsOf t)).toList (fun j v hj=>by
   rw[Jv,FX h];simp only[cT,jQ]at hj;split at hj
   ·exact hj
   ·cases hj)
  rw[hl]at this;rw[this];simp only[eH,eJ,Array.toArray_toList]
 |false=>
  simp only[bZ,if_false,run_load,FX h];have pX:=h0 uW;rw[dU pX];simp[pX]
theorem FZ {w:World} {b q:Nat} {cs:Array Value} {T t:TypeId} {v:Value} (hT:w9 P t=true) (h:w.heap[b]? =some (.cells cs T (0,0))) (hq:q+P.cellsOf t<=cs.size) (hv:v.cells.size=P.cellsOf t) (h1:o0 v.cells):
  (Instr.storeAt t (.pointer (some ⟨b,q,none⟩)) v).run P w= .ok () (w.setRow b (spl cs q v.cells.toList)):=by
 obtain⟨⟨i,hi⟩,⟨d,hd⟩⟩:=Gx hT;unfold Instr.storeAt Instr.sureAddr storeVar;simp only[eI,eJ,eH,Ht hi,hv,ne_eq,not_true_eq_false,if_false];have hl:v.cells.toList.length=P.cellsOf t:=by simpa using hv
 rw[run_storeCells_at P b q T v.cells.toList 0 cs w h aA (fun x hx=>by rw[FV];exact h1 x hx)];congr 2;apply cI.1;rw[fh aA,eF];simp only[kD,Array.toList_extract,List.extract];simp;rw[aF aD]
theorem GA {S f:Nat} {fs:Array Field} {fd:Field} (hS:P.underlying S=some (.struct fs)) (hf:fs[f]? =some fd) (hT:w9 P fd.type=true) (hn:P.cellsOf fd.type≠0) (b q:Nat) (w:World):
  (Instr.fieldAt S (.pointer (some ⟨b,q,none⟩)) f).run P w= .ok (.pointer (some ⟨b,q+fd.offset,none⟩)) w:=by
 obtain⟨⟨i,hi⟩,_⟩:=Gx hT;unfold Instr.fieldAt;simp only[eI,run_underlying hS,eH,hf];simp only[Instr.sureAddr,eI,eJ,eH,fieldPlace,Ht hi,hn,if_false,Jv]
theorem ug {T len e:Nat} (hT:P.underlying T=some (.array len e)) (he:w9 P e=true) (b q:Nat) (k:IntKind) (m:Int) (h0:0<=m) (h1:m<len) (w:World):
  (Instr.indexAt T (.pointer (some ⟨b,q,none⟩)) (.int k m)).run P w= .ok (.pointer (some ⟨b,q+m.toNat*P.cellsOf e,none⟩)) w:=by
 obtain⟨⟨i,hi⟩,_⟩:=Gx he;unfold Instr.indexAt;simp only[asIntOf,eI,eJ,eH,run_underlying hT,Instr.sureAddr];simp[h0,h1,Ht hi,Jv]
theorem Xp {t:TypeId} {cs:Array Value} {q:Nat} (hT:w9 P t=true) (hq:q+P.cellsOf t<=cs.size) (h0:0<P.cellsOf t) (w:World):
  (part t cs q).run P w= .ok (if An P t then .agg (cs.extract q (q+P.cellsOf t))else cs.getD q undef) w:=by
 obtain⟨⟨i,hi⟩,⟨d,hd⟩⟩:=Gx hT;unfold part;simp only[eI,eH,FW hd];cases uW:An P t with
 |true=>simp[Ht hi]
 |false=>
  have pX:q<cs.size:=aA;simp[pX]
theorem YN {S f:Nat} {fs:Array Field} {fd:Field} {cs:Array Value} (hS:P.underlying S=some (.struct fs)) (hf:fs[f]? =some fd) (hT:w9 P fd.type=true) (hq:fd.offset+P.cellsOf fd.type<=cs.size) (h0:0<P.cellsOf fd.type) (w:World):
  (Instr.field S (.agg cs) f).run P w= .ok (if An P fd.type then .agg (cs.extract fd.offset (fd.offset+P.cellsOf fd.type))else cs.getD fd.offset undef) w:=by
 unfold Instr.field;simp only[eI,run_underlying hS,eH,hf,asAgg,eJ];exact Xp hT hq h0 w
theorem GB {T len e:Nat} {cs:Array Value} (hT:P.underlying T=some (.array len e)) (he:w9 P e=true) (k:IntKind) (m:Int) (h0:0<=m) (h1:m<len) (hq:len*P.cellsOf e<=cs.size) (hn:0<P.cellsOf e) (w:World):
  (Instr.index T (.agg cs) (.int k m)).run P w= .ok (if An P e then .agg (cs.extract (m.toNat*P.cellsOf e) (m.toNat*P.cellsOf e+P.cellsOf e))else cs.getD (m.toNat*P.cellsOf e) undef) w:=by
 obtain⟨⟨i,hi⟩,_⟩:=Gx he;unfold Instr.index;simp only[asIntOf,eI,eJ,eH,run_underlying hT];rw[if_pos ⟨h0,h1⟩];simp only[eI,Ht hi,eH];refine Xp he ?_ hn w;have h2:m.toNat+1<=len:=aA;have h3:(m.toNat+1)*P.cellsOf e<=len*P.cellsOf e:=bL _ h2;rw[cK,cM]at h3;omega
theorem YO {op:BinOp} {k:IntKind} {a b:Int} {T:TypeId} {x y:Operand} (hs:op≠ .shl/\op≠ .shr) (hz:(op= .quo\/op= .rem)->b≠0) (w:World):
  (do eqGuard op T x y (.int k a) (.int k b);binOp op T (.int k a) (.int k b):Sem Value).run P w= .ok (Aa op k a b) w:=by
 have hg:(eqGuard op T x y (.int k a) (.int k b)).run P w= .ok () w:=by
  unfold eqGuard;cases op<;>rfl
 simp only[eI,hg,eH];cases op<;>simp_all[binOp,Op.intArith,Op.intDiv,Op.intBits,Op.intCmp,Aa]
theorem YP {op:BinOp} {k l:IntKind} {a b:Int} {T:TypeId} {x y:Operand} (hs:op= .shl\/op= .shr) (hz:0<=b) (w:World):
  (do eqGuard op T x y (.int k a) (.int l b);binOp op T (.int k a) (.int l b):Sem Value).run P w= .ok (Aa op k a b) w:=by
 have hg:(eqGuard op T x y (.int k a) (.int l b)).run P w= .ok () w:=by
  unfold eqGuard;rcases hs with rfl|rfl<;>rfl
 simp only[eI,hg,eH];have:¬b<0:=aA;rcases hs with rfl|rfl<;>simp[binOp,Op.shift,Aa,this]
theorem YQ {op:BinOp} {a b:Bool} {T:TypeId} {x y:Operand} (hT:P.underlying T=some .bool) (ho:op= .eql\/op= .neq) (w:World):
  (do eqGuard op T x y (.bool a) (.bool b);binOp op T (.bool a) (.bool b):Sem Value).run P w= .ok (.bool ((op== .neq) !=(a==b))) w:=by
 have hg:(eqGuard op T x y (.bool a) (.bool b)).run P w= .ok () w:=by
  unfold eqGuard;rcases ho with rfl|rfl<;>rfl
 simp only[eI,hg,eH];rcases ho with rfl|rfl<;>simp only[binOp,eI,run_equal_bool _ T a b hT,eH,eJ]<;>cases a<;>cases b<;>rfl
theorem YR (off:Nat):∀(ys:List Value) (k:Nat) (cs:Array Value),(ys.zipIdx k).foldl (fun cs (p:Value×Nat)=>cs.setIfInBounds (off+p.2) p.1) cs=spl cs (off+k) ys:=by
 intro ys;induction ys with
 |nil=>intro k cs;rfl
 |cons y ys ih=>intro k cs;simp only[List.zipIdx_cons,fV,spl];rw[ih];rfl
theorem Xq (place:Nat->Option (Nat×Nat)):∀(ps:List (Nat×Value)) (cells:Array Value),(∀p∈ps,∃q n,place p.1=some (q,n)/\p.2.cells.size=n/\q+n<=cells.size)->
  Instr.fill place cells ps=some (ps.foldl (fun acc p=>spl acc ((place p.1).getD (0,0)).1 p.2.cells.toList) cells):=by
 intro ps;induction ps with
 |nil=>intro cells _;rfl
 |cons p ps ih=>
  intro cells h;obtain⟨i,v⟩:=p;obtain⟨q,n,hp,hn,hq⟩:=h (i,v) aD;simp only[Instr.fill,hp];simp only at hn;rw[if_neg (by simp[hn];omega)];have e:v.cells.zipIdx.foldl (fun cs (p:Value×Nat)=>cs.setIfInBounds (q+p.2) p.1) cells=spl cells q v.cells.toList:=by
   rw[<-Array.foldl_toList,Array.toList_zipIdx];exact YR q _ 0 _
  simp only[fV,hp,Option.getD_some];rw[<-e];refine ih _ fun p hp=> ?_;rw[e,Xo];exact h p (by simp[hp])
theorem YS {T:TypeId} {pl:Nat->Option (Nat×Nat)} {it:TypeInfo} {z:Value} (qS:rh P T=some pl) (hpt:rj P T=true) (hit:P.info? T=some it) (hz:it.zero=some z) (parts:Array (Nat×Value))
  (h:∀p∈parts.toList,∃q n,pl p.1=some (q,n)/\p.2.cells.size=n/\q+n<=z.cells.size) (w:World):
  (Instr.build T parts).run P w= .ok (.agg (parts.toList.foldl (fun acc p=>spl acc ((pl p.1).getD (0,0)).1 p.2.cells.toList) z.cells)) w:=by
 refine run_build w T parts _ ?_;unfold Program.built;unfold rh at qS;unfold rj at hpt;cases hu:P.underlying T with
 |none=>simp[hu]at qS
 |some d=>
  cases d<;>simp only[hu]at qS hpt<;>try (cases qS;done)
  case array n e=>
   obtain⟨⟨i,hi⟩,_⟩:=Gx hpt;have hs:P.cellsOf e=i.size:=by simp[Program.cellsOf,hi]
   simp only[dM]at qS;subst qS;simp only[hit,hz,hi];rw[<-hs];exact Xq _ _ _ h
  case struct fs=>
   simp only[dM]at qS;subst qS;have hm:fs.toList.mapM (fun f=>(P.info? f.type).map fun i=>(f.offset,i.size))=some (fs.toList.map fun f=>(f.offset,P.cellsOf f.type)):=by
    have rC:∀f∈fs.toList,(P.info? f.type).map (fun i=>(f.offset,i.size))=some (f.offset,P.cellsOf f.type):=fun f hf=>by
     rw[Array.all_eq_true_iff_forall_mem]at hpt;obtain⟨⟨i,hi⟩,_⟩:=Gx (hpt f (by simpa using hf));simp[hi,Program.cellsOf]
    have go:∀l:List Field,(∀f∈l,(P.info? f.type).map (fun i=>(f.offset,i.size))=some (f.offset,P.cellsOf f.type))->l.mapM (fun f=>(P.info? f.type).map fun i=>(f.offset,i.size))=some (l.map fun f=>(f.offset,P.cellsOf f.type)):=by
     intro l;induction l with
     |nil=>intro _;rfl
     |cons f l ih=>
      intro hl;rw[List.mapM_cons,hl f aD,ih (fun g hg=>hl g (by simp[hg]))];rfl
    exact go _ rC
   simp only[hit,hz,hm];have hp:(fun i:Nat=>(fs.toList.map fun f=>(f.offset,P.cellsOf f.type)).toArray[i]?)=fun i:Nat=>(fs[i]?).map fun f:Field=>(f.offset,P.cellsOf f.type):=by
    funext i;simp
   rw[hp];exact Xq _ _ _ h
end
end Go.RX

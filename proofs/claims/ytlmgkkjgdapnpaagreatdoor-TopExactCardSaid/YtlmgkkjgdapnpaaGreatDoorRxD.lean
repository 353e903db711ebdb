/- Soundness of the symbolic terms. -/
import Derived.Test.YtlmgkkjgdapnpaaGreatDoorRxC
import Derived.Laws.CopyRow
import Derived.Laws.Cells
import Derived.ChangeKeysEq
import Derived.Laws.Small
import Derived.WalkSmall
namespace Go.RX
open Go.RowKit
theorem b2W {ρ r:List Value} {i:Nat} (h:i<ρ.length):(ρ++r).getD i undef=ρ.getD i undef:=by
 simp[List.getD_eq_getElem?_getD,List.getElem?_append_left h]
theorem a1n (P:Program) (ρ r:List Value):∀x:SV,x.lt ρ.length=true->D P (ρ++r) x=D P ρ x:=by
 intro x
 induction x with
 |v i=>intro h;simp only[SV.lt,decide_eq_true_eq]at h;exact b2W h
 |k c=>intro _;rfl
 |z t=>intro _;rfl
 |ag x ih=>intro h;simp only[SV.lt]at h;simp only[D,ih h]
 |cell x o s i ih1 ih2=>intro h;simp only[SV.lt,Bool.and_eq_true]at h;simp only[D,ih1 h.1,ih2 h.2]
 |sub x o n s i ih1 ih2=>intro h;simp only[SV.lt,Bool.and_eq_true]at h;simp only[D,ih1 h.1,ih2 h.2]
 |put x o n y s i ih1 ih2 ih3=>intro h;simp only[SV.lt,Bool.and_eq_true]at h;simp only[D,ih1 h.1.1,ih2 h.1.2,ih3 h.2]
 |cat x n y ih1 ih2=>intro h;simp only[SV.lt,Bool.and_eq_true]at h;simp only[D,ih1 h.1,ih2 h.2]
 |proj x i ih=>intro h;simp only[SV.lt]at h;simp only[D,ih h]
 |op2 o k x y ih1 ih2=>intro h;simp only[SV.lt,Bool.and_eq_true]at h;simp only[D,ih1 h.1,ih2 h.2]
 |op1 o k x ih=>intro h;simp only[SV.lt]at h;simp only[D,ih h]
 |nt x ih=>intro h;simp only[SV.lt]at h;simp only[D,ih h]
 |cv k x ih=>intro h;simp only[SV.lt]at h;simp only[D,ih h]
 |ite c x y ih1 ih2 ih3=>intro h;simp only[SV.lt,Bool.and_eq_true]at h;simp only[D,ih1 h.1.1,ih2 h.1.2,ih3 h.2]
 |eqb n x y ih1 ih2=>intro h;simp only[SV.lt,Bool.and_eq_true]at h;simp only[D,ih1 h.1,ih2 h.2]
theorem a6l (P:Program) (ρ r:List Value) (q:Rq) (h:q.sv.lt ρ.length=true):q.holds P (ρ++r)↔q.holds P ρ:=by
 cases q<;>simp only[Rq.sv]at h<;>simp only[Rq.holds,a1n P ρ r _ h]
theorem a8G {a b:Value} (h:d6b a b=true):a=b:=by
 unfold d6b at h
 split at h<;>first|rfl|(exfalso;cases h;done)|skip
 ·simp at h;rw[h]
 ·simp at h;rw[h.1,h.2]
 ·simp at h;rw[h.1,h.2]
 ·rename_i a b
  simp at h
  congr 1
  cases a;cases b;simp at h;rw[h]
 ·simp at h;rw[h.1.1.1.1,h.1.1.1.2,h.1.1.2,h.1.2,h.2]
 ·simp at h;rw[h.1,h.2]
theorem SV.beq_sound:∀{x y:SV},x.beq y=true->x=y:=by
 intro x
 induction x with
 |v i=>intro y h;cases y<;>simp[SV.beq]at h;rw[h]
 |k c=>intro y h;cases y<;>simp[SV.beq]at h;rw[a8G h]
 |z t=>intro y h;cases y<;>simp[SV.beq]at h;rw[h]
 |ag x ih=>intro y h;cases y<;>simp[SV.beq]at h;rw[ih h]
 |cell x o s i ih1 ih2=>intro y h;cases y<;>simp[SV.beq]at h;rw[ih1 h.1.1.1,h.1.1.2,h.1.2,ih2 h.2]
 |sub x o n s i ih1 ih2=>intro y h;cases y<;>simp[SV.beq]at h;rw[ih1 h.1.1.1.1,h.1.1.1.2,h.1.1.2,h.1.2,ih2 h.2]
 |put x o n y s i ih1 ih2 ih3=>intro y h;cases y<;>simp[SV.beq]at h;rw[ih1 h.1.1.1.1.1,h.1.1.1.1.2,h.1.1.1.2,ih2 h.1.1.2,h.1.2,ih3 h.2]
 |cat x n y ih1 ih2=>intro y h;cases y<;>simp[SV.beq]at h;rw[ih1 h.1.1,h.1.2,ih2 h.2]
 |proj x i ih=>intro y h;cases y<;>simp[SV.beq]at h;rw[ih h.1,h.2]
 |op2 o k x y ih1 ih2=>intro y h;cases y<;>simp[SV.beq]at h;rw[h.1.1.1,h.1.1.2,ih1 h.1.2,ih2 h.2]
 |op1 o k x ih=>intro y h;cases y<;>simp[SV.beq]at h;rw[h.1.1,h.1.2,ih h.2]
 |nt x ih=>intro y h;cases y<;>simp[SV.beq]at h;rw[ih h]
 |cv k x ih=>intro y h;cases y<;>simp[SV.beq]at h;rw[h.1,ih h.2]
 |ite c x y ih1 ih2 ih3=>intro y h;cases y<;>simp[SV.beq]at h;rw[ih1 h.1.1,ih2 h.1.2,ih3 h.2]
 |eqb n x y ih1 ih2=>intro y h;cases y<;>simp[SV.beq]at h;rw[h.1.1,ih1 h.1.2,ih2 h.2]
theorem SL.beq_sound {x y:SL} (h:x.beq y=true):x=y\/x= .u:=by
 cases x<;>cases y<;>simp[SL.beq]at h
 ·exact .inl (by rw[SV.beq_sound h])
 ·exact .inl (by rw[h.1.1.1,h.1.1.2,h.1.2,SV.beq_sound h.2])
 all_goals exact .inr rfl
theorem Rq.beq_sound {x y:Rq} (h:x.beq y=true):x=y:=by
 cases x<;>cases y<;>simp[Rq.beq]at h<;>first
  |rw[SV.beq_sound h]
  |rw[h.1,SV.beq_sound h.2]
section
variable {P:Program} {ρ:List Value} {kn:List Rq}
theorem a0Y (hk:∀r∈kn,r.holds P ρ) {r:Rq} (h:has kn r=true):r.holds P ρ:=by
 unfold has at h
 rw[List.any_eq_true]at h
 obtain⟨r',hm,hb⟩:=h
 rw[<-Rq.beq_sound hb];exact hk r' hm
theorem b4e {o:BinOp} (h:b2R o=false) (k:IntKind) (a b:Int):∃n,a2U o k a b= .int k n:=by
 cases o<;>simp[b2R]at h<;>exact⟨_,rfl⟩
theorem b7C {o:BinOp} (h:b2R o=true) (k:IntKind) (a b:Int):∃n,a2U o k a b= .bool n:=by
 cases o<;>simp[b2R]at h<;>exact⟨_,rfl⟩
theorem b7D (o:UnOp) (k:IntKind) (a:Int):∃n,unV o k a= .int k n:=by
 cases o<;>exact⟨_,rfl⟩
theorem b2X {k:IntKind} {x:SV} (h:c8L k x=true):∃n,D P ρ x= .int k n:=by
 unfold c8L at h
 split at h
 ·simp at h;subst h;exact⟨_,rfl⟩
 ·simp at h;obtain⟨h1,rfl⟩:=h;exact b4e h1 _ _ _
 ·simp at h;subst h;exact b7D _ _ _
 ·simp at h;subst h;exact⟨_,rfl⟩
 ·cases h
theorem a7d {x:SV} (h:c3F x=true):∃k n,D P ρ x= .int k n:=by
 unfold c3F at h
 split at h
 ·exact⟨_,_,rfl⟩
 ·simp at h;obtain⟨n,hn⟩:=b4e h _ _ _;exact⟨_,n,hn⟩
 ·obtain⟨n,hn⟩:=b7D _ _ _;exact⟨_,n,hn⟩
 ·exact⟨_,_,rfl⟩
 ·cases h
theorem a6m {x:SV} (h:b4a x=true):∃b,D P ρ x= .bool b:=by
 unfold b4a at h
 split at h
 ·exact⟨_,rfl⟩
 ·exact b7C h _ _ _
 ·exact⟨_,rfl⟩
 ·exact⟨_,rfl⟩
 ·cases h
theorem a4H {x:SV} (h:b2S x=true):(D P ρ x).cells= #[D P ρ x]/\a3G (D P ρ x)=true:=by
 unfold b2S at h
 simp only[Bool.or_eq_true]at h
 rcases h with(h|h)|h
 ·obtain⟨k,n,hn⟩:=a7d (P:=P) (ρ:=ρ) h;rw[hn];exact⟨rfl,rfl⟩
 ·obtain⟨b,hb⟩:=a6m (P:=P) (ρ:=ρ) h;rw[hb];exact⟨rfl,rfl⟩
 ·split at h
  ·exact⟨rfl,rfl⟩
  ·cases h
theorem a8H {v:Value} (h:d6c v=true):v= .agg v.cells:=by
 cases v<;>simp[d6c]at h;rfl
theorem a7e {x:SV} (h:c3G P x=true):D P ρ x= .agg (D P ρ x).cells:=by
 unfold c3G at h
 split at h
 ·rfl
 ·rfl
 ·rfl
 ·rfl
 ·exact a8H h
 ·exact a8H h
 ·cases h
theorem a6n {n:Nat} {v:Value} (h:b4b n v=true):v.cells.size=n/\a0p v.cells:=by
 unfold b4b at h
 rw[Bool.and_eq_true,beq_iff_eq,List.all_eq_true]at h
 exact⟨h.1,h.2⟩
theorem a4i (x:SV):D P ρ (c8M P x)= .agg (D P ρ x).cells:=by
 unfold c8M
 split
 ·rename_i h;exact a7e h
 ·rfl
theorem a5d:∀(ys:List Value) (cs:Array Value) (q:Nat),(spl cs q ys).size=cs.size:=by
 intro ys
 induction ys with
 |nil=>intro cs q;rfl
 |cons y ys ih=>intro cs q;simp only[spl,ih];simp
theorem a9y:∀(ys:List Value) (cs:Array Value) (q j:Nat),(spl cs q ys)[j]? =if j<cs.size then(if q<=j/\j<q+ys.length then ys[j-q]? else cs[j]?)else none:=by
 intro ys
 induction ys with
 | nil => intro cs q j; simp only [spl, List.length_nil, Nat.add_zero]; split
          · rw[if_neg (by omega)]
          · rw[Array.getElem?_eq_none (by omega)]
 |cons y ys ih=>
  intro cs q j
  simp only[spl,ih,Array.size_setIfInBounds,List.length_cons]
  split
  ·rename_i hj
   by_cases h1:q+1<=j/\j<q+1+ys.length
   ·rw[if_pos h1,if_pos (by omega),show j-q=(j-(q+1))+1 from by omega];simp
   ·rw[if_neg h1]
    by_cases h2:q=j
    ·subst h2;rw[if_pos (by omega)];simp[hj]
    ·rw[if_neg (by omega),Array.getElem?_setIfInBounds_ne h2]
  ·rfl
theorem c8V {c:Value}:∀(ys:List Value) (cs:Array Value) (q:Nat),c∈(spl cs q ys).toList->c∈cs.toList\/c∈ys:=by
 intro ys
 induction ys with
 |nil=>intro cs q h;exact .inl h
 |cons y ys ih=>
  intro cs q h
  rcases ih _ _ h with h|h
  ·have:=Array.mem_toList_iff.1 h
   rcases Array.mem_or_eq_of_mem_setIfInBounds this with h|h
   ·exact .inl (Array.mem_toList_iff.2 h)
   ·exact .inr (by simp[h])
  ·exact .inr (by simp[h])
theorem a8I {cs:Array Value} {q:Nat} {ys:List Value} (h1:a0p cs) (h2:∀c∈ys,a3G c=true):a0p (spl cs q ys):=fun c hc=>(c8V _ _ _ hc).elim (h1 c) (h2 c)
theorem a8y {cs:Array Value} {a b:Nat} (h:a0p cs):a0p (cs.extract a b):=fun c hc=>h c (by
 have:=Array.mem_toList_iff.1 hc
 rw[Array.mem_toList_iff]
 obtain⟨i,hi,rfl⟩:=Array.mem_iff_getElem.1 this
 simp)
theorem a2k {a b:Array Value} (h1:a0p a) (h2:a0p b):a0p (a++b):=fun c hc=>by
 simp at hc
 rcases hc with h|h
 ·exact h1 c (by simpa using h)
 ·exact h2 c (by simpa using h)
theorem a9z (hk:∀r∈kn,r.holds P ρ):∀{l:List Rq} {x:SV} {n:Nat},(∀r∈l,r∈kn)->a4G l x=some n->(D P ρ x).cells.size=n/\a0p (D P ρ x).cells:=by
 intro l
 induction l with
 |nil=>intro x n _ h;simp[a4G]at h
 |cons r l ih=>
  intro x n hl h
  cases r with
  |cells m y=>
   simp only[a4G]at h
   split at h
   ·rename_i hb
    simp at h;subst h
    have:=hk (.cells m y) (hl (.cells m y) (by simp))
    rw[<-SV.beq_sound hb];exact this
   ·exact ih (fun r hr=>hl r (by simp[hr])) h
  |_=>exact ih (fun r hr=>hl r (by simp[hr])) (by simpa[a4G]using h)
theorem a0T (hk:∀r∈kn,r.holds P ρ):∀{x:SV} {n:Nat},a0M P kn x n=true->(D P ρ x).cells.size=n/\a0p (D P ρ x).cells:=by
 intro x
 have dflt:∀(x:SV) (n:Nat),((n==1&&b2S x)||has kn (.cells n x))=true->(D P ρ x).cells.size=n/\a0p (D P ρ x).cells:=fun x n h=>by
  simp only[Bool.or_eq_true,Bool.and_eq_true,beq_iff_eq]at h
  rcases h with⟨rfl,h⟩|h
  ·obtain⟨h1,h2⟩:=a4H (P:=P) (ρ:=ρ) h
   rw[h1];exact⟨rfl,fun c hc=>by simp at hc;rw[hc];exact h2⟩
  ·exact a0Y hk h
 induction x with
 |z t=>intro n h;simp only[a0M]at h;exact a6n h
 |k c=>intro n h;simp only[a0M]at h;exact a6n h
 |ag x ih=>intro n h;simp only[a0M]at h;exact ih h
 |cat x m y ih1 ih2=>
  intro n h
  simp only[a0M,Bool.or_eq_true,Bool.and_eq_true,decide_eq_true_eq]at h
  rcases h with⟨⟨h1,h2⟩,h3⟩|h
  ·obtain⟨a1,b1⟩:=ih1 h1
   obtain⟨a2,b2⟩:=ih2 h3
   refine⟨?_,a2k b1 b2⟩
   show((D P ρ x).cells++(D P ρ y).cells).size=n
   simp;omega
  ·exact a0Y hk h
 |put x o m y s i ih1 ih2 ih3=>
  intro n h
  simp only[a0M,Bool.or_eq_true,Bool.and_eq_true]at h
  rcases h with⟨h1,h2⟩|h
  ·obtain⟨a1,b1⟩:=ih1 h1
   obtain⟨a2,b2⟩:=ih2 h2
   refine⟨?_,a8I b1 b2⟩
   show(spl _ _ _).size=n
   rw[a5d];exact a1
  ·exact a0Y hk h
 |sub x o m s i ih1 ih2=>
  intro n h
  simp only[a0M,Bool.or_eq_true,Bool.and_eq_true,beq_iff_eq]at h
  rcases h with⟨⟨rfl,rfl⟩,h⟩|h
  ·split at h
   ·rename_i N hN
    simp at h
    obtain⟨a1,b1⟩:=a9z hk (fun r hr=>hr) hN
    refine⟨?_,a8y b1⟩
    show((D P ρ x).cells.extract _ _).size=m
    simp;omega
   ·cases h
  ·exact a0Y hk h
 |v i=>intro n h;exact dflt _ _ (by simpa only[a0M]using h)
 |cell x o s i _ _=>intro n h;exact dflt _ _ (by simpa only[a0M]using h)
 |proj x i _=>intro n h;exact dflt _ _ (by simpa only[a0M]using h)
 |op2 o k x y _ _=>intro n h;exact dflt _ _ (by simpa only[a0M]using h)
 |op1 o k x _=>intro n h;exact dflt _ _ (by simpa only[a0M]using h)
 |nt x _=>intro n h;exact dflt _ _ (by simpa only[a0M]using h)
 |cv k x _=>intro n h;exact dflt _ _ (by simpa only[a0M]using h)
 |ite c x y _ _ _=>intro n h;exact dflt _ _ (by simpa only[a0M]using h)
 |eqb b x y _ _=>intro n h;exact dflt _ _ (by simpa only[a0M]using h)
theorem b4f (hk:∀r∈kn,r.holds P ρ) {r:Rq} (h:ev P kn r=true):r.holds P ρ:=by
 unfold ev at h
 split at h
 ·simp only[Bool.or_eq_true]at h
  exact h.elim b2X (a0Y hk)
 ·simp only[Bool.or_eq_true]at h
  exact h.elim a7d (a0Y hk)
 ·simp only[Bool.or_eq_true]at h
  rcases h with h|h|h|h
  ·exact a6m h
  ·exact a0Y hk h
  ·exact⟨true,a0Y hk h⟩
  ·exact⟨false,a0Y hk h⟩
 ·exact a0T hk h
 ·simp only[Bool.or_eq_true,Bool.and_eq_true]at h
  refine h.elim (fun⟨h1,h2⟩=> ?_) (a0Y hk)
  exact⟨_,a7e h1,(a0T hk h2).1⟩
 ·exact a0Y hk h
 ·simpa[Rq.holds,D,intOf]using h
 ·exact a0Y hk h
 ·simpa[Rq.holds,D,intOf]using h
 ·exact a0Y hk h
 ·simpa[Rq.holds,D,intOf]using h
 ·exact a0Y hk h
 ·rw[beq_iff_eq]at h;rw[h];rfl
 ·exact a0Y hk h
theorem b2Y (c x y:SV):D P ρ (c8N c x y)=if a2u (D P ρ c)then D P ρ x else D P ρ y:=by
 unfold c8N
 split<;>simp[D,a2u]
theorem d6e (o:Nat):o+0*a2G (D P ρ noI)=o:=by simp
theorem a4I (hk:∀r∈kn,r.holds P ρ) (n:Nat):∀(x:SV) (o:Nat),D P ρ (b0S P kn o n x)= .agg ((D P ρ x).cells.extract o (o+n)):=by
 have dflt:∀(x:SV) (o:Nat),D P ρ (if o=0/\a0M P kn x n=true then c8M P x else .sub x o n 0 noI)= .agg ((D P ρ x).cells.extract o (o+n)):=fun x o=>by
  split
  ·rename_i h
   obtain⟨rfl,h⟩:=h
   rw[a4i,Nat.zero_add]
   have:=(a0T hk h).1
   rw[<-this];simp
  ·simp[D]
 intro x
 induction x with
 |cat x m y ih1 ih2=>
  intro o
  simp only[b0S]
  split
  ·rename_i h
   obtain⟨rfl,rfl,h⟩:=h
   have hs:=(a0T hk h).1
   rw[a4i]
   show _=Value.agg (((D P ρ x).cells++(D P ρ y).cells).extract 0 (0+n))
   congr 1
   rw[Nat.zero_add,Array.extract_append,hs]
   simp[<-hs]
  ·split
   ·rename_i h
    have hs:=(a0T hk h.2).1
    rw[ih2]
    show _=Value.agg (((D P ρ x).cells++(D P ρ y).cells).extract o (o+n))
    congr 1
    have e:(D P ρ x).cells.extract o (o+n)= #[]:=Array.extract_eq_empty_iff.2 (by omega)
    rw[Array.extract_append,hs,e,Array.empty_append,show o-m+n=o+n-m from by omega]
   ·split
    ·rename_i h
     have hs:=(a0T hk h.2).1
     simp only[D,d6e]
     congr 1
     rw[show Value.cells (Value.agg ((D P ρ x).cells++(D P ρ y).cells))=(D P ρ x).cells++(D P ρ y).cells from rfl]
     rw[Array.extract_append,hs,show o+n-m=0 from by omega]
     simp
    ·simp only[D,d6e]
 |ag x ih=>intro o;simp only[b0S,ih];rfl
 |v i=>intro o;exact dflt _ o
 |k c=>intro o;exact dflt _ o
 |z t=>intro o;exact dflt _ o
 |cell x o' s i _ _=>intro o;exact dflt _ o
 |sub x o' n' s i _ _=>intro o;exact dflt _ o
 |put x o' n' y s i _ _ _=>intro o;exact dflt _ o
 |proj x i _=>intro o;exact dflt _ o
 |op2 o' k x y _ _=>intro o;exact dflt _ o
 |op1 o' k x _=>intro o;exact dflt _ o
 |nt x _=>intro o;exact dflt _ o
 |cv k x _=>intro o;exact dflt _ o
 |ite c x y _ _ _=>intro o;exact dflt _ o
 |eqb b x y _ _=>intro o;exact dflt _ o
theorem a3P (hk:∀r∈kn,r.holds P ρ):∀(x:SV) (o:Nat),D P ρ (a6f P kn o x)=(D P ρ x).cells.getD o undef:=by
 have dflt:∀(x:SV) (o:Nat),D P ρ (if o=0/\b2S x=true then x else .cell x o 0 noI)=(D P ρ x).cells.getD o undef:=fun x o=>by
  split
  ·rename_i h
   obtain⟨rfl,h⟩:=h
   have:=(a4H (P:=P) (ρ:=ρ) h).1
   rw[this];rfl
  ·simp[D]
 intro x
 induction x with
 |cat x m y ih1 ih2=>
  intro o
  have hc:(D P ρ (.cat x m y)).cells=(D P ρ x).cells++(D P ρ y).cells:=rfl
  simp only[a6f]
  split
  ·rename_i h
   have hs:=(a0T hk h.2).1
   rw[ih2,hc]
   simp only[Array.getD_eq_getD_getElem?]
   rw[Array.getElem?_append_right (by omega),hs]
  ·split
   ·rename_i h
    obtain⟨rfl,h⟩:=h
    have:=(a4H (P:=P) (ρ:=ρ) h).1
    rw[hc,this]
    simp only[Array.getD_eq_getD_getElem?]
    rw[Array.getElem?_append_left (by simp)];rfl
   ·split
    ·rename_i h
     have hs:=(a0T hk h.2).1
     rw[hc]
     simp only[D,d6e,Array.getD_eq_getD_getElem?]
     rw[Array.getElem?_append_left (by omega)]
    ·simp only[D,d6e]
 |ag x ih=>intro o;simp only[a6f,ih];rfl
 |v i=>intro o;exact dflt _ o
 |k c=>intro o;exact dflt _ o
 |z t=>intro o;exact dflt _ o
 |cell x o' s i _ _=>intro o;exact dflt _ o
 |sub x o' n' s i _ _=>intro o;exact dflt _ o
 |put x o' n' y s i _ _ _=>intro o;exact dflt _ o
 |proj x i _=>intro o;exact dflt _ o
 |op2 o' k x y _ _=>intro o;exact dflt _ o
 |op1 o' k x _=>intro o;exact dflt _ o
 |nt x _=>intro o;exact dflt _ o
 |cv k x _=>intro o;exact dflt _ o
 |ite c x y _ _ _=>intro o;exact dflt _ o
 |eqb b x y _ _=>intro o;exact dflt _ o
theorem a7f {xs:Array Value} {o:Nat} {ys:List Value} (h:o+ys.length<=xs.size):spl xs o ys=xs.extract 0 o++ys.toArray++xs.extract (o+ys.length) xs.size:=by
 apply Array.ext_getElem?
 intro j
 rw[a9y]
 by_cases hj:j<xs.size
 ·rw[if_pos hj]
  by_cases h1:j<o
  ·rw[if_neg (by omega),Array.getElem?_append_left (by simp;omega),Array.getElem?_append_left (by simp;omega),Array.getElem?_extract,if_pos (by omega),Nat.zero_add]
  ·by_cases h2:j<o+ys.length
   ·rw[if_pos (by omega),Array.getElem?_append_left (by simp;omega),Array.getElem?_append_right (by simp;omega)]
    simp only[Array.size_extract,List.getElem?_toArray]
    congr 1;omega
   ·rw[if_neg (by omega),Array.getElem?_append_right (by simp;omega),Array.getElem?_extract]
    simp only[Array.size_append,Array.size_extract,List.size_toArray]
    rw[if_pos (by omega)]
    congr 1;omega
 ·rw[if_neg hj,Array.getElem?_eq_none (by simp;omega)]
theorem a9A {xs:Array Value} {ys:List Value} (h:ys.length=xs.size):spl xs 0 ys=ys.toArray:=by
 rw[a7f (by omega),Nat.zero_add,h]
 simp
theorem c3N {xs r:Array Value} {ys:List Value} (h:ys.length=xs.size):spl (xs++r) 0 ys=ys.toArray++r:=by
 rw[a7f (by simp;omega)]
 simp only[Nat.zero_add,Array.size_append,Array.extract_append,h]
 simp
theorem c3O {xs r:Array Value} {o:Nat} {ys:List Value} (h:xs.size<=o):spl (xs++r) o ys=xs++spl r (o-xs.size) ys:=by
 apply Array.ext_getElem?
 intro j
 rw[a9y]
 by_cases h1:j<xs.size
 ·rw[Array.getElem?_append_left h1,if_pos (by simp;omega),if_neg (by omega),Array.getElem?_append_left h1]
 ·have e1:(xs++spl r (o-xs.size) ys)[j]? =(spl r (o-xs.size) ys)[j-xs.size]?:=Array.getElem?_append_right (by omega)
  rw[e1,a9y]
  simp only[Array.size_append]
  by_cases h2:j<xs.size+r.size
  ·have h4:j-xs.size<r.size:=by omega
   by_cases h3:o<=j/\j<o+ys.length
   ·have h5:o-xs.size<=j-xs.size/\j-xs.size<o-xs.size+ys.length:=by omega
    simp only[h2,h3,h4,h5,and_self,if_true];congr 1;omega
   ·have h5:¬(o-xs.size<=j-xs.size/\j-xs.size<o-xs.size+ys.length):=by omega
    simp only[h2,h3,h4,h5,if_true,if_false]
    exact Array.getElem?_append_right (by omega)
  ·have h4:¬(j-xs.size<r.size):=by omega
   simp only[h2,h4,if_false]
theorem a7g (hk:∀r∈kn,r.holds P ρ) (sf:Bool) (n:Nat) (y:SV) (hy:(D P ρ y).cells.size=n):∀(x:SV) (N o:Nat),(D P ρ x).cells.size=N->o+n<=N->
  (D P ρ (b2T P kn sf N o n y x)).cells=spl (D P ρ x).cells o (D P ρ y).cells.toList:=by
 have hl:(D P ρ y).cells.toList.length=n:=by simpa using hy
 have dflt:∀(x:SV) (N o:Nat),(D P ρ x).cells.size=N->o+n<=N->
   (D P ρ (if o=0/\n=N then y else if sf=true then
    (if o=0 then .cat y n (.sub x n (N-n) 0 noI)else if o+n=N then .cat (.sub x 0 o 0 noI) o y else .cat (.sub x 0 o 0 noI) o (.cat y n (.sub x (o+n) (N-(o+n)) 0 noI)))
   else .put x o n y 0 noI)).cells=spl (D P ρ x).cells o (D P ρ y).cells.toList:=fun x N o hN ho=>by
  split
  ·rename_i h
   obtain⟨rfl,rfl⟩:=h
   rw[a9A (by omega)]
  ·split
   ·rw[a7f (by omega)]
    split
    ·rename_i h0
     subst h0
     show(D P ρ y).cells++(D P ρ x).cells.extract (n+0*_) (n+0*_+(N-n))=_
     simp only[Nat.zero_mul,Nat.add_zero,Nat.zero_add,hl]
     rw[show n+(N-n)=(D P ρ x).cells.size from by omega]
     simp
    ·split
     ·rename_i h1
      show(D P ρ x).cells.extract (0+0*_) (0+0*_+o)++(D P ρ y).cells=_
      simp only[Nat.zero_mul,Nat.add_zero,Nat.zero_add,hl]
      rw[show o+n=(D P ρ x).cells.size from by omega]
      simp
     ·show(D P ρ x).cells.extract (0+0*_) (0+0*_+o)++((D P ρ y).cells++(D P ρ x).cells.extract (o+n+0*_) (o+n+0*_+(N-(o+n))))=_
      simp only[Nat.zero_mul,Nat.add_zero,Nat.zero_add,hl]
      rw[show o+n+(N-(o+n))=(D P ρ x).cells.size from by omega]
      simp
   ·show spl (D P ρ x).cells (o+0*_) _=_
    simp
 intro x
 induction x with
 |cat x m r ih1 ih2=>
  intro N o hN ho
  have hc:(D P ρ (.cat x m r)).cells=(D P ρ x).cells++(D P ρ r).cells:=rfl
  rw[hc]at hN⊢
  simp only[Array.size_append]at hN
  simp only[b2T]
  split
  ·rename_i h
   obtain⟨rfl,rfl,h⟩:=h
   have hs:=(a0T hk h).1
   rw[c3N (by omega)]
   show(D P ρ y).cells++(D P ρ r).cells=_
   simp
  ·split
   ·rename_i h
    have hs:=(a0T hk h.2).1
    rw[c3O (by omega),hs]
    show(D P ρ x).cells++(D P ρ (b2T P kn sf (N-m) (o-m) n y r)).cells=_
    rw[ih2 (N-m) (o-m) (by omega) (by omega)]
   ·show spl (D P ρ (.cat x m r)).cells (o+0*_) _=_
    simp[hc]
 |v i=>intro N o h1 h2;exact dflt _ N o h1 h2
 |k c=>intro N o h1 h2;exact dflt _ N o h1 h2
 |z t=>intro N o h1 h2;exact dflt _ N o h1 h2
 |ag x _=>intro N o h1 h2;exact dflt _ N o h1 h2
 |cell x o' s i _ _=>intro N o h1 h2;exact dflt _ N o h1 h2
 |sub x o' n' s i _ _=>intro N o h1 h2;exact dflt _ N o h1 h2
 |put x o' n' y s i _ _ _=>intro N o h1 h2;exact dflt _ N o h1 h2
 |proj x i _=>intro N o h1 h2;exact dflt _ N o h1 h2
 |op2 o' k x y _ _=>intro N o h1 h2;exact dflt _ N o h1 h2
 |op1 o' k x _=>intro N o h1 h2;exact dflt _ N o h1 h2
 |nt x _=>intro N o h1 h2;exact dflt _ N o h1 h2
 |cv k x _=>intro N o h1 h2;exact dflt _ N o h1 h2
 |ite c x y _ _ _=>intro N o h1 h2;exact dflt _ N o h1 h2
 |eqb b x y _ _=>intro N o h1 h2;exact dflt _ N o h1 h2
theorem b2Z:∀{a b:List Value},b5I a b=true->a=b:=by
 intro a
 induction a with
 |nil=>intro b h;cases b<;>simp[b5I]at h;rfl
 |cons x a ih=>
  intro b h
  cases b with
  |nil=>simp[b5I]at h
  |cons y b=>simp[b5I]at h;rw[a8G h.1,ih h.2]
theorem b5L:∀(l:List (Nat×SV)),(D P ρ (c8O l)).cells.toList=l.flatMap fun p=>(D P ρ p.2).cells.toList:=by
 intro l
 induction l with
 |nil=>rfl
 |cons p r ih=>
  obtain⟨n,x⟩:=p
  cases r with
  |nil=>simp[c8O]
  |cons q r=>
   have:c8O ((n,x)::q::r)= .cat x n (c8O (q::r)):=rfl
   rw[this]
   show((D P ρ x).cells++(D P ρ (c8O (q::r))).cells).toList=_
   rw[Array.toList_append,ih]
   simp
theorem b1a (T:TypeId):(D P ρ (exZ P T)).cells=(a0G P T).cells:=by
 unfold exZ
 split
 ·rename_i fs _
  split
  ·rename_i h
   have h2:=b2Z h.2
   have h3:=b5L (P:=P) (ρ:=ρ) (fs.toList.map fun f=>((a0G P f.type).cells.size,SV.z f.type))
   apply Array.toList_inj.1
   rw[h3,h2]
   simp[List.flatMap_map,D]
  ·rfl
 ·rfl
theorem a4J:∀{kb:List (SV×Bool)},(∀p∈kb,D P ρ p.1= .bool p.2)->∀c,D P ρ (b0T kb c)=D P ρ c:=by
 intro kb
 induction kb with
 |nil=>intro _ c;rfl
 |cons p r ih=>
  intro h c
  obtain⟨x,b⟩:=p
  simp only[b0T]
  split
  ·rename_i hb
   have:=h (x,b) (by simp)
   rw[<-SV.beq_sound hb,this];rfl
  ·exact ih (fun p hp=>h p (by simp[hp])) c
end
open Go.RowKit
section
variable {P:Program}
theorem b3a (v:Value):v.oneCell'=a3G v:=by cases v<;>rfl
theorem a1b {t:TypeId} (h:a2h P t=true):(∃i,P.info? t=some i)/\∃d,P.underlying t=some d:=by
 unfold a2h at h
 rw[Bool.and_eq_true,Option.isSome_iff_exists,Option.isSome_iff_exists]at h
 exact h
theorem a5I {t:TypeId} {d:TypeDesc} (h:P.underlying t=some d) (w:World):(isAgg t).run P w= .ok (a0F P t) w:=by
 unfold isAgg a0F
 simp only[Sem.run_bind,run_underlying h,Result.andThen_ok,h]
 cases d<;>rfl
theorem a1j {t:TypeId} {i:TypeInfo} (h:P.info? t=some i) (w:World):(sizeOf t).run P w= .ok (P.cellsOf t) w:=run_sizeOf w h
theorem b4g {w:World} {b:Nat} {cs:Array Value} {T:TypeId} {fz:Nat×Nat} (h:w.heap[b]? =some (.cells cs T fz)) (q:Nat):w.cell? ⟨b,q,none⟩=cs[q]?:=by
 simp[World.cell?,h]
theorem a3u (b q i:Nat):(⟨b,q,none⟩:Addr).add i=⟨b,q+i,none⟩:=by
 unfold Addr.add;split
 ·simp_all
 ·rfl
theorem a5e {w:World} {b q:Nat} {cs:Array Value} {T t:TypeId} {fz:Nat×Nat} (hT:a2h P t=true) (h:w.heap[b]? =some (.cells cs T fz)) (hq:q+P.cellsOf t<=cs.size) (h0:a0F P t=false->q<cs.size):
  (Instr.loadAt t (.pointer (some ⟨b,q,none⟩))).run P w= .ok (if a0F P t then .agg (cs.extract q (q+P.cellsOf t))else cs.getD q undef) w:=by
 obtain⟨⟨i,hi⟩,⟨d,hd⟩⟩:=a1b hT
 unfold Instr.loadAt Instr.sureAddr loadVar
 simp only[Sem.run_bind,Sem.run_pure,Result.andThen_ok,a5I hd]
 cases hag:a0F P t with
 |true=>
  simp only[if_true,Sem.run_bind,a1j hi,Result.andThen_ok]
  have hl:(cs.extract q (q+P.cellsOf t)).toList.length=P.cellsOf t:=by simp;omega
  have:=run_loadCells_list (P:=P) w ⟨b,q,none⟩ (cs.extract q (q+P.cellsOf t)).toList (fun j v hj=>by
   rw[a3u,b4g h]
   simp only[Array.getElem?_toList,Array.getElem?_extract]at hj
   split at hj
   ·exact hj
   ·cases hj)
  rw[hl]at this
  rw[this]
  simp only[Result.andThen_ok,Sem.run_pure,Array.toArray_toList]
 |false=>
  simp only[Bool.false_eq_true,if_false,run_load,b4g h]
  have hlt:=h0 hag
  rw[Array.getElem?_eq_getElem hlt]
  simp[hlt]
theorem a5J {w:World} {b q:Nat} {cs:Array Value} {T t:TypeId} {v:Value} (hT:a2h P t=true) (h:w.heap[b]? =some (.cells cs T (0,0))) (hq:q+P.cellsOf t<=cs.size) (hv:v.cells.size=P.cellsOf t) (h1:a0p v.cells):
  (Instr.storeAt t (.pointer (some ⟨b,q,none⟩)) v).run P w= .ok () (w.setRow b (spl cs q v.cells.toList)):=by
 obtain⟨⟨i,hi⟩,⟨d,hd⟩⟩:=a1b hT
 unfold Instr.storeAt Instr.sureAddr storeVar
 simp only[Sem.run_bind,Sem.run_pure,Result.andThen_ok,a1j hi,hv,ne_eq,not_true_eq_false,if_false]
 have hl:v.cells.toList.length=P.cellsOf t:=by simpa using hv
 rw[run_storeCells_at P b q T v.cells.toList 0 cs w h (by omega) (fun x hx=>by rw[b3a];exact h1 x hx)]
 congr 2
 apply Array.toList_inj.1
 rw[a7f (by omega),Nat.add_zero]
 simp only[Array.toList_append,Array.toList_extract,List.extract]
 simp
 rw[List.take_of_length_le (by simp)]
theorem a7h {S f:Nat} {fs:Array Field} {fd:Field} (hS:P.underlying S=some (.struct fs)) (hf:fs[f]? =some fd) (hT:a2h P fd.type=true) (hn:P.cellsOf fd.type≠0) (b q:Nat) (w:World):
  (Instr.fieldAt S (.pointer (some ⟨b,q,none⟩)) f).run P w= .ok (.pointer (some ⟨b,q+fd.offset,none⟩)) w:=by
 obtain⟨⟨i,hi⟩,_⟩:=a1b hT
 unfold Instr.fieldAt
 simp only[Sem.run_bind,run_underlying hS,Result.andThen_ok,hf]
 simp only[Instr.sureAddr,Sem.run_bind,Sem.run_pure,Result.andThen_ok,fieldPlace,a1j hi,hn,if_false,a3u]
theorem a4K {T len e:Nat} (hT:P.underlying T=some (.array len e)) (he:a2h P e=true) (b q:Nat) (k:IntKind) (m:Int) (h0:0<=m) (h1:m<len) (w:World):
  (Instr.indexAt T (.pointer (some ⟨b,q,none⟩)) (.int k m)).run P w= .ok (.pointer (some ⟨b,q+m.toNat*P.cellsOf e,none⟩)) w:=by
 obtain⟨⟨i,hi⟩,_⟩:=a1b he
 unfold Instr.indexAt
 simp only[asIntOf,Sem.run_bind,Sem.run_pure,Result.andThen_ok,run_underlying hT,Instr.sureAddr]
 simp[h0,h1,a1j hi,a3u]
theorem a2v {t:TypeId} {cs:Array Value} {q:Nat} (hT:a2h P t=true) (hq:q+P.cellsOf t<=cs.size) (h0:0<P.cellsOf t) (w:World):
  (part t cs q).run P w= .ok (if a0F P t then .agg (cs.extract q (q+P.cellsOf t))else cs.getD q undef) w:=by
 obtain⟨⟨i,hi⟩,⟨d,hd⟩⟩:=a1b hT
 unfold part
 simp only[Sem.run_bind,Result.andThen_ok,a5I hd]
 cases hag:a0F P t with
 |true=>simp[a1j hi]
 |false=>
  have hlt:q<cs.size:=by omega
  simp[hlt]
theorem b5M {S f:Nat} {fs:Array Field} {fd:Field} {cs:Array Value} (hS:P.underlying S=some (.struct fs)) (hf:fs[f]? =some fd) (hT:a2h P fd.type=true) (hq:fd.offset+P.cellsOf fd.type<=cs.size) (h0:0<P.cellsOf fd.type) (w:World):
  (Instr.field S (.agg cs) f).run P w= .ok (if a0F P fd.type then .agg (cs.extract fd.offset (fd.offset+P.cellsOf fd.type))else cs.getD fd.offset undef) w:=by
 unfold Instr.field
 simp only[Sem.run_bind,run_underlying hS,Result.andThen_ok,hf,asAgg,Sem.run_pure]
 exact a2v hT hq h0 w
theorem a8J {T len e:Nat} {cs:Array Value} (hT:P.underlying T=some (.array len e)) (he:a2h P e=true) (k:IntKind) (m:Int) (h0:0<=m) (h1:m<len) (hq:len*P.cellsOf e<=cs.size) (hn:0<P.cellsOf e) (w:World):
  (Instr.index T (.agg cs) (.int k m)).run P w= .ok (if a0F P e then .agg (cs.extract (m.toNat*P.cellsOf e) (m.toNat*P.cellsOf e+P.cellsOf e))else cs.getD (m.toNat*P.cellsOf e) undef) w:=by
 obtain⟨⟨i,hi⟩,_⟩:=a1b he
 unfold Instr.index
 simp only[asIntOf,Sem.run_bind,Sem.run_pure,Result.andThen_ok,run_underlying hT]
 rw[if_pos ⟨h0,h1⟩]
 simp only[Sem.run_bind,a1j hi,Result.andThen_ok]
 refine a2v he ?_ hn w
 have h2:m.toNat+1<=len:=by omega
 have h3:(m.toNat+1)*P.cellsOf e<=len*P.cellsOf e:=Nat.mul_le_mul_right _ h2
 rw[Nat.add_mul,Nat.one_mul]at h3
 omega
theorem c3P {op:BinOp} {k:IntKind} {a b:Int} {T:TypeId} {x y:Operand} (hs:op≠ .shl/\op≠ .shr) (hz:(op= .quo\/op= .rem)->b≠0) (w:World):
  (do eqGuard op T x y (.int k a) (.int k b);binOp op T (.int k a) (.int k b):Sem Value).run P w= .ok (a2U op k a b) w:=by
 have hg:(eqGuard op T x y (.int k a) (.int k b)).run P w= .ok () w:=by
  unfold eqGuard;cases op<;>rfl
 simp only[Sem.run_bind,hg,Result.andThen_ok]
 cases op<;>simp_all[binOp,Op.intArith,Op.intDiv,Op.intBits,Op.intCmp,a2U]
theorem c3Q {op:BinOp} {k l:IntKind} {a b:Int} {T:TypeId} {x y:Operand} (hs:op= .shl\/op= .shr) (hz:0<=b) (w:World):
  (do eqGuard op T x y (.int k a) (.int l b);binOp op T (.int k a) (.int l b):Sem Value).run P w= .ok (a2U op k a b) w:=by
 have hg:(eqGuard op T x y (.int k a) (.int l b)).run P w= .ok () w:=by
  unfold eqGuard;rcases hs with rfl|rfl<;>rfl
 simp only[Sem.run_bind,hg,Result.andThen_ok]
 have:¬b<0:=by omega
 rcases hs with rfl|rfl<;>simp[binOp,Op.shift,a2U,this]
theorem c3R {op:BinOp} {a b:Bool} {T:TypeId} {x y:Operand} (hT:P.underlying T=some .bool) (ho:op= .eql\/op= .neq) (w:World):
  (do eqGuard op T x y (.bool a) (.bool b);binOp op T (.bool a) (.bool b):Sem Value).run P w= .ok (.bool ((op== .neq) !=(a==b))) w:=by
 have hg:(eqGuard op T x y (.bool a) (.bool b)).run P w= .ok () w:=by
  unfold eqGuard;rcases ho with rfl|rfl<;>rfl
 simp only[Sem.run_bind,hg,Result.andThen_ok]
 rcases ho with rfl|rfl<;>simp only[binOp,Sem.run_bind,run_equal_bool _ T a b hT,Result.andThen_ok,Sem.run_pure]<;>cases a<;>cases b<;>rfl
theorem a9B (off:Nat):∀(ys:List Value) (k:Nat) (cs:Array Value),(ys.zipIdx k).foldl (fun cs (p:Value×Nat)=>cs.setIfInBounds (off+p.2) p.1) cs=spl cs (off+k) ys:=by
 intro ys
 induction ys with
 |nil=>intro k cs;rfl
 |cons y ys ih=>intro k cs;simp only[List.zipIdx_cons,List.foldl_cons,spl];rw[ih];rfl
theorem a6H (place:Nat->Option (Nat×Nat)):∀(ps:List (Nat×Value)) (cells:Array Value),(∀p∈ps,∃q n,place p.1=some (q,n)/\p.2.cells.size=n/\q+n<=cells.size)->
  Instr.fill place cells ps=some (ps.foldl (fun acc p=>spl acc ((place p.1).getD (0,0)).1 p.2.cells.toList) cells):=by
 intro ps
 induction ps with
 |nil=>intro cells _;rfl
 |cons p ps ih=>
  intro cells h
  obtain⟨i,v⟩:=p
  obtain⟨q,n,hp,hn,hq⟩:=h (i,v) (by simp)
  simp only[Instr.fill,hp]
  simp only at hn
  rw[if_neg (by simp[hn];omega)]
  have e:v.cells.zipIdx.foldl (fun cs (p:Value×Nat)=>cs.setIfInBounds (q+p.2) p.1) cells=spl cells q v.cells.toList:=by
   rw[<-Array.foldl_toList,Array.toList_zipIdx]
   exact a9B q _ 0 _
  simp only[List.foldl_cons,hp,Option.getD_some]
  rw[<-e]
  refine ih _ fun p hp=> ?_
  rw[e,a5d]
  exact h p (by simp[hp])
theorem b5N {T:TypeId} {pl:Nat->Option (Nat×Nat)} {it:TypeInfo} {z:Value} (hpl:a9v P T=some pl) (hpt:b7p P T=true) (hit:P.info? T=some it) (hz:it.zero=some z) (parts:Array (Nat×Value))
  (h:∀p∈parts.toList,∃q n,pl p.1=some (q,n)/\p.2.cells.size=n/\q+n<=z.cells.size) (w:World):
  (Instr.build T parts).run P w= .ok (.agg (parts.toList.foldl (fun acc p=>spl acc ((pl p.1).getD (0,0)).1 p.2.cells.toList) z.cells)) w:=by
 refine run_build w T parts _ ?_
 unfold Program.built
 unfold a9v at hpl
 unfold b7p at hpt
 cases hu:P.underlying T with
 |none=>simp[hu]at hpl
 |some d=>
  cases d<;>simp only[hu]at hpl hpt<;>try (cases hpl;done)
  case array n e=>
   obtain⟨⟨i,hi⟩,_⟩:=a1b hpt
   have hs:P.cellsOf e=i.size:=by simp[Program.cellsOf,hi]
   simp only[Option.some.injEq]at hpl
   subst hpl
   simp only[hit,hz,hi]
   rw[<-hs]
   exact a6H _ _ _ h
  case struct fs=>
   simp only[Option.some.injEq]at hpl
   subst hpl
   have hm:fs.toList.mapM (fun f=>(P.info? f.type).map fun i=>(f.offset,i.size))=some (fs.toList.map fun f=>(f.offset,P.cellsOf f.type)):=by
    have hall:∀f∈fs.toList,(P.info? f.type).map (fun i=>(f.offset,i.size))=some (f.offset,P.cellsOf f.type):=fun f hf=>by
     rw[Array.all_eq_true_iff_forall_mem]at hpt
     obtain⟨⟨i,hi⟩,_⟩:=a1b (hpt f (by simpa using hf))
     simp[hi,Program.cellsOf]
    have go:∀l:List Field,(∀f∈l,(P.info? f.type).map (fun i=>(f.offset,i.size))=some (f.offset,P.cellsOf f.type))->l.mapM (fun f=>(P.info? f.type).map fun i=>(f.offset,i.size))=some (l.map fun f=>(f.offset,P.cellsOf f.type)):=by
     intro l
     induction l with
     |nil=>intro _;rfl
     |cons f l ih=>
      intro hl
      rw[List.mapM_cons,hl f (by simp),ih (fun g hg=>hl g (by simp[hg]))]
      rfl
    exact go _ hall
   simp only[hit,hz,hm]
   have hp:(fun i:Nat=>(fs.toList.map fun f=>(f.offset,P.cellsOf f.type)).toArray[i]?)=fun i:Nat=>(fs[i]?).map fun f:Field=>(f.offset,P.cellsOf f.type):=by
    funext i;simp
   rw[hp]
   exact a6H _ _ _ h
end
end Go.RX

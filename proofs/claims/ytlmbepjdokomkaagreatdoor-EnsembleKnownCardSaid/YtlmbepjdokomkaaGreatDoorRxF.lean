/- Soundness of the symbolic terms. -/
import Derived.Test.YtlmbepjdokomkaaGreatDoorRxC
import Derived.Laws.CopyRow
import Derived.Laws.Cells
import Derived.ChangeKeysEq
import Derived.Laws.Small
import Derived.WalkSmall
open Array renaming ext_getElem?->lV,extract_append->iG,getElem?_append_right->fX,getElem?_eq_none->hG,getElem?_extract->jB,mem_toList_iff->gV,size_extract->lW
open Go.Result renaming andThen_ok->eL
open Go.Sem renaming run_bind->eM,run_pure->eO
open List renaming foldl_cons->gC
open Nat renaming mul_comm->eX
open Option renaming bind_eq_some_iff->kR,getD_some->jX
set_option linter.all false
namespace Go.RX
open RowKit
def WN {ρ r:List Value} {i:Nat} (h:i<ρ.length):(ρ++r).getD i undef=ρ.getD i undef:=by
 simp[aK,aQ h]
def Ey (P:Program) (ρ r:List Value):∀x:SV,x.lt ρ.length=true->D P (ρ++r) x=D P ρ x:=by
 intro x;induction x with
 |v i=>intro h;simp only[SV.lt,decide_eq_true_eq]at h;exact WN h
 |k c=>intro _;rfl
 |z t=>intro _;rfl
 |ag x ih=>intro h;simp only[SV.lt]at h;simp only[D,ih h]
 |cell x o s i ih1 ih2=>intro h;simp only[SV.lt,aT]at h;simp only[D,ih1 h.1,ih2 h.2]
 |sub x o n s i ih1 ih2=>intro h;simp only[SV.lt,aT]at h;simp only[D,ih1 h.1,ih2 h.2]
 |put x o n y s i ih1 ih2 ih3=>intro h;simp only[SV.lt,aT]at h;simp only[D,ih1 h.1.1,ih2 h.1.2,ih3 h.2]
 |cat x n y ih1 ih2=>intro h;simp only[SV.lt,aT]at h;simp only[D,ih1 h.1,ih2 h.2]
 |pj x i ih=>intro h;simp only[SV.lt]at h;simp only[D,ih h]
 |op2 o k x y ih1 ih2=>intro h;simp only[SV.lt,aT]at h;simp only[D,ih1 h.1,ih2 h.2]
 |op1 o k x ih=>intro h;simp only[SV.lt]at h;simp only[D,ih h]
 |nt x ih=>intro h;simp only[SV.lt]at h;simp only[D,ih h]
 |cv k x ih=>intro h;simp only[SV.lt]at h;simp only[D,ih h]
 |ite c x y ih1 ih2 ih3=>intro h;simp only[SV.lt,aT]at h;simp only[D,ih1 h.1.1,ih2 h.1.2,ih3 h.2]
 |eqb n x y ih1 ih2=>intro h;simp only[SV.lt,aT]at h;simp only[D,ih1 h.1,ih2 h.2]
def DO (P:Program) (ρ r:List Value) (q:Rq) (h:q.sv.lt ρ.length=true):q.holds P (ρ++r)↔q.holds P ρ:=by
 cases q<;>simp only[Rq.sv]at h<;>simp only[Rq.holds,Ey P ρ r _ h]
def DR {a b:Value} (h:ai a b=true):a=b:=by
 unfold ai at h;split at h<;>first|rfl|(exfalso;cases h;done)|skip
 ·simp at h;rw[h]
 ·simp at h;rw[h.1,h.2]
 ·simp at h;rw[h.1,h.2]
 ·rename_i a b;simp at h;congr 1;cases a;cases b;simp at h;rw[h]
 ·simp at h;rw[h.1.1.1.1,h.1.1.1.2,h.1.1.2,h.1.2,h.2]
 ·simp at h;rw[h.1,h.2]
def SV.beq_sound:∀{x y:SV},x.beq y=true->x=y:=by
 intro x;induction x with
 |v i=>intro y h;cases y<;>simp[SV.beq]at h;rw[h]
 |k c=>intro y h;cases y<;>simp[SV.beq]at h;rw[DR h]
 |z t=>intro y h;cases y<;>simp[SV.beq]at h;rw[h]
 |ag x ih=>intro y h;cases y<;>simp[SV.beq]at h;rw[ih h]
 |cell x o s i ih1 ih2=>intro y h;cases y<;>simp[SV.beq]at h;rw[ih1 h.1.1.1,h.1.1.2,h.1.2,ih2 h.2]
 |sub x o n s i ih1 ih2=>intro y h;cases y<;>simp[SV.beq]at h;rw[ih1 h.1.1.1.1,h.1.1.1.2,h.1.1.2,h.1.2,ih2 h.2]
 |put x o n y s i ih1 ih2 ih3=>intro y h;cases y<;>simp[SV.beq]at h;rw[ih1 h.1.1.1.1.1,h.1.1.1.1.2,h.1.1.1.2,ih2 h.1.1.2,h.1.2,ih3 h.2]
 |cat x n y ih1 ih2=>intro y h;cases y<;>simp[SV.beq]at h;rw[ih1 h.1.1,h.1.2,ih2 h.2]
 |pj x i ih=>intro y h;cases y<;>simp[SV.beq]at h;rw[ih h.1,h.2]
 |op2 o k x y ih1 ih2=>intro y h;cases y<;>simp[SV.beq]at h;rw[h.1.1.1,h.1.1.2,ih1 h.1.2,ih2 h.2]
 |op1 o k x ih=>intro y h;cases y<;>simp[SV.beq]at h;rw[h.1.1,h.1.2,ih h.2]
 |nt x ih=>intro y h;cases y<;>simp[SV.beq]at h;rw[ih h]
 |cv k x ih=>intro y h;cases y<;>simp[SV.beq]at h;rw[h.1,ih h.2]
 |ite c x y ih1 ih2 ih3=>intro y h;cases y<;>simp[SV.beq]at h;rw[ih1 h.1.1,ih2 h.1.2,ih3 h.2]
 |eqb n x y ih1 ih2=>intro y h;cases y<;>simp[SV.beq]at h;rw[h.1.1,ih1 h.1.2,ih2 h.2]
def SL.beq_sound {x y:SL} (h:x.beq y=true):x=y\/x= .u:=by
 cases x<;>cases y<;>simp[SL.beq]at h
 ·exact .inl (by rw[SV.beq_sound h])
 ·exact .inl (by rw[h.1.1.1,h.1.1.2,h.1.2,SV.beq_sound h.2])
 all_goals exact .inr rfl
def Rq.beq_sound {x y:Rq} (h:x.beq y=true):x=y:=by
 cases x<;>cases y<;>simp[Rq.beq]at h<;>first
  |rw[SV.beq_sound h]
  |rw[h.1,SV.beq_sound h.2]
section
variable {P:Program} {ρ:List Value} {kn:List Rq}
def Ef (hk:∀r∈kn,r.holds P ρ) {r:Rq} (h:has kn r=true):r.holds P ρ:=by
 unfold has at h;rw[List.any_eq_true]at h;obtain⟨r',hm,hb⟩:=h;rw[<-Rq.beq_sound hb];exact hk r' hm
def DT {o:BinOp} (h:Ph o=false) (k:IntKind) (a b:Int):∃n,w9 o k a b= .int k n:=by
 cases o<;>simp[Ph]at h<;>exact⟨_,rfl⟩
def WO {o:BinOp} (h:Ph o=true) (k:IntKind) (a b:Int):∃n,w9 o k a b= .bool n:=by
 cases o<;>simp[Ph]at h<;>exact⟨_,rfl⟩
def DU (o:UnOp) (k:IntKind) (a:Int):∃n,unV o k a= .int k n:=by
 cases o<;>exact⟨_,rfl⟩
def WP {k:IntKind} {x:SV} (h:ng k x=true):∃n,D P ρ x= .int k n:=by
 unfold ng at h;split at h
 ·simp at h;subst h;exact⟨_,rfl⟩
 ·simp at h;obtain⟨h1,rfl⟩:=h;exact DT h1 _ _ _
 ·simp at h;subst h;exact DU _ _ _
 ·simp at h;subst h;exact⟨_,rfl⟩
 ·cases h
def DV {x:SV} (h:aj x=true):∃k n,D P ρ x= .int k n:=by
 unfold aj at h;split at h
 ·exact⟨_,_,rfl⟩
 ·simp at h;obtain⟨n,hn⟩:=DT h _ _ _;exact⟨_,n,hn⟩
 ·obtain⟨n,hn⟩:=DU _ _ _;exact⟨_,n,hn⟩
 ·exact⟨_,_,rfl⟩
 ·cases h
def DW {x:SV} (h:ak x=true):∃b,D P ρ x= .bool b:=by
 unfold ak at h;split at h
 ·exact⟨_,rfl⟩
 ·exact WO h _ _ _
 ·exact⟨_,rfl⟩
 ·exact⟨_,rfl⟩
 ·cases h
def pg {x:SV} (h:Pi x=true):(D P ρ x).cells= #[D P ρ x]/\n8 (D P ρ x)=true:=by
 unfold Pi at h;simp only[cV]at h;rcases h with(h|h)|h
 ·obtain⟨k,n,hn⟩:=DV (P:=P) (ρ:=ρ) h;rw[hn];exact⟨rfl,rfl⟩
 ·obtain⟨b,hb⟩:=DW (P:=P) (ρ:=ρ) h;rw[hb];exact⟨rfl,rfl⟩
 ·split at h
  ·exact⟨rfl,rfl⟩
  ·cases h
def DX {v:Value} (h:al v=true):v= .agg v.cells:=by
 cases v<;>simp[al]at h;rfl
def DY {x:SV} (h:ao P x=true):D P ρ x= .agg (D P ρ x).cells:=by
 unfold ao at h;split at h
 ·rfl
 ·rfl
 ·rfl
 ·rfl
 ·exact DX h
 ·exact DX h
 ·cases h
def DZ {n:Nat} {v:Value} (h:ar n v=true):v.cells.size=n/\i8 v.cells:=by
 unfold ar at h;rw[aT,beq_iff_eq,dC]at h;exact⟨h.1,h.2⟩
def bu (x:SV):D P ρ (Pm P x)= .agg (D P ρ x).cells:=by
 unfold Pm;split
 ·rename_i h;exact DY h
 ·rfl
def Wx:∀(ys:List Value) (cs:Array Value) (q:Nat),(spl cs q ys).size=cs.size:=by
 intro ys;induction ys with
 |nil=>intro cs q;rfl
 |cons y ys ih=>intro cs q;simp only[spl,ih];simp
def bz:∀(ys:List Value) (cs:Array Value) (q j:Nat),(spl cs q ys)[j]? =if j<cs.size then(if q<=j/\j<q+ys.length then ys[j-q]? else cs[j]?)else none:=by
 intro ys;induction ys with
 | nil => intro cs q j; simp only [spl, bR, cP]; split
          · rw[if_neg aA]
          · rw[hG aA]
 |cons y ys ih=>
  intro cs q j;simp only[spl,ih,Array.size_setIfInBounds,aO];split
  ·rename_i hj;by_cases h1:q+1<=j/\j<q+1+ys.length
   ·rw[if_pos h1,if_pos aA,show j-q=(j-(q+1))+1 from aA];simp
   ·rw[if_neg h1];by_cases h2:q=j
    ·subst h2;rw[if_pos aA];simp[hj]
    ·rw[if_neg aA,cX h2]
  ·rfl
def WQ {c:Value}:∀(ys:List Value) (cs:Array Value) (q:Nat),c∈(spl cs q ys).toList->c∈cs.toList\/c∈ys:=by
 intro ys;induction ys with
 |nil=>intro cs q h;exact .inl h
 |cons y ys ih=>
  intro cs q h;rcases ih _ _ h with h|h
  ·have:=gV.1 h;rcases Array.mem_or_eq_of_mem_setIfInBounds this with h|h
   ·exact .inl (gV.2 h)
   ·exact .inr (by simp[h])
  ·exact .inr (by simp[h])
def EA {cs:Array Value} {q:Nat} {ys:List Value} (h1:i8 cs) (h2:∀c∈ys,n8 c=true):i8 (spl cs q ys):=fun c hc=>(WQ _ _ _ hc).elim (h1 c) (h2 c)
def WR {cs:Array Value} {a b:Nat} (h:i8 cs):i8 (cs.extract a b):=fun c hc=>h c (by
 have:=gV.1 hc;rw[gV];obtain⟨i,hi,rfl⟩:=Array.mem_iff_getElem.1 this;simp)
def Wy {a b:Array Value} (h1:i8 a) (h2:i8 b):i8 (a++b):=fun c hc=>by
 simp at hc;rcases hc with h|h
 ·exact h1 c (by simpa using h)
 ·exact h2 c (by simpa using h)
def WS (hk:∀r∈kn,r.holds P ρ):∀{l:List Rq} {x:SV} {n:Nat},(∀r∈l,r∈kn)->Pj l x=some n->(D P ρ x).cells.size=n/\i8 (D P ρ x).cells:=by
 intro l;induction l with
 |nil=>intro x n _ h;simp[Pj]at h
 |cons r l ih=>
  intro x n hl h;cases r with
  |cells m y=>
   simp only[Pj]at h;split at h
   ·rename_i hb;simp at h;subst h;have:=hk (.cells m y) (hl (.cells m y) aD);rw[<-SV.beq_sound hb];exact this
   ·exact ih (fun r hr=>hl r (by simp[hr])) h
  |_=>exact ih (fun r hr=>hl r (by simp[hr])) (by simpa[Pj]using h)
def Ir (hk:∀r∈kn,r.holds P ρ):∀{x:SV} {n:Nat},z6 P kn x n=true->(D P ρ x).cells.size=n/\i8 (D P ρ x).cells:=by
 intro x;have dflt:∀(x:SV) (n:Nat),((n==1&&Pi x)||has kn (.cells n x))=true->(D P ρ x).cells.size=n/\i8 (D P ρ x).cells:=fun x n h=>by
  simp only[cV,aT,beq_iff_eq]at h;rcases h with⟨rfl,h⟩|h
  ·obtain⟨h1,h2⟩:=pg (P:=P) (ρ:=ρ) h;rw[h1];exact⟨rfl,fun c hc=>by simp at hc;rw[hc];exact h2⟩
  ·exact Ef hk h
 induction x with
 |z t=>intro n h;simp only[z6]at h;exact DZ h
 |k c=>intro n h;simp only[z6]at h;exact DZ h
 |ag x ih=>intro n h;simp only[z6]at h;exact ih h
 |cat x m y ih1 ih2=>
  intro n h;simp only[z6,cV,aT,decide_eq_true_eq]at h;rcases h with⟨⟨h1,h2⟩,h3⟩|h
  ·obtain⟨a1,b1⟩:=ih1 h1;obtain⟨a2,b2⟩:=ih2 h3;refine⟨?_,Wy b1 b2⟩;show((D P ρ x).cells++(D P ρ y).cells).size=n;simp;omega
  ·exact Ef hk h
 |put x o m y s i ih1 ih2 ih3=>
  intro n h;simp only[z6,cV,aT]at h;rcases h with⟨h1,h2⟩|h
  ·obtain⟨a1,b1⟩:=ih1 h1;obtain⟨a2,b2⟩:=ih2 h2;refine⟨?_,EA b1 b2⟩;show(spl _ _ _).size=n;rw[Wx];exact a1
  ·exact Ef hk h
 |sub x o m s i ih1 ih2=>
  intro n h;simp only[z6,cV,aT,beq_iff_eq]at h;rcases h with⟨⟨rfl,rfl⟩,h⟩|h
  ·split at h
   ·rename_i N hN;simp at h;obtain⟨a1,b1⟩:=WS hk (fun r hr=>hr) hN;refine⟨?_,WR b1⟩;show((D P ρ x).cells.extract _ _).size=m;simp;omega
   ·cases h
  ·exact Ef hk h
 |v i=>intro n h;exact dflt _ _ (by simpa only[z6]using h)
 |cell x o s i _ _=>intro n h;exact dflt _ _ (by simpa only[z6]using h)
 |pj x i _=>intro n h;exact dflt _ _ (by simpa only[z6]using h)
 |op2 o k x y _ _=>intro n h;exact dflt _ _ (by simpa only[z6]using h)
 |op1 o k x _=>intro n h;exact dflt _ _ (by simpa only[z6]using h)
 |nt x _=>intro n h;exact dflt _ _ (by simpa only[z6]using h)
 |cv k x _=>intro n h;exact dflt _ _ (by simpa only[z6]using h)
 |ite c x y _ _ _=>intro n h;exact dflt _ _ (by simpa only[z6]using h)
 |eqb b x y _ _=>intro n h;exact dflt _ _ (by simpa only[z6]using h)
def EB (hk:∀r∈kn,r.holds P ρ) {r:Rq} (h:ev P kn r=true):r.holds P ρ:=by
 unfold ev at h;split at h
 ·simp only[cV]at h;exact h.elim WP (Ef hk)
 ·simp only[cV]at h;exact h.elim DV (Ef hk)
 ·simp only[cV]at h;rcases h with h|h|h|h
  ·exact DW h
  ·exact Ef hk h
  ·exact⟨true,Ef hk h⟩
  ·exact⟨false,Ef hk h⟩
 ·exact Ir hk h
 ·simp only[cV,aT]at h;refine h.elim (fun⟨h1,h2⟩=> ?_) (Ef hk);exact⟨_,DY h1,(Ir hk h2).1⟩
 ·exact Ef hk h
 ·simpa[Rq.holds,D,intOf]using h
 ·exact Ef hk h
 ·simpa[Rq.holds,D,intOf]using h
 ·exact Ef hk h
 ·simpa[Rq.holds,D,intOf]using h
 ·exact Ef hk h
 ·rw[beq_iff_eq]at h;rw[h];rfl
 ·exact Ef hk h
def WT (c x y:SV):D P ρ (nh c x y)=if Ee (D P ρ c)then D P ρ x else D P ρ y:=by
 unfold nh;split<;>simp[D,Ee]
def cd (o:Nat):o+0*x4 (D P ρ noI)=o:=aD
def pq (hk:∀r∈kn,r.holds P ρ) (n:Nat):∀(x:SV) (o:Nat),D P ρ (Mc P kn o n x)= .agg ((D P ρ x).cells.extract o (o+n)):=by
 have dflt:∀(x:SV) (o:Nat),D P ρ (if o=0/\z6 P kn x n=true then Pm P x else .sub x o n 0 noI)= .agg ((D P ρ x).cells.extract o (o+n)):=fun x o=>by
  split
  ·rename_i h;obtain⟨rfl,h⟩:=h;rw[bu,bP];have:=(Ir hk h).1;rw[<-this];simp
  ·simp[D]
 intro x;induction x with
 |cat x m y ih1 ih2=>
  intro o;simp only[Mc];split
  ·rename_i h;obtain⟨rfl,rfl,h⟩:=h;have hs:=(Ir hk h).1;rw[bu];show _=Value.agg (((D P ρ x).cells++(D P ρ y).cells).extract 0 (0+n));congr 1;rw[bP,iG,hs];simp[<-hs]
  ·split
   ·rename_i h;have hs:=(Ir hk h.2).1;rw[ih2];show _=Value.agg (((D P ρ x).cells++(D P ρ y).cells).extract o (o+n));congr 1;have e:(D P ρ x).cells.extract o (o+n)= #[]:=Array.extract_eq_empty_iff.2 aA;rw[iG,hs,e,Array.empty_append,show o-m+n=o+n-m from aA]
   ·split
    ·rename_i h;have hs:=(Ir hk h.2).1;simp only[D,cd];congr 1;rw[show Value.cells (Value.agg ((D P ρ x).cells++(D P ρ y).cells))=(D P ρ x).cells++(D P ρ y).cells from rfl];rw[iG,hs,show o+n-m=0 from aA];simp
    ·simp only[D,cd]
 |ag x ih=>intro o;simp only[Mc,ih];rfl
 |v i=>intro o;exact dflt _ o
 |k c=>intro o;exact dflt _ o
 |z t=>intro o;exact dflt _ o
 |cell x o' s i _ _=>intro o;exact dflt _ o
 |sub x o' n' s i _ _=>intro o;exact dflt _ o
 |put x o' n' y s i _ _ _=>intro o;exact dflt _ o
 |pj x i _=>intro o;exact dflt _ o
 |op2 o' k x y _ _=>intro o;exact dflt _ o
 |op1 o' k x _=>intro o;exact dflt _ o
 |nt x _=>intro o;exact dflt _ o
 |cv k x _=>intro o;exact dflt _ o
 |ite c x y _ _ _=>intro o;exact dflt _ o
 |eqb b x y _ _=>intro o;exact dflt _ o
def pu (hk:∀r∈kn,r.holds P ρ):∀(x:SV) (o:Nat),D P ρ (Md P kn o x)=(D P ρ x).cells.getD o undef:=by
 have dflt:∀(x:SV) (o:Nat),D P ρ (if o=0/\Pi x=true then x else .cell x o 0 noI)=(D P ρ x).cells.getD o undef:=fun x o=>by
  split
  ·rename_i h;obtain⟨rfl,h⟩:=h;have:=(pg (P:=P) (ρ:=ρ) h).1;rw[this];rfl
  ·simp[D]
 intro x;induction x with
 |cat x m y ih1 ih2=>
  intro o;have hc:(D P ρ (.cat x m y)).cells=(D P ρ x).cells++(D P ρ y).cells:=rfl;simp only[Md];split
  ·rename_i h;have hs:=(Ir hk h.2).1;rw[ih2,hc];simp only[bX];rw[fX aA,hs]
  ·split
   ·rename_i h;obtain⟨rfl,h⟩:=h;have:=(pg (P:=P) (ρ:=ρ) h).1;rw[hc,this];simp only[bX];rw[dQ aD];rfl
   ·split
    ·rename_i h;have hs:=(Ir hk h.2).1;rw[hc];simp only[D,cd,bX];rw[dQ aA]
    ·simp only[D,cd]
 |ag x ih=>intro o;simp only[Md,ih];rfl
 |v i=>intro o;exact dflt _ o
 |k c=>intro o;exact dflt _ o
 |z t=>intro o;exact dflt _ o
 |cell x o' s i _ _=>intro o;exact dflt _ o
 |sub x o' n' s i _ _=>intro o;exact dflt _ o
 |put x o' n' y s i _ _ _=>intro o;exact dflt _ o
 |pj x i _=>intro o;exact dflt _ o
 |op2 o' k x y _ _=>intro o;exact dflt _ o
 |op1 o' k x _=>intro o;exact dflt _ o
 |nt x _=>intro o;exact dflt _ o
 |cv k x _=>intro o;exact dflt _ o
 |ite c x y _ _ _=>intro o;exact dflt _ o
 |eqb b x y _ _=>intro o;exact dflt _ o
def Wz {xs:Array Value} {o:Nat} {ys:List Value} (h:o+ys.length<=xs.size):spl xs o ys=xs.extract 0 o++ys.toArray++xs.extract (o+ys.length) xs.size:=by
 apply lV;intro j;rw[bz];by_cases hj:j<xs.size
 ·rw[if_pos hj];by_cases h1:j<o
  ·rw[if_neg aA,dQ (by simp;omega),dQ (by simp;omega),jB,if_pos aA,bP]
  ·by_cases h2:j<o+ys.length
   ·rw[if_pos aA,dQ (by simp;omega),fX (by simp;omega)];simp only[lW,List.getElem?_toArray];congr 1;omega
   ·rw[if_neg aA,fX (by simp;omega),jB];simp only[cQ,lW,List.size_toArray];rw[if_pos aA];congr 1;omega
 ·rw[if_neg hj,hG (by simp;omega)]
def ci {xs:Array Value} {ys:List Value} (h:ys.length=xs.size):spl xs 0 ys=ys.toArray:=by
 rw[Wz aA,bP,h];simp
def WU {xs r:Array Value} {ys:List Value} (h:ys.length=xs.size):spl (xs++r) 0 ys=ys.toArray++r:=by
 rw[Wz (by simp;omega)];simp only[bP,cQ,iG,h];simp
def WV {xs r:Array Value} {o:Nat} {ys:List Value} (h:xs.size<=o):spl (xs++r) o ys=xs++spl r (o-xs.size) ys:=by
 apply lV;intro j;rw[bz];by_cases h1:j<xs.size
 ·rw[dQ h1,if_pos (by simp;omega),if_neg aA,dQ h1]
 ·have e1:(xs++spl r (o-xs.size) ys)[j]? =(spl r (o-xs.size) ys)[j-xs.size]?:=fX aA;rw[e1,bz];simp only[cQ];by_cases h2:j<xs.size+r.size
  ·have h4:j-xs.size<r.size:=aA;by_cases h3:o<=j/\j<o+ys.length
   ·have h5:o-xs.size<=j-xs.size/\j-xs.size<o-xs.size+ys.length:=aA;simp only[h2,h3,h4,h5,and_self,if_true];congr 1;omega
   ·have h5:¬(o-xs.size<=j-xs.size/\j-xs.size<o-xs.size+ys.length):=aA;simp only[h2,h3,h4,h5,if_true,if_false];exact fX aA
  ·have h4:¬(j-xs.size<r.size):=aA;simp only[h2,h4,if_false]
def EC (hk:∀r∈kn,r.holds P ρ) (sf:Bool) (n:Nat) (y:SV) (hy:(D P ρ y).cells.size=n):∀(x:SV) (N o:Nat),(D P ρ x).cells.size=N->o+n<=N->
  (D P ρ (Pn P kn sf N o n y x)).cells=spl (D P ρ x).cells o (D P ρ y).cells.toList:=by
 have hl:(D P ρ y).cells.toList.length=n:=by simpa using hy
 have dflt:∀(x:SV) (N o:Nat),(D P ρ x).cells.size=N->o+n<=N->
   (D P ρ (if o=0/\n=N then y else if sf=true then
    (if o=0 then .cat y n (.sub x n (N-n) 0 noI)else if o+n=N then .cat (.sub x 0 o 0 noI) o y else .cat (.sub x 0 o 0 noI) o (.cat y n (.sub x (o+n) (N-(o+n)) 0 noI)))
   else .put x o n y 0 noI)).cells=spl (D P ρ x).cells o (D P ρ y).cells.toList:=fun x N o hN ho=>by
  split
  ·rename_i h;obtain⟨rfl,rfl⟩:=h;rw[ci aA]
  ·split
   ·rw[Wz aA];split
    ·rename_i h0;subst h0;show(D P ρ y).cells++(D P ρ x).cells.extract (n+0*_) (n+0*_+(N-n))=_;simp only[bY,cP,bP,hl];rw[show n+(N-n)=(D P ρ x).cells.size from aA];simp
    ·split
     ·rename_i h1;show(D P ρ x).cells.extract (0+0*_) (0+0*_+o)++(D P ρ y).cells=_;simp only[bY,cP,bP,hl];rw[show o+n=(D P ρ x).cells.size from aA];simp
     ·show(D P ρ x).cells.extract (0+0*_) (0+0*_+o)++((D P ρ y).cells++(D P ρ x).cells.extract (o+n+0*_) (o+n+0*_+(N-(o+n))))=_;simp only[bY,cP,bP,hl];rw[show o+n+(N-(o+n))=(D P ρ x).cells.size from aA];simp
   ·show spl (D P ρ x).cells (o+0*_) _=_;simp
 intro x;induction x with
 |cat x m r ih1 ih2=>
  intro N o hN ho;have hc:(D P ρ (.cat x m r)).cells=(D P ρ x).cells++(D P ρ r).cells:=rfl;rw[hc]at hN⊢;simp only[cQ]at hN;simp only[Pn];split
  ·rename_i h;obtain⟨rfl,rfl,h⟩:=h;have hs:=(Ir hk h).1;rw[WU aA];show(D P ρ y).cells++(D P ρ r).cells=_;simp
  ·split
   ·rename_i h;have hs:=(Ir hk h.2).1;rw[WV aA,hs];show(D P ρ x).cells++(D P ρ (Pn P kn sf (N-m) (o-m) n y r)).cells=_;rw[ih2 (N-m) (o-m) aA aA]
   ·show spl (D P ρ (.cat x m r)).cells (o+0*_) _=_;simp[hc]
 |v i=>intro N o h1 h2;exact dflt _ N o h1 h2
 |k c=>intro N o h1 h2;exact dflt _ N o h1 h2
 |z t=>intro N o h1 h2;exact dflt _ N o h1 h2
 |ag x _=>intro N o h1 h2;exact dflt _ N o h1 h2
 |cell x o' s i _ _=>intro N o h1 h2;exact dflt _ N o h1 h2
 |sub x o' n' s i _ _=>intro N o h1 h2;exact dflt _ N o h1 h2
 |put x o' n' y s i _ _ _=>intro N o h1 h2;exact dflt _ N o h1 h2
 |pj x i _=>intro N o h1 h2;exact dflt _ N o h1 h2
 |op2 o' k x y _ _=>intro N o h1 h2;exact dflt _ N o h1 h2
 |op1 o' k x _=>intro N o h1 h2;exact dflt _ N o h1 h2
 |nt x _=>intro N o h1 h2;exact dflt _ N o h1 h2
 |cv k x _=>intro N o h1 h2;exact dflt _ N o h1 h2
 |ite c x y _ _ _=>intro N o h1 h2;exact dflt _ N o h1 h2
 |eqb b x y _ _=>intro N o h1 h2;exact dflt _ N o h1 h2
def WW:∀{a b:List Value},Ry a b=true->a=b:=by
 intro a;induction a with
 |nil=>intro b h;cases b<;>simp[Ry]at h;rfl
 |cons x a ih=>
  intro b h;cases b with
  |nil=>simp[Ry]at h
  |cons y b=>simp[Ry]at h;rw[DR h.1,ih h.2]
def WX:∀(l:List (Nat×SV)),(D P ρ (Po l)).cells.toList=l.flatMap fun p=>(D P ρ p.2).cells.toList:=by
 intro l;induction l with
 |nil=>rfl
 |cons p r ih=>
  obtain⟨n,x⟩:=p;cases r with
  |nil=>simp[Po]
  |cons q r=>
   have:Po ((n,x)::q::r)= .cat x n (Po (q::r)):=rfl;rw[this];show((D P ρ x).cells++(D P ρ (Po (q::r))).cells).toList=_;rw[eE,ih];simp
def ED (T:TypeId):(D P ρ (exZ P T)).cells=(j3 P T).cells:=by
 unfold exZ;split
 ·rename_i fs _;split
  ·rename_i h;have h2:=WW h.2;have h3:=WX (P:=P) (ρ:=ρ) (fs.toList.map fun f=>((j3 P f.type).cells.size,SV.z f.type));apply cF.1;rw[h3,h2];simp[List.flatMap_map,D]
  ·rfl
 ·rfl
def px:∀{kb:List (SV×Bool)},(∀p∈kb,D P ρ p.1= .bool p.2)->∀c,D P ρ (Me kb c)=D P ρ c:=by
 intro kb;induction kb with
 |nil=>intro _ c;rfl
 |cons p r ih=>
  intro h c;obtain⟨x,b⟩:=p;simp only[Me];split
  ·rename_i hb;have:=h (x,b) aD;rw[<-SV.beq_sound hb,this];rfl
  ·exact ih (fun p hp=>h p (by simp[hp])) c
end
open Go.RowKit
section
variable {P:Program}
def qc (v:Value):v.oneCell'=n8 v:=by cases v<;>rfl
def Ez {t:TypeId} (h:r9 P t=true):(∃i,P.info? t=some i)/\∃d,P.underlying t=some d:=by
 unfold r9 at h;rw[aT,eG,eG]at h;exact h
def qd {t:TypeId} {d:TypeDesc} (h:P.underlying t=some d) (w:World):(isAgg t).run P w= .ok (p8 P t) w:=by
 unfold isAgg p8;simp only[eM,run_underlying h,eL,h];cases d<;>rfl
def Gl {t:TypeId} {i:TypeInfo} (h:P.info? t=some i) (w:World):(sizeOf t).run P w= .ok (P.cellsOf t) w:=run_sizeOf w h
def EE {w:World} {b:Nat} {cs:Array Value} {T:TypeId} {fz:Nat×Nat} (h:w.heap[b]? =some (.cells cs T fz)) (q:Nat):w.cell? ⟨b,q,none⟩=cs[q]?:=by
 simp[World.cell?,h]
def Sr (b q i:Nat):(⟨b,q,none⟩:Addr).add i=⟨b,q+i,none⟩:=by
 unfold Addr.add;split
 ·simp_all
 ·rfl
def Xa {w:World} {b q:Nat} {cs:Array Value} {T t:TypeId} {fz:Nat×Nat} (hT:r9 P t=true) (h:w.heap[b]? =some (.cells cs T fz)) (hq:q+P.cellsOf t<=cs.size) (h0:p8 P t=false->q<cs.size):
  (Instr.loadAt t (.pointer (some ⟨b,q,none⟩))).run P w= .ok (if p8 P t then .agg (cs.extract q (q+P.cellsOf t))else cs.getD q undef) w:=by
 obtain⟨⟨i,hi⟩,⟨d,hd⟩⟩:=Ez hT;unfold Instr.loadAt Instr.sureAddr loadVar;simp only[eM,eO,eL,qd hd];cases sD:p8 P t with
 |true=>
  simp only[if_true,eM,Gl hi,eL];have hl:(cs.extract q (q+P.cellsOf t)).toList.length=P.cellsOf t:=by simp;omega
  have:=run_loadCells_list (P:=P) w ⟨b,q,none⟩ (cs.extract q (q+P.cellsOf t)).toList (fun j v hj=>by
   rw[Sr,EE h];simp only[Array.getElem?_toList,jB]at hj;split at hj
   ·exact hj
   ·cases hj)
  rw[hl]at this;rw[this];simp only[eL,eO,Array.toArray_toList]
 |false=>
  simp only[aZ,if_false,run_load,EE h];have oV:=h0 sD;rw[cI oV];simp[oV]
def qe {w:World} {b q:Nat} {cs:Array Value} {T t:TypeId} {v:Value} (hT:r9 P t=true) (h:w.heap[b]? =some (.cells cs T (0,0))) (hq:q+P.cellsOf t<=cs.size) (hv:v.cells.size=P.cellsOf t) (h1:i8 v.cells):
  (Instr.storeAt t (.pointer (some ⟨b,q,none⟩)) v).run P w= .ok () (w.setRow b (spl cs q v.cells.toList)):=by
 obtain⟨⟨i,hi⟩,⟨d,hd⟩⟩:=Ez hT;unfold Instr.storeAt Instr.sureAddr storeVar;simp only[eM,eO,eL,Gl hi,hv,ne_eq,not_true_eq_false,if_false];have hl:v.cells.toList.length=P.cellsOf t:=by simpa using hv
 rw[run_storeCells_at P b q T v.cells.toList 0 cs w h aA (fun x hx=>by rw[qc];exact h1 x hx)];congr 2;apply cF.1;rw[Wz aA,cP];simp only[eE,Array.toList_extract,List.extract];simp;rw[aI aD]
def EF {S f:Nat} {fs:Array Field} {fd:Field} (hS:P.underlying S=some (.struct fs)) (hf:fs[f]? =some fd) (hT:r9 P fd.type=true) (hn:P.cellsOf fd.type≠0) (b q:Nat) (w:World):
  (Instr.fieldAt S (.pointer (some ⟨b,q,none⟩)) f).run P w= .ok (.pointer (some ⟨b,q+fd.offset,none⟩)) w:=by
 obtain⟨⟨i,hi⟩,_⟩:=Ez hT;unfold Instr.fieldAt;simp only[eM,run_underlying hS,eL,hf];simp only[Instr.sureAddr,eM,eO,eL,fieldPlace,Gl hi,hn,if_false,Sr]
def qf {T len e:Nat} (hT:P.underlying T=some (.array len e)) (he:r9 P e=true) (b q:Nat) (k:IntKind) (m:Int) (h0:0<=m) (h1:m<len) (w:World):
  (Instr.indexAt T (.pointer (some ⟨b,q,none⟩)) (.int k m)).run P w= .ok (.pointer (some ⟨b,q+m.toNat*P.cellsOf e,none⟩)) w:=by
 obtain⟨⟨i,hi⟩,_⟩:=Ez he;unfold Instr.indexAt;simp only[asIntOf,eM,eO,eL,run_underlying hT,Instr.sureAddr];simp[h0,h1,Gl hi,Sr]
def Qa {t:TypeId} {cs:Array Value} {q:Nat} (hT:r9 P t=true) (hq:q+P.cellsOf t<=cs.size) (h0:0<P.cellsOf t) (w:World):
  (part t cs q).run P w= .ok (if p8 P t then .agg (cs.extract q (q+P.cellsOf t))else cs.getD q undef) w:=by
 obtain⟨⟨i,hi⟩,⟨d,hd⟩⟩:=Ez hT;unfold part;simp only[eM,eL,qd hd];cases sD:p8 P t with
 |true=>simp[Gl hi]
 |false=>
  have oV:q<cs.size:=aA;simp[oV]
def WY {S f:Nat} {fs:Array Field} {fd:Field} {cs:Array Value} (hS:P.underlying S=some (.struct fs)) (hf:fs[f]? =some fd) (hT:r9 P fd.type=true) (hq:fd.offset+P.cellsOf fd.type<=cs.size) (h0:0<P.cellsOf fd.type) (w:World):
  (Instr.field S (.agg cs) f).run P w= .ok (if p8 P fd.type then .agg (cs.extract fd.offset (fd.offset+P.cellsOf fd.type))else cs.getD fd.offset undef) w:=by
 unfold Instr.field;simp only[eM,run_underlying hS,eL,hf,asAgg,eO];exact Qa hT hq h0 w
def EG {T len e:Nat} {cs:Array Value} (hT:P.underlying T=some (.array len e)) (he:r9 P e=true) (k:IntKind) (m:Int) (h0:0<=m) (h1:m<len) (hq:len*P.cellsOf e<=cs.size) (hn:0<P.cellsOf e) (w:World):
  (Instr.index T (.agg cs) (.int k m)).run P w= .ok (if p8 P e then .agg (cs.extract (m.toNat*P.cellsOf e) (m.toNat*P.cellsOf e+P.cellsOf e))else cs.getD (m.toNat*P.cellsOf e) undef) w:=by
 obtain⟨⟨i,hi⟩,_⟩:=Ez he;unfold Instr.index;simp only[asIntOf,eM,eO,eL,run_underlying hT];rw[if_pos ⟨h0,h1⟩];simp only[eM,Gl hi,eL];refine Qa he ?_ hn w;have h2:m.toNat+1<=len:=aA;have h3:(m.toNat+1)*P.cellsOf e<=len*P.cellsOf e:=bQ _ h2;rw[cM,cL]at h3;omega
def WZ {op:BinOp} {k:IntKind} {a b:Int} {T:TypeId} {x y:Operand} (hs:op≠ .shl/\op≠ .shr) (hz:(op= .quo\/op= .rem)->b≠0) (w:World):
  (do eqGuard op T x y (.int k a) (.int k b);binOp op T (.int k a) (.int k b):Sem Value).run P w= .ok (w9 op k a b) w:=by
 have hg:(eqGuard op T x y (.int k a) (.int k b)).run P w= .ok () w:=by
  unfold eqGuard;cases op<;>rfl
 simp only[eM,hg,eL];cases op<;>simp_all[binOp,Op.intArith,Op.intDiv,Op.intBits,Op.intCmp,w9]
def XA {op:BinOp} {k l:IntKind} {a b:Int} {T:TypeId} {x y:Operand} (hs:op= .shl\/op= .shr) (hz:0<=b) (w:World):
  (do eqGuard op T x y (.int k a) (.int l b);binOp op T (.int k a) (.int l b):Sem Value).run P w= .ok (w9 op k a b) w:=by
 have hg:(eqGuard op T x y (.int k a) (.int l b)).run P w= .ok () w:=by
  unfold eqGuard;rcases hs with rfl|rfl<;>rfl
 simp only[eM,hg,eL];have:¬b<0:=aA;rcases hs with rfl|rfl<;>simp[binOp,Op.shift,w9,this]
def XC {op:BinOp} {a b:Bool} {T:TypeId} {x y:Operand} (hT:P.underlying T=some .bool) (ho:op= .eql\/op= .neq) (w:World):
  (do eqGuard op T x y (.bool a) (.bool b);binOp op T (.bool a) (.bool b):Sem Value).run P w= .ok (.bool ((op== .neq) !=(a==b))) w:=by
 have hg:(eqGuard op T x y (.bool a) (.bool b)).run P w= .ok () w:=by
  unfold eqGuard;rcases ho with rfl|rfl<;>rfl
 simp only[eM,hg,eL];rcases ho with rfl|rfl<;>simp only[binOp,eM,run_equal_bool _ T a b hT,eL,eO]<;>cases a<;>cases b<;>rfl
def XD (off:Nat):∀(ys:List Value) (k:Nat) (cs:Array Value),(ys.zipIdx k).foldl (fun cs (p:Value×Nat)=>cs.setIfInBounds (off+p.2) p.1) cs=spl cs (off+k) ys:=by
 intro ys;induction ys with
 |nil=>intro k cs;rfl
 |cons y ys ih=>intro k cs;simp only[List.zipIdx_cons,gC,spl];rw[ih];rfl
def cj (place:Nat->Option (Nat×Nat)):∀(ps:List (Nat×Value)) (cells:Array Value),(∀p∈ps,∃q n,place p.1=some (q,n)/\p.2.cells.size=n/\q+n<=cells.size)->
  Instr.fill place cells ps=some (ps.foldl (fun acc p=>spl acc ((place p.1).getD (0,0)).1 p.2.cells.toList) cells):=by
 intro ps;induction ps with
 |nil=>intro cells _;rfl
 |cons p ps ih=>
  intro cells h;obtain⟨i,v⟩:=p;obtain⟨q,n,hp,hn,hq⟩:=h (i,v) aD;simp only[Instr.fill,hp];simp only at hn;rw[if_neg (by simp[hn];omega)];have e:v.cells.zipIdx.foldl (fun cs (p:Value×Nat)=>cs.setIfInBounds (q+p.2) p.1) cells=spl cells q v.cells.toList:=by
   rw[<-Array.foldl_toList,Array.toList_zipIdx];exact XD q _ 0 _
  simp only[gC,hp,jX];rw[<-e];refine ih _ fun p hp=> ?_;rw[e,Wx];exact h p (by simp[hp])
def XF {T:TypeId} {pl:Nat->Option (Nat×Nat)} {it:TypeInfo} {z:Value} (tQ:ni P T=some pl) (hpt:nj P T=true) (yT:P.info? T=some it) (hz:it.zero=some z) (parts:Array (Nat×Value))
  (h:∀p∈parts.toList,∃q n,pl p.1=some (q,n)/\p.2.cells.size=n/\q+n<=z.cells.size) (w:World):
  (Instr.build T parts).run P w= .ok (.agg (parts.toList.foldl (fun acc p=>spl acc ((pl p.1).getD (0,0)).1 p.2.cells.toList) z.cells)) w:=by
 refine run_build w T parts _ ?_;unfold Program.built;unfold ni at tQ;unfold nj at hpt;cases hu:P.underlying T with
 |none=>simp[hu]at tQ
 |some d=>
  cases d<;>simp only[hu]at tQ hpt<;>try (cases tQ;done)
  case array n e=>
   obtain⟨⟨i,hi⟩,_⟩:=Ez hpt;have hs:P.cellsOf e=i.size:=by simp[Program.cellsOf,hi]
   simp only[dF]at tQ;subst tQ;simp only[yT,hz,hi];rw[<-hs];exact cj _ _ _ h
  case struct fs=>
   simp only[dF]at tQ;subst tQ;have hm:fs.toList.mapM (fun f=>(P.info? f.type).map fun i=>(f.offset,i.size))=some (fs.toList.map fun f=>(f.offset,P.cellsOf f.type)):=by
    have qM:∀f∈fs.toList,(P.info? f.type).map (fun i=>(f.offset,i.size))=some (f.offset,P.cellsOf f.type):=fun f hf=>by
     rw[Array.all_eq_true_iff_forall_mem]at hpt;obtain⟨⟨i,hi⟩,_⟩:=Ez (hpt f (by simpa using hf));simp[hi,Program.cellsOf]
    have go:∀l:List Field,(∀f∈l,(P.info? f.type).map (fun i=>(f.offset,i.size))=some (f.offset,P.cellsOf f.type))->l.mapM (fun f=>(P.info? f.type).map fun i=>(f.offset,i.size))=some (l.map fun f=>(f.offset,P.cellsOf f.type)):=by
     intro l;induction l with
     |nil=>intro _;rfl
     |cons f l ih=>
      intro hl;rw[List.mapM_cons,hl f aD,ih (fun g hg=>hl g (by simp[hg]))];rfl
    exact go _ qM
   simp only[yT,hz,hm];have hp:(fun i:Nat=>(fs.toList.map fun f=>(f.offset,P.cellsOf f.type)).toArray[i]?)=fun i:Nat=>(fs[i]?).map fun f:Field=>(f.offset,P.cellsOf f.type):=by
    funext i;simp
   rw[hp];exact cj _ _ _ h
end
def Ju (t:Nat):List Operand->List Value->Value
 | .tmp u::os,v::vs=>if u=t then v else Ju t os vs
 |_::os,_::vs=>Ju t os vs
 |_,_=>undef
def e8 (os:List Operand) (vs:List Value):Operand->Value
 | .tmp t=>Ju t os vs
 | .const v=>v
 | .global g=> .pointer (some ⟨g,0,none⟩)
 | .func f=> .func (.func f) #[] #[]
def XG (a:Act):∀(os:List Operand) (x:Operand),x∈os->e8 os (os.map a.eval) x=a.eval x:=by
 intro os;induction os with
 |nil=>intro x hx;cases hx
 |cons y os ih=>
  intro x hx;cases x with
  |tmp t=>
   simp only[e8,aU];cases y with
   |tmp u=>
    simp only[Ju];split
    ·rename_i h;rw[h]
    ·rename_i h;have:Operand.tmp t∈os:=by
      rcases aX.1 hx with e|e
      ·exact absurd (by injection e with e;exact e.symm) h
      ·exact e
     exact ih _ this
   |const v=>
    simp only[Ju];have:Operand.tmp t∈os:=by
     rcases aX.1 hx with e|e
     ·cases e
     ·exact e
    exact ih _ this
   |global g=>
    simp only[Ju];have:Operand.tmp t∈os:=by
     rcases aX.1 hx with e|e
     ·cases e
     ·exact e
    exact ih _ this
   |func f=>
    simp only[Ju];have:Operand.tmp t∈os:=by
     rcases aX.1 hx with e|e
     ·cases e
     ·exact e
    exact ih _ this
  |const v=>rfl
  |global g=>rfl
  |func f=>rfl
def ML (P:Program) (ρ:List Value) (β:Nat->Nat):SL->Value->Prop
 | .x s,v=>v=D P ρ s
 | .p b o s i,v=>v= .pointer (some ⟨β b,o+s*x4 (D P ρ i),none⟩)
 | .u,_=>True
abbrev PH:=Nat->Option Obj
def PH.In (H:PH) (w:World):Prop:=∀b o,H b=some o->w.heap[b]? =some o
def Pl (H H':PH):Prop:=∀b o,H b=some o->H' b=some o
structure Step (H:PH) (w:World) (H':PH) (w':World):Prop where
 os:w'.os=w.os
 tape:w'.tape=w.tape
 output:w'.output=w.output
 size:w.heap.size<=w'.heap.size
 block:∀k,k<w.heap.size->H k=none->w'.heap[k]? =w.heap[k]?
 holds:PH.In H' w'
 dom:∀b,H' b≠none->H b≠none\/w.heap.size<=b
 dr:w.drawn<=w'.drawn
def Step.refl {H:PH} {w:World} (h:H.In w):Step H w H w:=⟨rfl,rfl,rfl,aS _,fun _ _ _=>rfl,h,fun _ h=> .inl h,aS _⟩
def PH.In.ext {H:PH} {w w':World} (h:H.In w) (hx:Ext w w'):H.In w':=fun b o hb=>hx.block (h b o hb)
def Pl.refl (H:PH):Pl H H:=fun _ _ h=>h
def Pl.trans {A B C:PH} (h:Pl A B) (k:Pl B C):Pl A C:=fun b o hb=>k b o (h b o hb)
def Pl.In {H H':PH} (h:Pl H H') {w:World} (k:H'.In w):H.In w:=fun b o hb=>k b o (h b o hb)
def Step.trans {H H' H'':PH} {a b c:World} (h:Step H a H' b) (k:Step H' b H'' c):Step H a H'' c:=by
 refine⟨k.os.trans h.os,k.tape.trans h.tape,k.output.trans h.output,bM h.size k.size,fun i hi hn=> ?_,k.holds,fun i hi=> ?_,bM h.dr k.dr⟩
 ·have qR:H' i=none:=by
   cases e:H' i with
   |none=>rfl
   | some o => rcases h.dom i (by simp [e]) with h1 | h1
               · exact absurd hn h1
               · omega
  rw[k.block i (aM hi h.size) qR,h.block i hi hn]
 ·rcases k.dom i hi with h1|h1
  ·exact h.dom i h1
  ·exact .inr (bM h.size h1)
def Step.ext {H H':PH} {a b c:World} (h:Step H a H' b) (k:Ext b c):Step H a H' c:=
 ⟨k.os.trans h.os,k.tape.trans h.tape,k.output.trans h.output,bM h.size k.size,fun i hi hn=>(k.block' (aM hi h.size)).trans (h.block i hi hn),h.holds.ext k,h.dom,bM h.dr k.dr⟩
def Step.toExt {H H':PH} {a b:World} (h:Step H a H' b) (ha:H.In a) (hl:Pl H H'):Ext a b:=by
 refine⟨h.os,h.tape,h.output,h.size,fun k hk=> ?_,h.dr⟩;cases e:H k with
 |none=>exact h.block k hk e
 |some o=>rw[h.holds k o (hl k o e),ha k o e]
structure Bs where
 w:World
 H0:PH
 ro:Option Nat
 n0:Nat
 b0:Nat->Nat
 K0:PH
structure Cx extends Bs where
 H:PH
 K:PH
def Jv (D:Nat):Deferred:={target:= .collected D,args:= #[]}
structure Mt (P:Program) (w0:Cx) (ρ:List Value) (β:Nat->Nat) (st:St) (a:Act) (W:World):Prop where
 sz:a.tmps.size=st.sl.length
 sl:∀(t:Nat) (s:SL),st.sl[t]? =some s->∃v,a.tmps[t]? =some v/\ML P ρ β s v
 pb:∀(t b o s:Nat) (i:SV),st.sl[t]? =some (.p b o s i)->b<st.bl.length
 df:∃Ds:List Nat,a.defers=Ds.map Jv/\Ds.Nodup/\∀D∈Ds,w0.w.heap.size<=D/\w0.K D=some (.deferred (some []))
 n:ρ.length=st.n
 bl:∀(b:Nat) (B:Blk),st.bl[b]? =some B->W.heap[β b]? =some (.cells (D P ρ B.c).cells B.T (0,0))/\(D P ρ B.c).cells.size=B.n/\i8 (D P ρ B.c).cells
 inj:∀b b',b<st.bl.length->b'<st.bl.length->β b=β b'->b=b'
 own:∀b,b<st.bl.length->w0.w.heap.size<=β b\/w0.H0 (β b)≠none
 sep:∀b,b<st.bl.length->w0.H (β b)=none
 fr:Step w0.H0 w0.w w0.H W
 kp:w0.K.In W
 rd:st.rd=false->w0.ro=none
 ag:∀b,b<w0.n0->β b=w0.b0 b
 ln:w0.n0<=st.bl.length
 kle:Pl w0.K0 w0.K
 kpH:∀k,w0.K k≠none->w0.H k=none
 kpB:∀b,b<st.bl.length->w0.K (β b)=none
 kn:∀r∈st.kn,r.holds P ρ
 kb:∀p∈st.kb,D P ρ p.1= .bool p.2
section
variable {P:Program} {w0:Cx} {ρ:List Value} {β:Nat->Nat} {st:St} {a:Act} {W:World}
def Mt.ext (m:Mt P w0 ρ β st a W) {w:World} (h:Ext W w):Mt P w0 ρ β st a w:=
 {m with
  bl:=fun b B hb=>let⟨h1,h2⟩:=m.bl b B hb;⟨h.block h1,h2⟩
  fr:=m.fr.ext h
  kp:=m.kp.ext h}
def Mt.get (m:Mt P w0 ρ β st a W) {x:Operand} {s:SL} (h:st.get x=some s):ML P ρ β s (a.eval x):=by
 cases x with
 |tmp t=>
  obtain⟨v,hv,hm⟩:=m.sl t s h;simp only[Act.eval,bX,hv,jX];exact hm
 |const c=>simp only[St.get,dF]at h;subst h;rfl
 |func f=>simp only[St.get,dF]at h;subst h;rfl
 |global g=>simp only[St.get,dF]at h;subst h;rfl
def Mt.val (m:Mt P w0 ρ β st a W) {x:Operand} {s:SV} (h:st.val x=some s):a.eval x=D P ρ s:=by
 unfold St.val at h;split at h
 ·rename_i s' hs;simp only[dF]at h;subst h;exact m.get hs
 ·cases h
def Mt.vals (m:Mt P w0 ρ β st a W):∀{l:List Operand} {svs:List SV},Jq st l=some svs->svs.map (D P ρ)=l.map a.eval:=by
 intro l;induction l with
 |nil=>intro svs h;simp only[Jq,dF]at h;subst h;rfl
 |cons x r ih=>
  intro svs h;simp only[Jq]at h;split at h
  ·rename_i s l' hs hl;simp only[dF]at h;subst h;simp only[aU,ih hl,m.val hs]
  ·cases h
def Mt.ptr (m:Mt P w0 ρ β st a W) {x:Operand} {b o s:Nat} {i:SV} (h:st.get x=some (.p b o s i)):a.eval x= .pointer (some ⟨β b,o+s*x4 (D P ρ i),none⟩):=m.get h
def Mt.ptrB (m:Mt P w0 ρ β st a W) {x:Operand} {b o s:Nat} {i:SV} (h:st.get x=some (.p b o s i)):b<st.bl.length:=by
 cases x with
 |tmp t=>exact m.pb t b o s i h
 |const c=>simp[St.get]at h
 |func f=>simp[St.get]at h
 |global g=>simp[St.get]at h
def Rd (P:Program) (β:Nat->Nat) (st:St) (W:World) (o:Oper) (w:World):Prop:=
 n9 P o=0\/Ext W w\/(∃T x b q s i,o.op= .load T x/\st.get x=some (.p b q s i)/\w.heap[β b]? =W.heap[β b]?)\/Iq st o=true
def qg (P:Program) (ρ:List Value) (β:Nat->Nat) (st:St) (a:Act) (W:World) (o:Oper):Res->Prop
 | .val s=>(∀b q t i,s= .p b q t i->b<st.bl.length)/\n9 P o<=1/\∃v,ML P ρ β s v/\∀w,Rd P β st W o w->(execOp a.eval o).run P w= .ok (.value v) w
 | .new c T n=>n9 P o=3/\(D P ρ c).cells.size=n/\i8 (D P ρ c).cells/\∀w,(execOp a.eval o).run P w= .ok (.value (.pointer (some ⟨w.heap.size,0,none⟩))) (w.alloc (.cells (D P ρ c).cells T))
 | .sto b c=>n9 P o=4/\∃B,st.bl[b]? =some B/\(D P ρ c).cells.size=B.n/\i8 (D P ρ c).cells/\∀w,w.heap[β b]? =some (.cells (D P ρ B.c).cells B.T (0,0))->(execOp a.eval o).run P w= .ok .skip (w.setRow (β b) (D P ρ c).cells)
 | .call f args=>n9 P o=2/\∀w,(execOp a.eval o).run P w= .ok (.enter f (args.map (D P ρ)).toArray) w
 | .prim args=>n9 P o=1/\execOp a.eval o=execOp (e8 o.op.operands.toList (args.map (D P ρ))) o
 | .eff args=>(n9 P o=2\/n9 P o=4)/\execOp a.eval o=execOp (e8 o.op.operands.toList (args.map (D P ρ))) o
 | .ext f args=>n9 P o=2/\∀w,(execOp a.eval o).run P w=(callFunc f (args.map (D P ρ)).toArray).run P w
 | .mk args=>mkB st o=true/\execOp a.eval o=execOp (e8 o.op.operands.toList (args.map (D P ρ))) o
 | .bad=>True
def Snd (P:Program) (ρ:List Value) (β:Nat->Nat) (st:St) (a:Act) (W:World) (o:Oper) (p:List Rq×Res):Prop:=(∀q∈p.1,q.holds P ρ)->qg P ρ β st a W o p.2
def s6 (o:Oper):Snd P ρ β st a W o bad:=fun _=>trivial
def EH (m:Mt P w0 ρ β st a W) {o:Oper} {x:Operand} (ho:o.op= .move x\/o.op= .assign x):Snd P ρ β st a W o (av st x):=by
 unfold av;split
 ·rename_i s hs;intro _;have hk:n9 P o=0:=by rcases ho with h|h<;>simp[n9,h]
  refine⟨?_,aA,a.eval x,m.get hs,fun w _=> ?_⟩
  ·rintro b q t i rfl;exact m.ptrB hs
  ·rcases ho with h|h<;>simp[execOp,h]
 ·exact s6 o
def XH (m:Mt P w0 ρ β st a W) {o:Oper} {c x y:Operand} (ho:o.op= .pick c x y):Snd P ρ β st a W o (nl st c x y):=by
 unfold nl;split
 ·rename_i c' x' y' hc hx hy;intro hq;obtain⟨b,hb⟩:∃b,D P ρ c'= .bool b:=hq (.bool c') aD;refine⟨(by rintro b q t i h;cases h),by simp[n9,ho],_,rfl,fun w _=> ?_⟩;rw[WT,px m.kb,hb];simp only[execOp,ho,m.val hc,m.val hx,m.val hy,hb,asBool,eM,eO,eL,Ee];cases b<;>rfl
 ·exact s6 o
def XI {o:Oper} {T:TypeId} (ho:o.op= .alloc T):Snd P ρ β st a W o (nq P T):=by
 unfold nq;split
 ·rename_i z hz;intro hq;have h1:(D P ρ (.z T)).cells.size=z.cells.size/\i8 (D P ρ (.z T)).cells:=hq (.cells z.cells.size (.z T)) aD;refine⟨by simp[n9,ho],h1.1,h1.2,fun w=> ?_⟩;have hD:D P ρ (.z T)=z:=by simp[D,j3,hz]
  rw[hD];rw[kR]at hz;obtain⟨i,hi,hz⟩:=hz;simp only[execOp,ho,Instr.alloc,zeroValue,eM,run_typeInfo w hi,eL,hz,newVar,newRow,eO];rfl
 ·exact s6 o
def XJ (m:Mt P w0 ρ β st a W) {o:Oper} {T:TypeId} {x:Operand} (ho:o.op= .box T x):Snd P ρ β st a W o (nr P st T x):=by
 unfold nr;split
 ·rename_i x' hx;intro hq;have h1:(D P ρ x').cells.size=P.cellsOf T/\i8 (D P ρ x').cells:=hq (.cells (P.cellsOf T) x') aD;refine⟨by simp[n9,ho],h1.1,h1.2,fun w=> ?_⟩;simp only[execOp,ho,Instr.box,newVar,newRow,eM,eO,m.val hx];rfl
 ·exact s6 o
def Fp {o:Oper} (hs:∀cs b,o.op≠ .select cs b) {svs:List SV} (h:svs.map (D P ρ)=o.op.operands.toList.map a.eval):execOp a.eval o=execOp (e8 o.op.operands.toList (svs.map (D P ρ))) o:=by
 rw[h];exact execOp_congr o hs fun x hx=>(XG a _ x (by simpa using hx)).symm
def EI {N q n s:Nat} {i:SV} (hq:q+n<=N) (h:Rq.holds P ρ (.lt ((N-q-n)/s+1) i)):q+s*x4 (D P ρ i)+n<=N:=by
 obtain⟨h0,h1⟩:=h;unfold x4;have h2:(intOf (D P ρ i)).toNat<=(N-q-n)/s:=aA;have h3:s*(intOf (D P ρ i)).toNat<=s*((N-q-n)/s):=Nat.mul_le_mul_left _ h2;have h4:s*((N-q-n)/s)<=N-q-n:=Nat.mul_div_le _ _;omega
def qh (m:Mt P w0 ρ β st a W) {o:Oper} {T:TypeId} {x:Operand} (ho:o.op= .load T x):Snd P ρ β st a W o (Jr P st T x):=by
 have rN:n9 P o=1:=by simp[n9,ho]
 unfold Jr;split
 ·rename_i b q s i hp;split
  ·rename_i B hB;have rB:∀r∈(Rq.cells B.n B.c::st.kn),r.holds P ρ:=fun r hr=>by
    rcases aX.1 hr with rfl|hr
    ·exact(m.bl b B hB).2
    ·exact m.kn r hr
   unfold ns;split
   ·exact s6 o
   ·rename_i hT;have hT:r9 P T=true:=by simpa using hT
    have tC:=m.ptr hp;have run:∀(w:World),Rd P β st W o w->q+s*x4 (D P ρ i)+P.cellsOf T<=B.n->(p8 P T=false->q+s*x4 (D P ρ i)<B.n)->
      (execOp a.eval o).run P w= .ok (.value (if p8 P T then .agg ((D P ρ B.c).cells.extract (q+s*x4 (D P ρ i)) (q+s*x4 (D P ρ i)+P.cellsOf T))else(D P ρ B.c).cells.getD (q+s*x4 (D P ρ i)) undef)) w:=fun w hw h1 h2=>by
     obtain⟨pV,pS,tR⟩:=m.bl b B hB;simp only[execOp,ho,tC,eM];have a0d:w.heap[β b]? =some (.cells (D P ρ B.c).cells B.T (0,0)):=by
      rcases hw with h|h|⟨T',x',b',q',s',i',h,hx,hh⟩|h
      ·omega
      ·exact h.block pV
      ·rw[ho]at h;cases h;rw[hp]at hx;cases hx;rw[hh];exact pV
      ·simp[Iq,ho]at h
     rw[Xa hT a0d (by rw[pS];exact h1) (by rw[pS];exact h2)];rfl
    split
    ·rename_i hs0;subst hs0;simp only[bY,cP]at run;split
     ·rename_i sD;split
      ·rename_i oW;intro _;refine⟨(by rintro b q t i h;cases h),aA,_,rfl,fun w hw=> ?_⟩;rw[run w hw oW (by simp[sD]),if_pos sD];congr 2;split
       ·rename_i h;obtain⟨rfl,h⟩:=h;rw[bu,bP,h,<-(m.bl b B hB).2.1];simp
       ·rw[pq rB]
      ·exact s6 o
     ·rename_i sD;split
      ·rename_i oW;intro _;refine⟨(by rintro b q t i h;cases h),aA,_,rfl,fun w hw=> ?_⟩;rw[run w hw oW.1 (fun _=>oW.2),if_neg sD,pu rB]
      ·exact s6 o
    ·rename_i hs0;split
     ·rename_i oW;intro hq;have hb:=EI oW.1 (hq (.lt ((B.n-q-P.cellsOf T)/s+1) i) aD);refine⟨(by rintro b q t i h;cases h),aA,_,rfl,fun w hw=> ?_⟩;rw[run w hw hb (fun _=>aA)];split<;>rfl
     ·exact s6 o
  ·exact s6 o
 ·rename_i x' hx;intro _;refine⟨rN,Fp (by simp[ho]) ?_⟩;simp[ho,Op.operands,show a.eval x=D P ρ x' from m.get hx]
 ·exact s6 o
def XK (m:Mt P w0 ρ β st a W) {o:Oper} {T:TypeId} {x y:Operand} (ho:o.op= .store T x y):Snd P ρ β st a W o (Pq P st T x y):=by
 have rN:n9 P o=4:=by simp[n9,ho]
 unfold Pq;split
 ·rename_i b q s i v hp hv;split
  ·rename_i B hB;have rB:∀r∈(Rq.cells B.n B.c::st.kn),r.holds P ρ:=fun r hr=>by
    rcases aX.1 hr with rfl|hr
    ·exact(m.bl b B hB).2
    ·exact m.kn r hr
   obtain⟨_,pS,tR⟩:=m.bl b B hB;unfold nu;split
   ·exact s6 o
   ·rename_i hT;have hT:r9 P T=true:=by simpa using hT
    have tC:=m.ptr hp;split
    ·rename_i oW;have fin:∀(c:SV),(D P ρ v).cells.size=P.cellsOf T->i8 (D P ρ v).cells->q+s*x4 (D P ρ i)+P.cellsOf T<=B.n->(D P ρ c).cells=spl (D P ρ B.c).cells (q+s*x4 (D P ρ i)) (D P ρ v).cells.toList->qg P ρ β st a W o (.sto b c):=fun c h1 h2 h3 h4=>by
      refine⟨rN,B,hB,?_,?_,fun w hw=> ?_⟩
      ·rw[h4,Wx,pS]
      ·rw[h4];exact EA tR h2
      ·simp only[execOp,ho,tC,m.val hv,eM];rw[qe hT hw (by rw[pS];exact h3) h1 h2,h4];rfl
     split
     ·rename_i hs0;subst hs0;intro hq;have h1:(D P ρ v).cells.size=P.cellsOf T/\i8 (D P ρ v).cells:=hq (.cells (P.cellsOf T) v) aD;refine fin _ h1.1 h1.2 (by simpa using oW) ?_;rw[EC rB _ _ _ h1.1 _ _ _ pS oW];simp
     ·intro hq;have h1:(D P ρ v).cells.size=P.cellsOf T/\i8 (D P ρ v).cells:=hq (.cells (P.cellsOf T) v) aD;exact fin _ h1.1 h1.2 (EI oW (hq (.lt ((B.n-q-P.cellsOf T)/s+1) i) aD)) rfl
    ·exact s6 o
  ·exact s6 o
 ·rename_i x' y' hx hy;intro _;refine⟨.inr rN,Fp (by simp[ho]) ?_⟩;simp[ho,Op.operands,show a.eval x=D P ρ x' from m.get hx,m.val hy]
 ·exact s6 o
def XL (m:Mt P w0 ρ β st a W) {o:Oper} {S f:Nat} {x:Operand} (ho:o.op= .fieldAddr S x f):Snd P ρ β st a W o (bf P st S x f):=by
 have rN:n9 P o=1:=by simp[n9,ho]
 unfold bf;split
 ·rename_i b q s i hp;split
  ·rename_i fs hS;split
   ·rename_i fd hf;split
    ·exact s6 o
    ·rename_i hn;intro _;have sP:P.cellsOf fd.type≠0:=fun h=>hn (.inl h);have hT:r9 P fd.type=true:=by
      cases h:r9 P fd.type with
      |true=>rfl
      |false=>exact absurd (.inr h) hn
     refine⟨?_,aA,_,rfl,fun w _=> ?_⟩
     ·rintro b' q' t' i' h;cases h;exact m.ptrB hp
     ·simp only[execOp,ho,m.ptr hp,eM];rw[EF hS hf hT sP];simp only[eL,eO,Nat.add_right_comm]
   ·exact s6 o
  ·exact s6 o
 ·rename_i x' hx;intro _;refine⟨rN,Fp (by simp[ho]) ?_⟩;simp[ho,Op.operands,show a.eval x=D P ρ x' from m.get hx]
 ·exact s6 o
def XM (m:Mt P w0 ρ β st a W) {o:Oper} {T:Nat} {x ix:Operand} (ho:o.op= .indexAddr T x ix):Snd P ρ β st a W o (bg P st T x ix):=by
 have rN:n9 P o=1:=by simp[n9,ho]
 unfold bg;split
 ·rename_i b q s i j hp hj;split
  ·rename_i len e hT;split
   ·exact s6 o
   ·rename_i hn;have hs:s=0:=by
     rcases dX s with h|h
     ·exact h
     ·exact absurd (.inl aA) hn
    have he:r9 P e=true:=by
     cases h:r9 P e with
     |true=>rfl
     |false=>exact absurd (.inr h) hn
    subst hs;have tC:=m.ptr hp;simp only[bY,cP]at tC;split
    ·rename_i k mm;split
     ·rename_i hb;intro _;refine⟨?_,aA,_,rfl,fun w _=> ?_⟩
      ·rintro b' q' t' i' h;cases h;exact m.ptrB hp
      ·simp only[execOp,ho,tC,m.val hj,D,eM];rw[qf hT he _ _ _ _ hb.1 hb.2];simp
     ·exact s6 o
    ·split
     ·exact s6 o
     ·intro hq;obtain⟨k,n,hk⟩:∃k n,D P ρ j= .int k n:=hq (.num j) aD;obtain⟨h0,h1⟩:0<=intOf (D P ρ j)/\intOf (D P ρ j)<len:=hq (.lt len j) aD;refine⟨?_,aA,_,rfl,fun w _=> ?_⟩
      ·rintro b' q' t' i' h;cases h;exact m.ptrB hp
      ·rw[hk]at h0 h1;simp only[intOf]at h0 h1;simp only[execOp,ho,tC,m.val hj,hk,eM];rw[qf hT he _ _ _ _ h0 h1];simp only[eL,eO,x4,intOf,eX]
  ·exact s6 o
 ·rename_i x' j' hx hj;intro _;refine⟨rN,Fp (by simp[ho]) ?_⟩;simp[ho,Op.operands,show a.eval x=D P ρ x' from m.get hx,m.val hj]
 ·exact s6 o
def XN (m:Mt P w0 ρ β st a W) {o:Oper} {S f:Nat} {x:Operand} (ho:o.op= .field S x f):Snd P ρ β st a W o (oa P st S x f):=by
 have rN:n9 P o=0:=by simp[n9,ho]
 unfold oa;split
 ·rename_i x' hx;split
  ·rename_i fs hS;split
   ·rename_i fd hf;split
    ·rename_i oW;intro hq;obtain⟨cs,pM,hn⟩:∃cs,D P ρ x'= .agg cs/\cs.size=P.cellsOf S:=hq (.agg (P.cellsOf S) x') aD;refine⟨(by rintro b q t i h;cases h),aA,_,rfl,fun w _=> ?_⟩;simp only[execOp,ho,m.val hx,pM,eM];rw[WY hS hf oW.2.2 (by rw[hn];exact oW.1) oW.2.1];simp only[eL,eO];congr 2;split
     ·rw[pq m.kn,pM];rfl
     ·rw[pu m.kn,pM];rfl
    ·exact s6 o
   ·exact s6 o
  ·exact s6 o
 ·exact s6 o
def XO (m:Mt P w0 ρ β st a W) {o:Oper} {T:Nat} {x ix:Operand} (ho:o.op= .index T x ix):Snd P ρ β st a W o (od P st T x ix):=by
 unfold od;split
 ·rename_i x' j hx hj;split
  ·rename_i len e hT;have rN:n9 P o=0:=by simp[n9,ho,hT]
   split
   ·rename_i oW;split
    ·rename_i k mm;split
     ·rename_i hb;intro hq;obtain⟨cs,pM,hn⟩:∃cs,D P ρ x'= .agg cs/\cs.size=P.cellsOf T:=hq (.agg (P.cellsOf T) x') aD;refine⟨(by rintro b q t i h;cases h),aA,_,rfl,fun w _=> ?_⟩;simp only[execOp,ho,m.val hx,m.val hj,pM,D,eM];rw[EG hT oW.2.2 _ _ hb.1 hb.2 (by rw[hn];exact oW.1) oW.2.1];simp only[eL,eO];congr 2;split
      ·rw[pq m.kn,pM];rfl
      ·rw[pu m.kn,pM];rfl
     ·exact s6 o
    ·intro hq;obtain⟨cs,pM,hn⟩:∃cs,D P ρ x'= .agg cs/\cs.size=P.cellsOf T:=hq (.agg (P.cellsOf T) x') aD;obtain⟨k,n,hk⟩:∃k n,D P ρ j= .int k n:=hq (.num j) aD;obtain⟨h0,h1⟩:0<=intOf (D P ρ j)/\intOf (D P ρ j)<len:=hq (.lt len j) aD;refine⟨(by rintro b q t i h;cases h),aA,_,rfl,fun w _=> ?_⟩;rw[hk]at h0 h1;simp only[intOf]at h0 h1;simp only[execOp,ho,m.val hx,m.val hj,pM,hk,eM];rw[EG hT oW.2.2 _ _ h0 h1 (by rw[hn];exact oW.1) oW.2.1];simp only[eL,eO];congr 2;split<;>simp[D,pM,hk,x4,intOf,Value.cells,eX]
   ·exact s6 o
  ·rename_i hT;intro _;refine⟨by simp[n9,ho,hT],Fp (by simp[ho]) ?_⟩;simp[ho,Op.operands,m.val hx,m.val hj]
  ·exact s6 o
 ·exact s6 o
def XP (m:Mt P w0 ρ β st a W) {o:Oper} {i:Nat} {x:Operand} (ho:o.op= .extract x i):Snd P ρ β st a W o (oh st x i):=by
 have rN:n9 P o=0:=by simp[n9,ho]
 unfold oh;split
 ·rename_i x' hx;intro hq;obtain⟨vs,hvs,hn⟩:∃vs,D P ρ x'= .tuple vs/\i<vs.size:=hq (.tup i x') aD;refine⟨(by rintro b q t i h;cases h),aA,_,rfl,fun w _=> ?_⟩;simp only[execOp,ho,m.val hx,hvs,Instr.extract,D,Ly];simp[hn]
 ·exact s6 o
def EJ {T:TypeId} {k:IntKind} (h:Jp P T=some k):P.underlying T=some (.int k):=by
 unfold Jp at h;split at h
 ·rename_i k' hk;simp only[dF]at h;subst h;exact hk
 ·cases h
def XQ {T:TypeId} (h:au P T=true):P.underlying T=some .bool:=by
 unfold au at h;split at h
 ·assumption
 ·cases h
def XR (m:Mt P w0 ρ β st a W) {o:Oper} {op:BinOp} {T T':TypeId} {x y:Operand} (ho:o.op= .binOp op T x y T'):Snd P ρ β st a W o (oo P st op T x y):=by
 unfold oo;split
 ·rename_i x' y' hx hy;split
  ·rename_i k hk;have rN:n9 P o=0:=by simp[n9,ho,hk]
   split
   ·rename_i hsh;intro hq;obtain⟨n,hn⟩:∃n,D P ρ x'= .int k n:=hq (.int k x') aD;obtain⟨l,r,hr⟩:∃l r,D P ρ y'= .int l r:=hq (.num y') aD;have h0:0<=intOf (D P ρ y'):=hq (.nn y') aD;refine⟨(by rintro b q t i h;cases h),aA,_,rfl,fun w _=> ?_⟩;rw[hr]at h0;simp only[intOf]at h0;simp only[execOp,ho,m.val hx,m.val hy,hn,hr,D];rw[eM,XA (by simpa[ol]using hsh) h0];rfl
   ·rename_i hsh;intro hq;obtain⟨n,hn⟩:∃n,D P ρ x'= .int k n:=hq (.int k x') aD;obtain⟨r,hr⟩:∃r,D P ρ y'= .int k r:=hq (.int k y') aD;refine⟨(by rintro b q t i h;cases h),aA,_,rfl,fun w _=> ?_⟩;simp only[execOp,ho,m.val hx,m.val hy,hn,hr,D];rw[eM,WZ (by simpa[ol]using hsh) (fun hd=> ?_)]
    ·rfl
    ·have pL:om op=true:=by simpa[om]using hd
     have:=hq (.nz y') (by simp[pL]);simpa[Rq.holds,hr,intOf]using this
  ·rename_i hk;split
   ·rename_i hb;rw[aT]at hb;have rN:n9 P o=0:=by
     have h2:=hb.2;unfold bj at h2;simp[n9,ho,hk,hb.1,h2]
    intro hq;obtain⟨n,hn⟩:∃n,D P ρ x'= .bool n:=hq (.bool x') aD;obtain⟨r,hr⟩:∃r,D P ρ y'= .bool r:=hq (.bool y') aD;refine⟨(by rintro b q t i h;cases h),aA,_,rfl,fun w _=> ?_⟩;simp only[execOp,ho,m.val hx,m.val hy,hn,hr,D,Ee];rw[eM,XC (XQ hb.1) (by simpa[bj]using hb.2)];rfl
   ·rename_i hb;intro _;have rN:n9 P o=1:=by
     simp only[n9,ho,hk];rw[if_neg];simpa[bj]using hb
    refine⟨rN,Fp (by simp[ho]) ?_⟩;simp[ho,Op.operands,m.val hx,m.val hy]
 ·exact s6 o
def XS (m:Mt P w0 ρ β st a W) {o:Oper} {op:UnOp} {T:TypeId} {x:Operand} (ho:o.op= .unOp op T x):Snd P ρ β st a W o (sUn P st op T x):=by
 have rN:n9 P o=0:=by simp[n9,ho]
 unfold sUn;split
 ·rename_i x' hx;cases op with
  |not=>
   intro hq;obtain⟨b,hb⟩:∃b,D P ρ x'= .bool b:=hq (.bool x') aD;refine⟨(by rintro b q t i h;cases h),aA,_,rfl,fun w _=> ?_⟩;have e:D P ρ (ou x')= .bool (!b):=by
    unfold ou;split
    ·simp only[D]at hb⊢;cases hb;rfl
    ·simp[D,hb,Ee]
   simp only[execOp,ho,m.val hx,hb,Op.unary,e];rfl
  |plus=>exact s6 o
  |neg=>
   simp only;split
   ·rename_i k hk;intro hq;obtain⟨n,hn⟩:∃n,D P ρ x'= .int k n:=hq (.int k x') aD;refine⟨(by rintro b q t i h;cases h),aA,_,rfl,fun w _=> ?_⟩;simp only[execOp,ho,m.val hx,hn,Op.unary,D,unV,intOf,Op.intArith];rfl
   ·exact s6 o
  |xor=>
   simp only;split
   ·rename_i k hk;intro hq;obtain⟨n,hn⟩:∃n,D P ρ x'= .int k n:=hq (.int k x') aD;refine⟨(by rintro b q t i h;cases h),aA,_,rfl,fun w _=> ?_⟩;simp only[execOp,ho,m.val hx,hn,Op.unary,D,unV,intOf,Op.intBits];rfl
   ·exact s6 o
 ·exact s6 o
def XU (m:Mt P w0 ρ β st a W) {o:Oper} {s d:TypeId} {x:Operand} (ho:o.op= .convert s d x):Snd P ρ β st a W o (ov P st s d x):=by
 unfold ov;split
 ·rename_i x' hx;split
  ·rename_i k l hk hl;have rN:n9 P o=0:=by simp[n9,ho,hk,hl]
   intro hq;obtain⟨n,hn⟩:∃n,D P ρ x'= .int k n:=hq (.int k x') aD;refine⟨(by rintro b q t i h;cases h),aA,_,rfl,fun w _=> ?_⟩;simp only[execOp,ho,m.val hx,hn,convert,eM,run_underlying (EJ hk),run_underlying (EJ hl),eL,D,intOf,Conv.intToInt,eO]
  ·rename_i vY;intro _;have rN:n9 P o=1:=by
    simp only[n9,ho];rw[if_neg];intro h;rw[aT,eG,eG]at h;obtain⟨⟨k,hk⟩,⟨l,hl⟩⟩:=h;exact vY k l hk hl
   refine⟨rN,Fp (by simp[ho]) ?_⟩;simp[ho,Op.operands,m.val hx]
 ·exact s6 o
def XV (m:Mt P w0 ρ β st a W) {o:Oper} {c:Call} (ho:o.op= .call c):Snd P ρ β st a W o (ox P st c):=by
 unfold ox;have pH:∀cs b,o.op≠ .select cs b:=by simp[ho]
 split
 ·rename_i f hc;have rN:n9 P o=2:=by
   obtain⟨callee,args,ats⟩:=c;simp only at hc;subst hc;simp[n9,ho]
  split
  ·rename_i l hl;split
   ·rename_i body hb;split
    ·exact s6 o
    ·rename_i hnm;intro _;refine⟨rN,fun w=> ?_⟩;rw[kR]at hb;obtain⟨fn,hf,hb⟩:=hb;have hn:¬fn.name= "runtime.NumGoroutine" :=fun h=>by
      simp only[hf,cJ,h]at hnm;simp at hnm
     have pQ:(l.map (D P ρ)).toArray=c.args.map a.eval:=by
      rw[m.vals hl];apply cF.1;simp
     rw[pQ];simp[execOp,ho,resolve,hc,Act.eval,Deferred.ofValue,invoke,callFunc,hf,hn,hb]
   ·intro _;refine⟨rN,fun w=> ?_⟩;have pQ:(l.map (D P ρ)).toArray=c.args.map a.eval:=by
     rw[m.vals hl];apply cF.1;simp
    rw[pQ];simp[execOp,ho,resolve,hc,Act.eval,Deferred.ofValue,invoke]
  ·exact s6 o
 ·rename_i b hc;split
  ·rename_i l hl;split
   ·rename_i hq;intro _;refine⟨?_,Fp pH ?_⟩
    ·obtain⟨callee,args,ats⟩:=c;simp only at hc;subst hc;cases b<;>simp[ow]at hq<;>simp[n9,ho]
    ·simp[ho,Op.operands,Call.operands,hc,m.vals hl]
   ·rename_i hq;intro _;refine⟨?_,Fp pH ?_⟩
    ·obtain⟨callee,args,ats⟩:=c;simp only at hc;subst hc;cases b<;>simp[ow]at hq<;>simp[n9,ho]
    ·simp[ho,Op.operands,Call.operands,hc,m.vals hl]
  ·exact s6 o
 ·rename_i f hc vY;split
  ·rename_i l hl;intro _;refine⟨?_,Fp pH ?_⟩
   ·obtain⟨callee,args,ats⟩:=c;simp only at vY;subst vY;simp[n9,ho]
   ·simp[ho,Op.operands,Call.operands,vY,m.vals hl]
  ·exact s6 o
 ·exact s6 o
def XW (m:Mt P w0 ρ β st a W) {o:Oper} {op:Op} (ho:o.op=op):Snd P ρ β st a W o (Wp st op):=by
 unfold Wp;split
 ·rename_i l hl;split
  ·rename_i hp;intro _;refine⟨?_,Fp ?_ ?_⟩
   ·cases op<;>simp[bm]at hp<;>simp[n9,ho]
   ·rw[ho];cases op<;>simp[bm]at hp<;>simp
   ·rw[ho];exact m.vals hl
  ·split
   ·rename_i hp;intro _;refine⟨?_,Fp ?_ ?_⟩
    ·cases op<;>simp[bn]at hp<;>simp[n9,ho]
    ·rw[ho];cases op<;>simp[bn]at hp<;>simp
    ·rw[ho];exact m.vals hl
   ·exact s6 o
 ·exact s6 o
def XY (m:Mt P w0 ρ β st a W):∀{parts:List (Nat×Operand)} {ps:List (Nat×SV)},Wm st parts=some ps->parts.map (fun p=>(p.1,a.eval p.2))=ps.map fun p=>(p.1,D P ρ p.2):=by
 intro parts;induction parts with
 |nil=>intro ps h;simp only[Wm,dF]at h;subst h;rfl
 |cons p r ih=>
  intro ps h;obtain⟨i,x⟩:=p;simp only[Wm]at h;split at h
  ·rename_i s l hs hl;simp only[dF]at h;subst h;simp only[aU,ih hl,m.val hs]
  ·cases h
def XZ {pl:Nat->Option (Nat×Nat)}:∀{ps:List (Nat×SV)} {l:List (Nat×Nat×SV)},Wn pl ps=some l->(∀p∈ps,∃q n,pl p.1=some (q,n)/\(q,n,p.2)∈l)/\
  (∀cs:Array Value,(ps.map fun p=>(p.1,D P ρ p.2)).foldl (fun acc p=>spl acc ((pl p.1).getD (0,0)).1 p.2.cells.toList) cs=l.foldl (fun acc p=>spl acc p.1 (D P ρ p.2.2).cells.toList) cs):=by
 intro ps;induction ps with
 |nil=>intro l h;simp only[Wn,dF]at h;subst h;exact⟨aD,fun _=>rfl⟩
 |cons p r ih=>
  intro l h;obtain⟨i,x⟩:=p;simp only[Wn]at h;split at h
  ·rename_i q n l' hq hl;simp only[dF]at h;subst h;obtain⟨h1,h2⟩:=ih hl;refine⟨fun p hp=> ?_,fun cs=> ?_⟩
   ·rcases aX.1 hp with rfl|hp
    ·exact⟨q,n,hq,aD⟩
    ·obtain⟨q',n',tU,hm⟩:=h1 p hp;exact⟨q',n',tU,by simp[hm]⟩
   ·simp only[aU,gC,hq,jX];exact h2 _
  ·cases h
def YA (hk:∀r∈st.kn,r.holds P ρ) (sf:Bool) (N:Nat):∀(l:List (Nat×Nat×SV)) (acc:SV),(D P ρ acc).cells.size=N->(∀p∈l,(D P ρ p.2.2).cells.size=p.2.1/\p.1+p.2.1<=N)->
  (D P ρ (l.foldl (fun acc p=>Pn P st.kn sf N p.1 p.2.1 p.2.2 acc) acc)).cells=l.foldl (fun acc p=>spl acc p.1 (D P ρ p.2.2).cells.toList) (D P ρ acc).cells:=by
 intro l;induction l with
 |nil=>intro acc _ _;rfl
 |cons p r ih=>
  intro acc hN hl;obtain⟨h1,h2⟩:=hl p aD;have e:=EC hk sf p.2.1 p.2.2 h1 acc N p.1 hN h2;simp only[gC];rw[ih _ (by rw[e,Wx];exact hN) (fun q hq=>hl q (by simp[hq])),e]
def YB (m:Mt P w0 ρ β st a W) {o:Oper} {T:TypeId} {parts:Array (Nat×Operand)} (ho:o.op= .build T parts):Snd P ρ β st a W o (og P st T parts.toList):=by
 have rN:n9 P o=0:=by simp[n9,ho]
 unfold og;split
 ·rename_i ps pl tJ tQ;split
  ·rename_i l hl;split
   ·rename_i hc;simp only[aT,dC,decide_eq_true_eq]at hc;obtain⟨⟨qL,qO⟩,sE⟩:=hc;intro hq;have hz0:(D P ρ (.z T)).cells.size=P.cellsOf T/\i8 (D P ρ (.z T)).cells:=hq (.cells (P.cellsOf T) (.z T)) aD;rw[Option.any_eq_true]at sE;obtain⟨it,yT,hz⟩:=sE;rw[eG]at hz;obtain⟨z,hz⟩:=hz;have hzD:j3 P T=z:=by simp[j3,yT,hz]
    have hzs:z.cells.size=P.cellsOf T:=by rw[<-hzD];exact hz0.1
    obtain⟨sL,qG⟩:=XZ (P:=P) (ρ:=ρ) hl;have qI:∀p∈l,(D P ρ p.2.2).cells.size=p.2.1:=fun p hp=>(hq (.cells p.2.1 p.2.2) (dR _ (bK.2 ⟨p,hp,rfl⟩))).1;refine⟨(by rintro b q t i h;cases h),aA,_,rfl,fun w _=> ?_⟩;have tC:(parts.map fun(i,x)=>(i,a.eval x)).toList=ps.map fun p=>(p.1,D P ρ p.2):=by
     rw[<-XY m tJ];simp
    simp only[execOp,ho,eM];rw[XF tQ qO yT hz]
    ·rw[tC,qG,bu,YA m.kn _ _ l (exZ P T) (by rw[ED,hzD];exact hzs) (fun p hp=>⟨qI p hp,qL p hp⟩),ED,hzD];rfl
    ·rw[tC];intro p hp;rw[bK]at hp;obtain⟨p',hp',rfl⟩:=hp;obtain⟨q,n,tU,hm⟩:=sL p' hp';exact⟨q,n,tU,qI _ hm,by rw[hzs];exact qL _ hm⟩
   ·exact s6 o
  ·exact s6 o
 ·exact s6 o
def YC (m:Mt P w0 ρ β st a W) {o:Oper} {op:Op} (ho:o.op=op) (hm:mkB st o=true):Snd P ρ β st a W o (sMk st op):=by
 unfold sMk;split
 ·rename_i l hl;intro _;refine⟨hm,Fp ?_ ?_⟩
  ·rw[ho];unfold mkB at hm;rw[ho]at hm;intro cs b e;subst e;simp at hm
  ·rw[ho];exact m.vals hl
 ·exact s6 o
def YD (m:Mt P w0 ρ β st a W) {o:Oper} {op:Op} (ho:o.op=op):Snd P ρ β st a W o (if mkB st o then sMk st op else Wp st op):=by
 split
 ·rename_i h;exact YC m ho h
 ·exact XW m ho
def YE (m:Mt P w0 ρ β st a W) (o:Oper):Snd P ρ β st a W o (Ak P st o):=by
 cases ho:o.op<;>simp only[Ak,ho]
 case move x=>exact EH m (.inl ho)
 case assign x=>exact EH m (.inr ho)
 case pick c x y=>exact XH m ho
 case alloc T=>exact XI ho
 case box T x=>exact XJ m ho
 case load T x=>exact qh m ho
 case store T x y=>exact XK m ho
 case fieldAddr S x f=>exact XL m ho
 case indexAddr T x ix=>exact XM m ho
 case field S x f=>exact XN m ho
 case index T x ix=>exact XO m ho
 case build T parts=>exact YB m ho
 case extract x i=>exact XP m ho
 case binOp op T x y T'=>exact XR m ho
 case unOp op T x=>exact XS m ho
 case convert s d x=>exact XU m ho
 case call c=>exact XV m ho
 all_goals exact YD m ho
end
end Go.RX

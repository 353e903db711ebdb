/- Graphs. -/
import Derived.Test.YtkcjbfoejpfbbaaGreatDoorGsC
namespace Go.GS
def elt (a b:Nat×Nat):Prop:=a.1<b.1\/(a.1=b.1/\a.2<b.2)
structure GV (n:Nat) (es:List (Nat×Nat)):Prop where
 n1:1<=n
 n64:n<=64
 len:es.length<=200
 ed:∀e∈es,e.1<e.2/\e.2<n
 ord:es.Pairwise elt
theorem GV.next {n:Nat} {es:List (Nat×Nat)} (h:GV n es) {i:Nat} {a b:Nat×Nat} (ha:es[i]? =some a) (hb:es[i+1]? =some b):elt a b:=by
 obtain⟨h1,rfl⟩:=List.getElem?_eq_some_iff.1 ha
 obtain⟨h2,rfl⟩:=List.getElem?_eq_some_iff.1 hb
 exact List.pairwise_iff_getElem.1 h.ord i (i+1) h1 h2 (by omega)
theorem GV.mem {n:Nat} {es:List (Nat×Nat)} (h:GV n es) {i:Nat} {a:Nat×Nat} (ha:es[i]? =some a):a.1<a.2/\a.2<n:=h.ed a (List.mem_of_getElem? ha)
end Go.GS
/- Neighbours. -/
namespace Go.GS
theorem a2l {α:Type} {p:List α->Prop} (nil:p []) (snoc:∀l a,p l->p (l++[a])) (l:List α):p l:=by
 have:∀l:List α,p l.reverse:=by
  intro l
  induction l with
  |nil=>exact nil
  |cons a l ih=>rw[List.reverse_cons];exact snoc _ _ ih
 have h:=this l.reverse
 rwa[List.reverse_reverse]at h
def nb (es:List (Nat×Nat)) (x:Nat):Nat:=es.foldl (fun s e=>if e.1=x then s|||2^e.2 else if e.2=x then s|||2^e.1 else s) 0
theorem b2f (es:List (Nat×Nat)) (e:Nat×Nat) (x:Nat):nb (es++[e]) x=if e.1=x then nb es x|||2^e.2 else if e.2=x then nb es x|||2^e.1 else nb es x:=by
 unfold nb;rw[List.foldl_append];rfl
def nbs (n:Nat) (es:List (Nat×Nat)):List Nat:=(List.range n).map (nb es)
theorem c7T (n:Nat):nbs n []=List.replicate n 0:=by
 unfold nbs
 apply List.ext_getElem
 ·simp
 ·intro i h1 h2;simp[nb]
theorem a4O (n:Nat) (es:List (Nat×Nat)):(nbs n es).length=n:=by simp[nbs]
theorem b0h {n x:Nat} (es:List (Nat×Nat)) (h:x<n):(nbs n es)[x]? =some (nb es x):=by simp[nbs,h]
theorem c3G (n:Nat) (es:List (Nat×Nat)) (e:Nat×Nat) (h:e.1<e.2):((nbs n es).set e.1 (nb es e.1|||2^e.2)).set e.2 (nb es e.2|||2^e.1)=nbs n (es++[e]):=by
 apply List.ext_getElem?
 intro i
 by_cases hi:i<n
 ·rw[b0h _ hi,b2f]
  by_cases h2:e.2=i
  ·subst h2
   rw[List.getElem?_set_self (by simp[a4O,hi]),if_neg (by omega),if_pos rfl]
  ·rw[List.getElem?_set_ne h2]
   by_cases h1:e.1=i
   ·subst h1
    rw[List.getElem?_set_self (by simp[a4O,hi]),if_pos rfl]
   ·rw[List.getElem?_set_ne h1,b0h _ hi,if_neg h1,if_neg h2]
 ·rw[List.getElem?_eq_none (by simp[a4O];omega),List.getElem?_eq_none (by simp[a4O];omega)]
theorem d2c (es:List (Nat×Nat)) (x y:Nat):bit (nb es x) y=true↔∃e∈es,(e.1=x/\e.2=y)\/(e.1≠x/\e.2=x/\e.1=y):=by
 induction es using a2l with
 |nil=>simp[nb,bit]
 |snoc es e ih=>
  rw[b2f]
  simp only[List.mem_append,List.mem_singleton]
  constructor
  ·intro h
   split at h
   ·rename_i h1
    rw[a0T,a0D,Bool.or_eq_true]at h
    rcases h with h|h
    ·obtain⟨a,h2,h3⟩:=ih.1 h;exact⟨a,.inl h2,h3⟩
    ·exact⟨e,.inr rfl,.inl ⟨h1,by simpa using h⟩⟩
   ·split at h
    ·rename_i h1 h2
     rw[a0T,a0D,Bool.or_eq_true]at h
     rcases h with h|h
     ·obtain⟨a,h3,h4⟩:=ih.1 h;exact⟨a,.inl h3,h4⟩
     ·exact⟨e,.inr rfl,.inr ⟨h1,h2,by simpa using h⟩⟩
    ·obtain⟨a,h2,h3⟩:=ih.1 h;exact⟨a,.inl h2,h3⟩
  ·rintro⟨a,h2|rfl,h3⟩
   ·have:=ih.2 ⟨a,h2,h3⟩
    split
    ·rw[a0T,this];rfl
    ·split
     ·rw[a0T,this];rfl
     ·exact this
   ·rcases h3 with⟨h3,h4⟩|⟨h3,h4,h5⟩
    ·rw[if_pos h3,a0T,a0D];simp[h4]
    ·rw[if_neg h3,if_pos h4,a0T,a0D];simp[h5]
theorem d2d {n:Nat} {es:List (Nat×Nat)} (h:∀e∈es,e.1<e.2/\e.2<n) (hn:n<=64) (x:Nat):nb es x<M64:=by
 induction es using a2l with
 |nil=>exact(by decide:0<M64)
 |snoc es e ih=>
  have ih:=ih fun a ha=>h a (List.mem_append_left _ ha)
  have he:=h e (List.mem_append_right _ (List.mem_singleton.2 rfl))
  rw[b2f]
  split
  ·exact a4L ih (a0N (by omega))
  ·split
   ·exact a4L ih (a0N (by omega))
   ·exact ih
end Go.GS
/- What can be reached. -/
namespace Go.GS
def adj (es:List (Nat×Nat)) (y z:Nat):Prop:=∃e∈es,(e.1=y/\e.2=z)\/(e.2=y/\e.1=z)
theorem adj.symm {es:List (Nat×Nat)} {y z:Nat} (h:adj es y z):adj es z y:=by
 obtain⟨e,he,h|h⟩:=h
 ·exact⟨e,he,.inr ⟨h.2,h.1⟩⟩
 ·exact⟨e,he,.inl ⟨h.2,h.1⟩⟩
inductive Rch (es:List (Nat×Nat)) (set x:Nat):Nat->Prop
 |base:Rch es set x x
 |step {y z:Nat}:Rch es set x y->adj es y z->bit set z=true->Rch es set x z
theorem Rch.trans {es:List (Nat×Nat)} {set x y z:Nat} (h1:Rch es set x y) (h2:Rch es set y z):Rch es set x z:=by
 induction h2 with
 |base=>exact h1
 |step _ ha hz ih=>exact ih.step ha hz
theorem Rch.mem {es:List (Nat×Nat)} {set x y:Nat} (h:Rch es set x y) (hx:bit set x=true):bit set y=true:=by
 cases h with
 |base=>exact hx
 |step _ _ hz=>exact hz
theorem Rch.symm {es:List (Nat×Nat)} {set x y:Nat} (h:Rch es set x y) (hx:bit set x=true):Rch es set y x:=by
 induction h with
 |base=>exact .base
 |step h1 ha hz ih=>exact((Rch.base.step ha.symm (h1.mem hx)).trans ih)
def CL (es:List (Nat×Nat)) (set x c:Nat):Prop:=c<M64/\∀y,bit c y=true↔Rch es set x y
theorem CL.uniq {es:List (Nat×Nat)} {set x c d:Nat} (h:CL es set x c) (k:CL es set x d):c=d:=a1y fun y=>by
 rw[Bool.eq_iff_iff,h.2,k.2]
def Cn (es:List (Nat×Nat)) (set:Nat):Prop:=∃x,bit set x=true/\∀y,bit set y=true->Rch es set x y
theorem Cn.all {es:List (Nat×Nat)} {set x y:Nat} (h:Cn es set) (hx:bit set x=true) (hy:bit set y=true):Rch es set x y:=by
 obtain⟨z,hz,h⟩:=h
 exact((h x hx).symm hz).trans (h y hy)
theorem c6m {n:Nat} {es:List (Nat×Nat)} (h:∀e∈es,e.1<e.2/\e.2<n) {x y:Nat}:bit (nb es x) y=true↔adj es x y:=by
 rw[d2c]
 constructor
 ·rintro⟨e,he,h1|h1⟩
  ·exact⟨e,he,.inl h1⟩
  ·exact⟨e,he,.inr h1.2⟩
 ·rintro⟨e,he,h1|h1⟩
  ·exact⟨e,he,.inl h1⟩
  ·exact⟨e,he,.inr ⟨by have:=h e he;omega,h1⟩⟩
def grow (es:List (Nat×Nat)) (set part:Nat) (l:List Nat):Nat:=l.foldl (fun s n=>s|||(nb es n&&&set)) part
theorem a6x (es:List (Nat×Nat)) (set part:Nat) (l:List Nat) (x:Nat):grow es set part (l++[x])=grow es set part l|||(nb es x&&&set):=by
 unfold grow;rw[List.foldl_append];rfl
theorem a4i {es:List (Nat×Nat)} {set part:Nat} (l:List Nat) (y:Nat):bit (grow es set part l) y=true↔bit part y=true\/∃x∈l,bit (nb es x) y=true/\bit set y=true:=by
 induction l using a2l with
 |nil=>simp[grow]
 |snoc l x ih=>
  rw[a6x,a0T,a2Z,Bool.or_eq_true,ih,Bool.and_eq_true]
  simp only[List.mem_append,List.mem_singleton]
  constructor
  ·rintro((h|⟨a,h1,h2⟩)|h)
   ·exact .inl h
   ·exact .inr ⟨a,.inl h1,h2⟩
   ·exact .inr ⟨x,.inr rfl,h⟩
  ·rintro(h|⟨a,h1|rfl,h2⟩)
   ·exact .inl (.inl h)
   ·exact .inl (.inr ⟨a,h1,h2⟩)
   ·exact .inr h2
theorem b7E {es:List (Nat×Nat)} {set part:Nat} (hs:set<M64) (hp:part<M64) (l:List Nat):grow es set part l<M64:=by
 induction l using a2l with
 |nil=>exact hp
 |snoc l x ih=>rw[a6x];exact a4L ih (c7P hs)
theorem c3H {n:Nat} {es:List (Nat×Nat)} (h:∀e∈es,e.1<e.2/\e.2<n) {set part x:Nat} (hp:part<M64) (hx:bit part x=true) (hr:∀y,bit part y=true->Rch es set x y) (he:grow es set part (els part)=part):CL es set x part:=by
 refine⟨hp,fun y=>⟨hr y,fun hy=> ?_⟩⟩
 induction hy with
 |base=>exact hx
 | @step u v _ ha hz ih=>
  rw[<-he,a4i]
  exact .inr ⟨u,(a2v hp).2 ih,(c6m h).2 ha,hz⟩
theorem c3I {n:Nat} {es:List (Nat×Nat)} (h:∀e∈es,e.1<e.2/\e.2<n) {set part x:Nat} (hp:part<M64) (hr:∀y,bit part y=true->Rch es set x y):∀y,bit (grow es set part (els part)) y=true->Rch es set x y:=by
 intro y hy
 rw[a4i]at hy
 rcases hy with hy|⟨z,h1,h2,h3⟩
 ·exact hr y hy
 ·exact(hr z ((a2v hp).1 h1)).step ((c6m h).1 h2) h3
theorem b7F {p q:Nat->Bool} (hpq:∀y,p y=true->q y=true) {x:Nat} (hq:q x=true) (hp:p x=false):∀l:List Nat,x∈l->(l.filter p).length<(l.filter q).length:=by
 have hle:∀l:List Nat,(l.filter p).length<=(l.filter q).length:=by
  intro l
  induction l with
  |nil=>exact Nat.le_refl _
  |cons a l ih=>
   rw[List.filter_cons,List.filter_cons]
   split
   ·rename_i h;rw[if_pos (hpq a h)];simp;exact ih
   ·split
    ·simp;omega
    ·exact ih
 intro l
 induction l with
 |nil=>intro h;cases h
 |cons a l ih=>
  intro h
  rw[List.filter_cons,List.filter_cons]
  rcases List.mem_cons.1 h with rfl|h
  ·rw[if_neg (by simp[hp]),if_pos hq];have:=hle l;simp;omega
  ·have:=ih h
   split
   ·rename_i h;rw[if_pos (hpq a h)];simp;exact this
   ·split
    ·simp;omega
    ·exact this
theorem a8R {a b x:Nat} (h:∀y,bit a y=true->bit b y=true) (hb:bit b x=true) (ha:bit a x=false) (hx:x<64):card a<card b:=
 b7F h hb ha _ (List.mem_range.2 hx)
theorem a1u (a:Nat):card a<=64:=by
 have:=List.length_filter_le (bit a) (List.range 64);simpa[card,els]using this
theorem b7G {a b:Nat} (h:a≠b) (hab:∀y,bit a y=true->bit b y=true):∃x,bit b x=true/\bit a x=false:=by
 apply Classical.byContradiction
 intro hn
 apply h
 apply a1y
 intro y
 cases hy:bit a y with
 |true=>rw[hab y hy]
 |false=>
  cases hb:bit b y with
  |false=>rfl
  |true=>exact absurd ⟨y,hb,hy⟩ hn
def CS (es:List (Nat×Nat)) (set rest k:Nat):Prop:=(k=0/\rest=set)\/(k=1/\∃x c,bit set x=true/\CL es set x c/\rest=sdf set c)\/(2<=k/\¬Cn es set)
theorem CS.end {es:List (Nat×Nat)} {set k:Nat} (h:CS es set 0 k):k=1↔Cn es set:=by
 rcases h with⟨rfl,h⟩|⟨rfl,x,c,hx,hc,h⟩|⟨h1,h2⟩
 ·subst h
  constructor
  ·intro h;cases h
  ·rintro⟨x,hx,_⟩;rw[a1L]at hx;cases hx
 ·refine⟨fun _=>⟨x,hx,fun y hy=> ?_⟩,fun _=>rfl⟩
  have:bit (sdf set c) y=false:=by rw[<-h,a1L]
  rw[a1T,hy]at this
  exact(hc.2 y).1 (by simpa using this)
 ·exact⟨fun h=>by omega,fun h=>absurd h h2⟩
theorem CS.next {es:List (Nat×Nat)} {set rest k x c:Nat} (h:CS es set rest k) (hx:bit rest x=true) (hxs:bit set x=true) (hc:CL es set x c):CS es set (sdf rest c) (k+1):=by
 rcases h with⟨rfl,rfl⟩|⟨rfl,y,d,hy,hd,rfl⟩|⟨h1,h2⟩
 ·exact .inr (.inl ⟨rfl,x,c,hxs,hc,rfl⟩)
 ·refine .inr (.inr ⟨by omega,fun hn=> ?_⟩)
  rw[a1T,(hd.2 x).2 (hn.all hy hxs)]at hx
  simp at hx
 ·exact .inr (.inr ⟨by omega,h2⟩)
end Go.GS
/- Plans. -/
namespace Go.GS
noncomputable def cnB (es:List (Nat×Nat)) (set:Nat):Bool:= @decide (Cn es set) (Classical.propDecidable _)
theorem cnB_iff {es:List (Nat×Nat)} {set:Nat}:cnB es set=true↔Cn es set:= @decide_eq_true_iff _ (Classical.propDecidable _)
end Go.GS
/- What is allowed. -/
namespace Go.GS
def c7U (wl:List Int) (s:Nat):Int:=((els s).map fun x=>wl.getD x 0).sum
def c7V (wl:List Int):Prop:=∀x∈wl,0<=x/\x<=1000000000
instance (wl:List Int):Decidable (c7V wl):=inferInstanceAs (Decidable (∀x∈wl,_))
def bdE (n:Nat) (wl:List Int) (lo hi ds:Int):Int:=if wl.length=n/\0<=lo/\lo<=hi/\1<=ds/\ds<=8/\c7V wl then 0 else 320
noncomputable def alB (es:List (Nat×Nat)) (wl:List Int) (lo hi:Int) (set:Nat):Bool:=Go.GS.cnB es set&&(decide (c7U wl set≥lo)&&decide (c7U wl set<=hi))
theorem d2e {n:Nat} {wl:List Int} {lo hi ds:Int} (h:bdE n wl lo hi ds=0):wl.length=n/\0<=lo/\lo<=hi/\1<=ds/\ds<=8/\c7V wl:=by
 unfold bdE at h
 split at h
 ·assumption
 ·cases h
theorem b0i:∀(l:List Int),(∀x∈l,0<=x/\x<=1000000000)->0<=l.sum/\l.sum<=1000000000*l.length:=by
 intro l
 induction l with
 |nil=>intro _;simp
 |cons a l ih=>
  intro h
  have h1:=h a (by simp)
  have h2:=ih fun x hx=>h x (List.mem_cons_of_mem _ hx)
  rw[List.sum_cons,List.length_cons]
  omega
end Go.GS
/- Search by rounds over all edges. -/
namespace Go.GS
def rst (set s:Nat) (e:Nat×Nat):Nat:=if bit set e.1&&bit set e.2&&(bit s e.1||bit s e.2)then s|||2^e.1|||2^e.2 else s
def rnd (set:Nat) (L:List (Nat×Nat)) (s:Nat):Nat:=L.foldl (rst set) s
def a2A (set:Nat) (L:List (Nat×Nat)):Nat->Nat->Nat
 |0,s=>s
 |n+1,s=>rnd set L (a2A set L n s)
def Clo (set:Nat) (L:List (Nat×Nat)) (s:Nat):Prop:=∀e∈L,bit set e.1=true->bit set e.2=true->(bit s e.1=true\/bit s e.2=true)->bit s e.1=true/\bit s e.2=true
theorem a4j {set s:Nat} {e:Nat×Nat} {y:Nat} (h:bit s y=true):bit (rst set s e) y=true:=by
 unfold rst
 split
 ·rw[a0T,a0T,h];rfl
 ·exact h
theorem d2f {set s:Nat} {e:Nat×Nat} (h:s<M64) (h1:e.1<64) (h2:e.2<64):rst set s e<M64:=by
 unfold rst
 split
 ·exact a4L (a4L h (a0N h1)) (a0N h2)
 ·exact h
theorem a2m {set:Nat} {L:List (Nat×Nat)}:∀{s y:Nat},bit s y=true->bit (rnd set L s) y=true:=by
 induction L with
 |nil=>intro s y h;exact h
 |cons e L ih=>intro s y h;exact ih (a4j h)
theorem b0j {set:Nat} {L:List (Nat×Nat)} (hL:∀e∈L,e.1<64/\e.2<64):∀{s:Nat},s<M64->rnd set L s<M64:=by
 induction L with
 |nil=>intro s h;exact h
 |cons e L ih=>intro s h;exact ih (fun a ha=>hL a (List.mem_cons_of_mem _ ha)) (d2f h (hL e (by simp)).1 (hL e (by simp)).2)
theorem c3J {set s:Nat} {e:Nat×Nat} (h:rst set s e=s) (h1:bit set e.1=true) (h2:bit set e.2=true) (h3:bit s e.1=true\/bit s e.2=true):bit s e.1=true/\bit s e.2=true:=by
 unfold rst at h
 rw[if_pos (by rcases h3 with h3|h3<;>simp[h1,h2,h3])]at h
 rw[<-h]
 simp[a0T,a0D]
theorem b2g {set:Nat} {L:List (Nat×Nat)}:∀{s:Nat},rnd set L s=s->Clo set L s:=by
 induction L with
 |nil=>intro s _ e he;cases he
 |cons e L ih=>
  intro s h
  have h1:rst set s e=s:=by
   apply a1y
   intro y
   cases hy:bit s y with
   |true=>exact a4j hy
   |false=>
    cases hz:bit (rst set s e) y with
    |false=>rfl
    |true=>
     have:bit (rnd set (e::L) s) y=true:=a2m (L:=L) hz
     rw[h,hy]at this;cases this
  have h2:rnd set L s=s:=by
   have:rnd set (e::L) s=rnd set L (rst set s e):=rfl
   rw[this,h1]at h;exact h
  intro a ha
  rcases List.mem_cons.1 ha with rfl|ha
  ·exact c3J h1
  ·exact ih h2 a ha
theorem b7H {set:Nat} {L:List (Nat×Nat)} {s:Nat} (h:Clo set L s):rnd set L s=s:=by
 induction L with
 |nil=>rfl
 |cons e L ih=>
  have h1:rst set s e=s:=by
   unfold rst
   split
   ·rename_i hc
    simp only[Bool.and_eq_true,Bool.or_eq_true]at hc
    obtain⟨h2,h3⟩:=h e (by simp) hc.1.1 hc.1.2 hc.2
    apply a1y
    intro y
    rw[a0T,a0T,a0D,a0D]
    by_cases e1:e.1=y
    ·subst e1;simp[h2]
    ·by_cases e2:e.2=y
     ·subst e2;simp[h3]
     ·simp[e1,e2]
   ·rfl
  show rnd set L (rst set s e)=s
  rw[h1]
  exact ih fun a ha=>h a (List.mem_cons_of_mem _ ha)
def ins (L:List (Nat×Nat)) (s:Nat):Nat:=(L.filter fun e=>bit s e.1&&bit s e.2).length
theorem c6n {α:Type} {p q:α->Bool} (h:∀x,p x=true->q x=true) (l:List α):(l.filter p).length<=(l.filter q).length:=by
 induction l with
 |nil=>exact Nat.le_refl _
 |cons a l ih=>
  rw[List.filter_cons,List.filter_cons]
  split
  ·rename_i hp;rw[if_pos (h a hp)];simp;exact ih
  ·split
   ·simp;omega
   ·exact ih
theorem d2g {α:Type} {p q:α->Bool} (h:∀x,p x=true->q x=true) {x:α} (hq:q x=true) (hp:p x=false):∀l:List α,x∈l->(l.filter p).length<(l.filter q).length:=by
 intro l
 induction l with
 |nil=>intro h;cases h
 |cons a l ih=>
  intro hx
  rw[List.filter_cons,List.filter_cons]
  rcases List.mem_cons.1 hx with rfl|hx
  ·rw[if_neg (by simp[hp]),if_pos hq];have:=c6n h l;simp;omega
  ·have:=ih hx
   split
   ·rename_i hpa;rw[if_pos (h a hpa)];simp;exact this
   ·split
    ·simp;omega
    ·exact this
theorem c7W {L:List (Nat×Nat)} {s:Nat} (h:L.length<=ins L s):∀e∈L,bit s e.1=true/\bit s e.2=true:=by
 have:(L.filter fun e=>bit s e.1&&bit s e.2).length=L.length:=Nat.le_antisymm (List.length_filter_le _ _) h
 rw[List.length_filter_eq_length_iff]at this
 intro e he
 simpa using this e he
theorem c7X {set:Nat} {L0:List (Nat×Nat)}:∀{L:List (Nat×Nat)} {s:Nat},(∀e∈L,e∈L0)->rnd set L s=s\/ins L0 s<ins L0 (rnd set L s):=by
 intro L
 induction L with
 |nil=>intro s _;exact .inl rfl
 |cons e L ih=>
  intro s hL
  have hm:∀x:Nat×Nat,(bit s x.1&&bit s x.2)=true->(bit (rst set s e) x.1&&bit (rst set s e) x.2)=true:=by
   intro x hx
   rw[Bool.and_eq_true]at hx⊢
   exact⟨a4j hx.1,a4j hx.2⟩
  by_cases h1:rst set s e=s
  ·have:rnd set (e::L) s=rnd set L s:=by show rnd set L (rst set s e)=_;rw[h1]
   rw[this]
   exact ih fun a ha=>hL a (List.mem_cons_of_mem _ ha)
  ·right
   have h2:(bit s e.1&&bit s e.2)=false:=by
    cases hc:(bit s e.1&&bit s e.2)with
    |false=>rfl
    |true=>
     exfalso
     apply h1
     rw[Bool.and_eq_true]at hc
     apply a1y
     intro y
     cases hy:bit s y with
     |true=>exact a4j hy
     |false=>
      unfold rst
      split
      ·rw[a0T,a0T,a0D,a0D,hy]
       by_cases e1:e.1=y
       ·rw[<-e1,hc.1]at hy;cases hy
       ·by_cases e2:e.2=y
        ·rw[<-e2,hc.2]at hy;cases hy
        ·simp[e1,e2]
      ·exact hy
   have h3:(bit (rst set s e) e.1&&bit (rst set s e) e.2)=true:=by
    unfold rst
    split
    ·simp[a0T,a0D]
    ·rename_i hc
     exact absurd (by unfold rst;rw[if_neg hc]) h1
   have h4:ins L0 s<ins L0 (rst set s e):=d2g hm h3 h2 L0 (hL e (by simp))
   have h5:ins L0 (rst set s e)<=ins L0 (rnd set L (rst set s e)):=c6n (fun x hx=>by
    rw[Bool.and_eq_true]at hx⊢
    exact⟨a2m hx.1,a2m hx.2⟩) L0
   exact Nat.lt_of_lt_of_le h4 h5
theorem c3K (set:Nat) (L:List (Nat×Nat)) (s:Nat):∀n,Clo set L (a2A set L n s)\/n<=ins L (a2A set L n s):=by
 intro n
 induction n with
 |zero=>exact .inr (Nat.zero_le _)
 |succ n ih=>
  rcases ih with h|h
  ·left;show Clo set L (rnd set L _);rw[b7H h];exact h
  ·rcases c7X (set:=set) (L0:=L) (L:=L) (s:=a2A set L n s) (fun _ h=>h)with h1|h1
   ·left;show Clo set L (rnd set L _);rw[h1];exact b2g h1
   ·right;show n+1<=ins L (rnd set L _);omega
theorem c3L (set:Nat) (L:List (Nat×Nat)) (s:Nat):Clo set L (a2A set L L.length s):=by
 rcases c3K set L s L.length with h|h
 ·exact h
 ·exact fun e he _ _ _=>c7W h e he
theorem a2a {set:Nat} {L:List (Nat×Nat)} (hL:∀e∈L,e.1<64/\e.2<64) {s:Nat} (hs:s<M64):∀n,a2A set L n s<M64/\(Clo set L (a2A set L n s)\/n<=card (a2A set L n s)):=by
 intro n
 induction n with
 |zero=>exact⟨hs,.inr (Nat.zero_le _)⟩
 |succ n ih=>
  refine⟨b0j hL ih.1,?_⟩
  rcases ih.2 with h|h
  ·left;show Clo set L (rnd set L _);rw[b7H h];exact h
  ·by_cases h1:rnd set L (a2A set L n s)=a2A set L n s
   ·left;show Clo set L (rnd set L _);rw[h1];exact b2g h1
   ·right
    obtain⟨x,hx1,hx2⟩:=b7G (fun e=>h1 e.symm) (fun y hy=>a2m (set:=set) (L:=L) hy)
    have:=a8R (fun y hy=>a2m (set:=set) (L:=L) hy) hx1 hx2 (a1D (b0j hL ih.1) hx1)
    show n+1<=card (rnd set L _);omega
theorem b7I {set:Nat} {L:List (Nat×Nat)} {s y:Nat} (h:bit s y=true):∀n,bit (a2A set L n s) y=true:=by
 intro n
 induction n with
 |zero=>exact h
 |succ n ih=>exact a2m ih
theorem c7Y {es:List (Nat×Nat)} {set s x:Nat} {e:Nat×Nat} (he:e∈es) (h:∀y,bit s y=true->Rch es set x y):∀y,bit (rst set s e) y=true->Rch es set x y:=by
 intro y hy
 unfold rst at hy
 split at hy
 ·rename_i hc
  simp only[Bool.and_eq_true,Bool.or_eq_true]at hc
  have a1:adj es e.1 e.2:=⟨e,he,.inl ⟨rfl,rfl⟩⟩
  have r1:Rch es set x e.1:=hc.2.elim (h _) fun h2=>(h _ h2).step a1.symm hc.1.1
  have r2:Rch es set x e.2:=hc.2.elim (fun h1=>(h _ h1).step a1 hc.1.2) (h _)
  rw[a0T,a0T,a0D,a0D,Bool.or_eq_true,Bool.or_eq_true]at hy
  rcases hy with(hy|hy)|hy
  ·exact h y hy
  ·have:=of_decide_eq_true hy;subst this;exact r1
  ·have:=of_decide_eq_true hy;subst this;exact r2
 ·exact h y hy
theorem c7Z {es:List (Nat×Nat)} {set x:Nat}:∀{L:List (Nat×Nat)} {s:Nat},(∀e∈L,e∈es)->(∀y,bit s y=true->Rch es set x y)->∀y,bit (rnd set L s) y=true->Rch es set x y:=by
 intro L
 induction L with
 |nil=>intro s _ h;exact h
 |cons e L ih=>intro s hL h;exact ih (fun a ha=>hL a (List.mem_cons_of_mem _ ha)) (c7Y (hL e (by simp)) h)
theorem b7J {es:List (Nat×Nat)} {set x n:Nat} (hx:bit set x=true) (h64:a2A set es n (2^x)<M64) (hc:Clo set es (a2A set es n (2^x))):CL es set x (a2A set es n (2^x)):=by
 refine⟨h64,fun y=>⟨?_,fun hy=> ?_⟩⟩
 ·have:∀m y,bit (a2A set es m (2^x)) y=true->Rch es set x y:=by
   intro m
   induction m with
   |zero=>intro y hy;have hy:bit (2^x) y=true:=hy;rw[a0D]at hy;have:=of_decide_eq_true hy;subst this;exact .base
   |succ m ih=>exact c7Z (fun _ h=>h) ih
  exact this n y
 ·induction hy with
  |base=>exact b7I (by rw[a0D];simp) n
  | @step u v h1 ha hz ih=>
   have hu:=h1.mem hx
   obtain⟨e,he,⟨rfl,rfl⟩|⟨rfl,rfl⟩⟩:=ha
   ·exact(hc e he hu hz (.inl ih)).2
   ·exact(hc e he hz hu (.inr ih)).1
end Go.GS
/- Forests. -/
namespace Go.GS
def a1r (f:Nat->Nat) (e:Nat×Nat):Nat->Nat:=fun x=>if f x=max (f e.1) (f e.2)then min (f e.1) (f e.2)else f x
def lab (L:List (Nat×Nat)):Nat->Nat:=L.foldl a1r id
theorem a2c (L:List (Nat×Nat)) (e:Nat×Nat):lab (L++[e])=a1r (lab L) e:=by
 unfold lab;rw[List.foldl_append];rfl
theorem a7L {f:Nat->Nat} {e:Nat×Nat} (h:f e.1=f e.2):a1r f e=f:=by
 funext x
 unfold a1r
 rw[h,Nat.max_self,Nat.min_self]
 split
 ·rename_i h;exact h.symm
 ·rfl
structure Lb (f:Nat->Nat):Prop where
 idm:∀x,f (f x)=f x
 le:∀x,f x<=x
theorem Lb.join {f:Nat->Nat} (h:Lb f) (e:Nat×Nat):Lb (a1r f e):=by
 by_cases hab:f e.1=f e.2
 ·rw[a7L hab];exact h
 have ha:=h.idm e.1
 have hb:=h.idm e.2
 refine⟨fun x=> ?_,fun x=> ?_⟩
 ·unfold a1r
  generalize f e.1=a at*
  generalize f e.2=b at*
  by_cases hx:f x=max a b
  ·rw[if_pos hx]
   by_cases hab2:a<=b
   ·rw[Nat.max_eq_right hab2,Nat.min_eq_left hab2,ha,if_neg hab]
   ·rw[Nat.max_eq_left (by omega),Nat.min_eq_right (by omega),hb,if_neg (fun h=>hab h.symm)]
  ·rw[if_neg hx,h.idm,if_neg hx]
 ·unfold a1r
  split
  ·rename_i hx
   have:=h.le x
   omega
  ·exact h.le x
theorem Lb.lab (L:List (Nat×Nat)):Lb (lab L):=by
 induction L using a2l with
 |nil=>exact⟨fun _=>rfl,fun _=>Nat.le_refl _⟩
 |snoc L e ih=>rw[a2c];exact ih.join e
def Inn (set:Nat) (L:List (Nat×Nat)):Prop:=∀e∈L,bit set e.1=true/\bit set e.2=true
theorem a3F {set:Nat} {L:List (Nat×Nat)} (h:Inn set L):∀x,bit set x=true->bit set (lab L x)=true:=by
 induction L using a2l with
 |nil=>exact fun _ h=>h
 |snoc L e ih=>
  have ih:=ih fun a ha=>h a (List.mem_append_left _ ha)
  have he:=h e (List.mem_append_right _ (List.mem_singleton.2 rfl))
  intro x hx
  rw[a2c]
  unfold a1r
  split
  ·rcases Nat.le_total (lab L e.1) (lab L e.2)with hh|hh
   ·rw[Nat.min_eq_left hh];exact ih _ he.1
   ·rw[Nat.min_eq_right hh];exact ih _ he.2
  ·exact ih x hx
def cnt (f:Nat->Nat) (set:Nat):Nat:=((List.range 64).filter fun x=>bit set x&&decide (f x=x)).length
theorem b7K {p q:Nat->Bool} {x:Nat} (hx:p x=true) (hq:∀y,q y=(p y&&decide (y≠x))):∀l:List Nat,x∈l->l.Nodup->(l.filter q).length+1=(l.filter p).length:=by
 intro l
 induction l with
 |nil=>intro h;cases h
 |cons a l ih=>
  intro hm hn
  rw[List.nodup_cons]at hn
  rcases List.mem_cons.1 hm with rfl|hm
  ·have:l.filter q=l.filter p:=by
    apply List.filter_congr
    intro y hy
    rw[hq]
    have:y≠x:=fun e=>hn.1 (e ▸ hy)
    simp[this]
   rw[List.filter_cons,List.filter_cons,if_pos hx,if_neg (by rw[hq];simp),this]
   rfl
  ·have hax:a≠x:=fun e=>hn.1 (e ▸ hm)
   have:=ih hm hn.2
   have hqa:q a=p a:=by rw[hq];simp[hax]
   rw[List.filter_cons,List.filter_cons,hqa]
   split
   ·simp only[List.length_cons];omega
   ·exact this
theorem c3M {f:Nat->Nat} (h:Lb f) {set:Nat} {e:Nat×Nat} (h1:bit set (f e.1)=true) (h2:bit set (f e.2)=true) (hs:set<M64) (hne:f e.1≠f e.2):cnt (a1r f e) set+1=cnt f set:=by
 have hm:bit set (max (f e.1) (f e.2))=true:=by
  rcases Nat.le_total (f e.1) (f e.2)with hh|hh
  ·rw[Nat.max_eq_right hh];exact h2
  ·rw[Nat.max_eq_left hh];exact h1
 have hfm:f (max (f e.1) (f e.2))=max (f e.1) (f e.2):=by
  rcases Nat.le_total (f e.1) (f e.2)with hh|hh
  ·rw[Nat.max_eq_right hh];exact h.idm _
  ·rw[Nat.max_eq_left hh];exact h.idm _
 refine b7K (x:=max (f e.1) (f e.2)) (by simp[hm,hfm]) (fun y=> ?_) _ (List.mem_range.2 (a1D hs hm)) List.nodup_range
 cases hy:bit set y with
 |false=>rfl
 |true=>
  simp only[Bool.true_and]
  rw[Bool.eq_iff_iff]
  simp only[decide_eq_true_eq,Bool.and_eq_true]
  unfold a1r
  constructor
  ·intro hj
   split at hj
   ·rename_i hfy
    have:=h.idm e.1
    have:=h.idm e.2
    exfalso
    rcases Nat.le_total (f e.1) (f e.2)with hh|hh
    ·rw[Nat.min_eq_left hh]at hj
     rw[Nat.max_eq_right hh,<-hj,h.idm]at hfy
     exact hne hfy
    ·rw[Nat.min_eq_right hh]at hj
     rw[Nat.max_eq_left hh,<-hj,h.idm]at hfy
     exact hne hfy.symm
   ·rename_i hfy
    exact⟨hj,fun e2=>hfy (by rw[hj,e2])⟩
  ·rintro⟨h3,h4⟩
   rw[if_neg (by rw[h3];exact h4)];exact h3
theorem d2h (set:Nat):cnt id set=card set:=by
 unfold cnt card els
 congr 1
 apply List.filter_congr
 intro x _;simp
def b2h:List (Nat×Nat)->Nat->Nat
 |_,0=>0
 |L,n+1=>b2h L n+match L[n]? with|some e=>if lab (L.take n) e.1=lab (L.take n) e.2 then 0 else 1|none=>0
theorem c3N (L:List (Nat×Nat)):∀n,b2h L n<=n:=by
 intro n
 induction n with
 |zero=>exact Nat.le_refl _
 |succ n ih=>
  unfold b2h
  split
  ·split<;>omega
  ·omega
def Acy (L:List (Nat×Nat)) (n:Nat):Prop:=∀i e,i<n->L[i]? =some e->lab (L.take i) e.1≠lab (L.take i) e.2
theorem a4k {L:List (Nat×Nat)}:∀n,n<=L.length->(b2h L n=n↔Acy L n):=by
 intro n
 induction n with
 |zero=>intro _;exact⟨fun _ i e hi=>by omega,fun _=>rfl⟩
 |succ n ih=>
  intro hn
  have ih:=ih (by omega)
  have hle:=c3N L n
  have he:L[n]? =some L[n]:=List.getElem?_eq_getElem hn
  unfold b2h
  rw[he]
  simp only
  constructor
  ·intro h
   split at h
   ·omega
   ·rename_i hne
    intro i e hi hie
    rcases Nat.lt_succ_iff_lt_or_eq.1 hi with hi|rfl
    ·exact ih.1 (by omega) i e hi hie
    ·rw[he]at hie;cases hie;exact hne
  ·intro h
   rw[if_neg (h n _ (by omega) he),ih.2 fun i e hi=>h i e (by omega)]
theorem a8S {L:List (Nat×Nat)} {set:Nat} (hs:set<M64) (h:Inn set L):∀n,n<=L.length->cnt (lab (L.take n)) set+b2h L n=card set:=by
 intro n
 induction n with
 |zero=>intro _;rw[List.take_zero];exact d2h set
 |succ n ih=>
  intro hn
  have ih:=ih (by omega)
  have he:L[n]? =some L[n]:=List.getElem?_eq_getElem hn
  have hin:=h _ (List.getElem_mem hn)
  have hI:Inn set (L.take n):=fun a ha=>h a (List.mem_of_mem_take ha)
  have ht:L.take (n+1)=L.take n++[L[n]]:=by rw[List.take_add_one,he];rfl
  rw[ht,a2c]
  unfold b2h
  rw[he]
  simp only
  split
  ·rename_i heq;rw[a7L heq];omega
  ·rename_i hne
   have:=c3M (Lb.lab (L.take n)) (a3F hI _ hin.1) (a3F hI _ hin.2) hs hne
   omega
def One (f:Nat->Nat) (set:Nat):Prop:=∀x y,bit set x=true->bit set y=true->f x=f y
theorem d7b {l:List Nat} (h:l.length=1):∃x,l=[x]:=by
 match l,h with
 |[x],_=>exact⟨x,rfl⟩
theorem c8a {f:Nat->Nat} (h:Lb f) {set:Nat} (hs:set<M64) (h0:set≠0) (hin:∀x,bit set x=true->bit set (f x)=true):cnt f set=1↔One f set:=by
 have hmem:∀x,x∈((List.range 64).filter fun x=>bit set x&&decide (f x=x))↔bit set x=true/\f x=x:=by
  intro x
  rw[List.mem_filter,List.mem_range]
  simp only[Bool.and_eq_true,decide_eq_true_eq]
  exact⟨fun h=>h.2,fun h=>⟨a1D hs h.1,h⟩⟩
 constructor
 ·intro hc
  obtain⟨c,hl⟩:=d7b hc
  have key:∀x,bit set x=true->f x=c:=by
   intro x hx
   have:=(hmem (f x)).2 ⟨hin x hx,h.idm x⟩
   rw[hl]at this
   simpa using this
  intro x y hx hy
  rw[key x hx,key y hy]
 ·intro h1
  obtain⟨x,hx⟩:∃x,bit set x=true:=by
   apply Classical.byContradiction
   intro hn
   exact h0 (a1y fun y=>by rw[a1L];cases hy:bit set y with|false=>rfl|true=>exact absurd ⟨y,hy⟩ hn)
  have hc:=(hmem (f x)).2 ⟨hin x hx,h.idm x⟩
  unfold cnt
  have hnd:((List.range 64).filter fun x=>bit set x&&decide (f x=x)).Nodup:=List.Pairwise.filter _ List.nodup_range
  generalize hg:((List.range 64).filter fun x=>bit set x&&decide (f x=x))=l at*
  match l,hc with
  |[a],_=>rfl
  |a::b::r,_=>
   exfalso
   have ha:=(hmem a).1 (by simp)
   have hb:=(hmem b).1 (by simp)
   have:a=b:=by rw[<-ha.2,<-hb.2];exact h1 a b ha.1 hb.1
   subst this
   simp at hnd
theorem b2i {L:List (Nat×Nat)} {set:Nat} (h:Inn set L) {x y:Nat} (hx:bit set x=true) (hy:bit set y=true):lab L x=lab L y↔Rch L set x y:=by
 constructor
 ·--each node reaches its label
  have key:∀L0:List (Nat×Nat),(∀e∈L0,e∈L)->∀z,bit set z=true->Rch L set z (lab L0 z):=by
   intro L0
   induction L0 using a2l with
   |nil=>intro _ z _;exact .base
   |snoc L0 e ih=>
    intro hL z hz
    have ih:=ih fun a ha=>hL a (List.mem_append_left _ ha)
    have he:=hL e (List.mem_append_right _ (List.mem_singleton.2 rfl))
    have hie:=h e he
    rw[a2c]
    unfold a1r
    split
    ·rename_i hf
     have a1:adj L e.1 e.2:=⟨e,he,.inl ⟨rfl,rfl⟩⟩
     have r1:=ih e.1 hie.1
     have r2:=ih e.2 hie.2
     have hz':=ih z hz
     have e12:Rch L set e.1 e.2:=Rch.base.step a1 hie.2
     rcases Nat.le_total (lab L0 e.1) (lab L0 e.2)with hh|hh
     ·rw[Nat.max_eq_right hh]at hf
      rw[Nat.min_eq_left hh]
      rw[hf]at hz'
      exact hz'.trans ((r2.symm hie.2).trans ((e12.symm hie.1).trans r1))
     ·rw[Nat.max_eq_left hh]at hf
      rw[Nat.min_eq_right hh]
      rw[hf]at hz'
      exact hz'.trans ((r1.symm hie.1).trans (e12.trans r2))
    ·exact ih z hz
  intro e
  have h1:=key L (fun _ h=>h) x hx
  have h2:=key L (fun _ h=>h) y hy
  rw[e]at h1
  exact h1.trans (h2.symm hy)
 ·intro hr
  have hadj:∀a b,adj L a b->lab L a=lab L b:=by
   have key:∀(L0:List (Nat×Nat)) (f:Nat->Nat),(∀a b,f a=f b->(L0.foldl a1r f) a=(L0.foldl a1r f) b)/\∀e∈L0,(L0.foldl a1r f) e.1=(L0.foldl a1r f) e.2:=by
    intro L0
    induction L0 with
    |nil=>intro f;exact⟨fun _ _ h=>h,fun e he=>by cases he⟩
    |cons e L0 ih=>
     intro f
     have hk:∀a b,f a=f b->a1r f e a=a1r f e b:=fun a b hab=>by unfold a1r;rw[hab]
     refine⟨fun a b hab=>(ih (a1r f e)).1 a b (hk a b hab),fun a ha=> ?_⟩
     rcases List.mem_cons.1 ha with rfl|ha
     ·apply(ih (a1r f a)).1
      unfold a1r
      by_cases hab:f a.1<=f a.2
      ·rw[Nat.max_eq_right hab,Nat.min_eq_left hab,if_pos rfl];split<;>rfl
      ·rw[Nat.max_eq_left (by omega),Nat.min_eq_right (by omega),if_pos rfl];split<;>rfl
     ·exact(ih (a1r f e)).2 a ha
   rintro a b ⟨e,he,⟨rfl,rfl⟩|⟨rfl,rfl⟩⟩
   ·exact(key L id).2 e he
   ·exact((key L id).2 e he).symm
  clear hy
  induction hr with
  |base=>rfl
  |step h1 ha hz ih=>rw[ih,hadj _ _ ha]
end Go.GS
/- Spanning trees. -/
namespace Go.GS
def Ed (es:List (Nat×Nat)) (i:Int):Nat×Nat:=es.getD i.toNat (0,0)
def etl (es:List (Nat×Nat)) (t:List Int):List (Nat×Nat):=t.map (Ed es)
def OkI (es:List (Nat×Nat)) (set:Nat) (i:Int):Prop:=0<=i/\i.toNat<es.length/\bit set (Ed es i).1=true/\bit set (Ed es i).2=true
structure TreeOk (es:List (Nat×Nat)) (set:Nat) (t:List Int):Prop where
 asc:t.Pairwise (· < ·)
 ok:∀i∈t,OkI es set i
 acy:Acy (etl es t) t.length
 len:t.length+1=card set
noncomputable def trE (n:Nat) (es:List (Nat×Nat)) (set:Nat) (t:List Int):Int:=if set≠0/\set<2^n then @ite Int (TreeOk es set t) (Classical.propDecidable _) 0 300 else 2
theorem b7L {n:Nat} {es:List (Nat×Nat)} {set:Nat} {t:List Int} (h1:set≠0/\set<2^n) (h2:TreeOk es set t):trE n es set t=0:=by
 unfold trE;rw[if_pos h1];exact @if_pos _ (Classical.propDecidable _) h2 _ _ _
theorem b0k {n:Nat} {es:List (Nat×Nat)} {set:Nat} {t:List Int} (h1:set≠0/\set<2^n) (h2:¬TreeOk es set t):trE n es set t=300:=by
 unfold trE;rw[if_pos h1];exact @if_neg _ (Classical.propDecidable _) h2 _ _ _
theorem c8b {n:Nat} {es:List (Nat×Nat)} {set:Nat} {t:List Int} (h1:¬(set≠0/\set<2^n)):trE n es set t=2:=if_neg h1
theorem c3O {n:Nat} {es:List (Nat×Nat)} {set:Nat} {t:List Int} (h:trE n es set t=0):(set≠0/\set<2^n)/\TreeOk es set t:=by
 unfold trE at h
 split at h
 ·rename_i h1
  refine⟨h1,Classical.byContradiction fun h2=> ?_⟩
  rw[@if_neg _ (Classical.propDecidable _) h2]at h;cases h
 ·cases h
theorem a4l {es:List (Nat×Nat)} {m:Nat} (h:m<es.length):es[m]? =some (Ed es (m:Int)):=by
 unfold Ed;rw[Int.toNat_natCast,List.getD_eq_getElem?_getD,List.getElem?_eq_getElem h];rfl
theorem c3P (es:List (Nat×Nat)) (t:List Int) (i:Nat):(etl es t).take i=etl es (t.take i):=by unfold etl;rw[List.map_take]
theorem d2i {es:List (Nat×Nat)} {t:List Int} {i:Nat} {x:Int} (h:t[i]? =some x):(etl es t)[i]? =some (Ed es x):=by unfold etl;rw[List.getElem?_map,h];rfl
theorem a2d (es:List (Nat×Nat)) (t:List Int) (x:Int):etl es (t++[x])=etl es t++[Ed es x]:=by unfold etl;rw[List.map_append];rfl
theorem d5p {t:List Int} (h:t.Pairwise (· < ·)) {i:Nat} {a x:Int} (ha:a∈t.take i) (hx:t[i]? =some x):a<x:=by
 obtain⟨hi,rfl⟩:=List.getElem?_eq_some_iff.1 hx
 rw[List.mem_take_iff_getElem]at ha
 obtain⟨j,hj,rfl⟩:=ha
 exact List.pairwise_iff_getElem.1 h j i (by omega) hi (by omega)
theorem b2j {t:List Int} (h:t.Pairwise (· < ·)) {x:Int} (hx:∀a∈t,a<x):(t++[x]).Pairwise (· < ·):=by
 rw[List.pairwise_append]
 exact⟨h,List.pairwise_singleton _ _,fun a ha b hb=>by rw[List.mem_singleton]at hb;subst hb;exact hx a ha⟩
theorem Acy.snoc {L:List (Nat×Nat)} {e:Nat×Nat} (h:Acy L L.length) (he:lab L e.1≠lab L e.2):Acy (L++[e]) (L.length+1):=by
 intro i a hi ha
 by_cases hl:i<L.length
 ·rw[List.getElem?_append_left hl]at ha
  rw[List.take_append_of_le_length (by omega)]
  exact h i a hl ha
 ·have hi:i=L.length:=by omega
  subst hi
  rw[List.getElem?_append_right (Nat.le_refl _),Nat.sub_self]at ha
  cases ha
  rw[List.take_left']
  ·exact he
  ·rfl
theorem TreeOk.inn {es:List (Nat×Nat)} {set:Nat} {t:List Int} (h:TreeOk es set t):Inn set (etl es t):=by
 intro e he
 unfold etl at he
 rw[List.mem_map]at he
 obtain⟨i,hi,rfl⟩:=he
 exact(h.ok i hi).2.2
def a1W:Nat:=18446744073709551615
theorem a4m {x:Nat} (h:x<64):bit a1W x=true:=by
 have:a1W=2^64-1:=by decide
 unfold bit;rw[this,Nat.testBit_two_pow_sub_one];exact decide_eq_true h
theorem b7M {s a b:Nat}:s&&&(2^a|||2^b)=0↔bit s a=false/\bit s b=false:=by
 constructor
 ·intro h
  have h1:bit (s&&&(2^a|||2^b)) a=false:=by rw[h,a1L]
  have h2:bit (s&&&(2^a|||2^b)) b=false:=by rw[h,a1L]
  rw[a2Z,a0T,a0D,a0D]at h1 h2
  simp at h1 h2
  exact⟨h1,h2⟩
 ·rintro⟨h1,h2⟩
  apply a1y
  intro y
  rw[a2Z,a0T,a0D,a0D,a1L]
  by_cases e1:a=y
  ·subst e1;simp[h1]
  ·by_cases e2:b=y
   ·subst e2;simp[h2]
   ·simp[e1,e2]
theorem c6o {s a b:Nat}:s&&&(2^a|||2^b)=2^a|||2^b↔bit s a=true/\bit s b=true:=by
 constructor
 ·intro h
  have h1:bit (s&&&(2^a|||2^b)) a=bit (2^a|||2^b) a:=by rw[h]
  have h2:bit (s&&&(2^a|||2^b)) b=bit (2^a|||2^b) b:=by rw[h]
  rw[a2Z,a0T,a0D,a0D]at h1 h2
  simp at h1 h2
  exact⟨h1,h2⟩
 ·rintro⟨h1,h2⟩
  apply a1y
  intro y
  rw[a2Z,a0T,a0D,a0D]
  by_cases e1:a=y
  ·subst e1;simp[h1]
  ·by_cases e2:b=y
   ·subst e2;simp[h2]
   ·simp[e1,e2]
theorem b3p {s:Nat} {e:Nat×Nat} (h1:e.1<64) (h2:e.2<64):rst a1W s e=if bit s e.1||bit s e.2 then s|||(2^e.1|||2^e.2)else s:=by
 unfold rst
 rw[a4m h1,a4m h2,Nat.or_assoc];rfl
theorem c8c {s a b:Nat} (h1:bit s a=true) (h2:bit s b=true):s|||(2^a|||2^b)=s:=by
 apply a1y
 intro y
 rw[a0T,a0T,a0D,a0D]
 by_cases e1:a=y
 ·subst e1;simp[h1]
 ·by_cases e2:b=y
  ·subst e2;simp[h2]
  ·simp[e1,e2]
def reach (L:List (Nat×Nat)) (x:Nat):Nat:=a2A a1W L 64 (2^x)
theorem b5V {L:List (Nat×Nat)} (hL:∀e∈L,e.1<64/\e.2<64) {x:Nat} (hx:x<64):Clo a1W L (a2A a1W L 64 (2^x)):=by
 have h:=a2a (set:=a1W) hL (a0N hx) 64
 rcases h.2 with h2|h2
 ·exact h2
 ·intro e he _ _ _
  have hall:∀y,y<64->bit (a2A a1W L 64 (2^x)) y=true:=by
   unfold card els at h2
   have:((List.range 64).filter (bit (a2A a1W L 64 (2^x)))).length=(List.range 64).length:=Nat.le_antisymm (List.length_filter_le _ _) (by rw[List.length_range];exact h2)
   rw[List.length_filter_eq_length_iff]at this
   exact fun y hy=>this y (List.mem_range.2 hy)
  exact⟨hall _ (hL e he).1,hall _ (hL e he).2⟩
theorem a2J {L:List (Nat×Nat)} (hL:∀e∈L,e.1<64/\e.2<64) {x:Nat} (hx:x<64):CL L a1W x (reach L x):=
 b7J (a4m hx) (a2a hL (a0N hx) 64).1 (b5V hL hx)
theorem b7N {L:List (Nat×Nat)} (hL:∀e∈L,e.1<64/\e.2<64) {x r:Nat} (hx:x<64) (h:Clo a1W L (a2A a1W L r (2^x))):a2A a1W L r (2^x)=reach L x:=
 (b7J (a4m hx) (a2a hL (a0N hx) r).1 h).uniq (a2J hL hx)
theorem a8T {L:List (Nat×Nat)} {set x y:Nat} (hs:set<M64) (h:Inn set L) (hx:bit set x=true):Rch L a1W x y↔Rch L set x y:=by
 constructor
 ·intro hr
  induction hr with
  |base=>exact .base
  |step h1 ha hz ih=>
   refine ih.step ha ?_
   obtain⟨e,he,⟨_,rfl⟩|⟨_,rfl⟩⟩:=ha
   ·exact(h e he).2
   ·exact(h e he).1
 ·intro hr
  induction hr with
  |base=>exact .base
  |step h1 ha hz ih=>exact ih.step ha (a4m (a1D hs hz))
end Go.GS
/- Spanning trees, part 2. -/
namespace Go.GS
theorem sub_le {a b:Nat} (h:∀y,bit b y=true->bit a y=true):b<=a:=by
 have:b=a&&&b:=a1y fun y=>by
  rw[a2Z]
  cases hb:bit b y with
  |false=>simp
  |true=>simp[h y hb]
 rw[this];exact Nat.and_le_left
instance (es:List (Nat×Nat)) (set:Nat) (i:Int):Decidable (OkI es set i):=inferInstanceAs (Decidable (_/\_/\_/\_))
theorem b0l {n:Nat} {es:List (Nat×Nat)} (hg:GV n es) {t:List Int} (ht:∀i∈t,0<=i/\i.toNat<es.length):∀e∈etl es t,e.1<64/\e.2<64:=by
 intro e he
 have h64:=hg.n64
 unfold etl at he
 rw[List.mem_map]at he
 obtain⟨i,hi,rfl⟩:=he
 obtain⟨h1,h2⟩:=ht i hi
 have:=a4l (es:=es) h2
 rw[Int.toNat_of_nonneg h1]at this
 have:=hg.mem this
 omega
theorem b7O {L:List (Nat×Nat)} {set x:Nat} (hs:set<M64) (h:Inn set L) (hx:bit set x=true):∀y,bit (reach L x) y=true->bit set y=true:=by
 have hL:∀e∈L,e.1<64/\e.2<64:=fun e he=>⟨a1D hs (h e he).1,a1D hs (h e he).2⟩
 intro y hy
 have hr:=((a2J hL (a1D hs hx)).2 y).1 hy
 rw[a8T hs h hx]at hr
 exact hr.mem hx
theorem b5W {set:Nat} (hs:set<M64) (h0:set≠0):∃x r,els set=x::r/\bit set x=true/\x<64/\∀j,j<x->bit set j=false:=by
 cases h:els set with
 |nil=>exact absurd (a4M hs h) h0
 |cons x r=>obtain⟨h1,h2,h3⟩:=a3x h;exact⟨x,r,rfl,h1,h2,h3⟩
def a2B (es:List (Nat×Nat)) (set:Nat) (t:List Int) (k:Int):Nat:=reach (etl es (t.filter fun i=>decide (i≠k))) ((els set).headD 64)
noncomputable def a9z (es:List (Nat×Nat)) (wl:List Int) (lo hi:Int) (set:Nat) (t l:List Int):List Int:=l.filter fun k=>alB es wl lo hi (a2B es set t k)&&alB es wl lo hi (sdf set (a2B es set t k))
theorem b3q {es:List (Nat×Nat)} {set:Nat} {t:List Int} (hs:set<M64) (h0:set≠0) (ht:TreeOk es set t) (k:Int):∀y,bit (a2B es set t k) y=true->bit set y=true:=by
 obtain⟨x,r,hel,hx,_⟩:=b5W hs h0
 unfold a2B
 rw[hel]
 refine b7O hs (fun e he=>ht.inn e ?_) hx
 unfold etl at he⊢
 rw[List.mem_map]at he⊢
 obtain⟨i,hi,rfl⟩:=he
 exact⟨i,(List.mem_filter.1 hi).1,rfl⟩
theorem a8U {a b n:Nat} (hb:b<2^n) (h:∀y,bit a y=true->bit b y=true):a<2^n:=Nat.lt_of_le_of_lt (sub_le h) hb
end Go.GS
/- All spanning trees: how many at most, and that there is one. -/
namespace Go.GS
def inB (set:Nat) (e:Nat×Nat):Bool:=bit set e.1&&bit set e.2
def a4a (es:List (Nat×Nat)) (set i:Nat):Nat:=((es.drop i).filter (inB set)).length
theorem b3r {es:List (Nat×Nat)} {set i:Nat} {e:Nat×Nat} (h:es[i]? =some e) (hb:inB set e=true):a4a es set i=a4a es set (i+1)+1:=by
 obtain⟨hi,rfl⟩:=List.getElem?_eq_some_iff.1 h
 unfold a4a
 rw[List.drop_eq_getElem_cons hi,List.filter_cons,if_pos hb];rfl
theorem b2k (es:List (Nat×Nat)) (set i:Nat):a4a es set (i+1)<=a4a es set i:=by
 unfold a4a
 by_cases hi:i<es.length
 ·rw[List.drop_eq_getElem_cons hi,List.filter_cons]
  split
  ·simp
  ·exact Nat.le_refl _
 ·rw[List.drop_eq_nil_of_le (by omega),List.drop_eq_nil_of_le (by omega)];exact Nat.le_refl _
theorem b0m (es:List (Nat×Nat)) (set:Nat) {i j:Nat} (h:i<=j):a4a es set j<=a4a es set i:=by
 induction h with
 |refl=>exact Nat.le_refl _
 |step _ ih=>exact Nat.le_trans (b2k es set _) ih
def Spn (es:List (Nat×Nat)) (set:Nat) (b:List Int) (j:Nat):Prop:=∀x y,bit set x=true->bit set y=true->Rch (etl es b++(es.drop j).filter (inB set)) set x y
theorem a8V {L L':List (Nat×Nat)} {set:Nat} (h:∀e∈L,bit set e.1=true->bit set e.2=true->Rch L' set e.1 e.2) {x y:Nat} (hx:bit set x=true) (hr:Rch L set x y):Rch L' set x y:=by
 induction hr with
 |base=>exact .base
 |step h1 ha hz ih=>
  have hy:=h1.mem hx
  obtain⟨e,he,⟨rfl,rfl⟩|⟨rfl,rfl⟩⟩:=ha
  ·exact ih.trans (h e he hy hz)
  ·exact ih.trans ((h e he hz hy).symm hz)
theorem a5F {L:List (Nat×Nat)} {set:Nat} {e:Nat×Nat} (he:e∈L) (h2:bit set e.2=true):Rch L set e.1 e.2:=Rch.base.step ⟨e,he,.inl ⟨rfl,rfl⟩⟩ h2
theorem Spn.start {es:List (Nat×Nat)} {set:Nat} (h:Cn es set):Spn es set [] 0:=by
 intro x y hx hy
 refine a8V (fun e he h1 h2=>a5F ?_ h2) hx (h.all hx hy)
 rw[List.drop_zero,List.mem_append]
 exact .inr (List.mem_filter.2 ⟨he,by unfold inB;rw[h1,h2];rfl⟩)
theorem Spn.skip {es:List (Nat×Nat)} {set j:Nat} {b:List Int} {e:Nat×Nat} (h:Spn es set b j) (he:es[j]? =some e) (hn:inB set e=false):Spn es set b (j+1):=by
 obtain⟨hi,rfl⟩:=List.getElem?_eq_some_iff.1 he
 intro x y hx hy
 have:=h x y hx hy
 rw[List.drop_eq_getElem_cons hi,List.filter_cons,if_neg (by rw[hn];decide)]at this
 exact this
theorem Spn.cyc {es:List (Nat×Nat)} {set j:Nat} {b:List Int} {e:Nat×Nat} (h:Spn es set b j) (he:es[j]? =some e) (hr:Rch (etl es b) set e.1 e.2):Spn es set b (j+1):=by
 obtain⟨hi,rfl⟩:=List.getElem?_eq_some_iff.1 he
 intro x y hx hy
 refine a8V (fun a ha h1 h2=> ?_) hx (h x y hx hy)
 rw[List.drop_eq_getElem_cons hi,List.filter_cons]at ha
 have key:a∈etl es b++(es.drop (j+1)).filter (inB set)\/a=es[j]:=by
  rw[List.mem_append]at ha⊢
  rcases ha with ha|ha
  ·exact .inl (.inl ha)
  ·split at ha
   ·rcases List.mem_cons.1 ha with rfl|ha
    ·exact .inr rfl
    ·exact .inl (.inr ha)
   ·exact .inl (.inr ha)
 rcases key with ha|rfl
 ·exact a5F ha h2
 ·exact a8V (fun a ha h1 h2=>a5F (List.mem_append_left _ ha) h2) h1 hr
theorem Spn.take {es:List (Nat×Nat)} {set j:Nat} {b:List Int} (h:Spn es set b j) (hj:j<es.length):Spn es set (b++[(j:Int)]) (j+1):=by
 intro x y hx hy
 refine a8V (fun a ha h1 h2=>a5F ?_ h2) hx (h x y hx hy)
 have hE:Ed es (j:Int)=es[j]:=by
  have:=a4l hj
  rw[List.getElem?_eq_getElem hj]at this
  exact(Option.some.inj this).symm
 rw[a2d,hE]
 rw[List.drop_eq_getElem_cons hj,List.filter_cons]at ha
 simp only[List.mem_append,List.mem_singleton]at ha⊢
 rcases ha with ha|ha
 ·exact .inl (.inl ha)
 ·split at ha
  ·rcases List.mem_cons.1 ha with rfl|ha
   ·exact .inl (.inr rfl)
   ·exact .inr ha
  ·exact .inr ha
theorem Spn.end {es:List (Nat×Nat)} {set j:Nat} {b:List Int} (hs:set<M64) (h0:set≠0) (h:Spn es set b j) (hj:es.length<=j) (hin:Inn set (etl es b)) (hac:Acy (etl es b) (etl es b).length):(etl es b).length+1=card set:=by
 have h1:One (lab (etl es b)) set:=fun x y hx hy=>by
  rw[b2i hin hx hy]
  have:=h x y hx hy
  rw[List.drop_eq_nil_of_le hj,List.filter_nil,List.append_nil]at this
  exact this
 have h2:=(c8a (Lb.lab (etl es b)) hs h0 (a3F hin)).2 h1
 have h3:=a8S hs hin (etl es b).length (Nat.le_refl _)
 rw[List.take_length,h2,(a4k _ (Nat.le_refl _)).2 hac]at h3
 omega
structure Beg (es:List (Nat×Nat)) (set:Nat) (b:List Int):Prop where
 asc:b.Pairwise (· < ·)
 ok:∀i∈b,OkI es set i
 acy:Acy (etl es b) (etl es b).length
theorem Beg.nil (es:List (Nat×Nat)) (set:Nat):Beg es set []:=⟨List.Pairwise.nil,(fun a ha=>by cases ha),(fun i e hi=>by cases hi)⟩
theorem Beg.inn {es:List (Nat×Nat)} {set:Nat} {b:List Int} (h:Beg es set b):Inn set (etl es b):=by
 intro e he
 unfold etl at he
 rw[List.mem_map]at he
 obtain⟨i,hi,rfl⟩:=he
 exact(h.ok i hi).2.2
theorem Beg.tree {es:List (Nat×Nat)} {set:Nat} {b:List Int} (h:Beg es set b) (hl:b.length+1=card set):TreeOk es set b:=
 ⟨h.asc,h.ok,by have:=h.acy;rw[show(etl es b).length=b.length from List.length_map _]at this;exact this,hl⟩
theorem Beg.snoc {es:List (Nat×Nat)} {set:Nat} {b:List Int} {j:Nat} (hs:set<M64) (h:Beg es set b) (hlt:∀i∈b,i<(j:Int)) (hok:OkI es set (j:Nat)) (hr:bit (reach (etl es b) (Ed es (j:Nat)).1) (Ed es (j:Nat)).2=false):Beg es set (b++[(j:Int)]):=by
 refine⟨b2j h.asc hlt,?_,?_⟩
 ·intro i hi
  rw[List.mem_append,List.mem_singleton]at hi
  rcases hi with hi|rfl
  ·exact h.ok i hi
  ·exact hok
 ·rw[a2d,List.length_append]
  refine h.acy.snoc fun he=> ?_
  have hL:∀e∈etl es b,e.1<64/\e.2<64:=fun e he=>⟨a1D hs (h.inn e he).1,a1D hs (h.inn e he).2⟩
  have hcl:=a2J hL (a1D hs hok.2.2.1)
  rw[b2i h.inn hok.2.2.1 hok.2.2.2,<-a8T hs h.inn hok.2.2.1,<-hcl.2,hr]at he
  cases he
theorem Beg.cyc {es:List (Nat×Nat)} {set:Nat} {b:List Int} {j:Nat} (hs:set<M64) (h:Beg es set b) (hok:OkI es set (j:Nat)) (hr:bit (reach (etl es b) (Ed es (j:Nat)).1) (Ed es (j:Nat)).2=true):Rch (etl es b) set (Ed es (j:Nat)).1 (Ed es (j:Nat)).2:=by
 have hL:∀e∈etl es b,e.1<64/\e.2<64:=fun e he=>⟨a1D hs (h.inn e he).1,a1D hs (h.inn e he).2⟩
 have hcl:=a2J hL (a1D hs hok.2.2.1)
 rw[<-a8T hs h.inn hok.2.2.1]
 exact(hcl.2 _).1 hr
theorem Beg.len {es:List (Nat×Nat)} {set:Nat} {b:List Int} (hs:set<M64) (h0:set≠0) (h:Beg es set b):b.length+1<=card set:=by
 have h3:=a8S hs h.inn (etl es b).length (Nat.le_refl _)
 rw[List.take_length,(a4k _ (Nat.le_refl _)).2 h.acy,show(etl es b).length=b.length from List.length_map _]at h3
 obtain⟨x,r,_,hx,hx64,_⟩:=b5W hs h0
 have:0<cnt (lab (etl es b)) set:=by
  have hm:lab (etl es b) x∈((List.range 64).filter fun x=>bit set x&&decide (lab (etl es b) x=x)):=by
   have hin:=a3F h.inn x hx
   rw[List.mem_filter]
   exact⟨List.mem_range.2 (a1D hs hin),by rw[hin,(Lb.lab (etl es b)).idm];simp⟩
  exact List.length_pos_of_mem hm
 omega
end Go.GS
/- How many edges a small set has. -/
namespace Go.GS
def prs:List Nat->List (Nat×Nat)
 |[]=>[]
 |a::r=>r.map (fun b=>(a,b))++prs r
def tri:Nat->Nat
 |0=>0
 |n+1=>n+tri n
theorem c8d (l:List Nat):(prs l).length=tri l.length:=by
 induction l with
 |nil=>rfl
 |cons a r ih=>simp only[prs,List.length_append,List.length_map,List.length_cons,tri,ih]
theorem c3Q {m n:Nat} (h:m<=n):tri m<=tri n:=by
 induction h with
 |refl=>exact Nat.le_refl _
 |step _ ih=>exact Nat.le_trans ih (Nat.le_add_left _ _)
theorem c8e {l:List Nat} (hl:l.Pairwise (· < ·)) {x y:Nat} (hx:x∈l) (hy:y∈l) (hxy:x<y):(x,y)∈prs l:=by
 induction l with
 |nil=>cases hx
 |cons a r ih=>
  rw[List.pairwise_cons]at hl
  simp only[prs,List.mem_append,List.mem_map]
  rcases List.mem_cons.1 hx with hxa|hx
  ·subst hxa
   rcases List.mem_cons.1 hy with hya|hy
   ·omega
   ·exact .inl ⟨y,hy,rfl⟩
  ·rcases List.mem_cons.1 hy with hya|hy
   ·have:=hl.1 x hx;omega
   ·exact .inr (ih hl.2 hx hy)
theorem c3R {α:Type} [DecidableEq α]:∀{l m:List α},l.Nodup->(∀x∈l,x∈m)->l.length<=m.length:=by
 intro l
 induction l with
 |nil=>intro m _ _;exact Nat.zero_le _
 |cons a l ih=>
  intro m hn hs
  rw[List.nodup_cons]at hn
  have ha:=hs a (by simp)
  have:=ih (m:=m.erase a) hn.2 fun x hx=>(List.mem_erase_of_ne (fun e:x=a=>by subst e;exact hn.1 hx)).2 (hs x (List.mem_cons_of_mem _ hx))
  rw[List.length_erase_of_mem ha]at this
  have:=List.length_pos_of_mem ha
  rw[List.length_cons];omega
theorem c3S {n:Nat} {es:List (Nat×Nat)} (hg:GV n es) {set:Nat} (hs:set<M64):a4a es set 0<=tri (card set):=by
 unfold a4a
 rw[List.drop_zero,show card set=(els set).length from rfl,<-c8d]
 have hnd:es.Nodup:=hg.ord.imp fun h e=>by subst e;rcases h with h|h<;>omega
 refine c3R (List.Pairwise.filter _ hnd) fun e he=> ?_
 rw[List.mem_filter]at he
 have h1:=hg.ed e he.1
 have h2:=he.2
 unfold inB at h2
 rw[Bool.and_eq_true]at h2
 exact c8e (a3a set) ((a2v hs).2 h2.1) ((a2v hs).2 h2.2) h1.1
theorem c8f {n:Nat} {es:List (Nat×Nat)} (hg:GV n es) {set:Nat} (hs:set<M64) (h9:card set<=9):a4a es set 0<=36:=
 Nat.le_trans (c3S hg hs) (c3Q h9)
end Go.GS

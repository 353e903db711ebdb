/- Lists that are put in order; where an edge stands. -/
import Derived.Test.YtkcjbfoejpfbbaaGreatDoorGsC
namespace Go.GS
def SoT (l:List Int) (i:Nat):Prop:=∀a b x y,a<b->b<i->l[a]? =some x->l[b]? =some y->x<=y
def d5d (l0 l:List Int) (i j:Nat):Prop:=l.Perm l0/\∀a b x y,a<b->b<=i->b≠j->l[a]? =some x->l[b]? =some y->x<=y
theorem d7C {l:List Int} {j:Nat} {x y:Int} (hj:j<l.length) (h0:0<j) (a:Nat):((l.set j y).set (j-1) x)[a]? =if a=j-1 then some x else if a=j then some y else l[a]?:=by
 by_cases h1:a=j-1
 ·subst h1;rw[List.getElem?_set_self (by rw[List.length_set];omega),if_pos rfl]
 ·rw[List.getElem?_set_ne (fun e=>h1 e.symm),if_neg h1]
  by_cases h2:a=j
  ·subst h2;rw[List.getElem?_set_self hj,if_pos rfl]
  ·rw[List.getElem?_set_ne (fun e=>h2 e.symm),if_neg h2]
theorem d2d {l:List Int} {j:Nat} {x y:Int} (hx:l[j]? =some x) (hy:l[j-1]? =some y):((l.set j y).set (j-1) x).Perm l:=by
 obtain⟨h1,rfl⟩:=List.getElem?_eq_some_iff.1 hx
 obtain⟨h2,rfl⟩:=List.getElem?_eq_some_iff.1 hy
 exact List.set_set_perm h1 h2
theorem c3Y {l0 l:List Int} {i:Nat} (hp:l.Perm l0) (h:SoT l i):d5d l0 l i i:=⟨hp,fun a b x y hab hb hne hx hy=>h a b x y hab (by omega) hx hy⟩
theorem c7N {l0 l:List Int} {i j:Nat} {x y:Int} (h:d5d l0 l i j) (hx:l[j]? =some x) (hy:l[j-1]? =some y) (h0:0<j) (hji:j<=i) (hxy:x<y):d5d l0 ((l.set j y).set (j-1) x) i (j-1):=by
 have hj:=(List.getElem?_eq_some_iff.1 hx).1
 refine⟨(d2d hx hy).trans h.1,fun a b u v hab hb hne hu hv=> ?_⟩
 rw[d7C hj h0]at hu hv
 rw[if_neg hne]at hv
 by_cases hbj:b=j
 ·subst hbj
  rw[if_pos rfl]at hv
  simp only[Option.some.injEq]at hv;subst hv
  by_cases ha:a=b-1
  ·rw[if_pos ha]at hu;simp only[Option.some.injEq]at hu;omega
  ·rw[if_neg ha,if_neg (by omega)]at hu
   exact h.2 a (b-1) u y (by omega) (by omega) (by omega) hu hy
 ·rw[if_neg hbj]at hv
  by_cases ha:a=j-1
  ·rw[if_pos ha]at hu;simp only[Option.some.injEq]at hu;subst hu
   exact h.2 j b x v (by omega) hb hbj hx hv
  ·rw[if_neg ha]at hu
   by_cases ha2:a=j
   ·rw[if_pos ha2]at hu;simp only[Option.some.injEq]at hu;subst hu
    exact h.2 (j-1) b y v (by omega) hb hbj hy hv
   ·rw[if_neg ha2]at hu
    exact h.2 a b u v hab hb hbj hu hv
theorem c3Z {l0 l:List Int} {i j:Nat} (h:d5d l0 l i j) (hj:j=0\/∃x y,l[j]? =some x/\l[j-1]? =some y/\¬x<y):SoT l (i+1):=fun a b x y hab hb hx hy=>by
 by_cases hbj:b=j
 ·subst hbj
  rcases hj with hj|⟨u,v,hu,hv,huv⟩
  ·omega
  ·rw[hu]at hy;simp only[Option.some.injEq]at hy;subst hy
   by_cases ha:a=b-1
   ·subst ha;rw[hv]at hx;simp only[Option.some.injEq]at hx;omega
   ·have:=h.2 a (b-1) x v (by omega) (by omega) (by omega) hx hv
    omega
 ·exact h.2 a b x y hab (by omega) hbj hx hy
theorem d5e {l:List Int} (h:SoT l l.length):l.Pairwise (· <= ·):=by
 rw[List.pairwise_iff_getElem]
 intro i j hi hj hij
 exact h i j _ _ hij hj (List.getElem?_eq_getElem hi) (List.getElem?_eq_getElem hj)
theorem d2e (l:List Int):SoT l 1:=fun a b x y h1 h2 _ _=>by omega
theorem c4a {l m:List Int} (h1:l.Pairwise (· <= ·)) (h2:m.Pairwise (· <= ·)) (h:l.Perm m):l=m:=
 List.Perm.eq_of_pairwise (le:=(· <= ·)) (fun a b _ _ h3 h4=>by omega) h1 h2 h
def c7O (es:List (Nat×Nat)) (e:Nat×Nat):Int:=if e∈es then(es.idxOf e:Nat)else -1
theorem b1U {es:List (Nat×Nat)} {e:Nat×Nat}:∀{i:Nat},es[i]? =some e->(∀y∈es.take i,y≠e)->c7O es e=(i:Nat):=by
 intro i hi hn
 have hm:=List.mem_of_getElem? hi
 unfold c7O
 rw[if_pos hm]
 congr 1
 induction es generalizing i with
 |nil=>cases hm
 |cons x r ih=>
  cases i with
  |zero=>
   simp only[List.getElem?_cons_zero,Option.some.injEq]at hi
   subst hi
   simp
  |succ i=>
   have hx:x≠e:=hn x (by simp)
   simp only[List.getElem?_cons_succ]at hi
   rw[List.idxOf_cons,show(x==e)=false by simp[hx],cond_false,ih hi (fun y hy=>hn y (by simp[hy])) (List.mem_of_getElem? hi)]
theorem b5B {es:List (Nat×Nat)} {e:Nat×Nat} (h:∀y∈es,y≠e):c7O es e= -1:=by
 unfold c7O;rw[if_neg (fun hm=>h e hm rfl)]
def c4Y (l:List Int) (x:Int):List Int:=(l.takeWhile fun y=>decide (y<=x))++x::l.dropWhile fun y=>decide (y<=x)
theorem c4b (l:List Int) (x:Int):(c4Y l x).Perm (l++[x]):=by
 unfold c4Y
 refine List.perm_middle.trans ?_
 rw[List.takeWhile_append_dropWhile]
 exact(List.perm_append_comm (l₁:=[x]) (l₂:=l))
theorem c4c {p:Int->Bool}:∀{l:List Int} {y:Int} {r:List Int},l.dropWhile p=y::r->p y=false
 |z::l,y,r,h=>by
  rw[List.dropWhile_cons]at h
  split at h
  ·exact c4c h
  ·rename_i hz
   simp only[List.cons.injEq]at h
   rw[<-h.1];simpa using hz
theorem d2f {l:List Int} {x:Int} (h:l.Pairwise (· <= ·)):(c4Y l x).Pairwise (· <= ·):=by
 unfold c4Y
 have hs:l.takeWhile (fun y=>decide (y<=x))++l.dropWhile (fun y=>decide (y<=x))=l:=List.takeWhile_append_dropWhile
 rw[<-hs]at h
 obtain⟨h1,h2,h3⟩:=List.pairwise_append.1 h
 have ht:∀a∈l.takeWhile (fun y=>decide (y<=x)),a<=x:=fun a ha=>by
  have:=List.all_takeWhile (p:=fun y=>decide (y<=x)) (l:=l)
  exact of_decide_eq_true (List.all_eq_true.1 this a ha)
 have hd:∀b∈l.dropWhile (fun y=>decide (y<=x)),x<=b:=fun b hb=>by
  generalize hr:l.dropWhile (fun y=>decide (y<=x))=r at hb h2
  cases r with
  |nil=>cases hb
  |cons z r=>
   have hz:=of_decide_eq_false (c4c hr)
   rcases List.mem_cons.1 hb with rfl|hb
   ·omega
   ·have:=(List.pairwise_cons.1 h2).1 b hb
    omega
 refine List.pairwise_append.2 ⟨h1,List.pairwise_cons.2 ⟨hd,h2⟩,fun a ha b hb=> ?_⟩
 rcases List.mem_cons.1 hb with rfl|hb
 ·exact ht a ha
 ·exact h3 a ha b hb
end Go.GS

/- Chapter 32: walks without loops, and the trees that are drawn with them. -/
import Derived.Test.YtkcjbfoejpfbbaaGreatDoorGyC
import Derived.Test.YtkcjbfoejpfbbaaGreatDoorGsO
namespace Go.GS
def a2Y (l:List Nat):Nat->Nat->Option Nat
 |0,_=>none
 |i+1,x=>if l[i]? =some x then some i else a2Y l i x
theorem a2b {l:List Nat} {x:Nat}:∀{i j:Nat},a2Y l i x=some j->j<i/\l[j]? =some x/\∀k,j<k->k<i->l[k]?≠some x
 |i+1,j,h=>by
  simp only[a2Y]at h
  split at h
  ·rename_i hx
   simp only[Option.some.injEq]at h;subst h
   exact⟨by omega,hx,fun k h1 h2=>by omega⟩
  ·rename_i hx
   obtain⟨h1,h2,h3⟩:=a2b h
   refine⟨by omega,h2,fun k g1 g2=> ?_⟩
   by_cases e:k=i
   ·subst e;exact hx
   ·exact h3 k g1 (by omega)
theorem a4X {l:List Nat} {x k:Nat} (hk:l[k]? =some x):∀{i:Nat},k<i->∃j,a2Y l i x=some j/\k<=j
 |i+1,h=>by
  simp only[a2Y]
  split
  ·exact⟨i,rfl,by omega⟩
  ·rename_i hx
   have:k≠i:=fun e=>by subst e;exact hx hk
   exact a4X hk (by omega)
def b7s (l:List Nat):Nat->Nat->List Nat
 |0,_=>[]
 |f+1,x=>if l[l.length-1]? =some x then[]else match a2Y l l.length x with
  |none=>[]
  |some j=>l.getD (j+1) 0::b7s l f (l.getD (j+1) 0)
def a1u (l:List Nat):List Nat:=l.getD 0 0::b7s l l.length (l.getD 0 0)
theorem b0c {l:List Nat} {x j:Nat} (hx:l[l.length-1]?≠some x) (hj:a2Y l l.length x=some j):∃y j',l[j+1]? =some y/\l.getD (j+1) 0=y/\a2Y l l.length y=some j'/\j+1<=j':=by
 obtain⟨h1,h2,_⟩:=a2b hj
 have h3:j+1<l.length:=by
  apply Nat.lt_of_le_of_ne h1
  intro e
  exact hx (by rw[show l.length-1=j by omega];exact h2)
 have hy:=List.getElem?_eq_getElem h3
 obtain⟨j',h4,h5⟩:=a4X hy h3
 exact⟨_,j',hy,by rw[List.getD_eq_getElem?_getD,hy];rfl,h4,h5⟩
theorem b0d {l:List Nat} {x:Nat} (h:l[l.length-1]? =some x) (f:Nat):b7s l f x=[]:=by
 cases f with
 |zero=>rfl
 |succ f=>simp only[b7s,if_pos h]
theorem a7v {l:List Nat} {x j f y:Nat} (hx:l[l.length-1]?≠some x) (hj:a2Y l l.length x=some j) (hy:l.getD (j+1) 0=y):b7s l (f+1) x=y::b7s l f y:=by
 simp only[b7s,if_neg hx,hj,hy]
theorem d5g {pre:List Nat} {z til:Nat} (hpre:∀y∈pre,bit til y=false):∀(f x j:Nat),a2Y (pre++[z]) (pre++[z]).length x=some j->(pre++[z]).length<=f+j->
  (x::b7s (pre++[z]) f x).Nodup/\(∀y∈x::b7s (pre++[z]) f x,∃j',a2Y (pre++[z]) (pre++[z]).length y=some j'/\j<=j')/\∃r,x::b7s (pre++[z]) f x=r++[z]/\∀y∈r,bit til y=false:=by
 have hlast:(pre++[z])[(pre++[z]).length-1]? =some z:=by simp
 intro f
 induction f with
 |zero=>intro x j hj hf;have:=(a2b hj).1;omega
 |succ f ih=>
  intro x j hj hf
  by_cases hx:(pre++[z])[(pre++[z]).length-1]? =some x
  ·rw[b0d hx]
   have e:z=x:=by rw[hlast]at hx;exact Option.some.inj hx
   subst e
   refine⟨by simp,fun y hy=> ?_,[],rfl,fun y hy=>by cases hy⟩
   obtain rfl:=List.mem_singleton.1 hy
   exact⟨j,hj,Nat.le_refl _⟩
  ·obtain⟨y,j',h1,h2,h3,h4⟩:=b0c hx hj
   rw[a7v hx hj h2]
   obtain⟨g1,g2,r,g3,g4⟩:=ih y j' h3 (by omega)
   refine⟨List.nodup_cons.2 ⟨fun hm=> ?_,g1⟩,fun w hw=> ?_,x::r,by rw[g3];rfl,fun w hw=> ?_⟩
   ·obtain⟨j2,k1,k2⟩:=g2 x hm
    rw[hj]at k1;simp only[Option.some.injEq]at k1;omega
   ·rcases List.mem_cons.1 hw with rfl|hw
    ·exact⟨j,hj,Nat.le_refl _⟩
    ·obtain⟨j2,k1,k2⟩:=g2 w hw
     exact⟨j2,k1,by omega⟩
   ·rcases List.mem_cons.1 hw with rfl|hw
    ·have hm:=List.mem_of_getElem? (a2b hj).2.1
     rcases List.mem_append.1 hm with hm|hm
     ·exact hpre _ hm
     ·obtain rfl:=List.mem_singleton.1 hm
      exact absurd hlast hx
    ·exact g4 w hw
theorem c8c {n:Nat} {es:List (Nat×Nat)} (hg:GV n es) (h64:n<=64) {set til:Nat} (hs:set<M64):∀(k:Nat) (pre:List Nat) (x c:Nat) {l:List Nat} {c' k':Nat},(∀y∈pre,bit til y=false)->(∀y∈pre++[x],y<n)->a2C es set til k (pre++[x]) x c= .inr (l,c',k')->
  ∃pre' z,l=pre'++[z]/\(∀y∈pre',bit til y=false)/\bit til z=true/\(∀y∈l,y<n)/\l.length+k'=pre.length+1+k:=by
 intro k
 induction k with
 |zero=>
  intro pre x c l c' k' hp hn h
  by_cases hb:bit til x=true
  ·rw[a4W hb]at h
   simp only[Sum.inr.injEq,Prod.mk.injEq]at h
   obtain⟨rfl,rfl,rfl⟩:=h
   exact⟨pre,x,rfl,hp,hb,hn,by simp⟩
  ·rw[a5t (by simpa using hb)]at h;cases h
 |succ k ih=>
  intro pre x c l c' k' hp hn h
  by_cases hb:bit til x=true
  ·rw[a4W hb]at h
   simp only[Sum.inr.injEq,Prod.mk.injEq]at h
   obtain⟨rfl,rfl,rfl⟩:=h
   exact⟨pre,x,rfl,hp,hb,hn,by simp⟩
  ·simp only[a2C,if_neg hb]at h
   split at h
   ·rename_i h0
    have hm:(nbl es set x).getD (a1m c (nbl es set x).length).1 0<n:=by
     rw[List.getD_eq_getElem?_getD,List.getElem?_eq_getElem (a7u h0)]
     exact c4i hg h64 hs (List.getElem_mem _)
    obtain⟨pre',z,h1,h2,h3,h4,h5⟩:=ih (pre++[x]) _ _ (fun y hy=>by
     rcases List.mem_append.1 hy with hy|hy
     ·exact hp y hy
     ·obtain rfl:=List.mem_singleton.1 hy;simpa using hb) (fun y hy=>by
     rcases List.mem_append.1 hy with hy|hy
     ·exact hn y hy
     ·obtain rfl:=List.mem_singleton.1 hy;exact hm) h
    exact⟨pre',z,h1,h2,h3,h4,by rw[h5];simp;omega⟩
   ·cases h
def orL (d:Nat) (w:List Nat):Nat:=w.foldl (fun d y=>d|||2^y) d
theorem a2Z (d:Nat) (w:List Nat) (y:Nat):orL d (w++[y])=orL d w|||2^y:=by unfold orL;rw[List.foldl_append];rfl
theorem a8O (a b x:Nat):bit (a|||b) x=(bit a x||bit b x):=Nat.testBit_or _ _ _
theorem b0e (y x:Nat):bit (2^y) x=decide (y=x):=Nat.testBit_two_pow
theorem d2p (w:List Nat) (d x:Nat):bit (orL d w) x=(bit d x||decide (x∈w)):=by
 induction w using a1S with
 |nil=>simp[orL]
 |snoc w y ih=>
  rw[a2Z,a8O,ih,b0e]
  by_cases h:y=x
  ·subst h;simp
  ·have h':¬x=y:=fun e=>h e.symm
   simp[h,h']
theorem c4j {n:Nat} (w:List Nat) (d:Nat) (hd:d<2^n) (hw:∀y∈w,y<n):orL d w<2^n:=by
 induction w using a1S with
 |nil=>exact hd
 |snoc w y ih=>
  rw[a2Z]
  exact Nat.or_lt_two_pow (ih fun z hz=>hw z (by simp[hz])) (Nat.pow_lt_pow_right (by decide) (hw y (by simp)))
theorem c8d {a b:Nat} (h:∀y,bit a y=true->bit b y=true) (hb:b<M64):card a<=card b:=by
 by_cases e:a=b
 ·rw[e];exact Nat.le_refl _
 ·obtain⟨x,h1,h2⟩:=a6N e h
  have hx:x<64:=by
   apply Nat.lt_of_not_le
   intro hh
   have:b.testBit x=false:=Nat.testBit_lt_two_pow (Nat.lt_of_lt_of_le hb (Nat.pow_le_pow_right (n:=2) (by decide) hh))
   unfold bit at h1;rw[this]at h1;cases h1
  exact Nat.le_of_lt (a5k h h1 h2 hx)
theorem a4Y (w:List Nat) (d:Nat) (hn:w.Nodup) (hw:∀y∈w,bit d y=false/\y<64):card d+w.length<=card (orL d w):=by
 induction w using a1S with
 |nil=>exact Nat.le_refl _
 |snoc w y ih=>
  obtain⟨h1,h2,h3⟩:=List.nodup_append.1 hn
  have:=ih h1 fun z hz=>hw z (by simp[hz])
  obtain⟨hy,hy64⟩:=hw y (by simp)
  have hlt:card (orL d w)<card (orL d (w++[y])):=a5k (x:=y) (fun z hz=>by rw[a2Z,a8O,hz];rfl) (by rw[a2Z,a8O,b0e];simp) (by
   rw[d2p,hy]
   simp only[Bool.false_or,decide_eq_false_iff_not]
   exact fun hm=>h3 y hm y (by simp) rfl) hy64
  simp only[List.length_append,List.length_cons,List.length_nil]
  omega
theorem b0f {d n:Nat} (h:d<2^n) (h64:n<=64):card d<=n:=by
 have hd:d<M64:=Nat.lt_of_lt_of_le h (Nat.pow_le_pow_right (n:=2) (by decide) h64)
 have hnd:(els d).Nodup:=by
  unfold els
  exact List.Nodup.sublist List.filter_sublist List.nodup_range
 have:=List.Nodup.length_le_of_subset hnd (l₂:=List.range n) fun x hx=>by
  rw[List.mem_range]
  apply Nat.lt_of_not_le
  intro hh
  have h1:=(a2j hd).1 hx
  have:d.testBit x=false:=Nat.testBit_lt_two_pow (Nat.lt_of_lt_of_le h (Nat.pow_le_pow_right (n:=2) (by decide) hh))
  unfold bit at h1;rw[this]at h1;cases h1
 rwa[List.length_range]at this
def edW (es:List (Nat×Nat)) (w:List Nat) (i:Nat):List Int:=(List.range i).flatMap fun i=>if i=0 then[]else[c7O es (min (w.getD i 0) (w.getD (i-1) 0),max (w.getD i 0) (w.getD (i-1) 0))]
theorem a4Z (es:List (Nat×Nat)) (w:List Nat) (i:Nat):edW es w (i+1)=edW es w i++if i=0 then[]else[c7O es (min (w.getD i 0) (w.getD (i-1) 0),max (w.getD i 0) (w.getD (i-1) 0))]:=by
 unfold edW;rw[List.range_succ,List.flatMap_append];simp
theorem a5u (es:List (Nat×Nat)) (w:List Nat):∀i,(edW es w i).length=i-1
 |0=>rfl
 |i+1=>by
  rw[a4Z,List.length_append,a5u es w i]
  by_cases h:i=0
  ·subst h;rfl
  ·rw[if_neg h];simp;omega
def a2l (es:List (Nat×Nat)) (set n:Nat):Nat->Nat->List Int->Nat->Nat->Nat ⊕ (List Int×Nat)
 |0,_,tr,c,_=> .inr (tr,c)
 |k+1,d,tr,c,left=>if bit set (n-(k+1))=true/\bit d (n-(k+1))=false then
   match a2C es set d left [n-(k+1)] (n-(k+1)) c with
   | .inl e=> .inl e
   | .inr (l,c',left')=>a2l es set n k (orL d (a1u l)) (tr++edW es (a1u l) (a1u l).length) c' left'
  else a2l es set n k d tr c left
def a5M (l:List Int):List Int:=l.foldl c4Y []
theorem a7w (l:List Int):(a5M l).Perm l/\(a5M l).Pairwise (· <= ·):=by
 induction l using a1S with
 |nil=>exact⟨List.Perm.refl _,List.Pairwise.nil⟩
 |snoc l x ih=>
  have e:a5M (l++[x])=c4Y (a5M l) x:=by unfold a5M;rw[List.foldl_append];rfl
  rw[e]
  exact⟨(c4b _ _).trans (ih.1.append_right [x]),d2f ih.2⟩
theorem c4k (l:List Int) (x:Int):a5M (l++[x])=c4Y (a5M l) x:=by unfold a5M;rw[List.foldl_append];rfl
theorem c4l {n:Nat} {es:List (Nat×Nat)} (hg:GV n es) (h64:n<=64) {set d left x c:Nat} (hs:set<M64) (hx:x<n) (hd:d<2^n) {l:List Nat} {c' k':Nat} (h:a2C es set d left [x] x c= .inr (l,c',k')):
  0<l.length/\l.length+k'=1+left/\(∀y∈a1u l,y<n)/\card d+(a1u l).length<=card (orL d (a1u l))+1/\orL d (a1u l)<2^n:=by
 obtain⟨pre,z,rfl,h2,h3,h4,h5⟩:=c8c hg h64 hs left [] x c (fun y hy=>by cases hy) (fun y hy=>by obtain rfl:=List.mem_singleton.1 hy;exact hx) h
 have hlen:0<(pre++[z]).length:=by simp
 obtain⟨j,hj,_⟩:=a4X (List.getElem?_eq_getElem hlen) hlen
 have h0:(pre++[z]).getD 0 0=(pre++[z])[0]:=by rw[List.getD_eq_getElem?_getD,List.getElem?_eq_getElem hlen];rfl
 obtain⟨g1,g2,r,g3,g4⟩:=d5g (z:=z) h2 (pre++[z]).length _ j hj (by omega)
 have he:a1u (pre++[z])=r++[z]:=by unfold a1u;rw[h0];exact g3
 have hm:∀y∈a1u (pre++[z]),y<n:=fun y hy=>by
  rw[he,<-g3]at hy
  obtain⟨j',k1,_⟩:=g2 y hy
  exact h4 y (List.mem_of_getElem? (a2b k1).2.1)
 have hlt:=c4j (a1u (pre++[z])) d hd hm
 refine⟨hlen,by rw[h5];rfl,hm,?_,hlt⟩
 rw[g3]at g1
 rw[he]at hlt hm⊢
 have hcar:=a4Y r d (List.nodup_append.1 g1).1 fun y hy=>⟨g4 y hy,by have:=hm y (by simp[hy]);omega⟩
 have hsub:=c8d (a:=orL d r) (b:=orL d (r++[z])) (fun y hy=>by rw[a2Z,a8O,hy];rfl) (Nat.lt_of_lt_of_le hlt (Nat.pow_le_pow_right (n:=2) (by decide) h64))
 simp only[List.length_append,List.length_cons,List.length_nil]
 omega
end Go.GS
/- Chapter 32: a step of the chain, in plain terms. -/
namespace Go.GS
def b5E:List Int->List Int->List Int
 |_,[]=>[]
 |F,x::r=>if x∈F then((F.idxOf x:Nat):Int)::b5E F r else((F.length:Nat):Int)::b5E (F++[x]) r
def canon (p:List Int):List Int:=b5E [] p
def b0r:List Int->List Int->List Int
 |F,[]=>F
 |F,x::r=>if x∈F then b0r F r else b0r (F++[x]) r
theorem a6h:∀(r F:List Int),∃s,b0r F r=F++s
 |[],F=>⟨[],by simp[b0r]⟩
 |x::r,F=>by
  simp only[b0r]
  split
  ·exact a6h r F
  ·obtain⟨s,h⟩:=a6h r (F++[x])
   exact⟨x::s,by rw[h];simp⟩
theorem a3V:∀(r F:List Int) (y:Int),y∈b0r F r↔y∈F\/y∈r
 |[],F,y=>by simp[b0r]
 |x::r,F,y=>by
  simp only[b0r]
  split
  ·rename_i hx
   rw[a3V r F y]
   constructor
   ·rintro(h|h)
    ·exact .inl h
    ·exact .inr (by simp[h])
   ·rintro(h|h)
    ·exact .inl h
    ·rcases List.mem_cons.1 h with rfl|h
     ·exact .inl hx
     ·exact .inr h
  ·rw[a3V r (F++[x]) y]
   simp only[List.mem_append,List.mem_cons,List.not_mem_nil,or_false,or_assoc]
theorem a3W:∀(r F:List Int),F.Nodup->(b0r F r).Nodup
 |[],F,h=>by simpa[b0r]using h
 |x::r,F,h=>by
  simp only[b0r]
  split
  ·exact a3W r F h
  ·rename_i hx
   refine a3W r (F++[x]) (List.nodup_append.2 ⟨h,by simp,fun a ha b hb=> ?_⟩)
   obtain rfl:=List.mem_singleton.1 hb
   exact fun e=>hx (e ▸ ha)
theorem b3q {F s:List Int} {x:Int} (h:x∈F):(F++s).idxOf x=F.idxOf x:=by
 rw[List.idxOf_append,if_pos h]
theorem b3r:∀(r F:List Int),b5E F r=r.map fun x=>(((b0r F r).idxOf x:Nat):Int)
 |[],F=>by simp[b5E]
 |x::r,F=>by
  simp only[b5E,b0r]
  split
  ·rename_i hx
   obtain⟨s,hs⟩:=a6h r F
   rw[List.map_cons,b3r r F,hs,b3q hx]
  ·rename_i hx
   obtain⟨s,hs⟩:=a6h r (F++[x])
   rw[List.map_cons,b3r r (F++[x])]
   congr 1
   rw[hs,b3q (by simp),List.idxOf_append,if_neg hx]
   simp
theorem b0g (p:List Int):canon p=p.map fun x=>(((b0r [] p).idxOf x:Nat):Int):=b3r p []
theorem a5a (p:List Int):(canon p).length=p.length:=by rw[b0g,List.length_map]
theorem mask_mem2 {p:List Int} {d:Int}:a8f p d≠0↔d∈p:=by
 constructor
 ·intro h
  obtain⟨x,h1,h2⟩:=a6N (a:=0) (b:=a8f p d) (fun e=>h e.symm) (fun y hy=>by rw[a0P]at hy;cases hy)
  unfold a8f at h1
  rw[b2L,Bool.and_eq_true]at h1
  exact List.mem_of_getElem? (of_decide_eq_true h1.2)
 ·intro h e
  obtain⟨i,hi⟩:=List.mem_iff_getElem?.1 h
  have hlt:=(List.getElem?_eq_some_iff.1 hi).1
  have:bit (a8f p d) i=true:=by unfold a8f;rw[b2L,decide_eq_true hlt,decide_eq_true hi];rfl
  rw[e,a0P]at this;cases this
theorem c4m {p:List Int} {k:Nat} (hL:LabOk p (k:Nat)) (hU:a8g p k):(b0r [] p).length=k:=by
 have hn:=a3W p [] List.nodup_nil
 have hr:((List.range k).map fun i:Nat=>(i:Int)).Nodup:=by
  rw[List.nodup_iff_pairwise_ne,List.pairwise_map]
  exact(List.nodup_range (n:=k)).imp fun h e=>h (by omega)
 have h1:=List.Nodup.length_le_of_subset hn (l₂:=(List.range k).map fun i:Nat=>(i:Int)) fun x hx=>by
  have hx:=((a3V p [] x).1 hx).resolve_left (by simp)
  have:=hL.1 x hx
  exact List.mem_map.2 ⟨x.toNat,List.mem_range.2 (by omega),by omega⟩
 have h2:=List.Nodup.length_le_of_subset hr (l₂:=b0r [] p) fun x hx=>by
  obtain⟨d,hd,rfl⟩:=List.mem_map.1 hx
  exact(a3V p [] _).2 (.inr (mask_mem2.1 (hU d (List.mem_range.1 hd))))
 rw[List.length_map,List.length_range]at h1 h2
 omega
theorem b1X {p:List Int} {k:Nat} (hL:LabOk p (k:Nat)) (hU:a8g p k):LabOk (canon p) (k:Nat):=by
 refine⟨fun x hx=> ?_,by rw[a5a];exact hL.2.1,by rw[a5a];exact hL.2.2⟩
 rw[b0g]at hx
 obtain⟨y,hy,rfl⟩:=List.mem_map.1 hx
 have:=List.idxOf_lt_length_of_mem ((a3V p [] y).2 (.inr hy))
 rw[c4m hL hU]at this
 omega
theorem a8P {p:List Int} {k:Nat} (hL:LabOk p (k:Nat)) (hU:a8g p k):a8g (canon p) k:=fun d hd=>by
 rw[mask_mem2,b0g]
 have hl:=c4m hL hU
 have hd':d<(b0r [] p).length:=by omega
 refine List.mem_map.2 ⟨(b0r [] p)[d],((a3V p [] _).1 (List.getElem_mem hd')).resolve_left (by simp),?_⟩
 rw[List.Nodup.idxOf_getElem (a3W p [] List.nodup_nil) d hd']
def rcV (i k:Int) (a m:Nat) (x:Int):Int:=if x=i\/x=k then(if bit a m=true then i else k)else x
def b6Y (p:List Int) (i k:Int) (a:Nat):List Int:=p.mapIdx fun m x=>rcV i k a m x
theorem c4n {p:List Int} {i k:Int} {a m:Nat} {x:Int} (h:p[m]? =some x):(b6Y p i k a)[m]? =some (rcV i k a m x):=by
 unfold b6Y;rw[List.getElem?_mapIdx,h];rfl
theorem a6i (p:List Int) (i k:Int) (a:Nat):(b6Y p i k a).length=p.length:=by unfold b6Y;rw[List.length_mapIdx]
theorem b5F {p:List Int} {i k:Int} {a:Nat} {m:Int} (hL:LabOk p m) (hi:0<=i/\i<m) (hk:0<=k/\k<m):LabOk (b6Y p i k a) m:=by
 refine⟨fun x hx=> ?_,by rw[a6i];exact hL.2.1,by rw[a6i];exact hL.2.2⟩
 obtain⟨j,hj⟩:=List.mem_iff_getElem?.1 hx
 unfold b6Y at hj
 rw[List.getElem?_mapIdx]at hj
 obtain⟨y,hy,rfl⟩:=Option.map_eq_some_iff.1 hj
 unfold rcV
 split
 ·split
  ·exact hi
  ·exact hk
 ·exact hL.1 y (List.mem_of_getElem? hy)
def btB (a b:Nat) (e:Nat×Nat):Bool:=bit a e.1&&bit b e.2||bit a e.2&&bit b e.1
def a4c (es:List (Nat×Nat)) (a b:Nat):Nat:=(es.filter (btB a b)).length
theorem b1Y (es:List (Nat×Nat)) (e:Nat×Nat) (a b:Nat):a4c (es++[e]) a b=if btB a b e=true then a4c es a b+1 else a4c es a b:=by
 unfold a4c
 rw[List.filter_append,List.filter_cons,List.filter_nil]
 split
 ·simp
 ·simp
def b7t (i j:Nat):List (Nat×Nat):=(List.range (j-(i+1))).map fun d=>(i,i+1+d)
def prI (k i:Nat):List (Nat×Nat):=(List.range i).flatMap fun a=>b7t a k
def a2D (k:Nat):List (Nat×Nat):=prI k k
theorem b0h (k i:Nat):prI k (i+1)=prI k i++b7t i k:=by unfold prI;rw[List.range_succ,List.flatMap_append];simp
theorem b1Z {i j:Nat} (h:i+1<=j):b7t i (j+1)=b7t i j++[(i,j)]:=by
 unfold b7t
 rw[show j+1-(i+1)=(j-(i+1))+1 by omega,List.range_succ,List.map_append,List.map_cons,List.map_nil,show i+1+(j-(i+1))=j by omega]
theorem b5G (i:Nat):b7t i (i+1)=[]:=by unfold b7t;rw[Nat.sub_self];rfl
theorem b0i (i j:Nat):(b7t i j).length=j-(i+1):=by simp[b7t]
theorem b0j (k:Nat):∀i,(prI k i).length<=i*k
 |0=>by simp[prI]
 |i+1=>by
  rw[b0h,List.length_append,b0i]
  have:=b0j k i
  rw[Nat.add_mul,Nat.one_mul];omega
theorem b5H {k:Nat} {e:Nat×Nat} (h:e∈a2D k):e.1<e.2/\e.2<k:=by
 unfold a2D prI b7t at h
 obtain⟨a,ha,h⟩:=List.mem_flatMap.1 h
 obtain⟨d,hd,rfl⟩:=List.mem_map.1 h
 rw[List.mem_range]at ha hd
 simp only
 omega
theorem b5I:∀k:Fin 9,2<=k.val->0<(a2D k.val).length:=by decide
theorem c8e:a2D 1=[]:=by decide
theorem c4o (k:Nat) (h:k<=8):(a2D k).length<=64:=Nat.le_trans (b0j k k) (Nat.mul_le_mul h h)
noncomputable def sdP (es:List (Nat×Nat)) (set:Nat) (t:List Int) (k:Int):Nat×Nat:= @ite _ (TreeOk es set t) (Classical.propDecidable _) (a3X es set t k,sdf set (a3X es set t k)) (0,0)
noncomputable def sdE (es:List (Nat×Nat)) (set:Nat) (t:List Int):Int:= @ite _ (TreeOk es set t) (Classical.propDecidable _) 0 300
theorem b5J {es:List (Nat×Nat)} {set n:Nat} {t:List Int} (h64:n<=64) (h0:set≠0/\set<2^n) (k:Int):(sdP es set t k).1<2^n/\(sdP es set t k).2<2^n:=by
 unfold sdP
 have hs:set<M64:=Nat.lt_of_lt_of_le h0.2 (Nat.pow_le_pow_right (n:=2) (by decide) h64)
 split
 ·rename_i ht
  have hsub:=b3S hs h0.1 ht k
  exact⟨b8M h0.2 hsub,b8M h0.2 fun y hy=>by rw[a1K,Bool.and_eq_true]at hy;exact hy.1⟩
 ·exact⟨Nat.two_pow_pos n,Nat.two_pow_pos n⟩
noncomputable def a7C (es:List (Nat×Nat)) (wl:List Int) (lo hi:Int) (set:Nat) (t l:List Int):List Int:=l.filter fun k=>alB es wl lo hi (sdP es set t k).1&&alB es wl lo hi (sdP es set t k).2
noncomputable def stC (es:List (Nat×Nat)) (q:List Int) (pr:Nat×Nat) (ab:Nat×Nat) (c:Nat):Nat ⊕ (List Int×Bool×Nat):=
 if(a1m c (a4c es ab.1 ab.2)).2.2≠0 then .inl (a1m c (a4c es ab.1 ab.2)).2.2
 else if(a1m c (a4c es ab.1 ab.2)).1≠0 then .inr (q,false,(a1m c (a4c es ab.1 ab.2)).2.1)
 else .inr (canon (b6Y q (pr.1:Nat) (pr.2:Nat) ab.1),!decide (q=canon (b6Y q (pr.1:Nat) (pr.2:Nat) ab.1)),(a1m c (a4c es ab.1 ab.2)).2.1)
noncomputable def stB (n:Nat) (es:List (Nat×Nat)) (wl:List Int) (lo hi:Int) (q:List Int) (pr:Nat×Nat) (set:Nat) (t:List Int) (c:Nat):Nat ⊕ (List Int×Bool×Nat):=
 if(a1m c (n-1)).2.2≠0 then .inl (a1m c (n-1)).2.2
 else if(a7C es wl lo hi set t t).length<=(a1m c (n-1)).1 then .inr (q,false,(a1m c (n-1)).2.1)
 else stC es q pr (sdP es set t ((a7C es wl lo hi set t t).getD (a1m c (n-1)).1 0)) (a1m c (n-1)).2.1
noncomputable def stA (n:Nat) (es:List (Nat×Nat)) (wl:List Int) (lo hi:Int) (q:List Int) (pr:Nat×Nat) (set c:Nat):Nat ⊕ (List Int×Bool×Nat):=
 if cnB es set=true then match a2l es set n n (2^(els set).headD 64) [] c 10000 with
  | .inl e=> .inl e
  | .inr (tr,c2)=>stB n es wl lo hi q pr set (a5M tr) c2
 else .inr (q,false,c)
def a1V (q:List Int) (pr:Nat×Nat):Nat:=a8f q (pr.1:Nat)|||a8f q (pr.2:Nat)
noncomputable def stP (n:Nat) (es:List (Nat×Nat)) (wl:List Int) (lo hi:Int) (k:Nat) (q:List Int) (c:Nat):Nat ⊕ (List Int×Bool×Nat):=
 if k=1 then .inr (q,false,c)
 else if(a1m c (a2D k).length).2.2≠0 then .inl (a1m c (a2D k).length).2.2
 else stA n es wl lo hi q ((a2D k).getD (a1m c (a2D k).length).1 (0,0)) (a1V q ((a2D k).getD (a1m c (a2D k).length).1 (0,0))) (a1m c (a2D k).length).2.1
end Go.GS

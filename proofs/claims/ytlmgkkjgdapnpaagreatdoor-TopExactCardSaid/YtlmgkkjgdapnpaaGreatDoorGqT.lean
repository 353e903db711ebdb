/- Enumeration of plans, in plain terms: how many ways there are to complete classes. -/
import Derived.Test.YtlmgkkjgdapnpaaGreatDoorRxY
import Derived.Test.YtlmgkkjgdapnpaaGreatDoorGeT
import Derived.Test.YtlmgkkjgdapnpaaGreatDoorProg
import Derived.Test.YtlmgkkjgdapnpaaGreatDoorRxW
namespace Go.GS
theorem c7U {a b:Nat} (h:∀y,bit b y=true->bit a y=true):b<=a:=by
 have:b&&&a=b:=a3Y fun y=>by
  rw[a2y]
  cases hb:bit b y with
  |false=>rfl
  |true=>rw[h y hb];rfl
 rw[<-this];exact Nat.and_le_right
theorem d0M {part rest x k:Nat} (hk:bit part k=true) (hl:∀j,j<k->bit part j=false) (hp:part&&&rest=part) (hx:x&&&rest=x) (hlt:x<part):x<=(part-1)&&&rest:=by
 have hs:=a7P hk hl
 have hpr:∀y,bit part y=true->bit rest y=true:=fun y hy=>by
  have:bit (part&&&rest) y=true:=by rw[hp];exact hy
  rw[a2y,Bool.and_eq_true]at this;exact this.2
 have hxr:∀y,bit x y=true->bit rest y=true:=fun y hy=>by
  have:bit (x&&&rest) y=true:=by rw[hx];exact hy
  rw[a2y,Bool.and_eq_true]at this;exact this.2
 have hq:∀y,bit (2^(k+1)*(part/2^(k+1))) y=(decide (k+1<=y)&&bit part y):=fun y=>by
  unfold bit
  rw[Nat.testBit_two_pow_mul,Nat.testBit_div_two_pow]
  by_cases h:k+1<=y
  ·rw[decide_eq_true h];simp only[Bool.true_and];congr 1;omega
  ·rw[decide_eq_false h];simp
 have hle:2^(k+1)*(part/2^(k+1))<=(part-1)&&&rest:=c7U fun y hy=>by
  rw[hq,Bool.and_eq_true,decide_eq_true_iff]at hy
  rw[a2y,a5r hk hl,if_neg (by omega),if_neg (by omega),hy.2,hpr y hy.2];rfl
 generalize hQ:part/2^(k+1)=q at hs hq hle
 have hk2:2^(k+1)=2^k*2:=Nat.pow_succ ..
 have hpos:=Nat.two_pow_pos k
 have h1:x/2^k<2*q+1:=by
  rw[Nat.div_lt_iff_lt_mul hpos]
  have:(2*q+1)*2^k=2^(k+1)*q+2^k:=by rw[hk2];grind
  omega
 by_cases e:x/2^k=2*q
 ·refine c7U fun y hy=> ?_
  rw[a2y,a5r hk hl,hxr y hy,Bool.and_true]
  by_cases h2:y<k
  ·rw[if_pos h2]
  ·have h3:bit (2^(k+1)*q) y=true:=by
    have e2:2^(k+1)*q=2^k*(x/2^k):=by rw[e,hk2];grind
    rw[e2]
    unfold bit
    rw[Nat.testBit_two_pow_mul,Nat.testBit_div_two_pow,decide_eq_true (show y≥k by omega),Bool.true_and]
    have:y-k+k=y:=by omega
    rw[this];exact hy
   rw[hq,Bool.and_eq_true,decide_eq_true_iff]at h3
   rw[if_neg h2,if_neg (by omega)];exact h3.2
 ·have h2:x/2^k+1<=2*q:=by omega
  have h3:=Nat.lt_mul_div_succ x hpos
  have h4:2^k*(x/2^k+1)<=2^k*(2*q):=Nat.mul_le_mul_left _ h2
  have e2:2^(k+1)*q=2^k*(2*q):=by rw[hk2];grind
  omega
theorem c5v {s:Nat} (h0:s≠0):∃k,bit s k=true/\∀j,j<k->bit s j=false:=by
 obtain⟨x,hx⟩:∃x,bit s x=true:=Classical.byContradiction fun hh=>h0 (a3Y fun y=>by rw[a1N];cases hb:bit s y with|false=>rfl|true=>exact absurd ⟨y,hb⟩ hh)
 have:∀m,(∃k,k<m/\bit s k=true)->∃k,bit s k=true/\∀j,j<k->bit s j=false:=by
  intro m
  induction m with
  |zero=>rintro⟨k,h,_⟩;omega
  |succ m ih=>
   rintro⟨k,h1,h2⟩
   by_cases h:∃k,k<m/\bit s k=true
   ·exact ih h
   ·refine⟨k,h2,fun j hj=> ?_⟩
    cases hb:bit s j with
    |false=>rfl
    |true=>exact absurd ⟨j,by omega,hb⟩ h
 exact this (x+1) ⟨x,by omega,hx⟩
def b7c (S:Nat):Nat->Nat->List Nat
 |0,_=>[]
 |f+1,s=>s::if s=0 then[]else b7c S f ((s-1)&&&S)
def sbs (S:Nat):List Nat:=b7c S (S+1) S
theorem b4I {S:Nat}:∀{f s:Nat},s&&&S=s->∀x∈b7c S f s,x&&&S=x/\x<=s:=by
 intro f
 induction f with
 |zero=>intro s _ x h;cases h
 |succ f ih=>
  intro s hs x hx
  unfold b7c at hx
  rcases List.mem_cons.1 hx with rfl|hx
  ·exact⟨hs,Nat.le_refl _⟩
  ·split at hx
   ·cases hx
   ·obtain⟨h1,h2⟩:=ih (by rw[Nat.and_assoc,Nat.and_self]) x hx
    have:(s-1)&&&S<=s-1:=Nat.and_le_left
    exact⟨h1,by omega⟩
theorem c5w {S:Nat}:∀{f s x:Nat},s<f->s&&&S=s->x&&&S=x->x<=s->x∈b7c S f s:=by
 intro f
 induction f with
 |zero=>intro s x h;omega
 |succ f ih=>
  intro s x hf hs hx hle
  unfold b7c
  rw[List.mem_cons]
  by_cases e:x=s
  ·exact .inl e
  ·have h0:s≠0:=by omega
   obtain⟨k,hk,hl⟩:=c5v h0
   have hge:=d0M hk hl hs hx (by omega)
   have:(s-1)&&&S<=s-1:=Nat.and_le_left
   rw[if_neg h0]
   exact .inr (ih (by omega) (by rw[Nat.and_assoc,Nat.and_self]) hx hge)
theorem d0N {S:Nat}:∀{f s:Nat},s&&&S=s->(b7c S f s).Nodup:=by
 intro f
 induction f with
 |zero=>intro s _;exact List.nodup_nil
 |succ f ih=>
  intro s hs
  unfold b7c
  refine List.nodup_cons.2 ⟨fun h=> ?_,?_⟩
  ·split at h
   ·cases h
   ·have h1:=(b4I (by rw[Nat.and_assoc,Nat.and_self]) s h).2
    have:(s-1)&&&S<=s-1:=Nat.and_le_left
    omega
  ·split
   ·exact List.nodup_nil
   ·exact ih (by rw[Nat.and_assoc,Nat.and_self])
theorem sbs_mem {S s:Nat}:s∈sbs S↔s&&&S=s:=by
 refine⟨fun h=>(b4I (Nat.and_self S) s h).1,fun h=>c5w (Nat.lt_succ_self S) (Nat.and_self S) h ?_⟩
 rw[<-h];exact Nat.and_le_right
theorem b9A (S:Nat):(sbs S).Nodup:=d0N (Nat.and_self S)
def sbT (S:Nat) (F:Nat->Nat):Nat:=((sbs S).map F).sum
theorem sub_bit_iff {s S:Nat}:s&&&S=s↔∀i,s.testBit i=true->S.testBit i=true:=by
 constructor
 ·intro h i hi
  rw[<-h,Nat.testBit_and,Bool.and_eq_true]at hi
  exact hi.2
 ·intro h
  apply Nat.eq_of_testBit_eq
  intro i
  rw[Nat.testBit_and]
  cases hs:s.testBit i with
  |false=>rfl
  |true=>rw[h i hs];rfl
theorem b9B {v R:Nat} (hv:R.testBit v=false) (F:Nat->Nat):sbT (R|||2^v) F=sbT R F+sbT R fun s=>F (s|||2^v):=by
 have tb:∀i,(2^v).testBit i=decide (v=i):=fun i=>by rw[Nat.testBit_two_pow]
 have hp:(sbs (R|||2^v)).Perm (sbs R++(sbs R).map fun s=>s|||2^v):=by
  refine(List.perm_ext_iff_of_nodup (b9A _) ?_).2 fun s=> ?_
  ·rw[List.nodup_append]
   refine⟨b9A R,?_,?_⟩
   ·rw[List.nodup_iff_pairwise_ne,List.pairwise_map]
    refine(List.nodup_iff_pairwise_ne.1 (b9A R)).imp_of_mem ?_
    intro a b ha hb hne e
    apply hne
    apply Nat.eq_of_testBit_eq
    intro i
    have e1:=congrArg (fun x=>Nat.testBit x i) e
    simp only[Nat.testBit_or,tb]at e1
    by_cases hi:v=i
    ·subst hi
     have h1:a.testBit v=false:=by
      cases h:a.testBit v with
      |false=>rfl
      |true=>rw[sub_bit_iff.1 (sbs_mem.1 ha) v h]at hv;cases hv
     have h2:b.testBit v=false:=by
      cases h:b.testBit v with
      |false=>rfl
      |true=>rw[sub_bit_iff.1 (sbs_mem.1 hb) v h]at hv;cases hv
     rw[h1,h2]
    ·simpa[hi]using e1
   ·intro a ha b hb e
    obtain⟨c,hc,rfl⟩:=List.mem_map.1 hb
    have:a.testBit v=true:=by rw[e,Nat.testBit_or,tb];simp
    rw[sub_bit_iff.1 (sbs_mem.1 ha) v this]at hv;cases hv
  ·rw[List.mem_append,List.mem_map,sbs_mem,sbs_mem,sub_bit_iff,sub_bit_iff]
   constructor
   ·intro h
    cases hs:s.testBit v with
    |false=>
     refine .inl fun i hi=> ?_
     have:=h i hi
     rw[Nat.testBit_or,tb]at this
     by_cases e:v=i
     ·subst e;rw[hs]at hi;cases hi
     ·simpa[e]using this
    |true=>
     refine .inr ⟨s^^^2^v,?_,?_⟩
     ·rw[sbs_mem,sub_bit_iff]
      intro i hi
      rw[Nat.testBit_xor,tb]at hi
      by_cases e:v=i
      ·subst e;rw[hs]at hi;simp at hi
      ·have h1:s.testBit i=true:=by simpa[e]using hi
       have:=h i h1
       rw[Nat.testBit_or,tb]at this
       simpa[e]using this
     ·apply Nat.eq_of_testBit_eq
      intro i
      rw[Nat.testBit_or,Nat.testBit_xor,tb]
      by_cases e:v=i
      ·subst e;rw[hs];simp
      ·simp[e]
   ·rintro(h|⟨c,hc,rfl⟩) i hi
    ·rw[Nat.testBit_or,h i hi];rfl
    ·rw[sbs_mem,sub_bit_iff]at hc
     rw[Nat.testBit_or]at hi⊢
     rw[Bool.or_eq_true]at hi
     rcases hi with hi|hi
     ·rw[hc i hi];rfl
     ·rw[hi];simp
 unfold sbT
 rw[(hp.map F).sum_nat,List.map_append,List.sum_append_nat,List.map_map]
 rfl
theorem a3h {S:Nat} {F G:Nat->Nat} (h:∀s∈sbs S,F s=G s):sbT S F=sbT S G:=by
 unfold sbT;rw[List.map_congr_left h]
theorem d0O (S:Nat) (F G:Nat->Nat):sbT S (fun s=>F s+G s)=sbT S F+sbT S G:=by
 unfold sbT
 induction sbs S with
 |nil=>rfl
 |cons a l ih=>simp only[List.map_cons,List.sum_cons,ih];omega
theorem b1F (S:Nat):sbT S (fun _=>0)=0:=by
 unfold sbT
 induction sbs S with
 |nil=>rfl
 |cons a l ih=>simp only[List.map_cons,List.sum_cons,ih]
theorem c5x (S:Nat) {α:Type} (L:List α) (F:α->Nat->Nat):sbT S (fun s=>(L.map fun a=>F a s).sum)=(L.map fun a=>sbT S (F a)).sum:=by
 induction L with
 |nil=>exact b1F S
 |cons a l ih=>simp only[List.map_cons,List.sum_cons,d0O,ih]
theorem c5y:sbs 0=[0]:=by decide
theorem c5z (F:Nat->Nat):sbT 0 F=F 0:=by unfold sbT;rw[c5y];simp
theorem c5A (S:Nat):∀f s,(b7c S f s).length<=s+1:=by
 intro f
 induction f with
 |zero=>intro s;exact Nat.zero_le _
 |succ f ih=>
  intro s
  unfold b7c
  rw[List.length_cons]
  split
  ·simp
  ·have:=ih ((s-1)&&&S)
   have:(s-1)&&&S<=s-1:=Nat.and_le_left
   omega
theorem d0P (S:Nat):(sbs S).length<=S+1:=c5A S _ _
theorem c7V {S B:Nat} {F:Nat->Nat} (h:∀s∈sbs S,F s<=B):sbT S F<=(S+1)*B:=by
 have:∀l:List Nat,(∀s∈l,F s<=B)->(l.map F).sum<=l.length*B:=by
  intro l
  induction l with
  |nil=>intro _;simp
  |cons a l ih=>
   intro h
   have h1:=h a (.head _)
   have h2:=ih fun s hs=>h s (.tail _ hs)
   simp only[List.map_cons,List.sum_cons,List.length_cons,Nat.add_mul,Nat.one_mul]
   omega
 exact Nat.le_trans (this _ h) (Nat.mul_le_mul_right _ (d0P S))
theorem d0Q (a b:Nat):sdf a b&&&a=sdf a b:=by
 apply Nat.eq_of_testBit_eq
 intro i
 rw[Nat.testBit_and,a3x]
 cases a.testBit i<;>simp
theorem a7W {s S:Nat} (h:s&&&S=s):s<=S:=by rw[<-h];exact Nat.and_le_right
theorem b9C (a b:Nat):sdf a b<=a:=a7W (d0Q a b)
theorem a4W {a b n:Nat} (h:a<2^n):sdf a b<2^n:=Nat.lt_of_le_of_lt (b9C a b) h
def d0R (S:Nat):Nat:=(List.range S).foldr (fun i r=>if S.testBit i then i else r) 0
def a4C (ft:Nat->Bool):Nat->Nat->Nat
 |0,S=>if S=0 then 1 else 0
 |k+1,S=>if S=0 then 0 else sbT (sdf S (2^d0R S)) fun s=>if ft (s|||2^d0R S)then a4C ft k (sdf (sdf S s) (2^d0R S))else 0
def a2L (ft:Nat->Bool):List Nat->Nat->Nat->Nat
 |[],R,k=>a4C ft k R
 |_::_,_,0=>0
 |c::cs,R,k+1=>sbT R fun s=>if ft (c|||s)then a2L ft cs (sdf R s) k else 0
theorem b3E (ft:Nat->Bool) (c:Nat) (cs:List Nat) (R k:Nat):a2L ft (c::cs) R (k+1)=sbT R fun s=>if ft (c|||s)then a2L ft cs (sdf R s) k else 0:=rfl
theorem b1G {ft:Nat->Bool}:∀(cs:List Nat) (R k:Nat),k<cs.length->a2L ft cs R k=0:=by
 intro cs
 induction cs with
 |nil=>intro R k h;cases h
 |cons c cs ih=>
  intro R k h
  cases k with
  |zero=>rfl
  |succ k=>
   unfold a2L
   rw[a3h (G:=fun _=>0) fun s _=>by split;(exact ih _ _ (by simpa using h));rfl]
   exact b1F _
theorem b9D {ft:Nat->Bool} {n:Nat}:∀(k S:Nat),S<2^n->a4C ft k S<=2^(n*k):=by
 intro k
 induction k with
 |zero=>intro S _;unfold a4C;split<;>simp
 |succ k ih=>
  intro S hS
  unfold a4C
  split
  ·exact Nat.zero_le _
  ·have:=a4W (b:=2^d0R S) hS
   refine Nat.le_trans (c7V (B:=2^(n*k)) fun s _=> ?_) ?_
   ·split
    ·exact ih _ (a4W (a4W hS))
    ·exact Nat.zero_le _
   ·rw[Nat.mul_succ,Nat.pow_add,Nat.mul_comm (2^(n*k))]
    exact Nat.mul_le_mul_right _ this
theorem b9E {ft:Nat->Bool} {n:Nat}:∀(cs:List Nat) (R k:Nat),R<2^n->a2L ft cs R k<=2^(n*k):=by
 intro cs
 induction cs with
 |nil=>intro R k h;exact b9D k R h
 |cons c cs ih=>
  intro R k hR
  cases k with
  |zero=>exact Nat.zero_le _
  |succ k=>
   unfold a2L
   refine Nat.le_trans (c7V (B:=2^(n*k)) fun s _=> ?_) ?_
   ·split
    ·exact ih _ _ (a4W hR)
    ·exact Nat.zero_le _
   ·rw[Nat.mul_succ,Nat.pow_add,Nat.mul_comm (2^(n*k))]
    exact Nat.mul_le_mul_right _ hR
def a2Z (cs:List Nat) (v l:Nat):List Nat:=if l<cs.length then cs.modify l (· |||2^v)else cs++[2^v]
theorem b9F {R v:Nat} (h:∀i,i<=v->R.testBit i=false):d0R (R|||2^v)=v:=by
 have hv:(R|||2^v).testBit v=true:=by rw[Nat.testBit_or,Nat.testBit_two_pow];simp
 have hl:∀i,i<v->(R|||2^v).testBit i=false:=fun i hi=>by
  rw[Nat.testBit_or,Nat.testBit_two_pow,h i (by omega)];simp;omega
 have hlt:v<R|||2^v:=Nat.lt_of_lt_of_le (Nat.lt_two_pow_self) Nat.right_le_or
 unfold d0R
 have:List.range (R|||2^v)=List.range v++v::(List.range' (v+1) ((R|||2^v)-(v+1))):=by
  rw[List.range_eq_range',List.range_eq_range',<-List.range'_succ]
  have:=List.range'_append (s:=0) (m:=v) (n:=(R|||2^v)-(v+1)+1) (step:=1)
  rw[Nat.zero_add,Nat.one_mul]at this
  rw[this];congr 1;omega
 rw[this,List.foldr_append,List.foldr_cons,if_pos hv]
 have:∀l:List Nat,(∀i∈l,i<v)->l.foldr (fun i r=>if(R|||2^v).testBit i then i else r) v=v:=by
  intro l
  induction l with
  |nil=>intro _;rfl
  |cons a l ih=>intro h;rw[List.foldr_cons,if_neg (by rw[hl a (h a (.head _))];simp)];exact ih fun i hi=>h i (.tail _ hi)
 exact this _ fun i hi=>List.mem_range.1 hi
theorem c7W {R v:Nat} (h:R.testBit v=false):sdf (R|||2^v) (2^v)=R:=by
 apply Nat.eq_of_testBit_eq
 intro i
 rw[a3x,Nat.testBit_or,Nat.testBit_two_pow]
 by_cases e:v=i
 ·subst e;rw[h];simp
 ·simp[e]
theorem b9G {R s v:Nat} (h:R.testBit v=false) (hs:s&&&R=s):sdf (R|||2^v) s=sdf R s|||2^v:=by
 apply Nat.eq_of_testBit_eq
 intro i
 have hb:=sub_bit_iff.1 hs v
 rw[a3x,Nat.testBit_or,Nat.testBit_or,a3x,Nat.testBit_two_pow]
 by_cases e:v=i
 ·subst e
  cases hsv:s.testBit v with
  |false=>simp
  |true=>rw[hb hsv]at h;cases h
 ·simp[e]
theorem d0S {R s v:Nat} (h:R.testBit v=false):sdf (R|||2^v) (s|||2^v)=sdf R s:=by
 apply Nat.eq_of_testBit_eq
 intro i
 rw[a3x,Nat.testBit_or,Nat.testBit_or,a3x,Nat.testBit_two_pow]
 by_cases e:v=i
 ·subst e;rw[h];simp
 ·simp[e]
theorem c7X {R s v:Nat} (h:∀i,i<=v->R.testBit i=false):∀i,i<=v->(sdf R s).testBit i=false:=fun i hi=>by rw[a3x,h i hi];rfl
theorem b0j {ft:Nat->Bool} {v:Nat}:∀(cs:List Nat) (R k:Nat),(∀i,i<=v->R.testBit i=false)->
  a2L ft cs (R|||2^v) k=((List.range (cs.length+1)).map fun l=>a2L ft (a2Z cs v l) R k).sum:=by
 intro cs
 induction cs with
 |nil=>
  intro R k hR
  have hne:R|||2^v≠0:=fun e=>by
   have:=congrArg (fun x=>Nat.testBit x v) e
   simp at this
  show a4C ft k (R|||2^v)=(a2L ft [2^v] R k+0)
  cases k with
  |zero=>unfold a4C;rw[if_neg hne];rfl
  |succ k=>
   unfold a4C
   rw[if_neg hne,b9F hR,c7W (hR v (Nat.le_refl _))]
   show _=sbT R _+0
   rw[Nat.add_zero]
   refine a3h fun s hs=> ?_
   rw[Nat.or_comm,b9G (hR v (Nat.le_refl _)) (sbs_mem.1 hs),c7W (c7X hR v (Nat.le_refl _))]
   rfl
 |cons c cs ih=>
  intro R k hR
  cases k with
  |zero=>
   show 0=_
   symm
   have:∀l,a2L ft (a2Z (c::cs) v l) R 0=0:=fun l=>by
    unfold a2Z
    split
    ·exact b1G _ _ _ (by simp)
    ·rfl
   simp only[this]
   induction List.range ((c::cs).length+1)with
   |nil=>rfl
   |cons a l ih=>rw[List.map_cons,List.sum_cons,ih]
  |succ k=>
   have hv:=hR v (Nat.le_refl _)
   have e1:a2L ft (c::cs) (R|||2^v) (k+1)=sbT R (fun s=>if ft (c|||s)then((List.range (cs.length+1)).map fun l=>a2L ft (a2Z cs v l) (sdf R s) k).sum else 0)+sbT R (fun s=>if ft (c|||(s|||2^v))then a2L ft cs (sdf R s) k else 0):=by
    rw[b3E,b9B hv]
    congr 1
    ·refine a3h fun s hs=> ?_
     rw[b9G hv (sbs_mem.1 hs),ih (sdf R s) k (c7X hR)]
    ·refine a3h fun s hs=> ?_
     rw[d0S hv]
   rw[e1,List.length_cons,List.range_succ_eq_map (n:=cs.length+1),List.map_cons (f:=fun l=>a2L ft (a2Z (c::cs) v l) R (k+1)),List.sum_cons,Nat.add_comm]
   congr 1
   ·show _=a2L ft ((c|||2^v)::cs) R (k+1)
    rw[b3E]
    refine a3h fun s _=> ?_
    rw[Nat.or_comm s,<-Nat.or_assoc]
   ·rw[List.map_map]
    have e2:∀l,a2L ft (a2Z (c::cs) v (l+1)) R (k+1)=sbT R fun s=>if ft (c|||s)then a2L ft (a2Z cs v l) (sdf R s) k else 0:=fun l=>by
     unfold a2Z
     by_cases hl:l<cs.length
     ·rw[if_pos (by simpa using hl),if_pos hl];rfl
     ·rw[if_neg (by simpa using hl),if_neg hl];rfl
    rw[show(fun l=>a2L ft (a2Z (c::cs) v l) R (k+1)) ∘ Nat.succ=fun l=>sbT R fun s=>if ft (c|||s)then a2L ft (a2Z cs v l) (sdf R s) k else 0 from funext e2,<-c5x]
    refine a3h fun s _=> ?_
    split
    ·rfl
    ·induction List.range (cs.length+1)with
     |nil=>rfl
     |cons a l ih=>rw[List.map_cons,List.sum_cons,<-ih]
end Go.GS
/- The plans that an enumeration finds, in plain terms. -/
namespace Go.GS
def a1r (n v:Nat):Nat:=2^n-2^v
theorem c5B {n v:Nat} (h:v<=n):a1r n v=2^v*(2^(n-v)-1):=by
 unfold a1r
 rw[Nat.mul_sub,<-Nat.pow_add,Nat.mul_one,Nat.add_sub_cancel' h]
theorem a7X {n v:Nat} (h:v<=n) (i:Nat):(a1r n v).testBit i=(decide (v<=i)&&decide (i<n)):=by
 rw[c5B h,Nat.testBit_two_pow_mul,Nat.testBit_two_pow_sub_one]
 by_cases hv:v<=i
 ·simp[hv];omega
 ·simp[hv]
theorem b0k {n v:Nat} (h:v<n):a1r n v=a1r n (v+1)|||2^v:=by
 apply Nat.eq_of_testBit_eq
 intro i
 rw[a7X (Nat.le_of_lt h),Nat.testBit_or,a7X h,Nat.testBit_two_pow]
 by_cases e:v=i
 ·subst e;simp[h]
 ·have:decide (v<=i)=decide (v+1<=i):=by rw[decide_eq_decide];omega
  simp[e,this]
theorem a7Y {n v:Nat} (h:v<n):∀i,i<=v->(a1r n (v+1)).testBit i=false:=fun i hi=>by
 rw[a7X h];simp;omega
theorem a6O (n v:Nat):a1r n v<2^n:=by
 have:=Nat.two_pow_pos v
 have:=Nat.two_pow_pos n
 unfold a1r;omega
theorem b1H (n:Nat):a1r n n=0:=Nat.sub_self _
def a4x (c:Nat->Nat):Nat->Nat->Nat->Nat×Nat
 |0,l,i=>(l,i)
 |f+1,l,i=>if i<c l then(l,i)else a4x c f (l+1) (i-c l)
theorem b6w (c:Nat->Nat) (f l i:Nat):a4x c (f+1) l i=if i<c l then(l,i)else a4x c f (l+1) (i-c l):=rfl
theorem c5C {c:Nat->Nat}:∀(m l i:Nat),i<((List.range' l m).map c).sum->(a4x c m l i).1<l+m/\(a4x c m l i).2<c (a4x c m l i).1:=by
 intro m
 induction m with
 |zero=>intro l i h;simp at h
 |succ m ih=>
  intro l i h
  rw[List.range'_succ,List.map_cons,List.sum_cons]at h
  unfold a4x
  split
  ·rename_i hi;exact⟨by omega,hi⟩
  ·rename_i hi
   have:=ih (l+1) (i-c l) (by omega)
   exact⟨by omega,this.2⟩
def stN (ft:Nat->Bool) (n k i:Nat):Nat->List Nat×List Nat×Nat
 |0=>([],[],i)
 |v+1=>((stN ft n k i v).1++[(a4x (fun l=>a2L ft (a2Z (stN ft n k i v).2.1 v l) (a1r n (v+1)) k) ((stN ft n k i v).2.1.length+1) 0 (stN ft n k i v).2.2).1],
   a2Z (stN ft n k i v).2.1 v (a4x (fun l=>a2L ft (a2Z (stN ft n k i v).2.1 v l) (a1r n (v+1)) k) ((stN ft n k i v).2.1.length+1) 0 (stN ft n k i v).2.2).1,
   (a4x (fun l=>a2L ft (a2Z (stN ft n k i v).2.1 v l) (a1r n (v+1)) k) ((stN ft n k i v).2.1.length+1) 0 (stN ft n k i v).2.2).2)
def b9H (ft:Nat->Bool) (n k i:Nat):List Nat:=(stN ft n k i n).1
theorem a2M (cs:List Nat) (v l:Nat):(a2Z cs v l).length=if l<cs.length then cs.length else cs.length+1:=by
 unfold a2Z;split<;>simp
structure StI (ft:Nat->Bool) (n k v:Nat) (s:List Nat×List Nat×Nat):Prop where
 len:s.1.length=v
 lt:∀l∈s.1,l<s.2.1.length
 all:∀l,l<s.2.1.length->l∈s.1
 cnt:s.2.2<a2L ft s.2.1 (a1r n v) k
theorem c7Y {ft:Nat->Bool} {n k i:Nat} (hi:i<a2L ft [] (a1r n 0) k):∀v,v<=n->StI ft n k v (stN ft n k i v):=by
 intro v
 induction v with
 |zero=>intro _;exact⟨rfl,(fun l h=>nomatch h),(fun l h=>nomatch h),hi⟩
 |succ v ih=>
  intro hv
  have h:=ih (by omega)
  have h0:=h.cnt
  rw[b0k (by omega),b0j _ _ _ (a7Y (by omega)),List.range_eq_range']at h0
  have hp:=c5C (c:=fun l=>a2L ft (a2Z (stN ft n k i v).2.1 v l) (a1r n (v+1)) k) _ _ _ h0
  show StI ft n k (v+1) (_,_,_)
  generalize hq:a4x (fun l=>a2L ft (a2Z (stN ft n k i v).2.1 v l) (a1r n (v+1)) k) ((stN ft n k i v).2.1.length+1) 0 (stN ft n k i v).2.2=q at hp⊢
  obtain⟨hp1,hp2⟩:=hp
  refine⟨by simp[h.len],fun l hl=> ?_,fun l hl=> ?_,hp2⟩
  ·show l<(a2Z _ _ _).length
   rw[a2M]
   rcases List.mem_append.1 hl with hl|hl
   ·have:=h.lt l hl
    split<;>omega
   ·rw[List.mem_singleton]at hl
    subst hl
    split
    ·assumption
    ·omega
  ·replace hl:l<(a2Z _ _ _).length:=hl
   rw[a2M]at hl
   show l∈_++[_]
   rw[List.mem_append,List.mem_singleton]
   split at hl
   ·exact .inl (h.all l hl)
   ·by_cases e:l=q.1
    ·exact .inr e
    ·exact .inl (h.all l (by omega))
theorem b4J {ft:Nat->Bool}:∀(cs:List Nat) (k:Nat),a2L ft cs 0 k=if k=cs.length/\∀c∈cs,ft c=true then 1 else 0:=by
 intro cs
 induction cs with
 |nil=>
  intro k
  show a4C ft k 0=_
  cases k with
  |zero=>simp[a4C]
  |succ k=>simp[a4C]
 |cons c cs ih=>
  intro k
  cases k with
  |zero=>rw[if_neg (by simp)];rfl
  |succ k=>
   rw[b3E,c5z,Nat.or_zero,show sdf 0 0=0 from rfl,ih]
   simp only[List.length_cons,Nat.add_right_cancel_iff,List.forall_mem_cons]
   by_cases h1:ft c=true<;>by_cases h2:k=cs.length/\∀c∈cs,ft c=true
   ·rw[if_pos h1,if_pos h2,if_pos ⟨h2.1,h1,h2.2⟩]
   ·rw[if_pos h1,if_neg h2,if_neg (fun h=>h2 ⟨h.1,h.2.2⟩)]
   ·rw[if_neg h1,if_neg (fun h=>h1 h.2.1)]
   ·rw[if_neg h1,if_neg (fun h=>h1 h.2.1)]
theorem c5D {ft:Nat->Bool} {n k i:Nat} (hi:i<a2L ft [] (a1r n 0) k):(b9H ft n k i).length=n/\(∀l∈b9H ft n k i,l<k)/\∀l,l<k->l∈b9H ft n k i:=by
 have h:=c7Y hi n (Nat.le_refl _)
 have hc:=h.cnt
 rw[b1H,b4J]at hc
 split at hc
 ·rename_i hk
  unfold b9H
  refine⟨h.len,fun l hl=> ?_,fun l hl=>h.all l (by omega)⟩
  have:=h.lt l hl
  omega
 ·omega
def a8C (p:List Nat):Nat->List Nat
 |0=>[]
 |v+1=>a2Z (a8C p v) v (p.getD v 0)
theorem c5E {ft:Nat->Bool} {n k v:Nat} {cs:List Nat} {l:Nat} (hv:v<n) (hl:l<=cs.length):a2L ft (a2Z cs v l) (a1r n (v+1)) k<=a2L ft cs (a1r n v) k:=by
 rw[b0k hv,b0j _ _ _ (a7Y hv)]
 have:∀(L:List Nat) (f:Nat->Nat),l∈L->f l<=(L.map f).sum:=by
  intro L f
  induction L with
  |nil=>intro h;cases h
  |cons a L ih=>
   intro h
   rw[List.map_cons,List.sum_cons]
   rcases List.mem_cons.1 h with rfl|h
   ·omega
   ·have:=ih h;omega
 exact this _ (fun l=>a2L ft (a2Z cs v l) (a1r n (v+1)) k) (List.mem_range.2 (by omega))
theorem d0T {ft:Nat->Bool} {n k:Nat} {p:List Nat} (hc:∀v,v<n->p.getD v 0<=(a8C p v).length) (hk:(a8C p n).length=k) (hf:∀c∈a8C p n,ft c=true):0<a2L ft [] (a1r n 0) k:=by
 have h:∀v,v<=n->a2L ft (a8C p v) (a1r n v) k<=a2L ft [] (a1r n 0) k:=by
  intro v
  induction v with
  |zero=>intro _;exact Nat.le_refl _
  |succ v ih=>intro hv;exact Nat.le_trans (c5E hv (hc v hv)) (ih (by omega))
 have:=h n (Nat.le_refl _)
 rw[b1H,b4J,if_pos ⟨hk.symm,hf⟩]at this
 omega
theorem c5F {p:List Nat}:∀v,v<=p.length->(∀u,u<v->p.getD u 0<=(a8C p u).length)->∀d,d<(a8C p v).length->(a8C p v)[d]? =some (mkN (p.map fun x:Nat=>(x:Int)) (d:Nat) v):=by
 intro v
 induction v with
 |zero=>intro _ _ d h;cases h
 |succ v ih=>
  intro hv hu d hd
  have ih:=ih (by omega) (fun u h=>hu u (by omega))
  have hlv:=hu v (by omega)
  have hpv:(p.map fun x:Nat=>(x:Int))[v]? =some ((p.getD v 0:Nat):Int):=by
   rw[List.getElem?_map,List.getElem?_eq_getElem (by omega),List.getD_eq_getElem?_getD,List.getElem?_eq_getElem (by omega)];rfl
  rw[b0h,hpv]
  have hout:∀d,(a8C p v).length<=d->mkN (p.map fun x:Nat=>(x:Int)) (d:Nat) v=0:=fun d hd=>by
   apply Nat.eq_of_testBit_eq
   intro i
   rw[Nat.zero_testBit]
   show bit _ i=false
   rw[a7U]
   have:∀w,w<=v->∀u,u<w->p.getD u 0<(a8C p w).length:=by
    intro w
    induction w with
    |zero=>intro _ u h;cases h
    |succ w ihw=>
     intro hw u h
     show _<(a2Z _ _ _).length
     rw[a2M]
     have hw':=hu w (by omega)
     by_cases e:u=w
     ·subst e;split<;>omega
     ·have:=ihw (by omega) u (by omega)
      split<;>omega
   by_cases hi:i<v
   ·have hlt:=this v (Nat.le_refl _) i hi
    have:(p.map fun x:Nat=>(x:Int))[i]? =some ((p.getD i 0:Nat):Int):=by
     rw[List.getElem?_map,List.getElem?_eq_getElem (by omega),List.getD_eq_getElem?_getD,List.getElem?_eq_getElem (by omega)];rfl
    rw[this]
    have:¬(some ((p.getD i 0:Nat):Int)=some (d:Int)):=fun e=>by injection e with e;omega
    rw[decide_eq_false this,Bool.and_false]
   ·simp[hi]
  change d<(a2Z (a8C p v) v (p.getD v 0)).length at hd
  rw[a2M]at hd
  show(a2Z (a8C p v) v (p.getD v 0))[d]? =_
  unfold a2Z
  split at hd
  ·rename_i hl
   rw[if_pos hl,List.getElem?_modify,ih d hd]
   by_cases e:p.getD v 0=d
   ·rw[if_pos (by rw[e])]
    show some (if p.getD v 0=d then _ else _)=_
    rw[if_pos e]
   ·rw[if_neg (fun h=>e (by injection h with h;omega))]
    show some (if p.getD v 0=d then _ else _)=_
    rw[if_neg e]
  ·rename_i hl
   rw[if_neg hl]
   by_cases e:p.getD v 0=d
   ·rw[if_pos (by rw[e]),List.getElem?_append_right (by omega),hout d (by omega),show d-(a8C p v).length=0 from by omega];simp[e]
   ·rw[if_neg (fun h=>e (by injection h with h;omega)),List.getElem?_append_left (by omega)]
    exact ih d (by omega)
theorem c5G {S:Nat} {F G:Nat->Nat} (h:∀s,F s<=G s):sbT S F<=sbT S G:=by
 unfold sbT
 induction sbs S with
 |nil=>exact Nat.le_refl _
 |cons a l ih=>simp only[List.map_cons,List.sum_cons];have:=h a;omega
theorem b9I {ft gt:Nat->Bool} (h:∀s,ft s=true->gt s=true):∀k S,a4C ft k S<=a4C gt k S:=by
 intro k
 induction k with
 |zero=>intro S;exact Nat.le_refl _
 |succ k ih=>
  intro S
  unfold a4C
  split
  ·exact Nat.le_refl _
  ·refine c5G fun s=> ?_
   split
   ·rename_i hs;rw[if_pos (h _ hs)];exact ih _
   ·exact Nat.zero_le _
end Go.GS
/- Enumeration: subsets one after the other, classes with a node more. -/
namespace Go.Proofs.YtlmgkkjgdapnpaaGreatDoor
open Go.Proofs.Tryz
open Go.RowKit Go.RX Go.GS
set_option maxRecDepth 100000
section
variable {H:PH} {u v w:Value}
theorem b1I:a1q prog 127=true:=by kernel_rfl
theorem b4K {s:Nat}:Con prog 82 [uv s] H fun u H'=>∃b,H b=none/\H'=H.or (a6D b s)/\u= .func (.func 127) #[] #[.pointer (some ⟨b,0,none⟩)]:=by
 refine a0b mixed d0G (by kernel_rfl) rfl ?_
 refine a0a (el_u64.vcells s) ?_
 refine a0A (cs:= #[uv s]) rfl fun b hb=> ?_
 simp only[cA,nA]
 refine a0O (a0z (vs:=[.pointer (some ⟨b,0,none⟩)]) rfl rfl) rfl ?_
 simp only[cA,nA]
 exact a0c rfl ⟨b,hb,PH.put_or hb,rfl⟩
theorem b9J {b S:Nat} {Ro:PH} (hS:S<M64):ItC prog 127 [.pointer (some ⟨b,0,none⟩)] Ro (a6D b S) (fun pre xs=>∃s,(sbs S)[pre.length]? =some s/\xs=[uv s]) (fun xs _=>xs.length=(sbs S).length) (fun _ _=>True):=by
 intro l J Jx hRo hr X hX hd w hw
 refine(a0b (H:=X.or (a6D b S)) (V:=fun _ H'=>∃X' K',PH.le (X'.or K') H'/\Disj X' K'/\((∃xs,xs.length=(sbs S).length/\J xs X')\/(∃pre,True/\Jx pre X'))) mixed c5t (by kernel_rfl) rfl ?_ w hw).mono fun e w' ⟨v,H',he,hst,hV⟩=>⟨v,H',he,hst,hV⟩
 have hb:=PH.or_right hd (a4b b S)
 refine a0g a7S rfl rfl hb rfl rfl ?_
 simp only[cA,nA]
 refine a0o (α:=Nat×Nat×List Nat×PH) (fun⟨s,f,pre,X'⟩=>[uv s]) (fun⟨s,f,pre,X'⟩=>fun H'=>s<=S/\s<f/\H'=X'.or (a6D b S)/\Disj X' (a6D b S)/\pre++b7c S f s=sbs S/\J (pre.map fun y:Nat=>[uv y]) X') (fun⟨s,f,pre,X'⟩=>f) ((S,S+1,[],X)) rfl (⟨Nat.le_refl _,Nat.lt_succ_self _,rfl,hd,rfl,hX⟩) fun⟨s,f,pre,X'⟩ H' hQ=> ?_
 simp only[cA,nA]
 obtain⟨h1,h2,rfl,hd',hpre,hJ⟩:=hQ
 obtain⟨f,rfl⟩:∃m,f=m+1:=⟨f-1,by omega⟩
 have hs:s<M64:=Nat.lt_of_le_of_lt h1 hS
 unfold b7c at hpre
 refine a3X (hr _ [uv s] X' (a6D b S) ⟨_,by rw[<-hpre,List.length_map,List.getElem?_append_right (Nat.le_refl _),Nat.sub_self];rfl,rfl⟩ hJ hd') rfl rfl rfl rfl rfl fun v X2 hd2 hV=> ?_
 simp only[cA,nA]
 obtain⟨bb,rfl,hb1,hb2⟩:∃bb,v= .bool bb/\(bb=true->J ((pre.map fun y:Nat=>[uv y])++[[uv s]]) X2)/\(bb=false->Jx ((pre.map fun y:Nat=>[uv y])++[[uv s]]) X2):=by
  rcases hV with⟨rfl,h⟩|⟨rfl,h⟩
  ·exact⟨true,rfl,fun _=>h,(fun h=>nomatch h)⟩
  ·exact⟨false,rfl,(fun h=>nomatch h),fun _=>h⟩
 refine a0a ⟨_,rfl⟩ ?_
 refine a0f (b:= !bb) rfl (fun hbb=> ?_) (fun hbb=> ?_)
 ·skip
  exact a0c rfl ⟨X2,a6D b S,PH.le.refl _,hd2,.inr ⟨_,trivial,hb2 (by simpa using hbb)⟩⟩
 ·skip
  refine a0a ⟨_,rfl⟩ ?_
  refine a0f (b:=decide (s=0)) (bE0 s) (fun h=> ?_) (fun h=> ?_)
  ·replace h:=of_decide_eq_true h
   rw[if_pos h]at hpre
   exact a0c rfl ⟨X2,a6D b S,PH.le.refl _,hd2,.inl ⟨pre.map (fun y:Nat=>[uv y])++[[uv s]],by rw[<-hpre];simp,hb1 (by simpa using hbb)⟩⟩
  ·replace h:=of_decide_eq_false h
   rw[if_neg h]at hpre
   have hb2:=PH.or_right hd2 (a4b b S)
   refine a0g a7S rfl rfl hb2 rfl rfl ?_
   simp only[cA,nA]
   have hle:(s-1)&&&S<=s-1:=Nat.and_le_left
   refine a0a ⟨_,rfl⟩ ?_
   exact⟨((s-1)&&&S,f,pre++[s],X2),Nat.lt_succ_self f,(a1R (a8B (a9e (B:=1) rfl rfl hs (by omega)) rfl (by omega) hS)),⟨Nat.and_le_right,(by show(s-1)&&&S<f;omega),rfl,hd2,by rw[<-hpre,List.append_assoc];rfl,by rw[List.map_append];exact hb1 (by simpa using hbb)⟩⟩
theorem c5H {l:List Nat} (hu:SU H u l) (hl:l.length<=1000000):Con prog 128 [u] H fun r H'=>PH.le H H'/\SO H H' 57 1 (fun s:Nat=>[uv s]) r l:=by
 refine a0b mixed d0E (by kernel_rfl) rfl ?_
 obtain⟨q1,a,c,rfl,q2,q3,q4⟩:=id hu
 refine a0l ((c5p (p:=a) (n:=l.length) (c:=c) rfl rfl rfl el_u64.und).rds _) rfl ?_
 simp only[cA,nA]
 refine a0a ⟨_,rfl⟩ ?_
 refine a0f (b:=a.isNone) rfl (fun h=> ?_) (fun h=> ?_)
 ·skip
  have h0:l.length=0:=by
   rcases q4 with h|⟨_,_,_,_,_,h,_⟩
   ·exact h
   ·subst h;cases h
  have hnil:l=[]:=List.eq_nil_of_length_eq_zero h0
  subst hnil
  exact a0c rfl ⟨PH.le.refl _,SO.nil _ _ _ _ _⟩
 ·skip
  refine b3y el_u64 rfl rfl fun v2 H1 l1 o1 _=> ?_
  simp only[cA,nA]
  refine a7M el_u64 rfl rfl rfl l1 o1 (hu.mono l1) (by simp only[List.length_nil];omega) rfl rfl fun v3 H2 l2 o2 _=> ?_
  simp only[cA,nA]
  exact a0c rfl ⟨l2,by rw[List.nil_append]at o2;exact o2⟩
theorem c5I {cs:List Nat} {n l:Nat} (hu:SU H u cs) (hc:∀c∈cs,c<M64) (hn:n<64) (hl:l<=cs.length) (hl8:cs.length<=1000):Con prog 84 [u,ii (n:Nat),ii (l:Nat)] H fun r H'=>PH.le H H'/\SO H H' 57 1 (fun s:Nat=>[uv s]) r (a2Z cs n l):=by
 refine a0b mixed d0I (by kernel_rfl) rfl ?_
 have hp:=a2z hn
 refine a0d (c5H hu (by omega)) rfl ?_
 rintro v3 H1 ⟨l1,o1⟩
 refine⟨fun h=>(nomatch h),?_⟩
 simp only[cA,nA]
 refine a0j el_u64 rfl rfl o1.se rfl ?_
 refine a0a ⟨_,rfl⟩ ?_
 refine a0a ⟨_,rfl⟩ ?_
 refine a0f (b:=decide (((l:Nat):Int)=(cs.length:Nat))) (bE _ _) (fun h=> ?_) (fun h=> ?_)
 ·replace h:=of_decide_eq_true h
  refine a0P el_u64 rfl rfl rfl (fun _=>rfl) (fun _=>rfl) l1 o1 (by omega) rfl (fun _=>rfl) rfl fun p v6 H2 l2 o2=> ?_
  simp only[cA,nA]
  have hlc:l=cs.length:=by omega
  have hat:(cs++[0])[l]? =some 0:=by rw[hlc,List.getElem?_append_right (Nat.le_refl _),Nat.sub_self];rfl
  refine a0m el_u64 rfl rfl rfl rfl (fun _=>rfl) o2.se hat rfl (fun _=>rfl) fun _=> ?_
  simp only[cA,nA]
  refine a0a ⟨_,_,rfl⟩ ?_
  refine a0a (show(0:Int)<=((n:Nat):Int) by omega) ?_
  refine a0a ⟨_,rfl⟩ ?_
  refine a1M el_u64 (a:=0|||2^n) rfl rfl rfl rfl (fun _=>rfl) (fun _=>rfl) l2 o2 (by rw[List.length_append];simp;omega) rfl (fun _=>a0R rfl (b6Y rfl (a6C rfl hn) (by decide) hp)) rfl fun p2 u2 H3 l3 o3 _=> ?_
  simp only[cA,nA]
  have e:(cs++[0]).set l (0|||2^n)=cs++[2^n]:=by rw[hlc,List.set_append_right _ _ (Nat.le_refl _),Nat.sub_self,Nat.zero_or];rfl
  rw[e]at o3
  exact a0c rfl ⟨l3,by unfold a2Z;rw[if_neg (by omega)];exact o3⟩
 ·replace h:=of_decide_eq_false h
  have hlc:l<cs.length:=by omega
  obtain⟨c,hat,_⟩:=a0t hlc
  have hcl:=hc c (List.mem_of_getElem? hat)
  refine a0m el_u64 rfl rfl rfl rfl (fun _=>rfl) o1.se hat rfl (fun _=>rfl) fun _=> ?_
  simp only[cA,nA]
  refine a0a ⟨_,_,rfl⟩ ?_
  refine a0a (show(0:Int)<=((n:Nat):Int) by omega) ?_
  refine a0a ⟨_,rfl⟩ ?_
  refine a1M el_u64 (a:=c|||2^n) rfl rfl rfl rfl (fun _=>rfl) (fun _=>rfl) l1 o1 hlc rfl (fun _=>a0R rfl (b6Y rfl (a6C rfl hn) hcl hp)) rfl fun p2 u2 H3 l3 o3 _=> ?_
  simp only[cA,nA]
  have e:cs.set l (c|||2^n)=cs.modify l (· |||2^n):=by rw[List.modify_eq_set,hat];rfl
  rw[e]at o3
  exact a0c rfl ⟨l3,by unfold a2Z;rw[if_pos hlc];exact o3⟩
end
end Go.Proofs.YtlmgkkjgdapnpaaGreatDoor
/- MADE BY rxgen.py (mkGT.py): trees of chapter 32. -/
namespace Go.Proofs.YtlmgkkjgdapnpaaGreatDoor
open Go.Proofs.Tryz
open Go.RowKit Go.RX
set_option maxRecDepth 100000
theorem c5J:a0w prog [] [] [] [] 122=some (.call false 177 [V0]
(.ret [V1])):=by kernel_rfl
end Go.Proofs.YtlmgkkjgdapnpaaGreatDoor

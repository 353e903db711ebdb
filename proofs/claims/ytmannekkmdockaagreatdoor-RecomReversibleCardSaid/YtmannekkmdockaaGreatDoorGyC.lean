/- Forests. -/
import Derived.Test.YtmannekkmdockaaGreatDoorGsI
import Derived.Test.YtmannekkmdockaaGreatDoorGtT
import Derived.Test.YtmannekkmdockaaGreatDoorRzB
import Derived.Test.YtmannekkmdockaaGreatDoorGmT
import Derived.Test.YtmannekkmdockaaGreatDoorGsF
namespace Go.GS
def a1H (f:Nat->Nat) (e:Nat×Nat):Nat->Nat:=fun x=>if f x=max (f e.1) (f e.2)then min (f e.1) (f e.2)else f x
def lab (L:List (Nat×Nat)):Nat->Nat:=L.foldl a1H id
theorem a3C (L:List (Nat×Nat)) (e:Nat×Nat):lab (L++[e])=a1H (lab L) e:=by
 unfold lab;rw[List.foldl_append];rfl
theorem a9K {f:Nat->Nat} {e:Nat×Nat} (h:f e.1=f e.2):a1H f e=f:=by
 funext x
 unfold a1H
 rw[h,Nat.max_self,Nat.min_self]
 split
 ·rename_i h;exact h.symm
 ·rfl
structure Lb (f:Nat->Nat):Prop where
 idm:∀x,f (f x)=f x
 le:∀x,f x<=x
theorem Lb.join {f:Nat->Nat} (h:Lb f) (e:Nat×Nat):Lb (a1H f e):=by
 by_cases hab:f e.1=f e.2
 ·rw[a9K hab];exact h
 have ha:=h.idm e.1
 have hb:=h.idm e.2
 refine⟨fun x=> ?_,fun x=> ?_⟩
 ·unfold a1H
  generalize f e.1=a at*
  generalize f e.2=b at*
  by_cases hx:f x=max a b
  ·rw[if_pos hx]
   by_cases hab2:a<=b
   ·rw[Nat.max_eq_right hab2,Nat.min_eq_left hab2,ha,if_neg hab]
   ·rw[Nat.max_eq_left (by omega),Nat.min_eq_right (by omega),hb,if_neg (fun h=>hab h.symm)]
  ·rw[if_neg hx,h.idm,if_neg hx]
 ·unfold a1H
  split
  ·rename_i hx
   have:=h.le x
   omega
  ·exact h.le x
theorem Lb.lab (L:List (Nat×Nat)):Lb (lab L):=by
 induction L using a2I with
 |nil=>exact⟨fun _=>rfl,fun _=>Nat.le_refl _⟩
 |snoc L e ih=>rw[a3C];exact ih.join e
def Inn (set:Nat) (L:List (Nat×Nat)):Prop:=∀e∈L,bit set e.1=true/\bit set e.2=true
theorem a3m {set:Nat} {L:List (Nat×Nat)} (h:Inn set L):∀x,bit set x=true->bit set (lab L x)=true:=by
 induction L using a2I with
 |nil=>exact fun _ h=>h
 |snoc L e ih=>
  have ih:=ih fun a ha=>h a (List.mem_append_left _ ha)
  have he:=h e (List.mem_append_right _ (List.mem_singleton.2 rfl))
  intro x hx
  rw[a3C]
  unfold a1H
  split
  ·rcases Nat.le_total (lab L e.1) (lab L e.2)with hh|hh
   ·rw[Nat.min_eq_left hh];exact ih _ he.1
   ·rw[Nat.min_eq_right hh];exact ih _ he.2
  ·exact ih x hx
def cnt (f:Nat->Nat) (set:Nat):Nat:=((List.range 64).filter fun x=>bit set x&&decide (f x=x)).length
theorem c1p {p q:Nat->Bool} {x:Nat} (hx:p x=true) (hq:∀y,q y=(p y&&decide (y≠x))):∀l:List Nat,x∈l->l.Nodup->(l.filter q).length+1=(l.filter p).length:=by
 intro l
 induction l with
 |nil=>intro h;cases h
 |cons a l ih=>
  intro hm hn
  rw[List.nodup_cons]at hn
  rcases List.mem_cons.1 hm with rfl|hm
  ·have:l.filter q=l.filter p:=by
    apply List.filter_congr
    intro y hy
    rw[hq]
    have:y≠x:=fun e=>hn.1 (e ▸ hy)
    simp[this]
   rw[List.filter_cons,List.filter_cons,if_pos hx,if_neg (by rw[hq];simp),this]
   rfl
  ·have hax:a≠x:=fun e=>hn.1 (e ▸ hm)
   have:=ih hm hn.2
   have hqa:q a=p a:=by rw[hq];simp[hax]
   rw[List.filter_cons,List.filter_cons,hqa]
   split
   ·simp only[List.length_cons];omega
   ·exact this
theorem c6b {f:Nat->Nat} (h:Lb f) {set:Nat} {e:Nat×Nat} (h1:bit set (f e.1)=true) (h2:bit set (f e.2)=true) (hs:set<M64) (hne:f e.1≠f e.2):cnt (a1H f e) set+1=cnt f set:=by
 have hm:bit set (max (f e.1) (f e.2))=true:=by
  rcases Nat.le_total (f e.1) (f e.2)with hh|hh
  ·rw[Nat.max_eq_right hh];exact h2
  ·rw[Nat.max_eq_left hh];exact h1
 have hfm:f (max (f e.1) (f e.2))=max (f e.1) (f e.2):=by
  rcases Nat.le_total (f e.1) (f e.2)with hh|hh
  ·rw[Nat.max_eq_right hh];exact h.idm _
  ·rw[Nat.max_eq_left hh];exact h.idm _
 refine c1p (x:=max (f e.1) (f e.2)) (by simp[hm,hfm]) (fun y=> ?_) _ (List.mem_range.2 (a1r hs hm)) List.nodup_range
 cases hy:bit set y with
 |false=>rfl
 |true=>
  simp only[Bool.true_and]
  rw[Bool.eq_iff_iff]
  simp only[decide_eq_true_eq,Bool.and_eq_true]
  unfold a1H
  constructor
  ·intro hj
   split at hj
   ·rename_i hfy
    have:=h.idm e.1
    have:=h.idm e.2
    exfalso
    rcases Nat.le_total (f e.1) (f e.2)with hh|hh
    ·rw[Nat.min_eq_left hh]at hj
     rw[Nat.max_eq_right hh,<-hj,h.idm]at hfy
     exact hne hfy
    ·rw[Nat.min_eq_right hh]at hj
     rw[Nat.max_eq_left hh,<-hj,h.idm]at hfy
     exact hne hfy.symm
   ·rename_i hfy
    exact⟨hj,fun e2=>hfy (by rw[hj,e2])⟩
  ·rintro⟨h3,h4⟩
   rw[if_neg (by rw[h3];exact h4)];exact h3
theorem d4H (set:Nat):cnt id set=card set:=by
 unfold cnt card els
 congr 1
 apply List.filter_congr
 intro x _;simp
def b4q:List (Nat×Nat)->Nat->Nat
 |_,0=>0
 |L,n+1=>b4q L n+match L[n]? with|some e=>if lab (L.take n) e.1=lab (L.take n) e.2 then 0 else 1|none=>0
theorem b1i (L:List (Nat×Nat)):∀n,b4q L n<=n:=by
 intro n
 induction n with
 |zero=>exact Nat.le_refl _
 |succ n ih=>
  unfold b4q
  split
  ·split<;>omega
  ·omega
def Acy (L:List (Nat×Nat)) (n:Nat):Prop:=∀i e,i<n->L[i]? =some e->lab (L.take i) e.1≠lab (L.take i) e.2
theorem a4b {L:List (Nat×Nat)}:∀n,n<=L.length->(b4q L n=n↔Acy L n):=by
 intro n
 induction n with
 |zero=>intro _;exact⟨fun _ i e hi=>by omega,fun _=>rfl⟩
 |succ n ih=>
  intro hn
  have ih:=ih (by omega)
  have hle:=b1i L n
  have he:L[n]? =some L[n]:=List.getElem?_eq_getElem hn
  unfold b4q
  rw[he]
  simp only
  constructor
  ·intro h
   split at h
   ·omega
   ·rename_i hne
    intro i e hi hie
    rcases Nat.lt_succ_iff_lt_or_eq.1 hi with hi|rfl
    ·exact ih.1 (by omega) i e hi hie
    ·rw[he]at hie;cases hie;exact hne
  ·intro h
   rw[if_neg (h n _ (by omega) he),ih.2 fun i e hi=>h i e (by omega)]
theorem a6j {L:List (Nat×Nat)} {set:Nat} (hs:set<M64) (h:Inn set L):∀n,n<=L.length->cnt (lab (L.take n)) set+b4q L n=card set:=by
 intro n
 induction n with
 |zero=>intro _;rw[List.take_zero];exact d4H set
 |succ n ih=>
  intro hn
  have ih:=ih (by omega)
  have he:L[n]? =some L[n]:=List.getElem?_eq_getElem hn
  have hin:=h _ (List.getElem_mem hn)
  have hI:Inn set (L.take n):=fun a ha=>h a (List.mem_of_mem_take ha)
  have ht:L.take (n+1)=L.take n++[L[n]]:=by rw[List.take_add_one,he];rfl
  rw[ht,a3C]
  unfold b4q
  rw[he]
  simp only
  split
  ·rename_i heq;rw[a9K heq];omega
  ·rename_i hne
   have:=c6b (Lb.lab (L.take n)) (a3m hI _ hin.1) (a3m hI _ hin.2) hs hne
   omega
def One (f:Nat->Nat) (set:Nat):Prop:=∀x y,bit set x=true->bit set y=true->f x=f y
theorem d8b {l:List Nat} (h:l.length=1):∃x,l=[x]:=by
 match l,h with
 |[x],_=>exact⟨x,rfl⟩
theorem a8s {f:Nat->Nat} (h:Lb f) {set:Nat} (hs:set<M64) (h0:set≠0) (hin:∀x,bit set x=true->bit set (f x)=true):cnt f set=1↔One f set:=by
 have hmem:∀x,x∈((List.range 64).filter fun x=>bit set x&&decide (f x=x))↔bit set x=true/\f x=x:=by
  intro x
  rw[List.mem_filter,List.mem_range]
  simp only[Bool.and_eq_true,decide_eq_true_eq]
  exact⟨fun h=>h.2,fun h=>⟨a1r hs h.1,h⟩⟩
 constructor
 ·intro hc
  obtain⟨c,hl⟩:=d8b hc
  have key:∀x,bit set x=true->f x=c:=by
   intro x hx
   have:=(hmem (f x)).2 ⟨hin x hx,h.idm x⟩
   rw[hl]at this
   simpa using this
  intro x y hx hy
  rw[key x hx,key y hy]
 ·intro h1
  obtain⟨x,hx⟩:∃x,bit set x=true:=by
   apply Classical.byContradiction
   intro hn
   exact h0 (a0F fun y=>by rw[a0J];cases hy:bit set y with|false=>rfl|true=>exact absurd ⟨y,hy⟩ hn)
  have hc:=(hmem (f x)).2 ⟨hin x hx,h.idm x⟩
  unfold cnt
  have hnd:((List.range 64).filter fun x=>bit set x&&decide (f x=x)).Nodup:=List.Pairwise.filter _ List.nodup_range
  generalize hg:((List.range 64).filter fun x=>bit set x&&decide (f x=x))=l at*
  match l,hc with
  |[a],_=>rfl
  |a::b::r,_=>
   exfalso
   have ha:=(hmem a).1 (by simp)
   have hb:=(hmem b).1 (by simp)
   have:a=b:=by rw[<-ha.2,<-hb.2];exact h1 a b ha.1 hb.1
   subst this
   simp at hnd
theorem b5Z {L:List (Nat×Nat)} {set:Nat} (hs:set<M64) (h0:set≠0) (h:Inn set L) (hl:L.length+1=card set):Acy L L.length↔One (lab L) set:=by
 have h1:=a6j hs h L.length (Nat.le_refl _)
 rw[List.take_length]at h1
 rw[<-a4b _ (Nat.le_refl _),<-a8s (Lb.lab L) hs h0 (a3m h)]
 have:=b1i L L.length
 omega
theorem a4c {L:List (Nat×Nat)} {set:Nat} (h:Inn set L) {x y:Nat} (hx:bit set x=true) (hy:bit set y=true):lab L x=lab L y↔Rch L set x y:=by
 constructor
 ·--each node reaches its label
  have key:∀L0:List (Nat×Nat),(∀e∈L0,e∈L)->∀z,bit set z=true->Rch L set z (lab L0 z):=by
   intro L0
   induction L0 using a2I with
   |nil=>intro _ z _;exact .base
   |snoc L0 e ih=>
    intro hL z hz
    have ih:=ih fun a ha=>hL a (List.mem_append_left _ ha)
    have he:=hL e (List.mem_append_right _ (List.mem_singleton.2 rfl))
    have hie:=h e he
    rw[a3C]
    unfold a1H
    split
    ·rename_i hf
     have a1:adj L e.1 e.2:=⟨e,he,.inl ⟨rfl,rfl⟩⟩
     have r1:=ih e.1 hie.1
     have r2:=ih e.2 hie.2
     have hz':=ih z hz
     have e12:Rch L set e.1 e.2:=Rch.base.step a1 hie.2
     rcases Nat.le_total (lab L0 e.1) (lab L0 e.2)with hh|hh
     ·rw[Nat.max_eq_right hh]at hf
      rw[Nat.min_eq_left hh]
      rw[hf]at hz'
      exact hz'.trans ((r2.symm hie.2).trans ((e12.symm hie.1).trans r1))
     ·rw[Nat.max_eq_left hh]at hf
      rw[Nat.min_eq_right hh]
      rw[hf]at hz'
      exact hz'.trans ((r1.symm hie.1).trans (e12.trans r2))
    ·exact ih z hz
  intro e
  have h1:=key L (fun _ h=>h) x hx
  have h2:=key L (fun _ h=>h) y hy
  rw[e]at h1
  exact h1.trans (h2.symm hy)
 ·intro hr
  have hadj:∀a b,adj L a b->lab L a=lab L b:=by
   have key:∀(L0:List (Nat×Nat)) (f:Nat->Nat),(∀a b,f a=f b->(L0.foldl a1H f) a=(L0.foldl a1H f) b)/\∀e∈L0,(L0.foldl a1H f) e.1=(L0.foldl a1H f) e.2:=by
    intro L0
    induction L0 with
    |nil=>intro f;exact⟨fun _ _ h=>h,fun e he=>by cases he⟩
    |cons e L0 ih=>
     intro f
     have hk:∀a b,f a=f b->a1H f e a=a1H f e b:=fun a b hab=>by unfold a1H;rw[hab]
     refine⟨fun a b hab=>(ih (a1H f e)).1 a b (hk a b hab),fun a ha=> ?_⟩
     rcases List.mem_cons.1 ha with rfl|ha
     ·apply(ih (a1H f a)).1
      unfold a1H
      by_cases hab:f a.1<=f a.2
      ·rw[Nat.max_eq_right hab,Nat.min_eq_left hab,if_pos rfl];split<;>rfl
      ·rw[Nat.max_eq_left (by omega),Nat.min_eq_right (by omega),if_pos rfl];split<;>rfl
     ·exact(ih (a1H f e)).2 a ha
   rintro a b ⟨e,he,⟨rfl,rfl⟩|⟨rfl,rfl⟩⟩
   ·exact(key L id).2 e he
   ·exact((key L id).2 e he).symm
  clear hy
  induction hr with
  |base=>rfl
  |step h1 ha hz ih=>rw[ih,hadj _ _ ha]
end Go.GS
/- Chapter 32: trees. -/
namespace Go.GS
structure Par (p:List Nat) (f:Nat->Nat):Prop where
 len:p.length=64
 lb:Lb f
 le:∀x y:Nat,p[x]? =some y->y<=x
 up:∀x y:Nat,p[x]? =some y->f y=f x
 fix:∀x y:Nat,p[x]? =some y->(y=x↔f x=x)
theorem Par.at {p:List Nat} {f:Nat->Nat} (h:Par p f) {x:Nat} (hx:x<64):∃y,p[x]? =some y:=⟨_,List.getElem?_eq_getElem (by rw[h.len];exact hx)⟩
theorem Par.id:Par (List.range 64) id where
 len:=by simp
 lb:=⟨fun _=>rfl,fun _=>Nat.le_refl _⟩
 le:=fun x y h=>by rw[List.getElem?_eq_some_iff]at h;obtain⟨_,rfl⟩:=h;simp
 up:=fun x y h=>by rw[List.getElem?_eq_some_iff]at h;obtain⟨_,rfl⟩:=h;simp
 fix:=fun x y h=>by rw[List.getElem?_eq_some_iff]at h;obtain⟨_,rfl⟩:=h;simp
theorem Par.join {p:List Nat} {f:Nat->Nat} (h:Par p f) {e:Nat×Nat} (h1:e.1<64) (h2:e.2<64):Par (p.set (max (f e.1) (f e.2)) (min (f e.1) (f e.2))) (a1H f e):=by
 have la:=h.lb.le e.1
 have lb:=h.lb.le e.2
 have ia:=h.lb.idm e.1
 have ib:=h.lb.idm e.2
 have hlb:=h.lb.join e
 unfold a1H at hlb⊢
 generalize f e.1=a at*
 generalize f e.2=b at*
 have hm:f (min a b)=min a b:=by rcases Nat.le_total a b with hh|hh;rw[Nat.min_eq_left hh,ia];rw[Nat.min_eq_right hh,ib]
 have hM:f (max a b)=max a b:=by rcases Nat.le_total a b with hh|hh;rw[Nat.max_eq_right hh,ib];rw[Nat.max_eq_left hh,ia]
 have hle:min a b<=max a b:=by omega
 have hMl:max a b<p.length:=by rw[h.len];omega
 generalize max a b=M at*
 generalize min a b=m at*
 refine⟨by rw[List.length_set];exact h.len,hlb,?_,?_,?_⟩
 ·intro x y hy
  rw[List.getElem?_set]at hy
  split at hy
  ·rename_i e;subst e;cases hy;exact hle
  ·exact h.le x y hy
 ·intro x y hy
  rw[List.getElem?_set]at hy
  split at hy
  ·rename_i e;subst e;cases hy
   rw[hm,if_pos hM]
   split<;>rfl
  ·rw[h.up x y hy]
 ·intro x y hy
  rw[List.getElem?_set]at hy
  split at hy
  ·rename_i e;subst e;cases hy
   rw[if_pos hM]
  ·rename_i hne
   rw[h.fix x y hy]
   split
   ·rename_i hfx
    constructor
    ·intro h1;exact absurd (hfx.symm.trans h1) hne
    ·intro h1;subst h1;rw[hm]at hfx;exact absurd hfx.symm hne
   ·exact Iff.rfl
end Go.GS
namespace Go.Proofs.YtmannekkmdockaaGreatDoor
open Go.Proofs.Tryz
theorem d1g {i:Nat} (h:i<64):(List.range i++List.replicate (64-i) 0).set i i=List.range (i+1)++List.replicate (64-(i+1)) 0:=by
 obtain⟨k,hk⟩:∃k,64-i=k+1:=⟨64-i-1,by omega⟩
 rw[hk,show 64-(i+1)=k by omega,List.replicate_succ,List.range_succ,List.append_assoc]
 simp[List.set_append]
open Go.RowKit Go.RX Go.GS
theorem a9L:El prog 193 3 1 false (fun x:Nat=>[ii (x:Nat)]) (fun x:Nat=>ii (x:Nat)) where
 und:=by kernel_rfl
 has:=by kernel_rfl
 cel:=by kernel_rfl
 agg:=by kernel_rfl
 pos:=by decide
 one1:=fun _=>rfl
 small:=by decide
 inf:=⟨(prog.info? 3).getD default,ii 0,by kernel_rfl,by kernel_rfl,by kernel_rfl,rfl,of_decide_eq_true (by kernel_rfl)⟩
 len:=fun _=>rfl
 val:=fun _=>rfl
 cells:=fun _=>rfl
 one:=fun x c hc=>by simp at hc;subst hc;rfl
abbrev PO (H0 H:PH) (v:Value) (p:List Nat):Prop:=SO H0 H 3 1 (fun x:Nat=>[ii (x:Nat)]) v p
abbrev PS (H:PH) (v:Value) (p:List Nat):Prop:=SE H 1 (fun x:Nat=>[ii (x:Nat)]) v p
section
variable {H H0:PH} {u v w wts:Value} {p:List Nat} {wl:List Int} {n:Nat} {es:List (Nat×Nat)} {lo hi ds:Int} {set x:Nat} {f:Nat->Nat} {e:Nat×Nat}
theorem b6a:Con prog 118 [] H fun r H'=>PH.le H H'/\∃v,r= .agg #[v]/\PO H H' v (List.range 64):=by
 refine a0b mixed d0V (by kernel_rfl) rfl ?_
 refine a3j a9L (z:=(0:Nat)) b8b rfl rfl rfl (m:=64) (by omega) rfl fun v H1 l1 o1 _=> ?_
 simp only[cA,nA]
 refine a0h a9L rfl rfl o1.se rfl ?_
 refine a0k (α:=Nat) (fun i=>[ii (i:Nat)]) (fun i=>fun H'=>i<=64/\PH.le H H'/\PO H H' v (List.range i++List.replicate (64-i) 0)) (fun i=>64-i) (0) rfl (⟨Nat.zero_le _,l1,o1⟩) fun i H' hQ=> ?_
 simp only[cA,nA]
 obtain⟨hi,l2,o2⟩:=hQ
 refine a0a ⟨_,rfl⟩ ?_
 refine a0a ⟨_,rfl⟩ ?_
 refine a0e (b:=decide (((i:Nat):Int)<64)) rfl (fun h=> ?_) (fun h=> ?_)
 ·replace h:=of_decide_eq_true h
  refine a0R a9L (a:=i) rfl rfl rfl rfl (fun _=>rfl) (fun _=>rfl) l2 o2 (by simp;omega) rfl (fun _=>rfl) rfl fun q u H3 l3 o3 _=> ?_
  simp only[cA,nA]
  exact⟨i+1,by omega,(a3K (a0w rfl (by omega))),⟨by omega,l3,by rw[d1g (by omega)]at o3;exact o3⟩⟩
 ·replace h:=of_decide_eq_false h
  have he:i=64:=by omega
  subst he
  refine a0a o2.se.one ?_
  exact a0c rfl ⟨l2,v,by show Value.agg v.cells=_;rw[o2.se.cells],by rw[Nat.sub_self,List.replicate_zero,List.append_nil]at o2;exact o2⟩
theorem a4u (hp:PS H v p) (h:Par p f) (hx:x<64):Asks prog 121 [v,ii (x:Nat)] H (ii (f x:Nat)):=by
 refine a0b mixed d0W (by kernel_rfl) rfl ?_
 refine a0K (α:=Nat) (fun y=>[ii (y:Nat)]) (fun y=>y<64/\f y=f x) (fun y=>y) (x) rfl (⟨hx,rfl⟩) fun y hQ=> ?_
 simp only[cA,nA]
 obtain⟨hy,hf⟩:=hQ
 obtain⟨z,hz⟩:=h.at hy
 refine a0i a9L rfl rfl rfl rfl (fun _=>rfl) hp hz rfl (fun _=>rfl) fun _=> ?_
 simp only[cA,nA]
 refine a0a ⟨_,rfl⟩ ?_
 refine a0a ⟨_,rfl⟩ ?_
 refine a0e (b:=decide (z≠y)) (by show Value.bool (((z:Nat):Int) !=((y:Nat):Int))=_;rw[bN];congr 1;apply decide_eq_decide.2;omega) (fun h2=> ?_) (fun h2=> ?_)
 ·replace h2:=of_decide_eq_true h2
  refine a0i a9L rfl rfl rfl rfl (fun _=>rfl) hp hz rfl (fun _=>rfl) fun _=> ?_
  simp only[cA,nA]
  have hle:=h.le y z hz
  exact⟨z,by omega,rfl,⟨⟨by omega,by rw[h.up y z hz,hf]⟩,rfl⟩⟩
 ·replace h2:=of_decide_eq_false h2
  have hzy:z=y:=Classical.byContradiction h2
  have:=(h.fix y z hz).1 hzy
  exact a0c rfl ⟨rfl,by rw[<-hf,this];rfl⟩
theorem b6b {o:Oper} {x y:Operand} {t u:TypeId} {a b:Int} {vs:List Value} (ho:o.op= .call ⟨.builtin .min,#[x,y],#[t,u]⟩) (hx:a0f [x,y] vs x= .int .i64 a) (hy:a0f [x,y] vs y= .int .i64 b):Yld prog o vs (.int .i64 (if b<a then b else a)):=fun w=>by
 have hos:o.op.operands.toList=[x,y]:=by simp[ho,Op.operands,Call.operands]
 rw[hos]
 simp only[execOp,ho,resolve,invoke,Sem.run_bind,Sem.run_pure,Result.andThen_ok,List.map_toArray,List.map_cons,List.map_nil,hx,hy]
 simp only[builtin,Sem.run_bind,run_min_int2,Result.andThen_ok]
 rfl
theorem b1j {o:Oper} {x y:Operand} {t u:TypeId} {a b:Int} {vs:List Value} (ho:o.op= .call ⟨.builtin .max,#[x,y],#[t,u]⟩) (hx:a0f [x,y] vs x= .int .i64 a) (hy:a0f [x,y] vs y= .int .i64 b):Yld prog o vs (.int .i64 (if b>a then b else a)):=fun w=>by
 have hos:o.op.operands.toList=[x,y]:=by simp[ho,Op.operands,Call.operands]
 rw[hos]
 simp only[execOp,ho,resolve,invoke,Sem.run_bind,Sem.run_pure,Result.andThen_ok,List.map_toArray,List.map_cons,List.map_nil,hx,hy]
 simp only[builtin,Sem.run_bind,run_max_int2,Result.andThen_ok]
 rfl
theorem b6c (hle:PH.le H0 H) (hp:PO H0 H v p) (h:Par p f) (h1:e.1<64) (h2:e.2<64):Con prog 120 [.agg #[v],ev2 e] H fun r H'=>r= .bool (decide (f e.1≠f e.2))/\PH.le H0 H'/\∃q,PO H0 H' v q/\Par q (a1H f e):=by
 refine a0b mixed d0X (by kernel_rfl) rfl ?_
 have hps:=hp.se
 have la:=h.lb.le e.1
 have lb:=h.lb.le e.2
 have emin:(if((f e.2:Nat):Int)<(f e.1:Nat)then((f e.2:Nat):Int)else(f e.1:Nat))=((min (f e.1) (f e.2):Nat):Int):=by split<;>omega
 have emax:(if((f e.2:Nat):Int)>(f e.1:Nat)then((f e.2:Nat):Int)else(f e.1:Nat))=((max (f e.1) (f e.2):Nat):Int):=by split<;>omega
 refine a0a ⟨rfl,fun c hc=>by have hc:c∈[v]:=hc;rw[List.mem_singleton]at hc;subst hc;exact a0z hps⟩ ?_
 refine a0a (el_edge.vcells e) ?_
 refine a0P (a4u hps h h1) rfl ?_
 simp only[cA,nA]
 refine a0P (a4u hps h h2) rfl ?_
 simp only[cA,nA]
 refine a0g ((b1j (vs:=[ii (f e.1:Nat),ii (f e.2:Nat)]) rfl rfl rfl).rds _) rfl ?_
 simp only[cA,nA]
 refine a0g ((b6b (vs:=[ii (f e.1:Nat),ii (f e.2:Nat)]) rfl rfl rfl).rds _) rfl ?_
 simp only[cA,nA]
 rw[emin,emax]
 refine a0R a9L (a:=min (f e.1) (f e.2)) rfl rfl rfl rfl (fun _=>rfl) (fun _=>rfl) hle hp (by rw[h.len];omega) rfl (fun _=>rfl) rfl fun q u H3 l3 o3 _=> ?_
 simp only[cA,nA]
 refine a0a ⟨_,rfl⟩ ?_
 refine a0a ⟨_,rfl⟩ ?_
 exact a0c rfl ⟨by show Value.bool (((f e.1:Nat):Int) !=((f e.2:Nat):Int))=_;rw[bN];exact congrArg Value.bool (decide_eq_decide.2 (by omega)),l3,_,o3,h.join h1 h2⟩
theorem b6d (hs:set<M64) (h1:e.1<=64) (h2:e.2<=64):Asks prog 137 [uv set,ev2 e] H (.bool (bit set e.1&&bit set e.2)):=by
 refine a0b mixed d0Y (by kernel_rfl) rfl ?_
 refine a0a (el_edge.vcells e) ?_
 refine a0a ⟨_,rfl⟩ ?_
 refine a0a ⟨_,_,rfl⟩ ?_
 refine a0a (by show(0:Int)<=((e.1:Nat):Int);omega) ?_
 refine a0e (b:=bit set e.1) (b8a rfl hs rfl h1) (fun b1=> ?_) (fun b1=> ?_)
 ·skip
  refine a0a ⟨_,_,rfl⟩ ?_
  refine a0a (by show(0:Int)<=((e.2:Nat):Int);omega) ?_
  exact a0c rfl ⟨rfl,by rw[b1];exact(b8a rfl hs rfl h2)⟩
 ·skip
  exact a0c rfl ⟨rfl,by rw[b1];rfl⟩
theorem b6e (hw:SG H w es) (hg:GV n es) (hs:set<M64):a3M prog 70 [gv n w,uv set] H (ii (if set≠0/\set<2^n then 0 else 2)):=by
 refine a0b mixed d4G (by kernel_rfl) rfl ?_
 refine a0a (a0T hw) ?_
 refine a0n (a5t hw hg) rfl fun H1 l1=> ?_
 simp only[cA,nA]
 refine a0a ⟨_,rfl⟩ ?_
 refine a0j (bF (p:=(0:Int)≠0) (by simp)) ?_
 refine a0a ⟨_,rfl⟩ ?_
 refine a0e (b:=decide (set=0)) (bE0 _) (fun h0=> ?_) (fun h0=> ?_)
 ·replace h0:=of_decide_eq_true h0
  exact a0c rfl ⟨l1,by rw[if_neg (fun e=>e.1 h0)];rfl⟩
 ·replace h0:=of_decide_eq_false h0
  refine a0u (a7T set hs) rfl ?_
  simp only[cA,nA]
  refine a0a ⟨_,rfl⟩ ?_
  refine a0a ⟨_,rfl⟩ ?_
  refine a0e (b:=decide (set≥2^n)) (by show Value.bool (decide (((Go.WD.blen set:Nat):Int)>((n:Nat):Int)))=_;congr 1;apply decide_eq_decide.2;constructor<;>intro hh<;>first|(have:=Go.WD.blen_ge hh;omega)|(apply Nat.le_of_not_lt;intro h2;have:=Go.WD.blen_le h2;omega)) (fun h=> ?_) (fun h=> ?_)
  ·replace h:=of_decide_eq_true h
   exact a0c rfl ⟨l1,by rw[if_neg (by omega)];rfl⟩
  ·replace h:=of_decide_eq_false h
   exact a0c rfl ⟨l1,by rw[if_pos ⟨h0,by omega⟩];rfl⟩
end
end Go.Proofs.YtmannekkmdockaaGreatDoor
/- Concrete runs: the iterators over the edges of a set, and over the parts of a set. -/
namespace Go.Proofs.YtmannekkmdockaaGreatDoor
open Go.Proofs.Tryz
open Go.RowKit Go.RX Go.GS
section
variable {H:PH}
theorem b2K:a4B prog 190=true:=by kernel_rfl
theorem c1q:a4B prog 203=true:=by kernel_rfl
def a1c (p:Nat):Nat:=p&&&((M64-p)%M64)
def b6f (rest least:Nat):Nat->Nat->List Nat
 |0,_=>[]
 |n+1,part=>if part=0 then[]else((part-1)&&&rest|||least)::b6f rest least n ((part-1)&&&rest)
def a1z (p:Nat):List Nat:=b6f (sdf p (a1c p)) (a1c p) (sdf p (a1c p)+1) (sdf p (a1c p))
theorem c1r {p:Nat} (h:p<M64):a1c p<M64:=Nat.lt_of_le_of_lt Nat.and_le_left h
theorem sdf_lt {a b:Nat} (h:a<M64):sdf a b<M64:=Nat.xor_lt_two_pow (n:=64) h (Nat.lt_of_le_of_lt Nat.and_le_left h)
theorem c1s {b p:Nat} {Ro:PH} (hp:p<M64):ItC prog 203 [.pointer (some ⟨b,0,none⟩)] Ro (a6U b p) (fun pre xs=>∃y,(a1z p)[pre.length]? =some y/\xs=[uv y]) (fun xs _=>xs.length=(a1z p).length) (fun _ _=>True):=by
 intro l J Jx hRo hr X hX hd w hw
 refine(a0b (H:=X.or (a6U b p)) (V:=fun _ H'=>∃X' K',PH.le (X'.or K') H'/\Disj X' K'/\((∃xs,xs.length=(a1z p).length/\J xs X')\/(∃pre,True/\Jx pre X'))) mixed c5S (by kernel_rfl) rfl ?_ w hw).mono fun e w' ⟨v,H',he,hst,hV⟩=>⟨v,H',he,hst,hV⟩
 have hb:=PH.or_right hd (a5u b p)
 have hL:=c1r hp
 have hR:sdf p (a1c p)<M64:=sdf_lt hp
 refine a0L a5s rfl rfl hb rfl rfl ?_
 simp only[cA,nA]
 refine a0L a5s rfl rfl hb rfl rfl ?_
 simp only[cA,nA]
 refine a0a ⟨_,rfl⟩ ?_
 refine a0a ⟨_,rfl⟩ ?_
 refine a0L a5s rfl rfl hb rfl rfl ?_
 simp only[cA,nA]
 refine a0a ⟨_,rfl⟩ ?_
 refine a0k (α:=Nat×Nat×List Nat×PH) (fun a=>[uv a.1]) (fun a H'=>a.1<M64/\a.1<a.2.1/\H'=a.2.2.2.or (a6U b p)/\Disj a.2.2.2 (a6U b p)/\a.2.2.1++b6f (sdf p (a1c p)) (a1c p) a.2.1 a.1=a1z p/\J (a.2.2.1.map fun y:Nat=>[uv y]) a.2.2.2) (fun a=>a.2.1) (sdf p (a1c p),sdf p (a1c p)+1,[],X)
  (a3K (a9H rfl (a4X rfl (c0I rfl hp) hp (Nat.mod_lt _ (by decide))) hp hL)) ⟨hR,Nat.lt_succ_self _,rfl,hd,rfl,hX⟩ fun a H' hQ=> ?_
 obtain⟨part,fu,pre,X'⟩:=a
 obtain⟨h1,h2,rfl,hd',hpre,hJ⟩:=hQ
 simp only at h1 h2 hd' hpre hJ
 simp only[cA,nA]
 refine a0a ⟨_,rfl⟩ ?_
 obtain⟨fu,rfl⟩:∃m,fu=m+1:=⟨fu-1,by omega⟩
 refine a0e (b:=decide (part≠0)) (bN0 part) (fun h=> ?_) (fun h=> ?_)
 ·replace h:=of_decide_eq_true h
  simp only[b6f,if_neg h]at hpre
  have hq:(part-1)&&&sdf p (a1c p)<M64:=Nat.lt_of_le_of_lt Nat.and_le_right hR
  have hle:(part-1)&&&sdf p (a1c p)<=part-1:=Nat.and_le_left
  have dL:∀{ρ:List Value},D prog ρ (.v 2)=uv p->D prog ρ (.v 3)=uv p->D prog ρ (.op2 .and .u64 (.v 2) (.op1 .neg .u64 (.v 3)))=uv (a1c p):=fun h2 h3=>a4X h2 (c0I h3 hp) hp (Nat.mod_lt _ (by decide))
  have dR:∀{ρ:List Value},D prog ρ (.v 2)=uv p->D prog ρ (.v 3)=uv p->D prog ρ (.v 4)=uv p->D prog ρ (.op2 .andNot .u64 (.v 4) (.op2 .and .u64 (.v 2) (.op1 .neg .u64 (.v 3))))=uv (sdf p (a1c p)):=fun h2 h3 h4=>a9H h4 (dL h2 h3) hp hL
  have dQ:∀{ρ:List Value},D prog ρ (.v 2)=uv p->D prog ρ (.v 3)=uv p->D prog ρ (.v 4)=uv p->D prog ρ (.v 5)=uv part->D prog ρ (.op2 .and .u64 (.op2 .sub .u64 (.v 5) (.k (.int .u64 1))) (.op2 .andNot .u64 (.v 4) (.op2 .and .u64 (.v 2) (.op1 .neg .u64 (.v 3)))))=uv ((part-1)&&&sdf p (a1c p)):=fun h2 h3 h4 h5=>a4X (b5M (B:=1) h5 rfl h1 (by omega)) (dR h2 h3 h4) (by omega) hR
  refine a8e (hr _ [uv ((part-1)&&&sdf p (a1c p)|||a1c p)] X' (a6U b p) ⟨_,by rw[<-hpre,List.length_map,List.getElem?_append_right (Nat.le_refl _),Nat.sub_self];rfl,rfl⟩ hJ hd') rfl rfl rfl (a1s rfl (a9G (dQ rfl rfl rfl rfl) (dL rfl rfl) hq hL)) rfl fun v X2 hd2 hV=> ?_
  simp only[cA,nA]
  obtain⟨bb,rfl,hb1,hb2⟩:∃bb,v= .bool bb/\(bb=true->J ((pre.map fun y:Nat=>[uv y])++[[uv ((part-1)&&&sdf p (a1c p)|||a1c p)]]) X2)/\(bb=false->Jx ((pre.map fun y:Nat=>[uv y])++[[uv ((part-1)&&&sdf p (a1c p)|||a1c p)]]) X2):=by
   rcases hV with⟨rfl,h⟩|⟨rfl,h⟩
   ·exact⟨true,rfl,fun _=>h,(fun h=>nomatch h)⟩
   ·exact⟨false,rfl,(fun h=>nomatch h),fun _=>h⟩
  refine a0a ⟨_,rfl⟩ ?_
  refine a0e (b:= !bb) rfl (fun hbb=> ?_) (fun hbb=> ?_)
  ·exact a0c rfl ⟨X2,a6U b p,PH.le.refl _,hd2,.inr ⟨_,trivial,hb2 (by simpa using hbb)⟩⟩
  ·exact⟨((part-1)&&&sdf p (a1c p),fu,pre++[(part-1)&&&sdf p (a1c p)|||a1c p],X2),Nat.lt_succ_self _,a3K (dQ rfl rfl rfl rfl),⟨hq,by show(part-1)&&&sdf p (a1c p)<fu;omega,rfl,hd2,by rw[List.append_assoc];exact hpre,by rw[List.map_append];exact hb1 (by simpa using hbb)⟩⟩
 ·replace h:=of_decide_eq_false h
  have h0:part=0:=by omega
  subst h0
  simp only[b6f,if_true,List.append_nil]at hpre
  exact a0c rfl ⟨X',a6U b p,PH.le.refl _,hd',.inl ⟨_,by rw[List.length_map,hpre],hJ⟩⟩
theorem d6U:FA prog 37 1 1:=⟨by kernel_rfl,of_decide_eq_true (by kernel_rfl),by kernel_rfl,by kernel_rfl,of_decide_eq_true (by kernel_rfl)⟩
theorem d6V:Sc prog 35:=⟨by kernel_rfl,by kernel_rfl,by kernel_rfl⟩
def a4Y (set:Nat):Nat->List (Nat×Nat)->List (Nat×(Nat×Nat))
 |_,[]=>[]
 |i,e::r=>if(bit set e.1&&bit set e.2)=true then(i,e)::a4Y set (i+1) r else a4Y set (i+1) r
def b6g (b j:Nat) (x v:Value) (T:TypeId) (s:Nat):PH:=(PH.nil.put b (.cells #[x,v] T (0,0))).put j (.cells #[uv s] 54 (0,0))
theorem b2L {b j s:Nat} {x v:Value} {T:TypeId} {es:List (Nat×Nat)} {Ro:PH} (hs:s<M64) (hbj:b≠j) (he:∀e∈es,e.1<=64/\e.2<=64) (hes:es.length<=1000000) (hv:SE Ro 2 (fun e:Nat×Nat=>[ii (e.1:Nat),ii (e.2:Nat)]) v es) (hvc:v.cells= #[v]):
  ItC prog 190 [.pointer (some ⟨b,0,none⟩),.pointer (some ⟨j,0,none⟩)] Ro (b6g b j x v T s) (fun pre xs=>∃y,(a4Y s 0 es)[pre.length]? =some y/\xs=[ii (y.1:Nat),ev2 y.2]) (fun xs _=>xs.length=(a4Y s 0 es).length) (fun _ _=>True):=by
 intro l J Jx hRo hr X hX hd w hw
 refine(a0b (H:=X.or (b6g b j x v T s)) (V:=fun _ H'=>∃X' K',PH.le (X'.or K') H'/\Disj X' K'/\((∃xs,xs.length=(a4Y s 0 es).length/\J xs X')\/(∃pre,True/\Jx pre X'))) mixed c5Z (by kernel_rfl) rfl ?_ w hw).mono fun e w' ⟨v,H',he,hst,hV⟩=>⟨v,H',he,hst,hV⟩
 have kb:b6g b j x v T s b=some (.cells #[x,v] T (0,0)):=by unfold b6g;rw[PH.put_ne _ _ hbj];exact PH.put_self _ _ _
 have kj:b6g b j x v T s j=some (.cells #[uv s] 54 (0,0)):=PH.put_self _ _ _
 have hb:=PH.or_right hd kb
 refine a2H d6U rfl rfl rfl ?_
 simp only[cA,nA]
 refine a0L d6V rfl rfl hb (u:=v) (by rfl) rfl ?_
 simp only[cA,nA]
 have hsl:∀{pre X'},J pre X'->SE (X'.or (b6g b j x v T s)) 2 (fun e:Nat×Nat=>[ii (e.1:Nat),ii (e.2:Nat)]) v es:=fun hJ=>hv.mono ((hRo _ _ hJ).trans (PH.le_or _ _))
 refine a0h el_edge rfl rfl (hsl hX) rfl ?_
 refine a0k (α:=Nat×List (Nat×Nat×Nat)×PH) (fun a=>[ii (a.1:Nat)]) (fun a H'=>a.1<=es.length/\H'=a.2.2.or (b6g b j x v T s)/\Disj a.2.2 (b6g b j x v T s)/\a.2.1++a4Y s a.1 (es.drop a.1)=a4Y s 0 es/\J (a.2.1.map fun y:Nat×Nat×Nat=>[ii (y.1:Int),ev2 y.2]) a.2.2) (fun a=>es.length-a.1) (0,[],X)
  rfl ⟨Nat.zero_le _,rfl,hd,rfl,hX⟩ fun a H' hQ=> ?_
 obtain⟨i,pre,X'⟩:=a
 obtain⟨hi,rfl,hd',hpre,hJ⟩:=hQ
 simp only at hi hd' hpre hJ
 simp only[cA,nA]
 refine a0a ⟨_,rfl⟩ ?_
 refine a0a ⟨_,rfl⟩ ?_
 refine a0e (b:=decide (((i:Nat):Int)<(es.length:Nat))) rfl (fun h=> ?_) (fun h=> ?_)
 ·replace h:=of_decide_eq_true h
  have hi':i<es.length:=by omega
  obtain⟨e,hx,hdx⟩:=a0B hi'
  obtain⟨he1,he2⟩:=he e (List.mem_of_getElem? hx)
  have hkj:=PH.or_right hd' kj
  refine a0i el_edge rfl rfl rfl rfl (fun _=>rfl) (hsl hJ) hx rfl (fun _=>rfl) fun _=> ?_
  simp only[cA,nA]
  refine a0a (el_edge.vcells e) ?_
  refine a0L a5s rfl rfl hkj rfl rfl ?_
  simp only[cA,nA]
  refine a0P (b6d hs he1 he2) rfl ?_
  simp only[cA,nA]
  refine a0a ⟨_,rfl⟩ ?_
  rw[hdx]at hpre
  refine a0e (b:=bit s e.1&&bit s e.2) rfl (fun hbit=> ?_) (fun hbit=> ?_)
  ·simp only[a4Y,hbit,if_true]at hpre
   refine a8e (hr _ [ii (i:Nat),ev2 e] X' (b6g b j x v T s) ⟨(i,e),by rw[<-hpre,List.length_map,List.getElem?_append_right (Nat.le_refl _),Nat.sub_self];rfl,rfl⟩ hJ hd') rfl rfl rfl rfl rfl fun v2 X2 hd2 hV=> ?_
   simp only[cA,nA]
   obtain⟨bb,rfl,hb1,hb2⟩:∃bb,v2= .bool bb/\(bb=true->J ((pre.map fun y:Nat×Nat×Nat=>[ii (y.1:Int),ev2 y.2])++[[ii (i:Nat),ev2 e]]) X2)/\(bb=false->Jx ((pre.map fun y:Nat×Nat×Nat=>[ii (y.1:Int),ev2 y.2])++[[ii (i:Nat),ev2 e]]) X2):=by
    rcases hV with⟨rfl,h⟩|⟨rfl,h⟩
    ·exact⟨true,rfl,fun _=>h,(fun h=>nomatch h)⟩
    ·exact⟨false,rfl,(fun h=>nomatch h),fun _=>h⟩
   refine a0a ⟨_,rfl⟩ ?_
   refine a0e (b:= !bb) rfl (fun hbb=> ?_) (fun hbb=> ?_)
   ·exact a0c rfl ⟨X2,_,PH.le.refl _,hd2,.inr ⟨_,trivial,hb2 (by simpa using hbb)⟩⟩
   ·exact⟨(i+1,pre++[(i,e)],X2),by show es.length-(i+1)<es.length-i;omega,a3K (a0w rfl (by omega)),⟨by show i+1<=es.length;omega,rfl,hd2,by rw[List.append_assoc];exact hpre,by rw[List.map_append];exact hb1 (by simpa using hbb)⟩⟩
  ·simp only[a4Y,hbit]at hpre
   exact⟨(i+1,pre,X'),by show es.length-(i+1)<es.length-i;omega,a3K (a0w rfl (by omega)),⟨by show i+1<=es.length;omega,rfl,hd',by simpa using hpre,hJ⟩⟩
 ·replace h:=of_decide_eq_false h
  rw[List.drop_eq_nil_of_le (by omega)]at hpre
  simp only[a4Y,List.append_nil]at hpre
  exact a0c rfl ⟨X',_,PH.le.refl _,hd',.inl ⟨_,by rw[List.length_map,hpre],hJ⟩⟩
end
end Go.Proofs.YtmannekkmdockaaGreatDoor
/- Chapter 32: the neighbours of a node in a set. -/
namespace Go.Proofs.YtmannekkmdockaaGreatDoor
open Go.Proofs.Tryz
open Go.RowKit Go.RX Go.GS
section
variable {H:PH} {w:Value} {n x c set left bw:Nat} {es:List (Nat×Nat)}
theorem bEn (a b:Nat):Value.bool (((a:Nat):Int)==((b:Nat):Int))= .bool (decide (a=b)):=by
 rw[bE];congr 1;apply decide_eq_decide.2;omega
end
end Go.Proofs.YtmannekkmdockaaGreatDoor
/- Chapter 32: walks at random. -/
namespace Go.RX
open Go.RowKit
section
variable {P:Program} {o:Oper}
theorem b2M {fn:Fn} {t:Nat} {v:Value} (ho:o.op= .makeFunc fn #[.tmp t] #[]):Run P o [v] (.func fn #[v] #[]):=fun w=>by
 have hos:o.op.operands.toList=[.tmp t]:=by rw[ho];rfl
 unfold Stp
 rw[hos]
 simp only[execOp,ho,Sem.run_bind,Instr.makeFunc,Sem.run_pure,Result.andThen_ok]
 exact⟨by simp[a0f,b2b],Ext.refl _⟩
variable {G:Value->PH->Prop} {nx:List (List Value->PH->Prop)} {ρ:List Value} {H:PH} {t:Tree} {id i b q:Nat} {x y:Operand} {T T':TypeId} {cs:Array Value} {args:List SV} {pf:Bool}
end
end Go.RX
namespace Go.Proofs.YtmannekkmdockaaGreatDoor
open Go.Proofs.Tryz
open Go.RowKit Go.RX Go.GS
theorem b2N (H:PH) (b:Nat):PH.le (a1B H b) H:=fun k o hk=>by
 unfold a1B at hk
 by_cases e:k=b
 ·rw[if_pos e]at hk;cases hk
 ·rw[if_neg e]at hk;exact hk
end Go.Proofs.YtmannekkmdockaaGreatDoor

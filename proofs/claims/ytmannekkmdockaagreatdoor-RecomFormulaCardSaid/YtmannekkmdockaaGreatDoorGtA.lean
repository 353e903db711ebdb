/- Plans by their districts: what is cut anew, canonical labels. -/
import Derived.Test.YtmannekkmdockaaGreatDoorGdF
import Derived.Test.YtmannekkmdockaaGreatDoorGsW
import Derived.Test.YtmannekkmdockaaGreatDoorGzF
import Derived.Test.YtmannekkmdockaaGreatDoorGsY
namespace Go.GS
theorem a0K (p:List Int) (d:Int) (i:Nat):bit (a0R p d) i=decide (p[i]? =some d):=by
 unfold a0R
 rw[b0f]
 by_cases h:p[i]? =some d
 ·have:=(List.getElem?_eq_some_iff.1 h).1
  simp[h,this]
 ·simp[h]
theorem b2r {p:List Int} {d e:Int} (h:a0R p d=a0R p e) (h0:a0R p d≠0):d=e:=by
 obtain⟨i,hi⟩:=List.mem_iff_getElem?.1 (mask_mem2.1 h0)
 have h1:bit (a0R p d) i=true:=by rw[a0K];exact decide_eq_true hi
 rw[h,a0K,decide_eq_true_iff,hi]at h1
 injection h1
def SamD (p q:List Int):Prop:=∀i j:Nat,i<p.length->j<p.length->(p[i]? =p[j]?↔q[i]? =q[j]?)
theorem b0M {f:Int->Int}:∀(r F:List Int),(∀x y,x∈F\/x∈r->y∈F\/y∈r->f x=f y->x=y)->b7g (F.map f) (r.map f)=b7g F r
 |[],F,_=>rfl
 |x::r,F,h=>by
  have hm:f x∈F.map f↔x∈F:=by
   rw[List.mem_map]
   refine⟨fun⟨y,hy,e⟩=> ?_,fun hx=>⟨x,hx,rfl⟩⟩
   rw[<-h y x (.inl hy) (.inr (by simp)) e];exact hy
  have hi:∀G:List Int,(∀y∈G,y∈F)->(G.map f).idxOf (f x)=G.idxOf x:=fun G hG=>by
   induction G with
   |nil=>rfl
   |cons y G ih=>
    rw[List.map_cons,List.idxOf_cons,List.idxOf_cons,ih (fun z hz=>hG z (by simp[hz]))]
    by_cases e:y=x
    ·subst e;simp
    ·have:f y≠f x:=fun e'=>e (h y x (.inl (hG y (by simp))) (.inr (by simp)) e')
     rw[beq_false_of_ne e,beq_false_of_ne this]
  have h2:∀a b,a∈F\/a∈r->b∈F\/b∈r->f a=f b->a=b:=fun a b ha hb=>h a b (ha.imp id fun h=>by simp[h]) (hb.imp id fun h=>by simp[h])
  rw[List.map_cons]
  simp only[b7g]
  by_cases hx:x∈F
  ·rw[if_pos (hm.2 hx),if_pos hx,b0M r F h2,hi F fun y hy=>hy]
  ·rw[if_neg (fun e=>hx (hm.1 e)),if_neg hx,List.length_map]
   have:=b0M (f:=f) r (F++[x]) (fun a b ha hb=>h a b (by
    rcases ha with ha|ha
    ·rcases List.mem_append.1 ha with ha|ha
     ·exact .inl ha
     ·exact .inr (by simp at ha;simp[ha])
    ·exact .inr (by simp[ha])) (by
    rcases hb with hb|hb
    ·rcases List.mem_append.1 hb with hb|hb
     ·exact .inl hb
     ·exact .inr (by simp at hb;simp[hb])
    ·exact .inr (by simp[hb])))
   rw[List.map_append,List.map_cons,List.map_nil]at this
   rw[this]
theorem b2s {p q:List Int} (hl:q.length=p.length) (h:SamD p q):a0m q=a0m p:=by
 let f:Int->Int:=fun d=>q.getD (p.idxOf d) 0
 have hf:∀i x,p[i]? =some x->q[i]? =some (f x):=fun i x hx=>by
  have hi:=(List.getElem?_eq_some_iff.1 hx).1
  have hxm:=List.mem_of_getElem? hx
  have h1:=List.idxOf_lt_length_of_mem hxm
  have h2:p[p.idxOf x]? =some x:=by rw[List.getElem?_eq_getElem h1,List.getElem_idxOf h1]
  have h3:=(h i (p.idxOf x) hi h1).1 (by rw[hx,h2])
  rw[h3]
  show _=some (q.getD (p.idxOf x) 0)
  rw[List.getD_eq_getElem?_getD,List.getElem?_eq_getElem (by omega)];rfl
 have hq:q=p.map f:=by
  apply List.ext_getElem?
  intro i
  by_cases hi:i<p.length
  ·rw[hf i _ (List.getElem?_eq_getElem hi),List.getElem?_map,List.getElem?_eq_getElem hi];rfl
  ·rw[List.getElem?_eq_none (by omega),List.getElem?_eq_none (by simp;omega)]
 have:=b0M (f:=f) p [] (fun x y hx hy e=>by
  have hx:=hx.resolve_left (by simp)
  have hy:=hy.resolve_left (by simp)
  obtain⟨i,hi⟩:=List.mem_iff_getElem?.1 hx
  obtain⟨j,hj⟩:=List.mem_iff_getElem?.1 hy
  have h1:=(h i j (List.getElem?_eq_some_iff.1 hi).1 (List.getElem?_eq_some_iff.1 hj).1).2 (by rw[hf i x hi,hf j y hj,e])
  rw[hi,hj]at h1
  injection h1)
 unfold a0m
 rw[hq]
 exact this
theorem SamD.symm {p q:List Int} (hl:q.length=p.length) (h:SamD p q):SamD q p:=fun i j hi hj=>(h i j (by omega) (by omega)).symm
theorem b6a {p:List Int} {i:Nat} {x:Int} (h:p[i]? =some x):(a0m p)[i]? =some (((a8s [] p).idxOf x:Nat):Int):=by
 rw[a5j,List.getElem?_map,h];rfl
theorem d0F {p:List Int} {x y:Int} (hx:x∈p) (hy:y∈p) (h:(a8s [] p).idxOf x=(a8s [] p).idxOf y):x=y:=by
 have h1:=List.idxOf_lt_length_of_mem ((a1U p [] x).2 (.inr hx))
 have h2:=List.idxOf_lt_length_of_mem ((a1U p [] y).2 (.inr hy))
 rw[<-List.getElem_idxOf h1,<-List.getElem_idxOf h2]
 simp only[h]
theorem a9j (p:List Int):SamD p (a0m p):=fun i j hi hj=>by
 rw[b6a (List.getElem?_eq_getElem hi),b6a (List.getElem?_eq_getElem hj),List.getElem?_eq_getElem hi,List.getElem?_eq_getElem hj]
 constructor
 ·intro h;injection h with h;rw[h]
 ·intro h
  injection h with h
  rw[d0F (List.getElem_mem hi) (List.getElem_mem hj) (by omega)]
theorem a8b (p:List Int):a0m (a0m p)=a0m p:=b2s (a0T p) (a9j p)
theorem mem_masks {p:List Int} {k m:Nat}:m∈masks p k↔∃d:Nat,d<k/\m=a0R p (d:Nat):=by
 unfold masks b4X
 rw[List.mem_map]
 constructor
 ·rintro⟨d,hd,rfl⟩;exact⟨d,List.mem_range.1 hd,rfl⟩
 ·rintro⟨d,hd,rfl⟩;exact⟨d,List.mem_range.2 hd,rfl⟩
theorem b2t {p:List Int} {k:Nat} (hL:LabOk p (k:Nat)) {i:Nat} {x:Int} (hx:p[i]? =some x):a0R p x∈masks p k:=by
 have:=hL.1 x (List.mem_of_getElem? hx)
 exact mem_masks.2 ⟨x.toNat,by omega,by rw[show((x.toNat:Nat):Int)=x by omega]⟩
theorem b7r {p q:List Int} {k:Nat} (hL:LabOk p (k:Nat)) (hL2:LabOk q (k:Nat)) (hl:q.length=p.length) (h1:∀m∈masks p k,m∈masks q k) (h2:∀m∈masks q k,m∈masks p k):SamD p q:=fun i j hi hj=>by
 have f:∀{p q:List Int},LabOk p (k:Nat)->q.length=p.length->(∀m∈masks p k,m∈masks q k)->∀i j:Nat,i<p.length->j<p.length->p[i]? =p[j]?->q[i]? =q[j]?:=by
  intro p q hL hl h1 i j hi hj h
  have hx:=List.getElem?_eq_getElem hi
  obtain⟨d,_,hd⟩:=mem_masks.1 (h1 _ (b2t hL hx))
  have b1:bit (a0R p p[i]) i=true:=by rw[a0K];exact decide_eq_true hx
  have b2:bit (a0R p p[i]) j=true:=by rw[a0K];exact decide_eq_true (h.symm.trans hx)
  rw[hd,a0K,decide_eq_true_iff]at b1 b2
  rw[b1,b2]
 exact⟨f hL hl h1 i j hi hj,f hL2 hl.symm h2 i j (by omega) (by omega)⟩
theorem a9k {p q:List Int} {k:Nat} (hL:LabOk p (k:Nat)) (hU:a3G p k) (hL2:LabOk q (k:Nat)) (hl:q.length=p.length) (h:SamD p q):∀m∈masks p k,m∈masks q k:=fun m hm=>by
 obtain⟨d,hd,rfl⟩:=mem_masks.1 hm
 obtain⟨i,hi⟩:=List.mem_iff_getElem?.1 (mask_mem2.1 (hU d hd))
 have hil:=(List.getElem?_eq_some_iff.1 hi).1
 have hq:=List.getElem?_eq_getElem (show i<q.length by omega)
 have e:a0R p (d:Nat)=a0R q q[i]:=a0G fun y=>by
  rw[Bool.eq_iff_iff,a0K,a0K,decide_eq_true_iff,decide_eq_true_iff,<-hi,<-hq]
  by_cases hy:y<p.length
  ·exact h y i hy hil
  ·rw[List.getElem?_eq_none (show p.length<=y by omega),List.getElem?_eq_none (show q.length<=y by omega)]
   rw[List.getElem?_eq_getElem hil,List.getElem?_eq_getElem (show i<q.length by omega)]
   simp
 rw[e]
 exact b2t hL2 hq
theorem b3U {p:List Int} {k:Nat} (hL:LabOk p (k:Nat)) (hU:a3G p k) (m:Nat):m∈masks (a0m p) k↔m∈masks p k:=by
 have h1:=a9j p
 have hL2:=a3c hL hU
 have hU2:=a2l hL hU
 exact⟨a9k hL2 hU2 hL (a0T p).symm (h1.symm (a0T p)) m,a9k hL hU hL2 (a0T p) h1 m⟩
theorem c5u {p:List Int} {k:Nat} (hU:a3G p k):(masks p k).Nodup:=by
 unfold masks b4X
 rw[List.Nodup,List.pairwise_map]
 refine List.Pairwise.imp_of_mem (fun{a b} ha hb h e=>h ?_) (List.nodup_range (n:=k))
 have:=b2r (p:=p) e (hU a (List.mem_range.1 ha))
 omega
section
variable {p:List Int} {k i j a:Nat}
theorem a8c {d:Nat} (hij:i<j) (h1:d≠i) (h2:d≠j):a0R (a4m p (i:Nat) (j:Nat) a) (d:Nat)=a0R p (d:Nat):=a0G fun y=>by
 rw[Bool.eq_iff_iff,a0K,a0K,decide_eq_true_iff,decide_eq_true_iff]
 by_cases hy:y<p.length
 ·have hx:=List.getElem?_eq_getElem hy
  rw[b0x hx,hx]
  unfold rcV
  by_cases h:p[y]=(i:Int)\/p[y]=(j:Int)
  ·rw[if_pos h]
   simp only[Option.some.injEq]
   constructor
   ·intro e;split at e<;>omega
   ·intro e;omega
  ·rw[if_neg h]
 ·rw[List.getElem?_eq_none (show(a4m p (i:Nat) (j:Nat) a).length<=y by rw[a1N];omega),List.getElem?_eq_none (show p.length<=y by omega)]
theorem c1K (hs:∀y,bit a y=true->bit (a0R p (i:Nat)|||a0R p (j:Nat)) y=true) (hij:i<j):a0R (a4m p (i:Nat) (j:Nat) a) (i:Nat)=a:=a0G fun y=>by
 rw[Bool.eq_iff_iff,a0K,decide_eq_true_iff]
 by_cases hy:y<p.length
 ·have hx:=List.getElem?_eq_getElem hy
  rw[b0x hx]
  have hs:=hs y
  rw[a0F,a0K,a0K,hx]at hs
  unfold rcV
  simp only[Option.some.injEq,Bool.or_eq_true,decide_eq_true_iff]at hs⊢
  by_cases h:p[y]=(i:Int)\/p[y]=(j:Int)
  ·rw[if_pos h]
   cases hb:bit a y with
   |true=>simp
   |false=>simp;omega
  ·rw[if_neg h]
   exact⟨fun e=>absurd (.inl e) h,fun e=>absurd (hs e) h⟩
 ·have hs:=hs y
  rw[a0F,a0K,a0K]at hs
  rw[List.getElem?_eq_none (show(a4m p (i:Nat) (j:Nat) a).length<=y by rw[a1N];omega)]
  rw[List.getElem?_eq_none (show p.length<=y by omega)]at hs
  simp only[reduceCtorEq,decide_false,Bool.or_self]at hs⊢
  exact⟨fun h=>h.elim,fun h=>absurd (hs h) (by simp)⟩
theorem b3V (hij:i<j):a0R (a4m p (i:Nat) (j:Nat) a) (j:Nat)=sdf (a0R p (i:Nat)|||a0R p (j:Nat)) a:=a0G fun y=>by
 rw[Bool.eq_iff_iff,a0K,decide_eq_true_iff,a0y,a0F,a0K,a0K]
 by_cases hy:y<p.length
 ·have hx:=List.getElem?_eq_getElem hy
  rw[b0x hx,hx]
  unfold rcV
  simp only[Option.some.injEq,Bool.and_eq_true,Bool.or_eq_true,decide_eq_true_iff]
  by_cases h:p[y]=(i:Int)\/p[y]=(j:Int)
  ·rw[if_pos h]
   cases hb:bit a y with
   |true=>simp[h];omega
   |false=>simp[h]
  ·rw[if_neg h]
   exact⟨fun e=>absurd (.inr e) h,fun e=>absurd e.1 h⟩
 ·rw[List.getElem?_eq_none (show(a4m p (i:Nat) (j:Nat) a).length<=y by rw[a1N];omega),List.getElem?_eq_none (show p.length<=y by omega)]
  simp
theorem c5v (hU:a3G p k) (hij:i<j) (hs:∀y,bit a y=true->bit (a0R p (i:Nat)|||a0R p (j:Nat)) y=true) (ha:a≠0) (hb:sdf (a0R p (i:Nat)|||a0R p (j:Nat)) a≠0):a3G (a4m p (i:Nat) (j:Nat) a) k:=fun d hd=>by
 by_cases h1:d=i
 ·subst h1;rw[c1K hs hij];exact ha
 ·by_cases h2:d=j
  ·subst h2;rw[b3V hij];exact hb
  ·rw[a8c hij h1 h2];exact hU d hd
theorem b2u (hij:i<j) (hj:j<k) (hs:∀y,bit a y=true->bit (a0R p (i:Nat)|||a0R p (j:Nat)) y=true) (m:Nat):m∈masks (a4m p (i:Nat) (j:Nat) a) k↔m=a\/m=sdf (a0R p (i:Nat)|||a0R p (j:Nat)) a\/∃d:Nat,d<k/\d≠i/\d≠j/\m=a0R p (d:Nat):=by
 rw[mem_masks]
 constructor
 ·rintro⟨d,hd,rfl⟩
  by_cases h1:d=i
  ·subst h1;exact .inl (c1K hs hij)
  ·by_cases h2:d=j
   ·subst h2;exact .inr (.inl (b3V hij))
   ·exact .inr (.inr ⟨d,hd,h1,h2,a8c hij h1 h2⟩)
 ·rintro(rfl|rfl|⟨d,hd,h1,h2,rfl⟩)
  ·exact⟨i,by omega,(c1K hs hij).symm⟩
  ·exact⟨j,hj,(b3V hij).symm⟩
  ·exact⟨d,hd,(a8c hij h1 h2).symm⟩
end
theorem d5z {a b y:Nat} (h:bit (a|||b) y=true):bit a y=true\/bit b y=true:=by rw[a0F,Bool.or_eq_true]at h;exact h
theorem a6I {p:List Int} {d e:Int} {y:Nat} (h1:bit (a0R p d) y=true) (h2:bit (a0R p e) y=true):d=e:=by
 rw[a0K,decide_eq_true_iff]at h1 h2
 rw[h1]at h2
 injection h2
theorem a8d {a:Nat} (h:a≠0):∃x,bit a x=true:=by
 obtain⟨x,h1,_⟩:=b1Q (a:=0) (b:=a) (fun e=>h e.symm) (fun y hy=>by rw[a0J]at hy;cases hy)
 exact⟨x,h1⟩
theorem b6b {a b:Nat} (h:∀y,bit a y=true->bit b y=false):sdf (a|||b) a=b:=a0G fun y=>by
 rw[a0y,a0F]
 cases ha:bit a y with
 |true=>rw[h y ha];simp
 |false=>simp
theorem b6c {a b:Nat} (h:∀y,bit a y=true->bit b y=false):sdf (a|||b) b=a:=a0G fun y=>by
 rw[a0y,a0F]
 cases ha:bit a y with
 |true=>rw[h y ha];simp
 |false=>simp
theorem d0G {S a:Nat} (h:∀y,bit a y=true->bit S y=true):sdf S (sdf S a)=a:=a0G fun y=>by
 rw[a0y,a0y]
 cases ha:bit a y with
 |true=>rw[h y ha];simp
 |false=>cases hS:bit S y<;>simp
theorem b6d {p:List Int} {k i j a:Nat} (hL:LabOk p (k:Nat)) (hij:i<j) (hj:j<k) (hs:∀y,bit a y=true->bit (a0R p (i:Nat)|||a0R p (j:Nat)) y=true) (h:a=a0R p (i:Nat)\/a=a0R p (j:Nat)):a0m (a4m p (i:Nat) (j:Nat) a)=a0m p:=by
 have hd:∀y,bit (a0R p (i:Nat)) y=true->bit (a0R p (j:Nat)) y=false:=fun y hy=>by
  cases hb:bit (a0R p (j:Nat)) y with
  |false=>rfl
  |true=>have:=a6I hy hb;omega
 have hm:∀m,m∈masks (a4m p (i:Nat) (j:Nat) a) k↔m∈masks p k:=fun m=>by
  rw[b2u hij hj hs,mem_masks]
  have e:(a=a0R p (i:Nat)/\sdf (a0R p (i:Nat)|||a0R p (j:Nat)) a=a0R p (j:Nat))\/(a=a0R p (j:Nat)/\sdf (a0R p (i:Nat)|||a0R p (j:Nat)) a=a0R p (i:Nat)):=by
   rcases h with h|h
   ·exact .inl ⟨h,by rw[h];exact b6b hd⟩
   ·exact .inr ⟨h,by rw[h];exact b6c hd⟩
  constructor
  ·rintro(rfl|rfl|⟨d,hd,_,_,rfl⟩)
   ·rcases e with⟨e,_⟩|⟨e,_⟩
    ·exact⟨i,by omega,e⟩
    ·exact⟨j,by omega,e⟩
   ·rcases e with⟨_,e⟩|⟨_,e⟩
    ·exact⟨j,by omega,e⟩
    ·exact⟨i,by omega,e⟩
   ·exact⟨d,hd,rfl⟩
  ·rintro⟨d,hd,rfl⟩
   by_cases h1:d=i
   ·subst h1
    rcases e with⟨e,_⟩|⟨_,e⟩
    ·exact .inl e.symm
    ·exact .inr (.inl e.symm)
   ·by_cases h2:d=j
    ·subst h2
     rcases e with⟨_,e⟩|⟨e,_⟩
     ·exact .inr (.inl e.symm)
     ·exact .inl e.symm
    ·exact .inr (.inr ⟨d,hd,h1,h2,rfl⟩)
 refine b2s (a1N ..) (b7r hL (b0y hL ⟨by omega,by omega⟩ ⟨by omega,by omega⟩) (a1N ..) (fun m h=>(hm m).2 h) fun m h=>(hm m).1 h)
structure Prt (p:List Int) (k i j a:Nat):Prop where
 lab:LabOk p (k:Nat)
 used:a3G p k
 ij:i<j
 jk:j<k
 sub:∀y,bit a y=true->bit (a0R p (i:Nat)|||a0R p (j:Nat)) y=true
 a0:a≠0
 b0:sdf (a0R p (i:Nat)|||a0R p (j:Nat)) a≠0
section
variable {p:List Int} {k i j a:Nat}
theorem Prt.rlab (h:Prt p k i j a):LabOk (a4m p (i:Nat) (j:Nat) a) (k:Nat):=b0y h.lab ⟨by omega,by have:=h.ij;have:=h.jk;omega⟩ ⟨by omega,by have:=h.jk;omega⟩
theorem Prt.rused (h:Prt p k i j a):a3G (a4m p (i:Nat) (j:Nat) a) k:=c5v h.used h.ij h.sub h.a0 h.b0
theorem Prt.dis (h:Prt p k i j a):∀y,bit (a0R p (i:Nat)) y=true->bit (a0R p (j:Nat)) y=false:=fun y hy=>by
 cases hb:bit (a0R p (j:Nat)) y with
 |false=>rfl
 |true=>have:=a6I hy hb;have:=h.ij;omega
theorem Prt.masks (h:Prt p k i j a) (m:Nat):m∈masks (a0m (a4m p (i:Nat) (j:Nat) a)) k↔m=a\/m=sdf (a0R p (i:Nat)|||a0R p (j:Nat)) a\/∃d:Nat,d<k/\d≠i/\d≠j/\m=a0R p (d:Nat):=by
 rw[b3U h.rlab h.rused,b2u h.ij h.jk h.sub]
theorem Prt.news (h:Prt p k i j a) (hne:a0m (a4m p (i:Nat) (j:Nat) a)≠a0m p):a∉Go.GS.masks p k/\sdf (a0R p (i:Nat)|||a0R p (j:Nat)) a∉Go.GS.masks p k:=by
 have key:∀c:Nat,c≠0->(∀y,bit c y=true->bit (a0R p (i:Nat)|||a0R p (j:Nat)) y=true)->c∈Go.GS.masks p k->c=a0R p (i:Nat)\/c=a0R p (j:Nat):=fun c hc hs hm=>by
  obtain⟨d,_,rfl⟩:=mem_masks.1 hm
  obtain⟨y,hy⟩:=a8d hc
  rcases d5z (hs y hy)with h1|h1
  ·rw[a6I hy h1];exact .inl rfl
  ·rw[a6I hy h1];exact .inr rfl
 refine⟨fun hm=>hne (b6d h.lab h.ij h.jk h.sub (key a h.a0 h.sub hm)),fun hm=> ?_⟩
 have h2:=key _ h.b0 (fun y hy=>by rw[a0y,Bool.and_eq_true]at hy;exact hy.1) hm
 refine hne (b6d h.lab h.ij h.jk h.sub ?_)
 have e:a=sdf (a0R p (i:Nat)|||a0R p (j:Nat)) (sdf (a0R p (i:Nat)|||a0R p (j:Nat)) a):=(d0G h.sub).symm
 rcases h2 with h2|h2
 ·exact .inr (e.trans (by rw[h2];exact b6b h.dis))
 ·exact .inl (e.trans (by rw[h2];exact b6c h.dis))
theorem Prt.ne_b (h:Prt p k i j a):a≠sdf (a0R p (i:Nat)|||a0R p (j:Nat)) a:=fun e=>by
 obtain⟨y,hy⟩:=a8d h.a0
 have h2:=hy
 rw[e,a0y,hy]at h2
 simp at h2
theorem Prt.fresh (h:Prt p k i j a) (hne:a0m (a4m p (i:Nat) (j:Nat) a)≠a0m p):((Go.GS.masks (a0m (a4m p (i:Nat) (j:Nat) a)) k).filter fun m=> !(Go.GS.masks p k).contains m).Perm [a,sdf (a0R p (i:Nat)|||a0R p (j:Nat)) a]:=by
 have hn:=h.news hne
 have hb:=h.ne_b
 rw[List.perm_ext_iff_of_nodup ((c5u (a2l h.rlab h.rused)).filter _) (by simp[hb])]
 intro m
 rw[List.mem_filter,h.masks]
 simp only[Bool.not_eq_true',List.mem_cons,List.not_mem_nil,or_false]
 have hc:(Go.GS.masks p k).contains m=false↔m∉Go.GS.masks p k:=by
  rw[<-Bool.not_eq_true,List.contains_iff_mem]
 rw[hc]
 constructor
 ·rintro⟨rfl|rfl|⟨d,hd,_,_,rfl⟩,h2⟩
  ·exact .inl rfl
  ·exact .inr rfl
  ·exact absurd (mem_masks.2 ⟨d,hd,rfl⟩) h2
 ·rintro(rfl|rfl)
  ·exact⟨.inl rfl,hn.1⟩
  ·exact⟨.inr (.inl rfl),hn.2⟩
theorem Prt.uniq {i2 j2 a2 x x2:Nat} (h:Prt p k i j a) (h2:Prt p k i2 j2 a2) (hne:a0m (a4m p (i:Nat) (j:Nat) a)≠a0m p) (he:a0m (a4m p (i:Nat) (j:Nat) a)=a0m (a4m p (i2:Nat) (j2:Nat) a2)) (hx:bit a x=true) (hx2:bit a2 x2=true) (hxx:a0R p (i:Nat)|||a0R p (j:Nat)=a0R p (i2:Nat)|||a0R p (j2:Nat)->x=x2):i=i2/\j=j2/\a=a2:=by
 have hne2:a0m (a4m p (i2:Nat) (j2:Nat) a2)≠a0m p:=by rw[<-he];exact hne
 have hn:=h.news hne
 have hn2:=h2.news hne2
 have hm:=h.masks
 have hm2:=h2.masks
 rw[<-he]at hm2
 have key:∀{i j a i2 j2 a2:Nat},Prt p k i j a->Prt p k i2 j2 a2->a∉Go.GS.masks p k->sdf (a0R p (i:Nat)|||a0R p (j:Nat)) a∉Go.GS.masks p k->(∀m,(m=a2\/m=sdf (a0R p (i2:Nat)|||a0R p (j2:Nat)) a2\/∃d:Nat,d<k/\d≠i2/\d≠j2/\m=a0R p (d:Nat))->(m=a\/m=sdf (a0R p (i:Nat)|||a0R p (j:Nat)) a\/∃d:Nat,d<k/\d≠i/\d≠j/\m=a0R p (d:Nat)))->∀d:Nat,d<k->d=i\/d=j->d=i2\/d=j2:=by
  intro i j a i2 j2 a2 h h2 n1 n2 hm d hd hdi
  refine Classical.byContradiction fun hnn=> ?_
  have hnn:=not_or.1 hnn
  rcases hm (a0R p (d:Nat)) (.inr (.inr ⟨d,hd,hnn.1,hnn.2,rfl⟩))with e|e|⟨d2,hd2,e1,e2,e⟩
  ·exact n1 (e ▸ mem_masks.2 ⟨d,hd,rfl⟩)
  ·exact n2 (e ▸ mem_masks.2 ⟨d,hd,rfl⟩)
  ·have:=b2r e (h.used d hd)
   omega
 have k1:=key h h2 hn.1 hn.2 (fun m hm'=>(hm m).1 ((hm2 m).2 hm'))
 have a1:=h.ij
 have a2':=h.jk
 have a3:=h2.ij
 have a4:=h2.jk
 have b1:=k1 i (by omega) (.inl rfl)
 have b2:=k1 j (by omega) (.inr rfl)
 have hi:i=i2:=by omega
 have hj:j=j2:=by omega
 subst hi;subst hj
 obtain rfl:=hxx rfl
 refine⟨rfl,rfl,?_⟩
 rcases(hm2 a).1 ((hm a).2 (.inl rfl))with e|e|⟨d,hd,_,_,e⟩
 ·exact e
 ·rw[e,a0y,hx2]at hx;simp at hx
 ·exact absurd (mem_masks.2 ⟨d,hd,e⟩) hn.1
end
end Go.GS
/- Chapter 32: the parts of a set, each once; the probabilities as a list. -/
namespace Go.Proofs.YtmannekkmdockaaGreatDoor
open Go.RowKit Go.RX Go.GS Go.RZ
open Go.WD (BP a1L wd rs toI HM sgI Rb)
theorem c1L {rest least:Nat} (hd:least&&&rest=0):∀{n part:Nat},(b7D rest least n part).Nodup
 |0,_=>List.nodup_nil
 |n+1,part=>by
  unfold b7D
  split
  ·exact List.nodup_nil
  ·refine List.nodup_cons.2 ⟨fun h=> ?_,c1L hd⟩
   obtain⟨x,h1,h2,h3⟩:=b0F h
   have f:∀y,y&&&rest=y->(y|||least)&&&rest=y:=fun y hy=>by rw[Nat.and_or_distrib_right,hy,hd,Nat.or_zero]
   have e1:=f _ (show((part-1)&&&rest)&&&rest=(part-1)&&&rest by rw[Nat.and_assoc,Nat.and_self])
   rw[h3,f x h1]at e1
   omega
theorem c1M {S:Nat}:a1c S&&&sdf S (a1c S)=0:=a0G fun y=>by
 rw[a3i,a0y,a0J]
 cases bit (a1c S) y<;>simp
theorem b6e (S:Nat):(a1E S).Nodup:=c1L c1M
noncomputable def b7s (L M:List (List Int×Rat)):List (List Int×Rat):=M.foldl (fun L x=>a6j L x.1 x.2) L
theorem b6f:∀{M L:List (List Int×Rat)},((L++M).map (·.1)).Nodup->b7s L M=L++M
 |[],L,_=>by simp[b7s]
 |x::M,L,h=>by
  have h1:a6j L x.1 x.2=L++[x]:=by
   unfold a6j
   rw[if_neg]
   rw[List.map_append,List.nodup_append]at h
   exact fun hx=>h.2.2 _ hx x.1 (by simp) rfl
  have h2:=b6f (M:=M) (L:=L++[x]) (by rw[List.append_assoc];exact h)
  show M.foldl _ (a6j L x.1 x.2)=_
  rw[h1]
  rw[List.append_assoc]at h2
  exact h2
section
variable {es:List (Nat×Nat)} {wl:List Int} {lo hi:Int} {n k m:Nat} {p:List Int}
noncomputable def c5w (es:List (Nat×Nat)) (wl:List Int) (lo hi:Int) (p:List Int) (pr:Nat×Nat) (a:Nat):Bool:=alB es wl lo hi a&&(alB es wl lo hi (sdf (unP p pr) a)&& !decide (a0v p=a0v (a2s p pr a)))
noncomputable def b6g (es:List (Nat×Nat)) (n m:Nat) (p:List Int) (pr:Nat×Nat) (a:Nat):Rat:=(((tN es a:Int):Rat)*((tN es (sdf (unP p pr) a):Int):Rat))/c2u es n m (unP p pr)
noncomputable def a8t (es:List (Nat×Nat)) (wl:List Int) (lo hi:Int) (p:List Int) (pr:Nat×Nat):List Nat:=if tN es (unP p pr)=0 then[]else(a1E (unP p pr)).filter (c5w es wl lo hi p pr)
noncomputable def b0N (es:List (Nat×Nat)) (wl:List Int) (lo hi:Int) (k:Nat) (p:List Int):List ((Nat×Nat)×Nat):=(a0w k).flatMap fun pr=>(a8t es wl lo hi p pr).map fun a=>(pr,a)
noncomputable def c6Q (es:List (Nat×Nat)) (n m:Nat) (p:List Int) (x:(Nat×Nat)×Nat):List Int×Rat:=(a0v (a2s p x.1 x.2),b6g es n m p x.1 x.2)
theorem a9l (pr:Nat×Nat):∀(l:List Nat) (L:List (List Int×Rat)),l.foldl (a4h es wl lo hi n m p pr) L=b7s L ((l.filter (c5w es wl lo hi p pr)).map fun a=>c6Q es n m p (pr,a))
 |[],L=>rfl
 |a::l,L=>by
  rw[List.foldl_cons,a9l pr l]
  unfold a4h
  have hh:(c5w es wl lo hi p pr a=true)↔(alB es wl lo hi a=true/\alB es wl lo hi (sdf (unP p pr) a)=true/\a0v p≠a0v (a2s p pr a)):=by
   unfold c5w
   simp
  by_cases h:c5w es wl lo hi p pr a=true
  ·rw[if_pos (hh.1 h),List.filter_cons_of_pos h];rfl
  ·rw[if_neg (mt hh.2 h),List.filter_cons_of_neg h]
theorem b7t:a1G es wl lo hi n k p=b7s [] ((b0N es wl lo hi k p).map (c6Q es n (a0w k).length p)):=by
 unfold a1G b0N
 generalize (a0w k).length=m
 have:∀(l:List (Nat×Nat)) (L:List (List Int×Rat)),l.foldl (a3t es wl lo hi n m p) L=b7s L ((l.flatMap fun pr=>(a8t es wl lo hi p pr).map fun a=>(pr,a)).map (c6Q es n m p)):=by
  intro l
  induction l with
  |nil=>intro L;rfl
  |cons pr l ih=>
   intro L
   rw[List.foldl_cons,ih,List.flatMap_cons,List.map_append]
   unfold b7s
   rw[List.foldl_append]
   congr 1
   unfold a3t a8t
   split
   ·rfl
   ·rw[a9l,List.map_map];rfl
 exact this _ _
theorem b6h (hL:LabOk p (k:Nat)) (hU:a3G p k) (hpl:p.length=n) (hn:n<=64) {pr:Nat×Nat} (hpr:pr∈a0w k) {a:Nat} (ha:a∈a1E (unP p pr)):Prt p k pr.1 pr.2 a/\bit a (lst (unP p pr))=true:=by
 have hpk:=a5k hpr
 have hS:=a9h hpl hn pr
 have hS0:unP p pr≠0:=fun e=>hU pr.1 (by omega) (by unfold unP at e;exact(Nat.or_eq_zero_iff.1 e).1)
 obtain⟨h1,h2,h3⟩:=b0G (a1g hn hS) hS0 ha
 obtain⟨⟨a0,a2⟩,s0,s2⟩:=a7W hS hn hS0 ha
 exact⟨⟨hL,hU,hpk.1,hpk.2,h1,a0,s0⟩,h2⟩
theorem idx_mem {x:(Nat×Nat)×Nat}:x∈b0N es wl lo hi k p↔x.1∈a0w k/\x.2∈a1E (unP p x.1)/\tN es (unP p x.1)≠0/\alB es wl lo hi x.2=true/\alB es wl lo hi (sdf (unP p x.1) x.2)=true/\a0v p≠a0v (a2s p x.1 x.2):=by
 unfold b0N
 rw[List.mem_flatMap]
 constructor
 ·rintro⟨pr,hpr,h⟩
  obtain⟨a,ha,rfl⟩:=List.mem_map.1 h
  unfold a8t at ha
  split at ha
  ·cases ha
  ·rename_i h0
   obtain⟨h1,h2⟩:=List.mem_filter.1 ha
   unfold c5w at h2
   simp only[Bool.and_eq_true,Bool.not_eq_true',decide_eq_false_iff_not]at h2
   exact⟨hpr,h1,h0,h2.1,h2.2.1,h2.2.2⟩
 ·rintro⟨h1,h2,h3,h4,h5,h6⟩
  refine⟨x.1,h1,List.mem_map.2 ⟨x.2,?_,rfl⟩⟩
  unfold a8t
  rw[if_neg h3,List.mem_filter]
  unfold c5w
  simp[h2,h4,h5,h6]
theorem d0H (i j:Nat):(b5J i j).Nodup:=by
 unfold b5J
 exact a7Z List.nodup_range fun x _ y _ h=>by have:=(Prod.mk.inj h).2;omega
theorem d0I (k:Nat):(a0w k).Nodup:=by
 unfold a0w prI
 refine a5R Prod.fst List.nodup_range (fun a _=>d0H a k) fun a _ y hy=> ?_
 unfold b5J at hy
 obtain⟨d,_,rfl⟩:=List.mem_map.1 hy;rfl
theorem d4a:(b0N es wl lo hi k p).Nodup:=by
 unfold b0N
 refine a5R Prod.fst (d0I k) (fun pr _=>a7Z ?_ fun x _ y _ h=>(Prod.mk.inj h).2) fun pr _ y hy=> ?_
 ·unfold a8t
  split
  ·exact List.nodup_nil
  ·exact(b6e _).filter _
 ·obtain⟨d,_,rfl⟩:=List.mem_map.1 hy;rfl
theorem a8e (pr:Nat×Nat) (a:Nat):(a2s p pr a).length=p.length:=by unfold a2s;rw[a0T,a1N]
theorem d0J (hL:LabOk p (k:Nat)) (hU:a3G p k) (hc:a0m p=p) (hpl:p.length=n) (hn:n<=64) {x y:(Nat×Nat)×Nat} (hx:x.1∈a0w k/\x.2∈a1E (unP p x.1)) (hy:y.1∈a0w k/\y.2∈a1E (unP p y.1)) (hne:p≠a2s p x.1 x.2) (he:a2s p x.1 x.2=a2s p y.1 y.2):x=y:=by
 obtain⟨p1,b1⟩:=b6h hL hU hpl hn hx.1 hx.2
 obtain⟨p2,b2⟩:=b6h hL hU hpl hn hy.1 hy.2
 obtain⟨h1,h2,h3⟩:=p1.uniq p2 (by rw[hc];exact fun e=>hne e.symm) he b1 b2 (fun e=>by unfold unP;rw[e])
 exact Prod.ext (Prod.ext h1 h2) h3
theorem d4b (hL:LabOk p (k:Nat)) (hU:a3G p k) (hc:a0m p=p) (hpl:p.length=n) (hn:n<=64):(((b0N es wl lo hi k p).map (c6Q es n m p)).map (·.1)).Nodup:=by
 rw[List.map_map]
 refine a7Z d4a fun x hx y hy e=> ?_
 obtain⟨x1,x2,_,_,_,x6⟩:=idx_mem.1 hx
 obtain⟨y1,y2,_⟩:=idx_mem.1 hy
 exact d0J hL hU hc hpl hn ⟨x1,x2⟩ ⟨y1,y2⟩ (fun h=>x6 (by rw[<-h])) (d0q (by rw[a8e,a8e]) e)
theorem b2v (hL:LabOk p (k:Nat)) (hU:a3G p k) (hc:a0m p=p) (hpl:p.length=n) (hn:n<=64):a1G es wl lo hi n k p=(b0N es wl lo hi k p).map (c6Q es n (a0w k).length p):=by
 rw[b7t,b6f,List.nil_append]
 rw[List.nil_append]
 exact d4b hL hU hc hpl hn
end
end Go.Proofs.YtmannekkmdockaaGreatDoor

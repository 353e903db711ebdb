/- Plans by their districts: what is cut anew, canonical labels. -/
import Derived.Test.YtmannekkmdockaaGreatDoorGdE
import Derived.Test.YtmannekkmdockaaGreatDoorGyD
namespace Go.GS
theorem a0M (p:List Int) (d:Int) (i:Nat):bit (a0o p d) i=decide (p[i]? =some d):=by
 unfold a0o
 rw[b1c]
 by_cases h:p[i]? =some d
 ·have:=(List.getElem?_eq_some_iff.1 h).1
  simp[h,this]
 ·simp[h]
theorem a5L {p:List Int} {d e:Int} (h:a0o p d=a0o p e) (h0:a0o p d≠0):d=e:=by
 obtain⟨i,hi⟩:=List.mem_iff_getElem?.1 (mask_mem2.1 h0)
 have h1:bit (a0o p d) i=true:=by rw[a0M];exact decide_eq_true hi
 rw[h,a0M,decide_eq_true_iff,hi]at h1
 injection h1
def SamD (p q:List Int):Prop:=∀i j:Nat,i<p.length->j<p.length->(p[i]? =p[j]?↔q[i]? =q[j]?)
theorem b1G {f:Int->Int}:∀(r F:List Int),(∀x y,x∈F\/x∈r->y∈F\/y∈r->f x=f y->x=y)->b8k (F.map f) (r.map f)=b8k F r
 |[],F,_=>rfl
 |x::r,F,h=>by
  have hm:f x∈F.map f↔x∈F:=by
   rw[List.mem_map]
   refine⟨fun⟨y,hy,e⟩=> ?_,fun hx=>⟨x,hx,rfl⟩⟩
   rw[<-h y x (.inl hy) (.inr (by simp)) e];exact hy
  have hi:∀G:List Int,(∀y∈G,y∈F)->(G.map f).idxOf (f x)=G.idxOf x:=fun G hG=>by
   induction G with
   |nil=>rfl
   |cons y G ih=>
    rw[List.map_cons,List.idxOf_cons,List.idxOf_cons,ih (fun z hz=>hG z (by simp[hz]))]
    by_cases e:y=x
    ·subst e;simp
    ·have:f y≠f x:=fun e'=>e (h y x (.inl (hG y (by simp))) (.inr (by simp)) e')
     rw[beq_false_of_ne e,beq_false_of_ne this]
  have h2:∀a b,a∈F\/a∈r->b∈F\/b∈r->f a=f b->a=b:=fun a b ha hb=>h a b (ha.imp id fun h=>by simp[h]) (hb.imp id fun h=>by simp[h])
  rw[List.map_cons]
  simp only[b8k]
  by_cases hx:x∈F
  ·rw[if_pos (hm.2 hx),if_pos hx,b1G r F h2,hi F fun y hy=>hy]
  ·rw[if_neg (fun e=>hx (hm.1 e)),if_neg hx,List.length_map]
   have:=b1G (f:=f) r (F++[x]) (fun a b ha hb=>h a b (by
    rcases ha with ha|ha
    ·rcases List.mem_append.1 ha with ha|ha
     ·exact .inl ha
     ·exact .inr (by simp at ha;simp[ha])
    ·exact .inr (by simp[ha])) (by
    rcases hb with hb|hb
    ·rcases List.mem_append.1 hb with hb|hb
     ·exact .inl hb
     ·exact .inr (by simp at hb;simp[hb])
    ·exact .inr (by simp[hb])))
   rw[List.map_append,List.map_cons,List.map_nil]at this
   rw[this]
theorem a8L {p q:List Int} (hl:q.length=p.length) (h:SamD p q):a0x q=a0x p:=by
 let f:Int->Int:=fun d=>q.getD (p.idxOf d) 0
 have hf:∀i x,p[i]? =some x->q[i]? =some (f x):=fun i x hx=>by
  have hi:=(List.getElem?_eq_some_iff.1 hx).1
  have hxm:=List.mem_of_getElem? hx
  have h1:=List.idxOf_lt_length_of_mem hxm
  have h2:p[p.idxOf x]? =some x:=by rw[List.getElem?_eq_getElem h1,List.getElem_idxOf h1]
  have h3:=(h i (p.idxOf x) hi h1).1 (by rw[hx,h2])
  rw[h3]
  show _=some (q.getD (p.idxOf x) 0)
  rw[List.getD_eq_getElem?_getD,List.getElem?_eq_getElem (by omega)];rfl
 have hq:q=p.map f:=by
  apply List.ext_getElem?
  intro i
  by_cases hi:i<p.length
  ·rw[hf i _ (List.getElem?_eq_getElem hi),List.getElem?_map,List.getElem?_eq_getElem hi];rfl
  ·rw[List.getElem?_eq_none (by omega),List.getElem?_eq_none (by simp;omega)]
 have:=b1G (f:=f) p [] (fun x y hx hy e=>by
  have hx:=hx.resolve_left (by simp)
  have hy:=hy.resolve_left (by simp)
  obtain⟨i,hi⟩:=List.mem_iff_getElem?.1 hx
  obtain⟨j,hj⟩:=List.mem_iff_getElem?.1 hy
  have h1:=(h i j (List.getElem?_eq_some_iff.1 hi).1 (List.getElem?_eq_some_iff.1 hj).1).2 (by rw[hf i x hi,hf j y hj,e])
  rw[hi,hj]at h1
  injection h1)
 unfold a0x
 rw[hq]
 exact this
theorem SamD.symm {p q:List Int} (hl:q.length=p.length) (h:SamD p q):SamD q p:=fun i j hi hj=>(h i j (by omega) (by omega)).symm
theorem b6V {p:List Int} {i:Nat} {x:Int} (h:p[i]? =some x):(a0x p)[i]? =some (((a9e [] p).idxOf x:Nat):Int):=by
 rw[a5E,List.getElem?_map,h];rfl
theorem d2k {p:List Int} {x y:Int} (hx:x∈p) (hy:y∈p) (h:(a9e [] p).idxOf x=(a9e [] p).idxOf y):x=y:=by
 have h1:=List.idxOf_lt_length_of_mem ((a2a p [] x).2 (.inr hx))
 have h2:=List.idxOf_lt_length_of_mem ((a2a p [] y).2 (.inr hy))
 rw[<-List.getElem_idxOf h1,<-List.getElem_idxOf h2]
 simp only[h]
theorem a9Y (p:List Int):SamD p (a0x p):=fun i j hi hj=>by
 rw[b6V (List.getElem?_eq_getElem hi),b6V (List.getElem?_eq_getElem hj),List.getElem?_eq_getElem hi,List.getElem?_eq_getElem hj]
 constructor
 ·intro h;injection h with h;rw[h]
 ·intro h
  injection h with h
  rw[d2k (List.getElem_mem hi) (List.getElem_mem hj) (by omega)]
theorem a8M (p:List Int):a0x (a0x p)=a0x p:=a8L (a0Q p) (a9Y p)
theorem mem_masks {p:List Int} {k m:Nat}:m∈masks p k↔∃d:Nat,d<k/\m=a0o p (d:Nat):=by
 unfold masks b5W
 rw[List.mem_map]
 constructor
 ·rintro⟨d,hd,rfl⟩;exact⟨d,List.mem_range.1 hd,rfl⟩
 ·rintro⟨d,hd,rfl⟩;exact⟨d,List.mem_range.2 hd,rfl⟩
theorem b3g {p:List Int} {k:Nat} (hL:LabOk p (k:Nat)) {i:Nat} {x:Int} (hx:p[i]? =some x):a0o p x∈masks p k:=by
 have:=hL.1 x (List.mem_of_getElem? hx)
 exact mem_masks.2 ⟨x.toNat,by omega,by rw[show((x.toNat:Nat):Int)=x by omega]⟩
theorem a9Z {p q:List Int} {k:Nat} (hL:LabOk p (k:Nat)) (hL2:LabOk q (k:Nat)) (hl:q.length=p.length) (h1:∀m∈masks p k,m∈masks q k) (h2:∀m∈masks q k,m∈masks p k):SamD p q:=fun i j hi hj=>by
 have f:∀{p q:List Int},LabOk p (k:Nat)->q.length=p.length->(∀m∈masks p k,m∈masks q k)->∀i j:Nat,i<p.length->j<p.length->p[i]? =p[j]?->q[i]? =q[j]?:=by
  intro p q hL hl h1 i j hi hj h
  have hx:=List.getElem?_eq_getElem hi
  obtain⟨d,_,hd⟩:=mem_masks.1 (h1 _ (b3g hL hx))
  have b1:bit (a0o p p[i]) i=true:=by rw[a0M];exact decide_eq_true hx
  have b2:bit (a0o p p[i]) j=true:=by rw[a0M];exact decide_eq_true (h.symm.trans hx)
  rw[hd,a0M,decide_eq_true_iff]at b1 b2
  rw[b1,b2]
 exact⟨f hL hl h1 i j hi hj,f hL2 hl.symm h2 i j (by omega) (by omega)⟩
theorem b0a {p q:List Int} {k:Nat} (hL:LabOk p (k:Nat)) (hU:a3B p k) (hL2:LabOk q (k:Nat)) (hl:q.length=p.length) (h:SamD p q):∀m∈masks p k,m∈masks q k:=fun m hm=>by
 obtain⟨d,hd,rfl⟩:=mem_masks.1 hm
 obtain⟨i,hi⟩:=List.mem_iff_getElem?.1 (mask_mem2.1 (hU d hd))
 have hil:=(List.getElem?_eq_some_iff.1 hi).1
 have hq:=List.getElem?_eq_getElem (show i<q.length by omega)
 have e:a0o p (d:Nat)=a0o q q[i]:=a0F fun y=>by
  rw[Bool.eq_iff_iff,a0M,a0M,decide_eq_true_iff,decide_eq_true_iff,<-hi,<-hq]
  by_cases hy:y<p.length
  ·exact h y i hy hil
  ·rw[List.getElem?_eq_none (show p.length<=y by omega),List.getElem?_eq_none (show q.length<=y by omega)]
   rw[List.getElem?_eq_getElem hil,List.getElem?_eq_getElem (show i<q.length by omega)]
   simp
 rw[e]
 exact b3g hL2 hq
theorem a3I {p:List Int} {k:Nat} (hL:LabOk p (k:Nat)) (hU:a3B p k) (m:Nat):m∈masks (a0x p) k↔m∈masks p k:=by
 have h1:=a9Y p
 have hL2:=a2y hL hU
 have hU2:=a1M hL hU
 exact⟨b0a hL2 hU2 hL (a0Q p).symm (h1.symm (a0Q p)) m,b0a hL hU hL2 (a0Q p) h1 m⟩
theorem a7o {p:List Int} {k:Nat} (hU:a3B p k):(masks p k).Nodup:=by
 unfold masks b5W
 rw[List.Nodup,List.pairwise_map]
 refine List.Pairwise.imp_of_mem (fun{a b} ha hb h e=>h ?_) (List.nodup_range (n:=k))
 have:=a5L (p:=p) e (hU a (List.mem_range.1 ha))
 omega
section
variable {p:List Int} {k i j a:Nat}
theorem a5M {d:Nat} (hij:i<j) (h1:d≠i) (h2:d≠j):a0o (a2C p (i:Nat) (j:Nat) a) (d:Nat)=a0o p (d:Nat):=a0F fun y=>by
 rw[Bool.eq_iff_iff,a0M,a0M,decide_eq_true_iff,decide_eq_true_iff]
 by_cases hy:y<p.length
 ·have hx:=List.getElem?_eq_getElem hy
  rw[b1v hx,hx]
  unfold rcV
  by_cases h:p[y]=(i:Int)\/p[y]=(j:Int)
  ·rw[if_pos h]
   simp only[Option.some.injEq]
   constructor
   ·intro e;split at e<;>omega
   ·intro e;omega
  ·rw[if_neg h]
 ·rw[List.getElem?_eq_none (show(a2C p (i:Nat) (j:Nat) a).length<=y by rw[a1t];omega),List.getElem?_eq_none (show p.length<=y by omega)]
theorem b6W (hs:∀y,bit a y=true->bit (a0o p (i:Nat)|||a0o p (j:Nat)) y=true) (hij:i<j):a0o (a2C p (i:Nat) (j:Nat) a) (i:Nat)=a:=a0F fun y=>by
 rw[Bool.eq_iff_iff,a0M,decide_eq_true_iff]
 by_cases hy:y<p.length
 ·have hx:=List.getElem?_eq_getElem hy
  rw[b1v hx]
  have hs:=hs y
  rw[a0G,a0M,a0M,hx]at hs
  unfold rcV
  simp only[Option.some.injEq,Bool.or_eq_true,decide_eq_true_iff]at hs⊢
  by_cases h:p[y]=(i:Int)\/p[y]=(j:Int)
  ·rw[if_pos h]
   cases hb:bit a y with
   |true=>simp
   |false=>simp;omega
  ·rw[if_neg h]
   exact⟨fun e=>absurd (.inl e) h,fun e=>absurd (hs e) h⟩
 ·have hs:=hs y
  rw[a0G,a0M,a0M]at hs
  rw[List.getElem?_eq_none (show(a2C p (i:Nat) (j:Nat) a).length<=y by rw[a1t];omega)]
  rw[List.getElem?_eq_none (show p.length<=y by omega)]at hs
  simp only[reduceCtorEq,decide_false,Bool.or_self]at hs⊢
  exact⟨fun h=>h.elim,fun h=>absurd (hs h) (by simp)⟩
theorem b1H (hij:i<j):a0o (a2C p (i:Nat) (j:Nat) a) (j:Nat)=sdf (a0o p (i:Nat)|||a0o p (j:Nat)) a:=a0F fun y=>by
 rw[Bool.eq_iff_iff,a0M,decide_eq_true_iff,a0p,a0G,a0M,a0M]
 by_cases hy:y<p.length
 ·have hx:=List.getElem?_eq_getElem hy
  rw[b1v hx,hx]
  unfold rcV
  simp only[Option.some.injEq,Bool.and_eq_true,Bool.or_eq_true,decide_eq_true_iff]
  by_cases h:p[y]=(i:Int)\/p[y]=(j:Int)
  ·rw[if_pos h]
   cases hb:bit a y with
   |true=>simp[h];omega
   |false=>simp[h]
  ·rw[if_neg h]
   exact⟨fun e=>absurd (.inr e) h,fun e=>absurd e.1 h⟩
 ·rw[List.getElem?_eq_none (show(a2C p (i:Nat) (j:Nat) a).length<=y by rw[a1t];omega),List.getElem?_eq_none (show p.length<=y by omega)]
  simp
theorem c6X (hU:a3B p k) (hij:i<j) (hs:∀y,bit a y=true->bit (a0o p (i:Nat)|||a0o p (j:Nat)) y=true) (ha:a≠0) (hb:sdf (a0o p (i:Nat)|||a0o p (j:Nat)) a≠0):a3B (a2C p (i:Nat) (j:Nat) a) k:=fun d hd=>by
 by_cases h1:d=i
 ·subst h1;rw[b6W hs hij];exact ha
 ·by_cases h2:d=j
  ·subst h2;rw[b1H hij];exact hb
  ·rw[a5M hij h1 h2];exact hU d hd
theorem a5N (hij:i<j) (hj:j<k) (hs:∀y,bit a y=true->bit (a0o p (i:Nat)|||a0o p (j:Nat)) y=true) (m:Nat):m∈masks (a2C p (i:Nat) (j:Nat) a) k↔m=a\/m=sdf (a0o p (i:Nat)|||a0o p (j:Nat)) a\/∃d:Nat,d<k/\d≠i/\d≠j/\m=a0o p (d:Nat):=by
 rw[mem_masks]
 constructor
 ·rintro⟨d,hd,rfl⟩
  by_cases h1:d=i
  ·subst h1;exact .inl (b6W hs hij)
  ·by_cases h2:d=j
   ·subst h2;exact .inr (.inl (b1H hij))
   ·exact .inr (.inr ⟨d,hd,h1,h2,a5M hij h1 h2⟩)
 ·rintro(rfl|rfl|⟨d,hd,h1,h2,rfl⟩)
  ·exact⟨i,by omega,(b6W hs hij).symm⟩
  ·exact⟨j,hj,(b1H hij).symm⟩
  ·exact⟨d,hd,(a5M hij h1 h2).symm⟩
end
theorem b4K {a b y:Nat} (h:bit (a|||b) y=true):bit a y=true\/bit b y=true:=by rw[a0G,Bool.or_eq_true]at h;exact h
theorem d7G {a b y:Nat} (h:bit a y=true):bit (a|||b) y=true:=by rw[a0G,h];rfl
theorem d8f {a b y:Nat} (h:bit b y=true):bit (a|||b) y=true:=by rw[a0G,h,Bool.or_true]
theorem a3J {p:List Int} {d e:Int} {y:Nat} (h1:bit (a0o p d) y=true) (h2:bit (a0o p e) y=true):d=e:=by
 rw[a0M,decide_eq_true_iff]at h1 h2
 rw[h1]at h2
 injection h2
theorem a2z {a:Nat} (h:a≠0):∃x,bit a x=true:=by
 obtain⟨x,h1,_⟩:=b2H (a:=0) (b:=a) (fun e=>h e.symm) (fun y hy=>by rw[a0J]at hy;cases hy)
 exact⟨x,h1⟩
theorem a4x {a b:Nat} (h:∀y,bit a y=true->bit b y=false):sdf (a|||b) a=b:=a0F fun y=>by
 rw[a0p,a0G]
 cases ha:bit a y with
 |true=>rw[h y ha];simp
 |false=>simp
theorem a5O {a b:Nat} (h:∀y,bit a y=true->bit b y=false):sdf (a|||b) b=a:=a0F fun y=>by
 rw[a0p,a0G]
 cases ha:bit a y with
 |true=>rw[h y ha];simp
 |false=>simp
theorem d2l {S a:Nat} (h:∀y,bit a y=true->bit S y=true):sdf S (sdf S a)=a:=a0F fun y=>by
 rw[a0p,a0p]
 cases ha:bit a y with
 |true=>rw[h y ha];simp
 |false=>cases hS:bit S y<;>simp
theorem b6X {p:List Int} {k i j a:Nat} (hL:LabOk p (k:Nat)) (hij:i<j) (hj:j<k) (hs:∀y,bit a y=true->bit (a0o p (i:Nat)|||a0o p (j:Nat)) y=true) (h:a=a0o p (i:Nat)\/a=a0o p (j:Nat)):a0x (a2C p (i:Nat) (j:Nat) a)=a0x p:=by
 have hd:∀y,bit (a0o p (i:Nat)) y=true->bit (a0o p (j:Nat)) y=false:=fun y hy=>by
  cases hb:bit (a0o p (j:Nat)) y with
  |false=>rfl
  |true=>have:=a3J hy hb;omega
 have hm:∀m,m∈masks (a2C p (i:Nat) (j:Nat) a) k↔m∈masks p k:=fun m=>by
  rw[a5N hij hj hs,mem_masks]
  have e:(a=a0o p (i:Nat)/\sdf (a0o p (i:Nat)|||a0o p (j:Nat)) a=a0o p (j:Nat))\/(a=a0o p (j:Nat)/\sdf (a0o p (i:Nat)|||a0o p (j:Nat)) a=a0o p (i:Nat)):=by
   rcases h with h|h
   ·exact .inl ⟨h,by rw[h];exact a4x hd⟩
   ·exact .inr ⟨h,by rw[h];exact a5O hd⟩
  constructor
  ·rintro(rfl|rfl|⟨d,hd,_,_,rfl⟩)
   ·rcases e with⟨e,_⟩|⟨e,_⟩
    ·exact⟨i,by omega,e⟩
    ·exact⟨j,by omega,e⟩
   ·rcases e with⟨_,e⟩|⟨_,e⟩
    ·exact⟨j,by omega,e⟩
    ·exact⟨i,by omega,e⟩
   ·exact⟨d,hd,rfl⟩
  ·rintro⟨d,hd,rfl⟩
   by_cases h1:d=i
   ·subst h1
    rcases e with⟨e,_⟩|⟨_,e⟩
    ·exact .inl e.symm
    ·exact .inr (.inl e.symm)
   ·by_cases h2:d=j
    ·subst h2
     rcases e with⟨_,e⟩|⟨e,_⟩
     ·exact .inr (.inl e.symm)
     ·exact .inl e.symm
    ·exact .inr (.inr ⟨d,hd,h1,h2,rfl⟩)
 refine a8L (a1t ..) (a9Z hL (b1w hL ⟨by omega,by omega⟩ ⟨by omega,by omega⟩) (a1t ..) (fun m h=>(hm m).2 h) fun m h=>(hm m).1 h)
structure Prt (p:List Int) (k i j a:Nat):Prop where
 lab:LabOk p (k:Nat)
 used:a3B p k
 ij:i<j
 jk:j<k
 sub:∀y,bit a y=true->bit (a0o p (i:Nat)|||a0o p (j:Nat)) y=true
 a0:a≠0
 b0:sdf (a0o p (i:Nat)|||a0o p (j:Nat)) a≠0
section
variable {p:List Int} {k i j a:Nat}
theorem Prt.rlab (h:Prt p k i j a):LabOk (a2C p (i:Nat) (j:Nat) a) (k:Nat):=b1w h.lab ⟨by omega,by have:=h.ij;have:=h.jk;omega⟩ ⟨by omega,by have:=h.jk;omega⟩
theorem Prt.rused (h:Prt p k i j a):a3B (a2C p (i:Nat) (j:Nat) a) k:=c6X h.used h.ij h.sub h.a0 h.b0
theorem Prt.dis (h:Prt p k i j a):∀y,bit (a0o p (i:Nat)) y=true->bit (a0o p (j:Nat)) y=false:=fun y hy=>by
 cases hb:bit (a0o p (j:Nat)) y with
 |false=>rfl
 |true=>have:=a3J hy hb;have:=h.ij;omega
theorem Prt.masks (h:Prt p k i j a) (m:Nat):m∈masks (a0x (a2C p (i:Nat) (j:Nat) a)) k↔m=a\/m=sdf (a0o p (i:Nat)|||a0o p (j:Nat)) a\/∃d:Nat,d<k/\d≠i/\d≠j/\m=a0o p (d:Nat):=by
 rw[a3I h.rlab h.rused,a5N h.ij h.jk h.sub]
theorem Prt.news (h:Prt p k i j a) (hne:a0x (a2C p (i:Nat) (j:Nat) a)≠a0x p):a∉Go.GS.masks p k/\sdf (a0o p (i:Nat)|||a0o p (j:Nat)) a∉Go.GS.masks p k:=by
 have key:∀c:Nat,c≠0->(∀y,bit c y=true->bit (a0o p (i:Nat)|||a0o p (j:Nat)) y=true)->c∈Go.GS.masks p k->c=a0o p (i:Nat)\/c=a0o p (j:Nat):=fun c hc hs hm=>by
  obtain⟨d,_,rfl⟩:=mem_masks.1 hm
  obtain⟨y,hy⟩:=a2z hc
  rcases b4K (hs y hy)with h1|h1
  ·rw[a3J hy h1];exact .inl rfl
  ·rw[a3J hy h1];exact .inr rfl
 refine⟨fun hm=>hne (b6X h.lab h.ij h.jk h.sub (key a h.a0 h.sub hm)),fun hm=> ?_⟩
 have h2:=key _ h.b0 (fun y hy=>by rw[a0p,Bool.and_eq_true]at hy;exact hy.1) hm
 refine hne (b6X h.lab h.ij h.jk h.sub ?_)
 have e:a=sdf (a0o p (i:Nat)|||a0o p (j:Nat)) (sdf (a0o p (i:Nat)|||a0o p (j:Nat)) a):=(d2l h.sub).symm
 rcases h2 with h2|h2
 ·exact .inr (e.trans (by rw[h2];exact a4x h.dis))
 ·exact .inl (e.trans (by rw[h2];exact a5O h.dis))
theorem Prt.ne_b (h:Prt p k i j a):a≠sdf (a0o p (i:Nat)|||a0o p (j:Nat)) a:=fun e=>by
 obtain⟨y,hy⟩:=a2z h.a0
 have h2:=hy
 rw[e,a0p,hy]at h2
 simp at h2
theorem Prt.uniq {i2 j2 a2 x x2:Nat} (h:Prt p k i j a) (h2:Prt p k i2 j2 a2) (hne:a0x (a2C p (i:Nat) (j:Nat) a)≠a0x p) (he:a0x (a2C p (i:Nat) (j:Nat) a)=a0x (a2C p (i2:Nat) (j2:Nat) a2)) (hx:bit a x=true) (hx2:bit a2 x2=true) (hxx:a0o p (i:Nat)|||a0o p (j:Nat)=a0o p (i2:Nat)|||a0o p (j2:Nat)->x=x2):i=i2/\j=j2/\a=a2:=by
 have hne2:a0x (a2C p (i2:Nat) (j2:Nat) a2)≠a0x p:=by rw[<-he];exact hne
 have hn:=h.news hne
 have hn2:=h2.news hne2
 have hm:=h.masks
 have hm2:=h2.masks
 rw[<-he]at hm2
 have key:∀{i j a i2 j2 a2:Nat},Prt p k i j a->Prt p k i2 j2 a2->a∉Go.GS.masks p k->sdf (a0o p (i:Nat)|||a0o p (j:Nat)) a∉Go.GS.masks p k->(∀m,(m=a2\/m=sdf (a0o p (i2:Nat)|||a0o p (j2:Nat)) a2\/∃d:Nat,d<k/\d≠i2/\d≠j2/\m=a0o p (d:Nat))->(m=a\/m=sdf (a0o p (i:Nat)|||a0o p (j:Nat)) a\/∃d:Nat,d<k/\d≠i/\d≠j/\m=a0o p (d:Nat)))->∀d:Nat,d<k->d=i\/d=j->d=i2\/d=j2:=by
  intro i j a i2 j2 a2 h h2 n1 n2 hm d hd hdi
  refine Classical.byContradiction fun hnn=> ?_
  have hnn:=not_or.1 hnn
  rcases hm (a0o p (d:Nat)) (.inr (.inr ⟨d,hd,hnn.1,hnn.2,rfl⟩))with e|e|⟨d2,hd2,e1,e2,e⟩
  ·exact n1 (e ▸ mem_masks.2 ⟨d,hd,rfl⟩)
  ·exact n2 (e ▸ mem_masks.2 ⟨d,hd,rfl⟩)
  ·have:=a5L e (h.used d hd)
   omega
 have k1:=key h h2 hn.1 hn.2 (fun m hm'=>(hm m).1 ((hm2 m).2 hm'))
 have a1:=h.ij
 have a2':=h.jk
 have a3:=h2.ij
 have a4:=h2.jk
 have b1:=k1 i (by omega) (.inl rfl)
 have b2:=k1 j (by omega) (.inr rfl)
 have hi:i=i2:=by omega
 have hj:j=j2:=by omega
 subst hi;subst hj
 obtain rfl:=hxx rfl
 refine⟨rfl,rfl,?_⟩
 rcases(hm2 a).1 ((hm a).2 (.inl rfl))with e|e|⟨d,hd,_,_,e⟩
 ·exact e
 ·rw[e,a0p,hx2]at hx;simp at hx
 ·exact absurd (mem_masks.2 ⟨d,hd,e⟩) hn.1
theorem Prt.back (h:Prt p k i j a):∃i2 j2:Nat,i2<j2/\j2<k/\a0o (a0x (a2C p (i:Nat) (j:Nat) a)) (i2:Nat)|||a0o (a0x (a2C p (i:Nat) (j:Nat) a)) (j2:Nat)=a0o p (i:Nat)|||a0o p (j:Nat)/\
  (a0o (a0x (a2C p (i:Nat) (j:Nat) a)) (i2:Nat)=a/\a0o (a0x (a2C p (i:Nat) (j:Nat) a)) (j2:Nat)=sdf (a0o p (i:Nat)|||a0o p (j:Nat)) a\/a0o (a0x (a2C p (i:Nat) (j:Nat) a)) (i2:Nat)=sdf (a0o p (i:Nat)|||a0o p (j:Nat)) a/\a0o (a0x (a2C p (i:Nat) (j:Nat) a)) (j2:Nat)=a)/\
  ∀c,c=a0o p (i:Nat)\/c=a0o p (j:Nat)->Prt (a0x (a2C p (i:Nat) (j:Nat) a)) k i2 j2 c/\a0x (a2C (a0x (a2C p (i:Nat) (j:Nat) a)) (i2:Nat) (j2:Nat) c)=a0x p:=by
 have hm:=h.masks
 have hqL:=a2y h.rlab h.rused
 have hqU:=a1M h.rlab h.rused
 have hql:(a0x (a2C p (i:Nat) (j:Nat) a)).length=p.length:=by rw[a0Q,a1t]
 have hbs:∀y,bit (sdf (a0o p (i:Nat)|||a0o p (j:Nat)) a) y=true->bit (a0o p (i:Nat)|||a0o p (j:Nat)) y=true:=fun y hy=>by rw[a0p,Bool.and_eq_true]at hy;exact hy.1
 have hor:a|||sdf (a0o p (i:Nat)|||a0o p (j:Nat)) a=a0o p (i:Nat)|||a0o p (j:Nat):=a0F fun y=>by
  rw[a0G,a0p]
  cases ha:bit a y with
  |true=>rw[h.sub y ha];simp
  |false=>simp
 generalize hq:a0x (a2C p (i:Nat) (j:Nat) a)=q at*
 obtain⟨u,hu,eu⟩:=mem_masks.1 ((hm a).2 (.inl rfl))
 obtain⟨v,hv,ev⟩:=mem_masks.1 ((hm _).2 (.inr (.inl rfl)))
 have huv:u≠v:=fun e=>by subst e;exact h.ne_b (eu.trans ev.symm)
 have fin:∀i2 j2:Nat,i2<j2->j2<k->a0o q (i2:Nat)|||a0o q (j2:Nat)=a0o p (i:Nat)|||a0o p (j:Nat)->(∀d:Nat,d=u\/d=v↔d=i2\/d=j2)->∀c,c=a0o p (i:Nat)\/c=a0o p (j:Nat)->Prt q k i2 j2 c/\a0x (a2C q (i2:Nat) (j2:Nat) c)=a0x p:=by
  intro i2 j2 h1 h2 hS huv2 c hc
  have hij:=h.ij
  have hjk:=h.jk
  have hcs:∀y,bit c y=true->bit (a0o q (i2:Nat)|||a0o q (j2:Nat)) y=true:=fun y hy=>by
   rw[hS]
   rcases hc with rfl|rfl
   ·exact d7G hy
   ·exact d8f hy
  have hcc:(c=a0o p (i:Nat)/\sdf (a0o p (i:Nat)|||a0o p (j:Nat)) c=a0o p (j:Nat))\/(c=a0o p (j:Nat)/\sdf (a0o p (i:Nat)|||a0o p (j:Nat)) c=a0o p (i:Nat)):=by
   rcases hc with rfl|rfl
   ·exact .inl ⟨rfl,a4x h.dis⟩
   ·exact .inr ⟨rfl,a5O h.dis⟩
  have hP:Prt q k i2 j2 c:=⟨hqL,hqU,h1,h2,hcs,by
   rcases hcc with⟨e,_⟩|⟨e,_⟩
   ·rw[e];exact h.used i (by omega)
   ·rw[e];exact h.used j hjk,by
   rw[hS]
   rcases hcc with⟨_,e⟩|⟨_,e⟩
   ·rw[e];exact h.used j hjk
   ·rw[e];exact h.used i (by omega)⟩
  refine⟨hP,a8L (by rw[a1t];exact hql) ?_⟩
  refine a9Z h.lab hP.rlab (by rw[a1t];exact hql) (fun m hm'=> ?_) fun m hm'=> ?_
  ·rw[a5N h1 h2 hcs,hS]
   obtain⟨d,hd,rfl⟩:=mem_masks.1 hm'
   by_cases hdi:d=i
   ·subst hdi
    rcases hcc with⟨e,_⟩|⟨_,e⟩
    ·exact .inl e.symm
    ·exact .inr (.inl e.symm)
   by_cases hdj:d=j
   ·subst hdj
    rcases hcc with⟨_,e⟩|⟨e,_⟩
    ·exact .inr (.inl e.symm)
    ·exact .inl e.symm
   obtain⟨d2,hd2,e2⟩:=mem_masks.1 ((hm (a0o p (d:Nat))).2 (.inr (.inr ⟨d,hd,hdi,hdj,rfl⟩)))
   refine .inr (.inr ⟨d2,hd2,?_⟩)
   have hnu:¬(d2=u\/d2=v):=fun hh=>by
    have hin:∀y,bit (a0o p (d:Nat)) y=true->bit (a0o p (i:Nat)|||a0o p (j:Nat)) y=true:=fun y hy=>by
     rcases hh with rfl|rfl
     ·rw[e2,<-eu]at hy;exact h.sub y hy
     ·rw[e2,<-ev]at hy;exact hbs y hy
    obtain⟨y,hy⟩:=a2z (h.used d hd)
    rcases b4K (hin y hy)with h'|h'
    ·have:=a3J hy h';omega
    ·have:=a3J hy h';omega
   have:=mt (huv2 d2).2 hnu
   exact⟨fun e=>this (.inl e),fun e=>this (.inr e),e2⟩
  ·rw[a5N h1 h2 hcs,hS]at hm'
   rcases hm' with rfl|rfl|⟨d,hd,n1,n2,rfl⟩
   ·rcases hcc with⟨e,_⟩|⟨e,_⟩
    ·exact mem_masks.2 ⟨i,by omega,e⟩
    ·exact mem_masks.2 ⟨j,hjk,e⟩
   ·rcases hcc with⟨_,e⟩|⟨_,e⟩
    ·exact mem_masks.2 ⟨j,hjk,e⟩
    ·exact mem_masks.2 ⟨i,by omega,e⟩
   ·have hnu:=mt (huv2 d).1 (fun hh=>hh.elim n1 n2)
    rcases(hm (a0o q (d:Nat))).1 (mem_masks.2 ⟨d,hd,rfl⟩)with e|e|⟨d2,hd2,_,_,e⟩
    ·exact absurd (.inl (by have:=a5L (e.trans eu) (hqU d hd);omega)) hnu
    ·exact absurd (.inr (by have:=a5L (e.trans ev) (hqU d hd);omega)) hnu
    ·exact mem_masks.2 ⟨d2,hd2,e⟩
 by_cases hlt:u<v
 ·have hS:a0o q (u:Nat)|||a0o q (v:Nat)=a0o p (i:Nat)|||a0o p (j:Nat):=by rw[<-eu,<-ev,hor]
  exact⟨u,v,hlt,hv,hS,.inl ⟨eu.symm,ev.symm⟩,fin u v hlt hv hS fun d=>Iff.rfl⟩
 ·have hS:a0o q (v:Nat)|||a0o q (u:Nat)=a0o p (i:Nat)|||a0o p (j:Nat):=by rw[<-eu,<-ev,Nat.or_comm,hor]
  exact⟨v,u,by omega,hu,hS,.inr ⟨ev.symm,eu.symm⟩,fin v u (by omega) hu hS fun d=>Or.comm⟩
end
end Go.GS

/- Labels of what some edges join. -/
import Derived.Test.YtmannekkmdockaaGreatDoorGtA
import Derived.Test.YtmannekkmdockaaGreatDoorGsY
import Derived.Test.YtmannekkmdockaaGreatDoorGmT
import Derived.Test.YtmannekkmdockaaGreatDoorGvA
import Derived.Test.YtmannekkmdockaaGreatDoorGzS
namespace Go.GS
def b3X (L:List (Nat×Nat)) (j:Nat):List (Nat×Nat):=(List.range j).map fun i=>L.getD (i%L.length) (0,0)
section
variable {L:List (Nat×Nat)} {n x next j:Nat} {p:List Int}
theorem b2z (L:List (Nat×Nat)) (j:Nat):b3X L (j+1)=b3X L j++[L.getD (j%L.length) (0,0)]:=by
 unfold b3X;rw[List.range_succ,List.map_append];rfl
theorem b6k (L:List (Nat×Nat)) (s:Nat):∀m,rnd a1r (b3X L (m*L.length)) s=a2J a1r L m s
 |0=>by rw[Nat.zero_mul];rfl
 |m+1=>by
  have h:b3X L ((m+1)*L.length)=b3X L (m*L.length)++L:=by
   unfold b3X
   rw[Nat.succ_mul,List.range_add,List.map_append,List.map_map]
   congr 1
   apply List.ext_getElem?
   intro i
   by_cases hi:i<L.length
   ·rw[List.getElem?_map,List.getElem?_eq_getElem (by simpa using hi)]
    simp only[List.getElem_range,Option.map_some,Function.comp]
    rw[show(m*L.length+i)%L.length=i by rw[Nat.mul_comm,Nat.mul_add_mod,Nat.mod_eq_of_lt hi],List.getD_eq_getElem?_getD,List.getElem?_eq_getElem hi];rfl
   ·rw[List.getElem?_eq_none (by simp;omega),List.getElem?_eq_none (by omega)]
  rw[h]
  unfold rnd
  rw[List.foldl_append]
  show rnd a1r L (rnd a1r (b3X L (m*L.length)) s)=_
  rw[b6k L s m];rfl
structure LabA (n:Nat) (L:List (Nat×Nat)) (x next:Nat) (p:List Int):Prop where
 len:p.length=n
 nx:next<=x
 rng:∀(y:Nat) (z:Int),p[y]? =some z-> -1<=z/\z<(next:Int)
 done:∀(y:Nat) (z:Int),y<x->p[y]? =some z->0<=z
 use:∀d:Nat,d<next->∃y:Nat,p[y]? =some (d:Int)
 cls:∀y z d:Nat,p[y]? =some (d:Int)->(p[z]? =some (d:Int)↔Rch L a1r y z)
structure LabB (n:Nat) (L:List (Nat×Nat)) (x next j:Nat) (p:List Int):Prop where
 len:p.length=n
 nx:next<=x
 rng:∀(y:Nat) (z:Int),p[y]? =some z-> -1<=z/\z<(next:Int)+1
 done:∀(y:Nat) (z:Int),y<x+1->p[y]? =some z->0<=z
 use:∀d:Nat,d<next+1->∃y:Nat,p[y]? =some (d:Int)
 old:∀y z d:Nat,d<next->p[y]? =some (d:Int)->(p[z]? =some (d:Int)↔Rch L a1r y z)
 cur:∀y:Nat,p[y]? =some (next:Int)↔bit (rnd a1r (b3X L j) (2^x)) y=true
theorem LabA.start (n:Nat) (L:List (Nat×Nat)):LabA n L 0 0 (List.replicate n (-1)) where
 len:=List.length_replicate
 nx:=Nat.le_refl 0
 rng:=fun y z h=>by
  rw[List.getElem?_replicate]at h
  split at h
  ·injection h with h;omega
  ·cases h
 done:=fun y z h=>by omega
 use:=fun d h=>by omega
 cls:=fun y z d h=>by
  rw[List.getElem?_replicate]at h
  split at h
  ·injection h with h;omega
  ·cases h
theorem LabA.skip {z:Int} (h:LabA n L x next p) (hz:p[x]? =some z) (h0:0<=z):LabA n L (x+1) next p:=by
 refine⟨h.len,Nat.le_succ_of_le h.nx,h.rng,fun y w hy hw=> ?_,h.use,h.cls⟩
 by_cases e:y=x
 ·subst e;rw[hz]at hw;injection hw with hw;omega
 ·exact h.done y w (by omega) hw
theorem LabA.begin {z:Int} (h:LabA n L x next p) (hz:p[x]? =some z) (h0:z<0):LabB n L x next 0 (p.set x (next:Int)):=by
 have hx:=(List.getElem?_eq_some_iff.1 hz).1
 have hs:∀y,(p.set x (next:Int))[y]? =if x=y then some (next:Int)else p[y]?:=fun y=>by
  rw[List.getElem?_set]
  by_cases e:x=y
  ·rw[if_pos e,if_pos e,if_pos (by omega)]
  ·rw[if_neg e,if_neg e]
 refine⟨by rw[List.length_set];exact h.len,h.nx,fun y w hw=> ?_,fun y w hy hw=> ?_,fun d hd=> ?_,fun y w d hd hy=> ?_,fun y=> ?_⟩
 ·rw[hs]at hw
  split at hw
  ·injection hw with hw;omega
  ·have:=h.rng y w hw;omega
 ·rw[hs]at hw
  split at hw
  ·injection hw with hw;omega
  ·exact h.done y w (by omega) hw
 ·by_cases e:d=next
  ·exact⟨x,by rw[hs,if_pos rfl,e]⟩
  ·obtain⟨y,hy⟩:=h.use d (by omega)
   refine⟨y,?_⟩
   rw[hs,if_neg]
   ·exact hy
   ·intro e;subst e;rw[hz]at hy;injection hy with hy;omega
 ·rw[hs]at hy
  split at hy
  ·injection hy with hy;omega
  ·rw[hs]
   by_cases e:x=w
   ·subst e
    rw[if_pos rfl]
    refine⟨fun hh=>by injection hh with hh;omega,fun hr=> ?_⟩
    have:=(h.cls y x d hy).2 hr
    rw[hz]at this;injection this with this;omega
   ·rw[if_neg e];exact h.cls y w d hy
 ·rw[hs]
  show _↔bit (2^x) y=true
  rw[a0z,decide_eq_true_iff]
  split
  ·rename_i e;simp[e]
  ·rename_i e
   refine⟨fun hh=> ?_,fun hh=>absurd hh e⟩
   have:=h.rng y _ hh;omega
theorem LabB.step {e:Nat×Nat} (h:LabB n L x next j p) (hn:n<=64) (he:L.getD (j%L.length) (0,0)=e) (hm:e∈L) (h1:e.1<n) (h2:e.2<n) (hne:e.1≠e.2) (hh:p[e.1]? =some (next:Int)\/p[e.2]? =some (next:Int)):LabB n L x next (j+1) ((p.set e.1 (next:Int)).set e.2 (next:Int)):=by
 have hlen:=h.len
 have hs:∀y,((p.set e.1 (next:Int)).set e.2 (next:Int))[y]? =if e.1=y\/e.2=y then some (next:Int)else p[y]?:=fun y=>by
  rw[List.getElem?_set,List.getElem?_set,List.length_set]
  by_cases a:e.2=y
  ·rw[if_pos a,if_pos (by omega),if_pos (.inr a)]
  ·rw[if_neg a]
   by_cases b:e.1=y
   ·rw[if_pos b,if_pos (by omega),if_pos (.inl b)]
   ·rw[if_neg b,if_neg (fun hh=>hh.elim b a)]
 have hbit:∀y,y<64->bit a1r y=true:=fun y=>a2B
 have hno:∀y d:Nat,d<next->p[y]? =some (d:Int)->¬(e.1=y\/e.2=y):=fun y d hd hy hc=>by
  have key:∀u v:Nat,adj L u v->v<64->p[u]? =some (d:Int)->p[v]? =some (next:Int)->False:=fun u v ha hv hu hv'=>by
   have:=(h.old u v d hd hu).2 (Rch.base.step ha (hbit v hv))
   rw[hv']at this;injection this with this;omega
  have a12:adj L e.1 e.2:=⟨e,hm,.inl ⟨rfl,rfl⟩⟩
  rcases hc with rfl|rfl
  ·rcases hh with hh|hh
   ·rw[hy]at hh;injection hh with hh;omega
   ·exact key _ _ a12 (by omega) hy hh
  ·rcases hh with hh|hh
   ·exact key _ _ a12.symm (by omega) hy hh
   ·rw[hy]at hh;injection hh with hh;omega
 refine⟨by rw[List.length_set,List.length_set];exact hlen,h.nx,fun y w hw=> ?_,fun y w hy hw=> ?_,fun d hd=> ?_,fun y w d hd hy=> ?_,fun y=> ?_⟩
 ·rw[hs]at hw
  split at hw
  ·injection hw with hw;omega
  ·exact h.rng y w hw
 ·rw[hs]at hw
  split at hw
  ·injection hw with hw;omega
  ·exact h.done y w hy hw
 ·by_cases hd':d=next
  ·exact⟨e.1,by rw[hs,if_pos (.inl rfl),hd']⟩
  ·obtain⟨y,hy⟩:=h.use d hd
   exact⟨y,by rw[hs,if_neg (hno y d (by omega) hy)];exact hy⟩
 ·rw[hs]at hy
  split at hy
  ·injection hy with hy;omega
  ·rw[hs]
   split
   ·rename_i hc
    refine⟨fun hq=>by injection hq with hq;omega,fun hr=> ?_⟩
    exact absurd hc (hno w d hd ((h.old y w d hd hy).2 hr))
   ·exact h.old y w d hd hy
 ·rw[hs,b2z,he]
  unfold rnd
  rw[List.foldl_append]
  show _↔bit (rst a1r (rnd a1r (b3X L j) (2^x)) e) y=true
  rw[a6y (by omega) (by omega)]
  rw[h.cur,h.cur]at hh
  have a3:(bit (rnd a1r (b3X L j) (2^x)) e.1||bit (rnd a1r (b3X L j) (2^x)) e.2)=true:=by rw[Bool.or_eq_true];exact hh
  rw[if_pos a3,a0F,a0F,a0z,a0z]
  by_cases hc:e.1=y\/e.2=y
  ·rw[if_pos hc]
   rcases hc with hc|hc<;>simp[hc]
  ·rw[if_neg hc,h.cur y]
   rw[decide_eq_false (fun a=>hc (.inl a)),decide_eq_false (fun a=>hc (.inr a))]
   simp
theorem LabB.pass {e:Nat×Nat} (h:LabB n L x next j p) (hn:n<=64) (he:L.getD (j%L.length) (0,0)=e) (h1:e.1<n) (h2:e.2<n) (hh:p[e.1]?≠some (next:Int)/\p[e.2]?≠some (next:Int)):LabB n L x next (j+1) p:=by
 refine⟨h.len,h.nx,h.rng,h.done,h.use,h.old,fun y=> ?_⟩
 rw[b2z,he]
 unfold rnd
 rw[List.foldl_append]
 show _↔bit (rst a1r (rnd a1r (b3X L j) (2^x)) e) y=true
 rw[a6y (by omega) (by omega)]
 have a1:=mt (h.cur e.1).2 hh.1
 have a2:=mt (h.cur e.2).2 hh.2
 have a3:¬(bit (rnd a1r (b3X L j) (2^x)) e.1||bit (rnd a1r (b3X L j) (2^x)) e.2)=true:=by rw[Bool.or_eq_true];exact fun hc=>hc.elim a1 a2
 rw[if_neg a3]
 exact h.cur y
theorem LabB.end (h:LabB n L x next (L.length*L.length) p) (hx:x<64) (hL:∀e∈L,e.1<64/\e.2<64):LabA n L (x+1) (next+1) p:=by
 have hc:∀y,p[y]? =some (next:Int)↔Rch L a1r x y:=fun y=>by
  rw[h.cur,b6k]
  exact(b1S (a2B hx) (a1z hL (a0P hx) L.length).1 (b0j a1r L (2^x))).2 y
 refine⟨h.len,Nat.succ_le_succ h.nx,fun y z hz=>by have:=h.rng y z hz;omega,h.done,h.use,fun y z d hy=> ?_⟩
 by_cases hd:d<next
 ·exact h.old y z d hd hy
 ·obtain rfl:d=next:=by have:=h.rng y _ hy;omega
  have hxy:=(hc y).1 hy
  rw[hc]
  exact⟨fun hz=>(hxy.symm (a2B hx)).trans hz,fun hz=>hxy.trans hz⟩
end
section
variable {L es:List (Nat×Nat)} {n next k:Nat} {p:List Int}
theorem LabA.at (h:LabA n L n next p) {y:Nat} (hy:y<n):∃d:Nat,d<next/\p[y]? =some (d:Int):=by
 have h1:=List.getElem?_eq_getElem (show y<p.length by rw[h.len];exact hy)
 have h2:=h.rng y _ h1
 have h3:=h.done y _ hy h1
 exact⟨(p[y]'(by rw[h.len];exact hy)).toNat,by omega,by rw[h1];congr 1;omega⟩
open Classical in
theorem d1g (h:LabA n L n next p) (hn:n<=64) (hin:Inn (2^n-1) L):next=cnt (lab L) (2^n-1):=by
 have hb:∀y,bit (2^n-1) y=decide (y<n):=fun y=>Nat.testBit_two_pow_sub_one n y
 have hM:2^n-1<M64:=by
  have:=Nat.pow_le_pow_right (n:=2) (by decide) hn
  have:=Nat.two_pow_pos n
  have e:(2:Nat)^64=M64:=by decide
  omega
 have hrl:∀y z,y<n->z<n->(lab L y=lab L z↔Rch L a1r y z):=fun y z hy hz=>by
  rw[a3J hin (by rw[hb];exact decide_eq_true hy) (by rw[hb];exact decide_eq_true hz)]
  exact(a5d hM hin (by rw[hb];exact decide_eq_true hy)).symm
 have hlt:∀y,y<n->lab L y<n:=fun y hy=>by
  have:=a2Y hin y (by rw[hb];exact decide_eq_true hy)
  rw[hb,decide_eq_true_iff]at this;exact this
 unfold cnt
 refine Nat.le_antisymm ?_ ?_
 ·have:=b0K (l:=List.range next) (m:=(List.range 64).filter fun x=>bit (2^n-1) x&&decide (lab L x=x)) (fun d=>if hd:∃y:Nat,p[y]? =some (d:Int)then lab L (Classical.choose hd)else 0) List.nodup_range (fun d hd d' hd' e=> ?_) (fun d hd=> ?_)
  ·simpa using this
  ·have u:=h.use d (List.mem_range.1 hd)
   have u':=h.use d' (List.mem_range.1 hd')
   simp only[dif_pos u,dif_pos u']at e
   have s:=Classical.choose_spec u
   have s':=Classical.choose_spec u'
   have l:=(List.getElem?_eq_some_iff.1 s).1
   have l':=(List.getElem?_eq_some_iff.1 s').1
   rw[h.len]at l l'
   have r:=(hrl _ _ l l').1 e
   have:=(h.cls _ _ d s).2 r
   rw[s']at this;injection this with this;omega
  ·have u:=h.use d (List.mem_range.1 hd)
   simp only[dif_pos u]
   have s:=Classical.choose_spec u
   have l:=(List.getElem?_eq_some_iff.1 s).1
   rw[h.len]at l
   have h2:=hlt _ l
   rw[List.mem_filter,hb,(Lb.lab L).idm]
   exact⟨List.mem_range.2 (by omega),by simp[h2]⟩
 ·have:=b0K (l:=(List.range 64).filter fun x=>bit (2^n-1) x&&decide (lab L x=x)) (m:=List.range next) (fun y=>(p.getD y 0).toNat) (List.nodup_range.filter _) (fun y hy z hz e=> ?_) (fun y hy=> ?_)
  ·simpa using this
  ·have f:∀{y},y∈((List.range 64).filter fun x=>bit (2^n-1) x&&decide (lab L x=x))->y<n/\lab L y=y:=fun hy=>by
    have:=(List.mem_filter.1 hy).2
    rw[hb]at this
    simpa using this
   obtain⟨y1,y2⟩:=f hy
   obtain⟨z1,z2⟩:=f hz
   obtain⟨d,_,hd⟩:=h.at y1
   obtain⟨d',_,hd'⟩:=h.at z1
   rw[List.getD_eq_getElem?_getD,List.getD_eq_getElem?_getD,hd,hd']at e
   have e:d=d':=by simpa using e
   subst e
   have:=(hrl y z y1 z1).2 ((h.cls y z d hd).1 hd')
   rw[y2,z2]at this;exact this
  ·have hy:=(List.mem_filter.1 hy).2
   rw[hb]at hy
   have hy:y<n:=by simp at hy;exact hy.1
   obtain⟨d,hd,e⟩:=h.at hy
   rw[List.getD_eq_getElem?_getD,e]
   simpa using hd
theorem d1h (h:LabA n L n next p) (hn:n<=64) (hin:Inn (2^n-1) L) (hc:card (2^n-1)=n) (ha:Acy L L.length):next+L.length=n:=by
 have hM:2^n-1<M64:=by
  have:=Nat.pow_le_pow_right (n:=2) (by decide) hn
  have:=Nat.two_pow_pos n
  have e:(2:Nat)^64=M64:=by decide
  omega
 have h3:=a5G hM hin L.length (Nat.le_refl _)
 rw[List.take_length,(a3I _ (Nat.le_refl _)).2 ha,hc,<-d1g h hn hin]at h3
 exact h3
theorem c6Z (h:LabA n L n next p) (hn:n<=64) (h1:1<=n):LabOk p (next:Nat)/\a3G p next:=by
 refine⟨⟨fun z hz=> ?_,by rw[h.len];omega,by rw[h.len];exact hn⟩,fun d hd=> ?_⟩
 ·obtain⟨y,hy⟩:=List.mem_iff_getElem?.1 hz
  have hyl:=(List.getElem?_eq_some_iff.1 hy).1
  rw[h.len]at hyl
  have h2:=h.rng y z hy
  have h3:=h.done y z hyl hy
  omega
 ·obtain⟨y,hy⟩:=h.use d hd
  exact mask_mem2.2 (List.mem_of_getElem? hy)
theorem d4p (h:LabA n L n next p) (hL:∀e∈L,e∈es) {d:Nat} (hd:d<next):Cn es (a0R p (d:Nat)):=by
 obtain⟨y,hy⟩:=h.use d hd
 refine⟨y,by rw[a0K];exact decide_eq_true hy,fun z hz=> ?_⟩
 rw[a0K,decide_eq_true_iff]at hz
 have hr:=(h.cls y z d hy).1 hz
 clear hz
 induction hr with
 |base=>exact .base
 |step h1 ha hz ih=>
  obtain⟨e,he,hh⟩:=ha
  exact ih.step ⟨e,hL e he,hh⟩ (by rw[a0K];exact decide_eq_true ((h.cls y _ d hy).2 (h1.step ⟨e,he,hh⟩ hz)))
theorem c5F (hin:Inn (2^n-1) L) (ha:Acy L L.length) (j:Nat):Acy (L.take j++L.drop (j+1)) (L.take j++L.drop (j+1)).length:=by
 intro i e hi he
 by_cases hij:i<j
 ·have hl:(L.take j).length=min j L.length:=List.length_take
  by_cases hiL:i<L.length
  ·rw[List.getElem?_append_left (by rw[hl];omega),List.getElem?_take,if_pos hij]at he
   rw[List.take_append_of_le_length (by rw[hl];omega),List.take_take,Nat.min_eq_left (by omega)]
   exact ha i e hiL he
  ·simp only[List.length_append,List.length_take,List.length_drop]at hi;omega
 ·by_cases hj:j<L.length
  ·have hl:(L.take j).length=j:=by rw[List.length_take];omega
   rw[List.getElem?_append_right (by omega),hl,List.getElem?_drop]at he
   have he':L[i+1]? =some e:=by rw[<-he];congr 1;omega
   have hi1:=(List.getElem?_eq_some_iff.1 he').1
   have h2:=ha (i+1) e hi1 he'
   intro hc
   apply h2
   have hmem:∀f∈(L.take j++L.drop (j+1)).take i,f∈L.take (i+1):=fun f hf=>by
    rw[List.take_append,hl]at hf
    rcases List.mem_append.1 hf with hf|hf
    ·rw[List.take_of_length_le (by rw[hl];omega)]at hf
     obtain⟨m,hm⟩:=List.mem_iff_getElem?.1 hf
     rw[List.getElem?_take]at hm
     split at hm
     ·exact List.mem_iff_getElem?.2 ⟨m,by rw[List.getElem?_take,if_pos (by omega)];exact hm⟩
     ·cases hm
    ·obtain⟨m,hm⟩:=List.mem_iff_getElem?.1 hf
     rw[List.getElem?_take]at hm
     split at hm
     ·rw[List.getElem?_drop]at hm
      exact List.mem_iff_getElem?.2 ⟨j+1+m,by rw[List.getElem?_take,if_pos (by omega)];exact hm⟩
     ·cases hm
   have in1:Inn (2^n-1) (L.take (i+1)):=fun f hf=>hin f (List.mem_of_mem_take hf)
   have in2:Inn (2^n-1) ((L.take j++L.drop (j+1)).take i):=fun f hf=>in1 f (hmem f hf)
   have hee:=hin e (List.mem_of_getElem? he')
   rw[a3J in1 hee.1 hee.2]
   rw[a3J in2 hee.1 hee.2]at hc
   exact hc.mono hmem fun z hz=>hz
  ·simp only[List.length_append,List.length_take,List.length_drop]at hi
   have e1:L.take j=L:=List.take_of_length_le (by omega)
   have e2:L.drop (j+1)=[]:=List.drop_of_length_le (by omega)
   rw[e1,e2,List.append_nil]at he⊢
   exact ha i e (by omega) he
end
end Go.GS
/- Chapter 32: drafts: labels of a forest are its trees. -/
namespace Go.Proofs.YtmannekkmdockaaGreatDoor
open Go.Proofs.Tryz
open Go.RowKit Go.RX Go.GS
section
variable {H:PH} {u w wts:Value} {t:List Int} {n:Nat} {es:List (Nat×Nat)}
theorem d5F {j:Nat} (h:j<t.length) {y:Int} (hy:t[j]? =some y):(etl es t).getD j (0,0)=Ed es y:=by
 rw[List.getD_eq_getElem?_getD,c0j hy];rfl
theorem b3Y (hw:SG H w es) (hg:GV n es) (hu:SI H u t) (ht:∀i∈t,0<=i/\i.toNat<es.length) (hl:t.length<=64):Con prog 43 [gv n w,u] H fun r H'=>PH.le H H'/\∃p next,SI H' r p/\LabA n (etl es t) n next p:=by
 refine a0b mixed c0e (by kernel_rfl) rfl ?_
 have h64:=hg.n64
 refine a0a (a0S hw) ?_
 refine a2T el_plan (z:=(0:Int)) b6U rfl rfl rfl (by omega) rfl fun v H1 l1 o1 _=> ?_
 simp only[cA,nA]
 refine a0k (α:=Nat) (fun i=>[ii (i:Nat)]) (fun i=>fun H'=>i<=n/\PH.le H H'/\SO H H' 3 1 (fun z:Int=>[ii z]) v (List.replicate i (-1)++List.replicate (n-i) 0)) (fun i=>n-i) (0) rfl (⟨Nat.zero_le _,l1,o1⟩) fun i H' hQ=> ?_
 simp only[cA,nA]
 obtain⟨hi,l2,o2⟩:=hQ
 refine a0a ⟨_,rfl⟩ ?_
 refine a0a ⟨_,rfl⟩ ?_
 refine a0e (b:=decide (((i:Nat):Int)<(n:Nat))) rfl (fun h=> ?_) (fun h=> ?_)
 ·replace h:=of_decide_eq_true h
  refine a0O el_plan (a:=(-1:Int)) rfl rfl rfl rfl (fun _=>rfl) (fun _=>rfl) l2 o2 (by simp;omega) rfl (fun _=>rfl) rfl fun q u' H3 l3 o3 _=> ?_
  simp only[cA,nA]
  exact⟨i+1,by omega,(a3k (a0r rfl (by omega))),⟨by omega,l3,by rw[d0a (by omega)]at o3;exact o3⟩⟩
 ·replace h:=of_decide_eq_false h
  have hie:i=n:=by omega
  subst hie
  rw[Nat.sub_self,List.replicate_zero,List.append_nil]at o2
  refine a0k (α:=Nat×Nat×List Int) (fun⟨next,x,p⟩=>[ii (next:Nat),ii (x:Nat),gv i w]) (fun⟨next,x,p⟩=>fun H2=>x<=i/\PH.le H H2/\SO H H2 3 1 (fun z:Int=>[ii z]) v p/\LabA i (etl es t) x next p) (fun⟨next,x,p⟩=>i-x) ((0,0,List.replicate i (-1))) rfl (⟨Nat.zero_le _,l2,o2,LabA.start i (etl es t)⟩) fun⟨next,x,p⟩ H2 hQ2=> ?_
  simp only[cA,nA]
  obtain⟨hx,l3,o3,hI⟩:=hQ2
  refine a0a ⟨_,rfl⟩ ?_
  refine a0a ⟨_,rfl⟩ ?_
  refine a0e (b:=decide (((x:Nat):Int)<(i:Nat))) rfl (fun h=> ?_) (fun h=> ?_)
  ·replace h:=of_decide_eq_true h
   have hx':x<i:=by omega
   obtain⟨z,hz⟩:∃z,p[x]? =some z:=⟨_,List.getElem?_eq_getElem (by rw[hI.len];exact hx')⟩
   refine a0i el_plan rfl rfl rfl rfl (fun _=>rfl) o3.se hz rfl (fun _=>rfl) fun _=> ?_
   simp only[cA,nA]
   refine a0a ⟨_,rfl⟩ ?_
   refine a0e (b:=decide (z≥0)) rfl (fun h2=> ?_) (fun h2=> ?_)
   ·replace h2:=of_decide_eq_true h2
    exact⟨(next,x+1,p),by show i-(x+1)<i-x;omega,(a8k rfl (a0r rfl (by omega)) rfl),⟨hx',l3,o3,hI.skip hz h2⟩⟩
   ·replace h2:=of_decide_eq_false h2
    refine a0O el_plan (a:=(next:Int)) rfl rfl rfl rfl (fun _=>rfl) (fun _=>rfl) l3 o3 (by rw[hI.len];exact hx') rfl (fun _=>rfl) rfl fun q u' H3 l4 o4 _=> ?_
    simp only[cA,nA]
    have hnx:=hI.nx
    have hJ0:=hI.begin hz (by omega)
    have hel:(etl es t).length=t.length:=List.length_map _
    have hll:t.length*t.length<=64*64:=Nat.mul_le_mul hl hl
    have hDl:∀ρ:List Value,D prog ρ (.v 12)=ii (t.length:Nat)->D prog ρ (.v 13)=ii (t.length:Nat)->D prog ρ (.op2 .mul .i64 (.v 12) (.v 13))=ii ((t.length*t.length:Nat):Int):=fun ρ a b=>by
     show a2E .mul .i64 (intOf (D prog ρ (.v 12))) (intOf (D prog ρ (.v 13)))=_
     rw[a,b]
     show Value.int .i64 (IntKind.i64.wrap (((t.length:Nat):Int)*((t.length:Nat):Int)))=Value.int .i64 _
     congr 1
     rw[<-Int.natCast_mul,c6m (by omega)]
    refine a0k (α:=Nat×List Int) (fun⟨j,p'⟩=>[ii (j:Nat)]) (fun⟨j,p'⟩=>fun H4=>j<=t.length*t.length/\PH.le H H4/\SO H H4 3 1 (fun z:Int=>[ii z]) v p'/\LabB i (etl es t) x next j p') (fun⟨j,p'⟩=>t.length*t.length-j) ((0,p.set x (next:Int))) rfl (⟨Nat.zero_le _,l4,o4,hJ0⟩) fun⟨j,p'⟩ H4 hQ4=> ?_
    simp only[cA,nA]
    obtain⟨hj,l5,o5,hJ⟩:=hQ4
    refine a0g el_int rfl rfl (hu.mono l5) rfl ?_
    refine a0g el_int rfl rfl (hu.mono l5) rfl ?_
    refine a0a ⟨_,rfl⟩ ?_
    refine a0a ⟨_,rfl⟩ ?_
    refine a0a ⟨_,rfl⟩ ?_
    refine a0e (b:=decide (((j:Nat):Int)<(t.length*t.length:Nat))) (by show Value.bool (decide (((j:Nat):Int)<intOf (D prog _ (.op2 .mul .i64 (.v 12) (.v 13)))))=_;rw[hDl _ rfl rfl];rfl) (fun h3=> ?_) (fun h3=> ?_)
    ·replace h3:=of_decide_eq_true h3
     have htl:0<t.length:=Nat.pos_of_ne_zero fun e=>by rw[e]at h3;simp at h3;omega
     refine a0g el_int rfl rfl (hu.mono l5) rfl ?_
     refine a0a ⟨_,rfl⟩ ?_
     refine a0a (by show((t.length:Nat):Int)≠0;omega) ?_
     have hmod:j%t.length<t.length:=Nat.mod_lt _ htl
     obtain⟨y,hy,_⟩:=a0u hmod
     refine a0i el_int rfl rfl rfl rfl (fun _=>rfl) (hu.mono l5) hy (a1l rfl (by show Value.int .i64 (Int.tmod ((j:Nat):Int) ((t.length:Nat):Int))=Value.int .i64 _;congr 1)) (fun _=>rfl) fun _=> ?_
     simp only[cA,nA]
     obtain⟨hy1,hy2⟩:=ht y (List.mem_of_getElem? hy)
     obtain⟨m,rfl⟩:∃m:Nat,y=(m:Int):=⟨y.toNat,by omega⟩
     rw[Int.toNat_natCast]at hy2
     have hem:=a3K (es:=es) hy2
     have hed:=hg.mem hem
     refine a0i el_edge rfl rfl rfl rfl (fun _=>rfl) (hw.mono l5) hem rfl (fun _=>rfl) fun _=> ?_
     simp only[cA,nA]
     refine a0a (el_edge.vcells (Ed es (m:Nat))) ?_
     have hlen:=hJ.len
     obtain⟨za,hza⟩:∃z,p'[(Ed es (m:Nat)).1]? =some z:=⟨_,List.getElem?_eq_getElem (by omega)⟩
     obtain⟨zb,hzb⟩:∃z,p'[(Ed es (m:Nat)).2]? =some z:=⟨_,List.getElem?_eq_getElem (by omega)⟩
     have hget:(etl es t).getD (j%(etl es t).length) (0,0)=Ed es (m:Nat):=by rw[hel];exact d5F hmod hy
     have hboth:p'[(Ed es (m:Nat)).1]? =some (next:Int)\/p'[(Ed es (m:Nat)).2]? =some (next:Int)->LabB i (etl es t) x next (j+1) ((p'.set (Ed es (m:Nat)).1 (next:Int)).set (Ed es (m:Nat)).2 (next:Int)):=hJ.step h64 hget (a3u (List.mem_of_getElem? hy)) (by omega) (by omega) (by omega)
     refine a0i el_plan rfl rfl rfl rfl (fun _=>rfl) o5.se hza rfl (fun _=>rfl) fun _=> ?_
     simp only[cA,nA]
     refine a0a ⟨_,rfl⟩ ?_
     refine a0a ⟨_,rfl⟩ ?_
     refine a0e (b:=decide (za=(next:Int))) (bE _ _) (fun h4=> ?_) (fun h4=> ?_)
     ·replace h4:=of_decide_eq_true h4
      refine a0O el_plan (a:=(next:Int)) rfl rfl rfl rfl (fun _=>rfl) (fun _=>rfl) l5 o5 (by omega) rfl (fun _=>rfl) rfl fun q5 u5 H5 l6 o6 _=> ?_
      simp only[cA,nA]
      refine a0O el_plan (a:=(next:Int)) rfl rfl rfl rfl (fun _=>rfl) (fun _=>rfl) l6 o6 (by rw[List.length_set];omega) rfl (fun _=>rfl) rfl fun q6 u6 H6 l7 o7 _=> ?_
      simp only[cA,nA]
      exact⟨(j+1,(p'.set (Ed es (m:Nat)).1 (next:Int)).set (Ed es (m:Nat)).2 (next:Int)),by show t.length*t.length-(j+1)<t.length*t.length-j;omega,(a3k (a0r rfl (by omega))),⟨by show j+1<=_;omega,l7,o7,hboth (.inl (by rw[hza,h4]))⟩⟩
     ·replace h4:=of_decide_eq_false h4
      refine a0i el_plan rfl rfl rfl rfl (fun _=>rfl) o5.se hzb rfl (fun _=>rfl) fun _=> ?_
      simp only[cA,nA]
      refine a0a ⟨_,rfl⟩ ?_
      refine a0e (b:=decide (zb=(next:Int))) (bE _ _) (fun h5=> ?_) (fun h5=> ?_)
      ·replace h5:=of_decide_eq_true h5
       refine a0O el_plan (a:=(next:Int)) rfl rfl rfl rfl (fun _=>rfl) (fun _=>rfl) l5 o5 (by omega) rfl (fun _=>rfl) rfl fun q5 u5 H5 l6 o6 _=> ?_
       simp only[cA,nA]
       refine a0O el_plan (a:=(next:Int)) rfl rfl rfl rfl (fun _=>rfl) (fun _=>rfl) l6 o6 (by rw[List.length_set];omega) rfl (fun _=>rfl) rfl fun q6 u6 H6 l7 o7 _=> ?_
       simp only[cA,nA]
       exact⟨(j+1,(p'.set (Ed es (m:Nat)).1 (next:Int)).set (Ed es (m:Nat)).2 (next:Int)),by show t.length*t.length-(j+1)<t.length*t.length-j;omega,(a3k (a0r rfl (by omega))),⟨by show j+1<=_;omega,l7,o7,hboth (.inr (by rw[hzb,h5]))⟩⟩
      ·replace h5:=of_decide_eq_false h5
       exact⟨(j+1,p'),by show t.length*t.length-(j+1)<t.length*t.length-j;omega,(a3k (a0r rfl (by omega))),⟨by show j+1<=_;omega,l5,o5,hJ.pass h64 hget (by omega) (by omega) ⟨(by rw[hza];exact fun e=>h4 (Option.some.inj e)),by rw[hzb];exact fun e=>h5 (Option.some.inj e)⟩⟩⟩
    ·replace h3:=of_decide_eq_false h3
     have hje:j=(etl es t).length*(etl es t).length:=by rw[hel];omega
     rw[hje]at hJ
     have hend:=hJ.end (by omega) (a8S hg ht)
     refine a0a ⟨_,rfl⟩ ?_
     exact⟨(next+1,x+1,p'),by show i-(x+1)<i-x;omega,(a8k (a0r rfl (by omega)) (a0r rfl (by omega)) rfl),⟨hx',l5,o5,hend⟩⟩
  ·replace h:=of_decide_eq_false h
   have hxe:x=i:=by omega
   subst hxe
   exact a0c rfl ⟨l3,p,next,o3.se,hI⟩
end
end Go.Proofs.YtmannekkmdockaaGreatDoor

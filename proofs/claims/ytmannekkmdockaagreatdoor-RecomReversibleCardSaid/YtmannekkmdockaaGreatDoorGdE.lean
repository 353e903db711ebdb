/- Chapter 30: the matrix of a graph: what adds to its entries. -/
import Derived.Test.YtmannekkmdockaaGreatDoorGyD
import Derived.Test.YtmannekkmdockaaGreatDoorGyC
import Derived.Test.YtmannekkmdockaaGreatDoorGsN
import Derived.Test.YtmannekkmdockaaGreatDoorGsM
import Derived.Test.YtmannekkmdockaaGreatDoorRxQ
import Derived.Test.YtmannekkmdockaaGreatDoorRfI
import Derived.Test.YtmannekkmdockaaGreatDoorRfC
namespace Go.Proofs.YtmannekkmdockaaGreatDoor
open Go.Proofs.Tryz
open Go.RowKit Go.RX Go.GS
open Go.WD (BP a1E)
set_option maxRecDepth 100000
theorem d1G {n:Nat} {w:Value} (h1:a8V w=true):a0t (Value.cells (.agg #[ii n,w])):=fun c hc=>by
 simp[Value.cells]at hc
 rcases hc with hc|hc
 ·subst hc;rfl
 ·subst hc;exact h1
theorem b6C {H:PH} {n s:Nat} {w:Value} (hw:w.cells= #[w]) (h1:a8V w=true):Con prog 119 [gv n w,GS.uv s] H fun u H'=>∃b j,b≠j/\H'=H.or (b6g b j (ii n) w 37 s)/\Disj H (b6g b j (ii n) w 37 s)/\u= .func (.func 190) #[] #[.pointer (some ⟨b,0,none⟩),.pointer (some ⟨j,0,none⟩)]:=by
 refine a0b mixed d1c (by kernel_rfl) rfl ?_
 refine a0a ⟨rfl,d1G h1⟩ ?_
 refine a1G (cs:= #[ii (n:Nat),w]) rfl fun b hb=> ?_
 simp only[cA,nA]
 refine a0a ⟨rfl,fun c hc=>by simp[D,Value.cells,GS.uv]at hc;subst hc;rfl⟩ ?_
 refine a1G (cs:= #[GS.uv s]) rfl fun j hj=> ?_
 simp only[cA,nA]
 refine a3z (a1j (vs:=[.pointer (some ⟨b,0,none⟩),.pointer (some ⟨j,0,none⟩)]) rfl rfl) rfl ?_
 simp only[cA,nA]
 have hbj:b≠j:=fun e=>by subst e;rw[PH.put_self]at hj;cases hj
 have hj':H j=none:=by rwa[PH.put_ne _ _ (fun e=>hbj e.symm)]at hj
 exact a0c rfl ⟨b,j,hbj,by unfold b6g;rw[PH.put_or hb,PH.or_put (X:=H) hj'],b0T (b0T (b5F H) hb) hj',rfl⟩
def plL (V:List Nat):List (Int×Int):=(List.range V.length).map fun i=>(((V.getD i 0:Nat):Int),(i:Int))
theorem d1H {V:List Nat} {a i:Nat} (h:V[i]? =some a):((a:Int),(i:Int))∈plL V:=by
 unfold plL
 refine List.mem_map.2 ⟨i,List.mem_range.2 (List.getElem?_eq_some_iff.1 h).1,?_⟩
 rw[List.getD_eq_getElem?_getD,h];rfl
theorem c6p (V:List Nat):(plL V).map (·.1)=V.map fun x:Nat=>(x:Int):=by
 unfold plL
 rw[List.map_map]
 apply List.ext_getElem?
 intro i
 rw[List.getElem?_map,List.getElem?_map]
 by_cases h:i<V.length
 ·rw[List.getElem?_range h,List.getElem?_eq_getElem h]
  simp[List.getD_eq_getElem?_getD,List.getElem?_eq_getElem h]
 ·rw[List.getElem?_eq_none (by simp;omega),List.getElem?_eq_none (by omega)];rfl
theorem c2t {V:List Nat} {a:Nat} (h:a∉V):((a:Nat):Int)∉(plL V).map (·.1):=by
 rw[c6p]
 intro hh
 obtain⟨x,hx,e⟩:=List.mem_map.1 hh
 have:x=a:=by omega
 exact h (this ▸ hx)
theorem c6q (V:List Nat) (x:Nat):plL (V++[x])=plL V++[((x:Int),(V.length:Int))]:=by
 unfold plL
 rw[List.length_append,List.length_singleton,List.range_succ,List.map_append]
 congr 1
 ·refine List.map_congr_left fun i hi=> ?_
  rw[List.mem_range]at hi
  simp[List.getD_eq_getElem?_getD,List.getElem?_append_left hi]
 ·simp[List.getD_eq_getElem?_getD]
theorem b4z (V:List Nat):(plL V).length=V.length:=by unfold plL;simp
theorem d1I {V:List Nat} {x:Nat} (h:x∉V):c3I (plL V) (x:Int) (V.length:Int)=plL (V++[x]):=by
 unfold c3I
 rw[if_neg (c2t h),c6q]
def addZ (V:List Nat) (Z:Nat->Nat->Int) (a b:Nat) (z:Int) (i k:Nat):Int:=if V[i]? =some a/\V[k]? =some b then Z i k+z else Z i k
theorem a8z:Sc prog 140:=⟨by kernel_rfl,by kernel_rfl,by kernel_rfl⟩
theorem a9R:Sc prog 201:=⟨by kernel_rfl,by kernel_rfl,by kernel_rfl⟩
theorem a5C:a4B prog 123=true:=by kernel_rfl
section
variable {X0 X H:PH} {gs:List Nat} {n pb qb a b:Nat} {mp v:Value} {V:List Nat} {M:Nat->Nat->LV} {Z:Nat->Nat->Int} {Tp Tq:TypeId} {z:Int} {fz:Nat×Nat}
theorem Vl.addZ (h:Vl X n 0 M Z) (hn:V.Nodup) {i k:Nat} {x:LV} (hi:V[i]? =some a) (hk:V[k]? =some b) (hx:Lw X (lv x) (Z i k+z)):Vl X n 0 (putM M i k x) (addZ V Z a b z):=by
 refine h.put (by unfold Go.Proofs.YtmannekkmdockaaGreatDoor.addZ;rw[if_pos ⟨hi,hk⟩];exact hx) fun c d _ _ _ _ hne=> ?_
 unfold Go.Proofs.YtmannekkmdockaaGreatDoor.addZ
 rw[if_neg]
 rintro⟨h1,h2⟩
 exact hne ⟨(List.getElem?_inj (List.getElem?_eq_some_iff.1 h1).1 hn).1 (h1.trans hi.symm),(List.getElem?_inj (List.getElem?_eq_some_iff.1 h2).1 hn).1 (h2.trans hk.symm)⟩
theorem b6D (h:a∉V\/b∉V):addZ V Z a b z=Z:=by
 funext i k
 unfold addZ
 rw[if_neg]
 rintro⟨h1,h2⟩
 rcases h with h|h
 ·exact h (List.mem_of_getElem? h1)
 ·exact h (List.mem_of_getElem? h2)
theorem a5D (ht:Mt X0 X H gs n 0 M Z) (hp:X0 pb=some (.cells #[mp] Tp fz)) (hq:X0 qb=some (.cells #[v] Tq fz)) (hm:MI X0 mp (plL V)) (hv:SE X0 1 (fun s:Slc=>[vs s]) v (gs.map (rsl n))) (hn:gs.length=n) (hVn:V.length=n) (hnd:V.Nodup) (hz: -2<=z/\z<=2) (hZ:∀i k,Lm (Z i k)):
  Con prog 123 [ii (a:Nat),ii (b:Nat),ii z,.pointer (some ⟨pb,0,none⟩),.pointer (some ⟨qb,0,none⟩)] H fun _ H'=>∃X' M',PH.le X X'/\Mt X0 X' H' gs n 0 M' (addZ V Z a b z):=by
 refine a0b mixed c6a (by kernel_rfl) rfl ?_
 have hp':=(ht.x0.trans ht.xh) _ _ hp
 have hq':=(ht.x0.trans ht.xh) _ _ hq
 have hm':=hm.mono (ht.x0.trans ht.xh)
 have hv':=hv.mono (ht.x0.trans ht.xh)
 have huk:prog.underlying 3=some (.int .i64):=a4g
 have look:∀{c:Nat},∃(u:Int) (bb:Bool),((bb=false/\u=0/\((c:Nat):Int)∉(plL V).map (·.1))\/(bb=true/\(((c:Nat):Int),u)∈plL V))/\(bb=false/\c∉V\/bb=true/\∃i:Nat,u=(i:Int)/\V[i]? =some c):=fun{c}=>by
  by_cases h:c∈V
  ·obtain⟨i,hi⟩:=List.mem_iff_getElem?.1 h
   exact⟨(i:Int),true,.inr ⟨rfl,d1H hi⟩,.inr ⟨rfl,i,rfl,hi⟩⟩
  ·exact⟨0,false,.inl ⟨rfl,rfl,c2t h⟩,.inl ⟨rfl,h⟩⟩
 obtain⟨u1,b1,hu1,hc1⟩:=look (c:=a)
 obtain⟨u2,b2,hu2,hc2⟩:=look (c:=b)
 have off1:b1=false->a∉V:=fun e=>by
  rcases hc1 with⟨_,h⟩|⟨h,_⟩
  ·exact h
  ·rw[e]at h;cases h
 have off2:b2=false->b∉V:=fun e=>by
  rcases hc2 with⟨_,h⟩|⟨h,_⟩
  ·exact h
  ·rw[e]at h;cases h
 have on1:b1=true->∃i:Nat,u1=(i:Int)/\V[i]? =some a:=fun e=>by
  rcases hc1 with⟨h,_⟩|⟨_,h⟩
  ·rw[e]at h;cases h
  ·exact h
 have on2:b2=true->∃i:Nat,u2=(i:Int)/\V[i]? =some b:=fun e=>by
  rcases hc2 with⟨h,_⟩|⟨_,h⟩
  ·rw[e]at h;cases h
  ·exact h
 refine a0L a8z rfl rfl hp' rfl rfl ?_
 simp only[cA,nA]
 refine a0g (b1p (k:=(a:Nat)) (vs:=[mp,ii (a:Nat)]) rfl rfl rfl a3E a4g c2s hm' hu1) rfl ?_
 simp only[cA,nA]
 refine a0a ⟨_,rfl,by simp⟩ ?_
 refine a0a ⟨_,rfl,by simp⟩ ?_
 refine a0L a8z rfl rfl hp' rfl rfl ?_
 simp only[cA,nA]
 refine a0g (b1p (k:=(b:Nat)) (vs:=[mp,ii (b:Nat)]) rfl rfl rfl a3E a4g c2s hm' hu2) rfl ?_
 simp only[cA,nA]
 refine a0a ⟨_,rfl,by simp⟩ ?_
 refine a0a ⟨_,rfl,by simp⟩ ?_
 refine a0a ⟨_,rfl⟩ ?_
 refine a0e (b:=b1) rfl (fun h1=> ?_) (fun h1=> ?_)
 ·skip
  refine a0a ⟨_,rfl⟩ ?_
  refine a0e (b:=b2) rfl (fun h2=> ?_) (fun h2=> ?_)
  ·skip
   obtain⟨i,rfl,hi⟩:=on1 h1
   obtain⟨k,rfl,hk⟩:=on2 h2
   have hin:i<n:=by have:=(List.getElem?_eq_some_iff.1 hi).1;omega
   have hkn:k<n:=by have:=(List.getElem?_eq_some_iff.1 hk).1;omega
   obtain⟨g,hg⟩:=d1F hn hin
   refine a0L a9R rfl rfl hq' rfl rfl ?_
   simp only[cA,nA]
   refine a0i a1I rfl rfl rfl rfl (fun _=>rfl) hv' (a3D hg) rfl (fun _=>rfl) fun _=> ?_
   simp only[cA,nA]
   refine a0L a9R rfl rfl hq' rfl rfl ?_
   simp only[cA,nA]
   refine a0i a1I rfl rfl rfl rfl (fun _=>rfl) hv' (a3D hg) rfl (fun _=>rfl) fun _=> ?_
   simp only[cA,nA]
   refine a0i el_long rfl rfl rfl rfl (fun _=>rfl) (ht.mx.se hg) (a4Z hkn) rfl (fun _=>rfl) fun _=> ?_
   simp only[cA,nA]
   refine a6P (a2c z (by omega) (by omega)) ht.xh rfl fun w1 X5 H5 a5 w5 b5 c5 d5=> ?_
   simp only[cA,nA]
   replace ht:=ht.grow a5 b5 c5 d5
   refine a6P (a3V ((ht.vl i k (Nat.zero_le _) (Nat.zero_le _) hin hkn)) w5 (hZ i k) (by unfold Lm;have:=a1E (i:=1) (j:=10000) (by decide);rw[Go.WD.BP_succ,Go.WD.BP_zero]at this;omega)) ht.xh rfl fun w2 X6 H6 a6 w6 b6 c6 d6=> ?_
   simp only[cA,nA]
   replace ht:=ht.grow a6 b6 c6 d6
   obtain⟨x6,rfl⟩:=b4y w6
   refine a0R el_long (a:=x6) rfl rfl rfl rfl (fun _=>rfl) (fun _=>rfl) (b2N H6 g) (ht.mx.row i g hg).2 (show k<(b1M M n i).length by rw[b6A];exact hkn) rfl (fun _=>rfl) rfl fun p9 u9 H9 l9 o9 _=> ?_
   simp only[cA,nA]
   exact a0c rfl ⟨X6,putM M i k x6,a5.trans a6,⟨ht.x0,(ht.mx.cut hg ht.xh).trans l9,ht.mx.put hg l9 o9,ht.vl.addZ hnd hi hk w6⟩⟩
  ·skip
   exact a0c rfl ⟨X,M,PH.le.refl _,by rw[b6D (.inr (off2 (by simpa using h2)))];exact ht⟩
 ·skip
  exact a0c rfl ⟨X,M,PH.le.refl _,by rw[b6D (.inl (off1 (by simpa using h1)))];exact ht⟩
end
end Go.Proofs.YtmannekkmdockaaGreatDoor
/- Chapter 32: a step of the chain, in plain terms. -/
namespace Go.GS
def b8k:List Int->List Int->List Int
 |_,[]=>[]
 |F,x::r=>if x∈F then((F.idxOf x:Nat):Int)::b8k F r else((F.length:Nat):Int)::b8k (F++[x]) r
def a0x (p:List Int):List Int:=b8k [] p
def a9e:List Int->List Int->List Int
 |F,[]=>F
 |F,x::r=>if x∈F then a9e F r else a9e (F++[x]) r
theorem a7i:∀(r F:List Int),∃s,a9e F r=F++s
 |[],F=>⟨[],by simp[a9e]⟩
 |x::r,F=>by
  simp only[a9e]
  split
  ·exact a7i r F
  ·obtain⟨s,h⟩:=a7i r (F++[x])
   exact⟨x::s,by rw[h];simp⟩
theorem a2a:∀(r F:List Int) (y:Int),y∈a9e F r↔y∈F\/y∈r
 |[],F,y=>by simp[a9e]
 |x::r,F,y=>by
  simp only[a9e]
  split
  ·rename_i hx
   rw[a2a r F y]
   constructor
   ·rintro(h|h)
    ·exact .inl h
    ·exact .inr (by simp[h])
   ·rintro(h|h)
    ·exact .inl h
    ·rcases List.mem_cons.1 h with rfl|h
     ·exact .inl hx
     ·exact .inr h
  ·rw[a2a r (F++[x]) y]
   simp only[List.mem_append,List.mem_cons,List.not_mem_nil,or_false,or_assoc]
theorem a3o:∀(r F:List Int),F.Nodup->(a9e F r).Nodup
 |[],F,h=>by simpa[a9e]using h
 |x::r,F,h=>by
  simp only[a9e]
  split
  ·exact a3o r F h
  ·rename_i hx
   refine a3o r (F++[x]) (List.nodup_append.2 ⟨h,by simp,fun a ha b hb=> ?_⟩)
   obtain rfl:=List.mem_singleton.1 hb
   exact fun e=>hx (e ▸ ha)
theorem c2u {F s:List Int} {x:Int} (h:x∈F):(F++s).idxOf x=F.idxOf x:=by
 rw[List.idxOf_append,if_pos h]
theorem b4A:∀(r F:List Int),b8k F r=r.map fun x=>(((a9e F r).idxOf x:Nat):Int)
 |[],F=>by simp[b8k]
 |x::r,F=>by
  simp only[b8k,a9e]
  split
  ·rename_i hx
   obtain⟨s,hs⟩:=a7i r F
   rw[List.map_cons,b4A r F,hs,c2u hx]
  ·rename_i hx
   obtain⟨s,hs⟩:=a7i r (F++[x])
   rw[List.map_cons,b4A r (F++[x])]
   congr 1
   rw[hs,c2u (by simp),List.idxOf_append,if_neg hx]
   simp
theorem a5E (p:List Int):a0x p=p.map fun x=>(((a9e [] p).idxOf x:Nat):Int):=b4A p []
theorem a0Q (p:List Int):(a0x p).length=p.length:=by rw[a5E,List.length_map]
theorem mask_mem2 {p:List Int} {d:Int}:a0o p d≠0↔d∈p:=by
 constructor
 ·intro h
  obtain⟨x,h1,h2⟩:=b2H (a:=0) (b:=a0o p d) (fun e=>h e.symm) (fun y hy=>by rw[a0J]at hy;cases hy)
  unfold a0o at h1
  rw[b1c,Bool.and_eq_true]at h1
  exact List.mem_of_getElem? (of_decide_eq_true h1.2)
 ·intro h e
  obtain⟨i,hi⟩:=List.mem_iff_getElem?.1 h
  have hlt:=(List.getElem?_eq_some_iff.1 hi).1
  have:bit (a0o p d) i=true:=by unfold a0o;rw[b1c,decide_eq_true hlt,decide_eq_true hi];rfl
  rw[e,a0J]at this;cases this
theorem c2v {p:List Int} {k:Nat} (hL:LabOk p (k:Nat)) (hU:a3B p k):(a9e [] p).length=k:=by
 have hn:=a3o p [] List.nodup_nil
 have hr:((List.range k).map fun i:Nat=>(i:Int)).Nodup:=by
  rw[List.nodup_iff_pairwise_ne,List.pairwise_map]
  exact(List.nodup_range (n:=k)).imp fun h e=>h (by omega)
 have h1:=List.Nodup.length_le_of_subset hn (l₂:=(List.range k).map fun i:Nat=>(i:Int)) fun x hx=>by
  have hx:=((a2a p [] x).1 hx).resolve_left (by simp)
  have:=hL.1 x hx
  exact List.mem_map.2 ⟨x.toNat,List.mem_range.2 (by omega),by omega⟩
 have h2:=List.Nodup.length_le_of_subset hr (l₂:=a9e [] p) fun x hx=>by
  obtain⟨d,hd,rfl⟩:=List.mem_map.1 hx
  exact(a2a p [] _).2 (.inr (mask_mem2.1 (hU d (List.mem_range.1 hd))))
 rw[List.length_map,List.length_range]at h1 h2
 omega
theorem a2y {p:List Int} {k:Nat} (hL:LabOk p (k:Nat)) (hU:a3B p k):LabOk (a0x p) (k:Nat):=by
 refine⟨fun x hx=> ?_,by rw[a0Q];exact hL.2.1,by rw[a0Q];exact hL.2.2⟩
 rw[a5E]at hx
 obtain⟨y,hy,rfl⟩:=List.mem_map.1 hx
 have:=List.idxOf_lt_length_of_mem ((a2a p [] y).2 (.inr hy))
 rw[c2v hL hU]at this
 omega
theorem a1M {p:List Int} {k:Nat} (hL:LabOk p (k:Nat)) (hU:a3B p k):a3B (a0x p) k:=fun d hd=>by
 rw[mask_mem2,a5E]
 have hl:=c2v hL hU
 have hd':d<(a9e [] p).length:=by omega
 refine List.mem_map.2 ⟨(a9e [] p)[d],((a2a p [] _).1 (List.getElem_mem hd')).resolve_left (by simp),?_⟩
 rw[List.Nodup.idxOf_getElem (a3o p [] List.nodup_nil) d hd']
def rcV (i k:Int) (a m:Nat) (x:Int):Int:=if x=i\/x=k then(if bit a m=true then i else k)else x
def a2C (p:List Int) (i k:Int) (a:Nat):List Int:=p.mapIdx fun m x=>rcV i k a m x
theorem b1v {p:List Int} {i k:Int} {a m:Nat} {x:Int} (h:p[m]? =some x):(a2C p i k a)[m]? =some (rcV i k a m x):=by
 unfold a2C;rw[List.getElem?_mapIdx,h];rfl
theorem a1t (p:List Int) (i k:Int) (a:Nat):(a2C p i k a).length=p.length:=by unfold a2C;rw[List.length_mapIdx]
theorem b1w {p:List Int} {i k:Int} {a:Nat} {m:Int} (hL:LabOk p m) (hi:0<=i/\i<m) (hk:0<=k/\k<m):LabOk (a2C p i k a) m:=by
 refine⟨fun x hx=> ?_,by rw[a1t];exact hL.2.1,by rw[a1t];exact hL.2.2⟩
 obtain⟨j,hj⟩:=List.mem_iff_getElem?.1 hx
 unfold a2C at hj
 rw[List.getElem?_mapIdx]at hj
 obtain⟨y,hy,rfl⟩:=Option.map_eq_some_iff.1 hj
 unfold rcV
 split
 ·split
  ·exact hi
  ·exact hk
 ·exact hL.1 y (List.mem_of_getElem? hy)
def btB (a b:Nat) (e:Nat×Nat):Bool:=bit a e.1&&bit b e.2||bit a e.2&&bit b e.1
def d3c (es:List (Nat×Nat)) (a b:Nat):Nat:=(es.filter (btB a b)).length
def b4B (i j:Nat):List (Nat×Nat):=(List.range (j-(i+1))).map fun d=>(i,i+1+d)
def prI (k i:Nat):List (Nat×Nat):=(List.range i).flatMap fun a=>b4B a k
def a0A (k:Nat):List (Nat×Nat):=prI k k
theorem b6E (k i:Nat):prI k (i+1)=prI k i++b4B i k:=by unfold prI;rw[List.range_succ,List.flatMap_append];simp
theorem c2w {i j:Nat} (h:i+1<=j):b4B i (j+1)=b4B i j++[(i,j)]:=by
 unfold b4B
 rw[show j+1-(i+1)=(j-(i+1))+1 by omega,List.range_succ,List.map_append,List.map_cons,List.map_nil,show i+1+(j-(i+1))=j by omega]
theorem c6r (i:Nat):b4B i (i+1)=[]:=by unfold b4B;rw[Nat.sub_self];rfl
theorem b6F (i j:Nat):(b4B i j).length=j-(i+1):=by simp[b4B]
theorem b1x (k:Nat):∀i,(prI k i).length<=i*k
 |0=>by simp[prI]
 |i+1=>by
  rw[b6E,List.length_append,b6F]
  have:=b1x k i
  rw[Nat.add_mul,Nat.one_mul];omega
theorem a5F {k:Nat} {e:Nat×Nat} (h:e∈a0A k):e.1<e.2/\e.2<k:=by
 unfold a0A prI b4B at h
 obtain⟨a,ha,h⟩:=List.mem_flatMap.1 h
 obtain⟨d,hd,rfl⟩:=List.mem_map.1 h
 rw[List.mem_range]at ha hd
 simp only
 omega
theorem c2x (k:Nat) (h:k<=8):(a0A k).length<=64:=Nat.le_trans (b1x k k) (Nat.mul_le_mul h h)
end Go.GS
/- How many edges a small set has. -/
namespace Go.GS
def prs:List Nat->List (Nat×Nat)
 |[]=>[]
 |a::r=>r.map (fun b=>(a,b))++prs r
def tri:Nat->Nat
 |0=>0
 |n+1=>n+tri n
theorem d1J (l:List Nat):(prs l).length=tri l.length:=by
 induction l with
 |nil=>rfl
 |cons a r ih=>simp only[prs,List.length_append,List.length_map,List.length_cons,tri,ih]
theorem c6s {m n:Nat} (h:m<=n):tri m<=tri n:=by
 induction h with
 |refl=>exact Nat.le_refl _
 |step _ ih=>exact Nat.le_trans ih (Nat.le_add_left _ _)
theorem d1K {l:List Nat} (hl:l.Pairwise (· < ·)) {x y:Nat} (hx:x∈l) (hy:y∈l) (hxy:x<y):(x,y)∈prs l:=by
 induction l with
 |nil=>cases hx
 |cons a r ih=>
  rw[List.pairwise_cons]at hl
  simp only[prs,List.mem_append,List.mem_map]
  rcases List.mem_cons.1 hx with hxa|hx
  ·subst hxa
   rcases List.mem_cons.1 hy with hya|hy
   ·omega
   ·exact .inl ⟨y,hy,rfl⟩
  ·rcases List.mem_cons.1 hy with hya|hy
   ·have:=hl.1 x hx;omega
   ·exact .inr (ih hl.2 hx hy)
theorem a7j {α:Type} [DecidableEq α]:∀{l m:List α},l.Nodup->(∀x∈l,x∈m)->l.length<=m.length:=by
 intro l
 induction l with
 |nil=>intro m _ _;exact Nat.zero_le _
 |cons a l ih=>
  intro m hn hs
  rw[List.nodup_cons]at hn
  have ha:=hs a (by simp)
  have:=ih (m:=m.erase a) hn.2 fun x hx=>(List.mem_erase_of_ne (fun e:x=a=>by subst e;exact hn.1 hx)).2 (hs x (List.mem_cons_of_mem _ hx))
  rw[List.length_erase_of_mem ha]at this
  have:=List.length_pos_of_mem ha
  rw[List.length_cons];omega
theorem c6t {n:Nat} {es:List (Nat×Nat)} (hg:GV n es) {set:Nat} (hs:set<M64):a4F es set 0<=tri (card set):=by
 unfold a4F
 rw[List.drop_zero,show card set=(els set).length from rfl,<-d1J]
 have hnd:es.Nodup:=hg.ord.imp fun h e=>by subst e;rcases h with h|h<;>omega
 refine a7j (List.Pairwise.filter _ hnd) fun e he=> ?_
 rw[List.mem_filter]at he
 have h1:=hg.ed e he.1
 have h2:=he.2
 unfold inB at h2
 rw[Bool.and_eq_true]at h2
 exact d1K (a2G set) ((a1Y hs).2 h2.1) ((a1Y hs).2 h2.2) h1.1
theorem c2y {n:Nat} {es:List (Nat×Nat)} (hg:GV n es) {set:Nat} (hs:set<M64) (h9:card set<=9):a4F es set 0<=36:=
 Nat.le_trans (c6t hg hs) (c6s h9)
end Go.GS
/- Chapter 32: all spanning trees, part 2. -/
namespace Go.Proofs.YtmannekkmdockaaGreatDoor
open Go.Proofs.Tryz
open Go.RowKit Go.RX Go.GS
section
variable {H:PH} {n:Nat} {w:Value} {es:List (Nat×Nat)} {set:Nat}
def Trs (H0 H:PH) (es:List (Nat×Nat)) (set:Nat) (r:Value) (l:List Slc):Prop:=
 SO H0 H 32 1 (fun s:Slc=>[vs s]) r l/\(∀s∈l,∃t,SO H0 H 3 1 (fun z:Int=>[ii z]) (vs s) t/\TreeOk es set t)/\l.length<=68719476736
theorem b8l (hw:SG H w es) (hg:GV n es) (hs:set<2^n) (h0:set≠0) (h9:card set<=9):Con prog 42 [gv n w,uv set] H fun r H'=>PH.le H H'/\∃l,Trs H H' es set r l/\(Cn es set->l≠[]):=by
 refine a0b mixed c1E (by kernel_rfl) rfl ?_
 have h36:=c2y hg (a1g hg.n64 hs) h9
 refine a0a (a0T hw) ?_
 refine a0d (b8i hg hs h0 h36 _ [] (.slice none 0 0) H (Nat.le_refl _) hw (SE.nil _ _ _) (Beg.nil _ _)) rfl ?_
 rintro r H1 ⟨l1,l,h1,h2,h3,h4⟩
 refine⟨fun h=>(nomatch h),?_⟩
 simp only[cA,nA]
 exact a0c rfl ⟨l1,l,⟨h1,h2,Nat.le_trans h3 (Nat.le_trans (Nat.pow_le_pow_right (by decide) h36) (by decide))⟩,fun hc=>h4 (Spn.start hc)⟩
end
end Go.Proofs.YtmannekkmdockaaGreatDoor
/- Chapter 32: drafts: labels of a forest. -/
namespace Go.Proofs.YtmannekkmdockaaGreatDoor
open Go.Proofs.Tryz
open Go.RowKit Go.RX Go.GS
theorem d1L {n i:Nat} (h:i<n):(List.replicate i (-1:Int)++List.replicate (n-i) 0).set i (-1)=List.replicate (i+1) (-1)++List.replicate (n-(i+1)) 0:=by
 obtain⟨k,hk⟩:∃k,n-i=k+1:=⟨n-i-1,by omega⟩
 rw[hk,show n-(i+1)=k by omega,List.replicate_succ,List.replicate_succ',List.append_assoc]
 simp[List.set_append]
end Go.Proofs.YtmannekkmdockaaGreatDoor
/- Chapter 32: drafts: weights. -/
namespace Go.Proofs.YtmannekkmdockaaGreatDoor
open Go.Proofs.Tryz
open Go.RowKit Go.RX Go.GS
def arI (l:List Int):Value:= .agg (l.map ii).toArray
theorem a8A (l:List Int):(arI l).cells=(l.map ii).toArray:=rfl
theorem c6u {ρ:List Value} {x i:SV} {l:List Int} {d:Nat} {y:Int} (hx:D prog ρ x=arI l) (hi:D prog ρ i=ii (d:Nat)) (hd:l[d]? =some y):D prog ρ (.cell x 0 1 i)=ii y:=by
 show(D prog ρ x).cells.getD (0+1*a2r (D prog ρ i)) undef=_
 rw[hx,hi,a8A]
 show((l.map ii).toArray).getD (0+1*((d:Nat):Int).toNat) undef=_
 rw[Int.toNat_natCast,Nat.zero_add,Nat.one_mul,Array.getD_eq_getD_getElem?,List.getElem?_toArray,List.getElem?_map,hd]
 rfl
theorem c6v {ρ:List Value} {x y i:SV} {l:List Int} {d:Nat} {z:Int} (hx:D prog ρ x=arI l) (hy:D prog ρ y=ii z) (hi:D prog ρ i=ii (d:Nat)):D prog ρ (.put x 0 1 y 1 i)=arI (l.set d z):=by
 show Value.agg (spl (D prog ρ x).cells (0+1*a2r (D prog ρ i)) (D prog ρ y).cells.toList)=_
 rw[hx,hi,hy,a8A]
 show Value.agg (spl (l.map ii).toArray (0+1*((d:Nat):Int).toNat) [ii z])=_
 rw[Int.toNat_natCast,Nat.zero_add,Nat.one_mul]
 show Value.agg ((l.map ii).toArray.setIfInBounds d (ii z))=Value.agg _
 congr 1
 rw[<-Array.toList_inj]
 simp[List.map_set]
theorem z_8:a0I prog 167=arI (List.replicate 8 0):=by kernel_rfl
theorem c8g {ρ:List Value} {x:SV} {l:List Int} {y:Int} (hx:D prog ρ x=arI l) (hd:l[0]? =some y):D prog ρ (.cell x 0 0 noI)=ii y:=by
 show(D prog ρ x).cells.getD (0+0*a2r (D prog ρ noI)) undef=_
 rw[hx,a8A,Nat.zero_mul,Array.getD_eq_getD_getElem?,List.getElem?_toArray,List.getElem?_map,hd]
 rfl
theorem d5g {ρ:List Value} {a b:SV} {x y:Int} (ha:D prog ρ a=ii x) (hb:D prog ρ b=ii y):D prog ρ (.op2 .add .i64 a b)=ii (IntKind.i64.wrap (x+y)):=by
 show a2O .add .i64 (intOf (D prog ρ a)) (intOf (D prog ρ b))=_
 rw[ha,hb];rfl
end Go.Proofs.YtmannekkmdockaaGreatDoor
/- Chapter 32: the reference's trees by number. -/
namespace Go.Proofs.YtmannekkmdockaaGreatDoor
open Go.Proofs.Tryz
open Go.RowKit Go.RX Go.GS
open Go.WD (wd toI iw)
section
variable {H:PH} {n:Nat} {w:Value} {es:List (Nat×Nat)} {set:Nat}
theorem a8B (a:Nat):(wd a).cells.size=8/\a0t (wd a).cells:=⟨Go.WD.words_size a,Go.WD.words_one a⟩
end
end Go.Proofs.YtmannekkmdockaaGreatDoor

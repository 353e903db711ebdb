/- Concrete runs: what abstract values and terms stand for. -/
import Derived.Test.YtkcjbfoejpfbbaaGreatDoorRzA
import Derived.Test.YtkcjbfoejpfbbaaGreatDoorGsC
import Derived.Test.YtkcjbfoejpfbbaaGreatDoorRxY
import Derived.DeepKeys3
namespace Go.RZ
open Go.RowKit Go.RX Go.GS
abbrev Rl:=Nat->Nat×Nat
mutual
def rz (σ:Rl):AV->Value
 | .int k n=> .int k n
 | .bool b=> .bool b
 | .ptr k q=> .pointer (some ⟨(σ k).1,q,none⟩)
 | .nptr=> .pointer none
 | .sl k q n c=> .slice (some ⟨(σ k).1,q,none⟩) n c
 | .sg k q n d=> .slice (some ⟨(σ k).1,q,none⟩) n ((σ k).2-d)
 | .nsl=> .slice none 0 0
 | .mp k=> .map (some (σ k).1)
 | .nmp=> .map none
 | .fn f b c=> .func (.func f) (rzs σ b).toArray (rzs σ c).toArray
 | .nfn=> .nilFunc
 | .agg l=> .agg (rzs σ l).toArray
 | .tup l=> .tuple (rzs σ l).toArray
def rzs (σ:Rl):List AV->List Value
 |[]=>[]
 |x::r=>rz σ x::rzs σ r
end
mutual
def lt (n:Nat):AV->Prop
 | .ptr k _| .sl k _ _ _| .sg k _ _ _| .mp k=>k<n
 | .fn _ b c=>lts n b/\lts n c
 | .agg l| .tup l=>lts n l
 |_=>True
def lts (n:Nat):List AV->Prop
 |[]=>True
 |x::r=>lt n x/\lts n r
end
theorem a3d (σ:Rl):∀l,rzs σ l=l.map (rz σ)
 |[]=>by simp[rzs]
 |x::r=>by simp[rzs,a3d σ r]
theorem a2L (n:Nat):∀l,lts n l↔∀v∈l,lt n v
 |[]=>by simp[lts]
 |x::r=>by simp[lts,a2L n r]
mutual
theorem b8s {σ σ':Rl} {n:Nat} (h:∀k,k<n->σ' k=σ k):∀v,lt n v->rz σ' v=rz σ v
 | .int _ _,_| .bool _,_| .nptr,_| .nsl,_| .nmp,_| .nfn,_=>by simp[rz]
 | .ptr k _,hv| .sl k _ _ _,hv| .sg k _ _ _,hv| .mp k,hv=>by simp only[lt]at hv;simp[rz,h k hv]
 | .fn _ b c,hv=>by simp only[lt]at hv;simp[rz,a1N h b hv.1,a1N h c hv.2]
 | .agg l,hv=>by simp only[lt]at hv;simp[rz,a1N h l hv]
 | .tup l,hv=>by simp only[lt]at hv;simp[rz,a1N h l hv]
theorem a1N {σ σ':Rl} {n:Nat} (h:∀k,k<n->σ' k=σ k):∀l,lts n l->rzs σ' l=rzs σ l
 |[],_=>by simp[rzs]
 |x::r,hv=>by simp only[lts]at hv;simp[rzs,b8s h x hv.1,a1N h r hv.2]
end
mutual
theorem b2s {n m:Nat} (h:n<=m):∀v,lt n v->lt m v
 | .int _ _,_| .bool _,_| .nptr,_| .nsl,_| .nmp,_| .nfn,_=>by simp[lt]
 | .ptr k _,hv| .sl k _ _ _,hv| .sg k _ _ _,hv| .mp k,hv=>by simp only[lt]at*;omega
 | .fn _ b c,hv=>by simp only[lt]at*;exact⟨a0E h b hv.1,a0E h c hv.2⟩
 | .agg l,hv| .tup l,hv=>by simp only[lt]at*;exact a0E h l hv
theorem a0E {n m:Nat} (h:n<=m):∀l,lts n l->lts m l
 |[],_=>by simp[lts]
 |x::r,hv=>by simp only[lts]at*;exact⟨b2s h x hv.1,a0E h r hv.2⟩
end
theorem a0w (σ:Rl) (l:List AV):(rzs σ l).length=l.length:=by rw[a3d,List.length_map]
theorem a3e (σ:Rl) (l m:List AV):rzs σ (l++m)=rzs σ l++rzs σ m:=by simp[a3d]
theorem lts_app {n:Nat} {l m:List AV}:lts n (l++m)↔lts n l/\lts n m:=by
 simp only[a2L,List.mem_append]
 exact⟨fun h=>⟨fun v hv=>h v (.inl hv),fun v hv=>h v (.inr hv)⟩,fun h v hv=>hv.elim (h.1 v) (h.2 v)⟩
theorem a4s {n j:Nat} {l:List AV} (h:lts n l):lts n (l.take j):=(a2L _ _).2 fun v hv=>(a2L _ _).1 h v (List.mem_of_mem_take hv)
theorem a5H {n j:Nat} {l:List AV} (h:lts n l):lts n (l.drop j):=(a2L _ _).2 fun v hv=>(a2L _ _).1 h v (List.mem_of_mem_drop hv)
theorem a2o (σ:Rl) (l:List AV) (j:Nat):rzs σ (l.take j)=(rzs σ l).take j:=by simp[a3d,List.map_take]
theorem a3z (σ:Rl) (l:List AV) (j:Nat):rzs σ (l.drop j)=(rzs σ l).drop j:=by simp[a3d,List.map_drop]
theorem a6G {α:Type}:∀(l:List α) (i:Nat),nth l i=l[i]?
 |[],_=>rfl
 |_::_,0=>rfl
 |x::r,i+1=>(a6G r i:nth r i=r[i]?)
theorem b0D {σ:Rl} {l:List AV} {i:Nat} {v:AV} (h:nth l i=some v):(rzs σ l)[i]? =some (rz σ v):=by
 rw[a6G]at h;rw[a3d,List.getElem?_map,h];rfl
theorem b0E {n:Nat} {l:List AV} {i:Nat} {v:AV} (h:nth l i=some v) (hl:lts n l):lt n v:=by
 rw[a6G]at h;exact(a2L _ _).1 hl v (List.mem_of_getElem? h)
theorem a3f (σ:Rl) (v:AV):(rz σ v).cells=(rzs σ (cl v)).toArray:=by cases v<;>simp[rz,rzs,cl,Value.cells]
theorem a3D {n:Nat} {v:AV} (h:lt n v):lts n (cl v):=by cases v<;>simp_all[cl,lt,lts]
theorem c8U {σ:Rl} {v:AV} (h:d5v v=true):a7l (rz σ v)=true:=by cases v<;>simp_all[d5v,rz,a7l]
theorem a9a {σ:Rl}:∀{l:List AV},c6z l=true->a0u (rzs σ l).toArray
 |[],_=>fun c hc=>by simp[rzs]at hc
 |x::r,h=>fun c hc=>by
  simp only[c6z,Bool.and_eq_true]at h
  simp only[rzs,List.mem_cons]at hc
  rcases hc with rfl|hc
  ·exact c8U h.1
  ·exact a9a (σ:=σ) h.2 c (by simpa using hc)
theorem a9b:∀(l:List AV) (q:Nat),b3H l q []=l
 |[],0=>rfl
 |_::_,0=>rfl
 |[],_+1=>rfl
 |x::r,q+1=>congrArg (x:: ·) (a9b r q)
theorem a6H:∀(l:List AV) (q:Nat) (y:AV) (ys:List AV),b3H l q (y::ys)=b3H (l.set q y) (q+1) ys
 |[],0,_,_=>rfl
 |x::r,0,y,ys=>by
  show y::b3H r 0 ys=y::b3H r 0 ys
  rfl
 |[],_+1,_,_=>rfl
 |x::r,q+1,y,ys=>by
  show x::b3H r q (y::ys)=b3H (x::r.set q y) (q+1+1) ys
  rw[a6H r q y ys];rfl
theorem a4T (σ:Rl):∀(ys l:List AV) (q:Nat),spl (rzs σ l).toArray q (rzs σ ys)=(rzs σ (b3H l q ys)).toArray
 |[],l,q=>by rw[a9b];rfl
 |y::ys,l,q=>by
  rw[a6H,<-a4T σ ys (l.set q y) (q+1)]
  show spl ((rzs σ l).toArray.setIfInBounds q (rz σ y)) (q+1) (rzs σ ys)=_
  congr 1
  rw[a3d,a3d]
  simp[List.map_set]
theorem a4U {n:Nat}:∀(ys l:List AV) (q:Nat),lts n l->lts n ys->lts n (b3H l q ys)
 |[],l,q,h,_=>by rw[a9b];exact h
 |y::ys,l,q,h,h2=>by
  rw[a6H]
  simp only[lts]at h2
  refine a4U ys _ _ ((a2L _ _).2 fun v hv=> ?_) h2.2
  rcases List.mem_or_eq_of_mem_set hv with hv|rfl
  ·exact(a2L _ _).1 h v hv
  ·exact h2.1
theorem c6C {σ:Rl} {c:Value} {v:AV} (h:ofS c=some v):rz σ v=c/\∀n,lt n v:=by
 unfold ofS at h
 split at h<;>(try cases h)<;>exact⟨by simp[rz,rzs],fun n=>by simp[lt,lts]⟩
theorem b8t {σ:Rl}:∀{l:List Value} {m:List AV},d2A l=some m->rzs σ m=l/\∀n,lts n m
 |[],m,h=>by simp only[d2A,Option.some.injEq]at h;subst h;exact⟨rfl,fun n=>by simp[lts]⟩
 |x::r,m,h=>by
  simp only[d2A]at h
  split at h
  ·rename_i a b ha hb
   simp only[Option.some.injEq]at h;subst h
   have h1:=c6C (σ:=σ) ha
   have h2:=b8t (σ:=σ) hb
   exact⟨by rw[rzs,h1.1,h2.1],fun n=>by simp only[lts];exact⟨h1.2 n,h2.2 n⟩⟩
  ·cases h
theorem a5s {σ:Rl} {c:Value} {v:AV} (h:ofV c=some v):rz σ v=c/\∀n,lt n v:=by
 unfold ofV at h
 split at h
 ·split at h
  ·rename_i a ha
   simp only[Option.some.injEq]at h;subst h
   have h1:=b8t (σ:=σ) ha
   exact⟨by rw[rz,h1.1],fun n=>by simp only[lt];exact h1.2 n⟩
  ·cases h
 ·simp only[Option.some.injEq]at h;subst h;exact⟨by simp[rz,rzs],fun n=>by simp[lt,lts]⟩
 ·exact c6C h
theorem c6D {σ:Rl} {c:Value} {v:AV} (h:adK c=some v):rz σ v=c/\∀n,lt n v:=by
 unfold adK at h
 split at h
 ·simp only[Option.some.injEq]at h;subst h;exact⟨by simp[rz],fun n=>by simp[lt]⟩
 ·simp only[Option.some.injEq]at h;subst h;exact⟨by simp[rz],fun n=>by simp[lt]⟩
 ·exact a5s h
theorem a2R {a b:Nat} (h:Nat.blt a b=true):a<b:=by simpa[Nat.blt_eq]using h
theorem a3g {a b:Nat} (h:Nat.ble a b=true):a<=b:=Nat.le_of_ble_eq_true h
theorem a1E {a b:Nat} (h:Nat.beq a b=true):a=b:=Nat.eq_of_beq_eq_true h
theorem a4t (k:IntKind) (n:Int):b2q k n=k.wrap n:=by
 unfold b2q
 cases h:okI k n with
 |false=>rfl
 |true=>
  simp only[cond_true]
  unfold okI at h
  split at h
  ·have:=a2R h
   show((_:Nat):Int)=IntKind.i64.wrap ((_:Nat):Int)
   rw[IntKind.wrap_i64];omega
  ·have:=a2R h
   show((_:Nat):Int)=IntKind.u64.wrap ((_:Nat):Int)
   rw[IntKind.wrap_u64];omega
  ·have:=a2R h
   rw[IntKind.wrap_i64,Int.negSucc_eq];omega
  ·cases h
theorem b0F (a b:Int):eqI a b=(a==b):=by
 rw[Bool.eq_iff_iff,beq_iff_eq]
 cases a<;>cases b<;>simp only[eqI,Nat.beq_eq]
 ·exact Int.ofNat_inj.symm
 ·exact⟨fun h=>(nomatch h),fun h=>(nomatch h)⟩
 ·exact⟨fun h=>(nomatch h),fun h=>(nomatch h)⟩
 ·exact⟨fun h=>by rw[h],fun h=>by injection h⟩
theorem a7Q (a b:Int):ltI a b=decide (a<b):=by
 rw[Bool.eq_iff_iff,decide_eq_true_iff]
 cases a<;>cases b<;>simp only[ltI,Nat.blt_eq]
 ·exact Int.ofNat_lt.symm
 ·rw[Int.negSucc_eq];simp;omega
 ·rw[Int.negSucc_eq];simp;omega
 ·rw[Int.negSucc_eq,Int.negSucc_eq];omega
theorem a5t {σ:Rl} {c:Value} {v:AV} (h:ofB c=some v):rz σ v=c/\∀n,lt n v:=by
 unfold ofB at h
 split at h
 ·simp only[Option.some.injEq]at h;subst h;exact⟨by simp[rz],fun n=>by simp[lt]⟩
 ·simp only[Option.some.injEq]at h;subst h;exact⟨by simp[rz],fun n=>by simp[lt]⟩
 ·cases h
theorem b2t {σ:Rl} {f:Nat->Nat->Nat} {o:BinOp} {k:IntKind} {a b:Int} {v:AV} (h:d2B f o k a b=some v) (hf:∀x y:Nat,x<M64->y<M64->a1H o .u64 (x:Nat) (y:Nat)= .int .u64 (f x y:Nat)):rz σ v=a1H o k a b/\∀n,lt n v:=by
 unfold d2B at h
 split at h
 ·rename_i x y
  cases hc:Nat.blt x 18446744073709551616&&Nat.blt y 18446744073709551616 with
  |false=>rw[hc]at h;exact a5t h
  |true=>
   rw[hc]at h
   simp only[Bool.and_eq_true,Nat.blt_eq]at hc
   simp only[cond_true,Option.some.injEq]at h;subst h
   exact⟨(hf x y hc.1 hc.2).symm,fun n=>by simp[lt]⟩
 ·exact a5t h
theorem c6E {σ:Rl} {f:Nat->Nat->Nat} {o:BinOp} {k:IntKind} {a b:Int} {v:AV} (h:shA f o k a b=some v) (hf:∀x y:Nat,y<64->a1H o .u64 (x:Nat) (y:Nat)= .int .u64 (f x y:Nat)):rz σ v=a1H o k a b/\∀n,lt n v:=by
 unfold shA at h
 split at h
 ·rename_i x y
  cases hc:Nat.blt y 64 with
  |false=>rw[hc]at h;exact a5t h
  |true=>
   rw[hc]at h
   simp only[Nat.blt_eq]at hc
   simp only[cond_true,Option.some.injEq]at h;subst h
   exact⟨(hf x y hc).symm,fun n=>by simp[lt]⟩
 ·exact a5t h
theorem b8u {σ:Rl} {f:Nat->Nat->Nat} {o:BinOp} {k:IntKind} {a b:Int} {v:AV} (h:d4U f o k a b=some v) (hf:∀(k:IntKind) (x y:Nat),okI k (x:Nat)=true->okI k (y:Nat)=true->a1H o k (x:Nat) (y:Nat)= .int k (f x y:Nat)):rz σ v=a1H o k a b/\∀n,lt n v:=by
 unfold d4U at h
 split at h
 ·rename_i x y
  cases hc:okI k (Int.ofNat x)&&okI k (Int.ofNat y)with
  |false=>rw[hc]at h;exact a5t h
  |true=>
   rw[hc]at h
   simp only[Bool.and_eq_true]at hc
   simp only[cond_true,Option.some.injEq]at h;subst h
   exact⟨(hf k x y hc.1 hc.2).symm,fun n=>by simp[lt]⟩
 ·exact a5t h
theorem c4m {k:IntKind} {n:Int} (h:okI k n=true):k.wrap n=n:=by
 have:=a4t k n
 unfold b2q at this
 rw[h]at this
 exact this.symm
theorem d2Y {k:IntKind} {x y:Nat} (h:okI k (x:Nat)=true) (hy:y<=x):okI k (y:Nat)=true:=by
 cases k
 case i64=>have:=a2R (show Nat.blt x _=true from h);show Nat.blt y _=true;simp only[Nat.blt_eq];omega
 case u64=>have:=a2R (show Nat.blt x _=true from h);show Nat.blt y _=true;simp only[Nat.blt_eq];omega
 all_goals exact absurd h (by simp[okI])
theorem c8V {σ:Rl} {o:BinOp} {k:IntKind} {a b:Int} {v:AV} (h:d5w o k a b=some v):rz σ v=a1H o k a b/\∀n,lt n v:=by
 cases o<;>simp only[d5w]at h
 case add=>simp only[Option.some.injEq]at h;subst h;exact⟨by simp only[rz,a4t];rfl,fun n=>by simp[lt]⟩
 case sub=>simp only[Option.some.injEq]at h;subst h;exact⟨by simp only[rz,a4t];rfl,fun n=>by simp[lt]⟩
 case mul=>simp only[Option.some.injEq]at h;subst h;exact⟨by simp only[rz,a4t];rfl,fun n=>by simp[lt]⟩
 case quo=>
  refine b8u h fun k x y hx hy=> ?_
  show Value.int k (k.wrap (Int.tdiv (x:Nat) (y:Nat)))=_
  rw[<-Int.ofNat_tdiv,c4m (d2Y hx (Nat.div_le_self x y))];rfl
 case rem=>
  refine b8u h fun k x y hx hy=> ?_
  show Value.int k (Int.tmod (x:Nat) (y:Nat))=_
  rw[<-Int.ofNat_tmod];rfl
 case and=>exact b2t h fun x y hx hy=>congrArg (Value.int .u64) (Go.GS.u64_and hx hy)
 case or=>exact b2t h fun x y hx hy=>congrArg (Value.int .u64) (Go.GS.u64_or hx hy)
 case andNot=>exact b2t h fun x y hx hy=>congrArg (Value.int .u64) (Go.GS.u64_andn hx hy)
 case shr=>
  refine c6E h fun x y hy=> ?_
  refine congrArg (Value.int .u64) ((Go.GS.u64_shr (a:=x) (k:=y)).trans ?_)
  rw[Nat.min_eq_left (by omega)];rfl
 case shl=>exact c6E h fun x y hy=>congrArg (Value.int .u64) (Go.GS.u64_shl (a:=x) hy)
 case xor=>exact a5t h
 case eql=>simp only[Option.some.injEq]at h;subst h;exact⟨by simp only[rz,b0F];rfl,fun n=>by simp[lt]⟩
 case neq=>simp only[Option.some.injEq]at h;subst h;exact⟨by simp only[rz,b0F];rfl,fun n=>by simp[lt]⟩
 case lss=>simp only[Option.some.injEq]at h;subst h;exact⟨by simp only[rz,a7Q];rfl,fun n=>by simp[lt]⟩
 case leq=>simp only[Option.some.injEq]at h;subst h;exact⟨by simp only[rz,a7Q,a1H];congr 1;rw[<-decide_not];exact decide_eq_decide.2 (by omega),fun n=>by simp[lt]⟩
 case gtr=>simp only[Option.some.injEq]at h;subst h;exact⟨by simp only[rz,a7Q];rfl,fun n=>by simp[lt]⟩
 case geq=>simp only[Option.some.injEq]at h;subst h;exact⟨by simp only[rz,a7Q,a1H];congr 1;rw[<-decide_not];exact decide_eq_decide.2 (by omega),fun n=>by simp[lt]⟩
def env (σ:Rl) (e:List AV):List Value:=(rzs σ e).reverse
theorem a3A (σ:Rl) (e:List AV) (v:AV):env σ (v::e)=env σ e++[rz σ v]:=by simp[env,rzs]
theorem a3h (σ:Rl):∀(l e:List AV),env σ (psh e l)=env σ e++rzs σ l
 |[],e=>by simp[c8M,rzs]
 |x::r,e=>by rw[b3J,a3h σ r,a3A,rzs,List.append_assoc];rfl
theorem a3i:∀(l e:List AV),(psh e l).length=e.length+l.length
 |[],e=>rfl
 |x::r,e=>by rw[b3J,a3i r,List.length_cons,List.length_cons];omega
theorem a5u {n:Nat}:∀{l e:List AV},lts n e->lts n l->lts n (psh e l)
 |[],e,h,_=>h
 |x::r,e,h,h2=>by
  simp only[lts]at h2
  exact a5u (l:=r) (e:=x::e) (by simp only[lts];exact⟨h2.1,h⟩) h2.2
theorem d2Z {σ:Rl} {e:List AV} {m i:Nat} {v:AV} (hm:e.length=m) (h:lkE e m i=some v):(env σ e).getD i undef=rz σ v/\(∀n,lts n e->lt n v):=by
 unfold lkE at h
 cases hi:Nat.blt i m with
 |false=>rw[hi]at h;cases h
 |true=>
  rw[hi]at h
  have hi:=a2R hi
  have h1:(rzs σ e)[m-1-i]? =some (rz σ v):=b0D h
  refine⟨?_,fun n hn=>b0E h hn⟩
  unfold env
  rw[List.getD_eq_getElem?_getD,List.getElem?_reverse (by rw[a0w];omega),a0w,hm,h1]
  rfl
theorem b0G {σ:Rl} {o:Option AV} {j:Nat} (h:ixN o=some j):∃k,o=some (.int k (j:Nat)):=by
 unfold ixN at h
 split at h
 ·simp only[Option.some.injEq]at h;subst h;exact⟨_,rfl⟩
 ·cases h
theorem d6U {P:Program} {ρ:List Value} {x i:SV} {o s:Nat} {l:List Value} {j:Nat} {u:Value} (hx:(D P ρ x).cells=l.toArray) (hi:s=0\/a1w (D P ρ i)=j) (h:l[o+s*j]? =some u) (hj:s=0->j=0):D P ρ (.cell x o s i)=u:=by
 show(D P ρ x).cells.getD (o+s*a1w (D P ρ i)) undef=u
 have e:o+s*a1w (D P ρ i)=o+s*j:=by
  rcases hi with rfl|hi
  ·simp
  ·rw[hi]
 rw[hx,e]
 simp[h]
theorem b8v {P:Program} {ρ:List Value} {x i:SV} {o n s:Nat} {l:List Value} {j:Nat} (hx:(D P ρ x).cells=l.toArray) (hi:s=0\/a1w (D P ρ i)=j):D P ρ (.sub x o n s i)= .agg ((l.drop (o+s*j)).take n).toArray:=by
 show Value.agg ((D P ρ x).cells.extract (o+s*a1w (D P ρ i)) (o+s*a1w (D P ρ i)+n))=_
 have e:o+s*a1w (D P ρ i)=o+s*j:=by
  rcases hi with rfl|hi
  ·simp
  ·rw[hi]
 rw[hx,e]
 congr 1
 rw[<-Array.toList_inj,Array.toList_extract,List.extract_eq_take_drop,Nat.add_sub_cancel_left]
theorem b8w {P:Program} {ρ:List Value} {x y i:SV} {o n s:Nat} {l m:List Value} {j:Nat} (hx:(D P ρ x).cells=l.toArray) (hy:(D P ρ y).cells=m.toArray) (hi:s=0\/a1w (D P ρ i)=j):D P ρ (.put x o n y s i)= .agg (spl l.toArray (o+s*j) m):=by
 show Value.agg (spl (D P ρ x).cells (o+s*a1w (D P ρ i)) (D P ρ y).cells.toList)=_
 have e:o+s*a1w (D P ρ i)=o+s*j:=by
  rcases hi with rfl|hi
  ·simp
  ·rw[hi]
 rw[hx,hy,e]
theorem a1i {P:Program} {σ:Rl} {e:List AV} {m:Nat} (hm:e.length=m):∀(x:SV) {v:AV},AD P e m x=some v->D P (env σ e) x=rz σ v/\∀n,lts n e->lt n v
 | .v i,v,h=>d2Z hm h
 | .k c,v,h=>⟨(c6D (σ:=σ) h).1.symm,fun n _=>(c6D (σ:=σ) h).2 n⟩
 | .z t,v,h=>⟨(a5s (σ:=σ) h).1.symm,fun n _=>(a5s (σ:=σ) h).2 n⟩
 | .ag x,v,h=>by
  simp only[d5A,d5x]at h
  split at h
  ·rename_i u hu
   obtain⟨h1,h2⟩:=a1i hm x hu
   simp only[Option.some.injEq]at h;subst h
   exact⟨by show Value.agg (D P (env σ e) x).cells=_;rw[h1,a3f,rz],fun n hn=>by simp only[lt];exact a3D (h2 n hn)⟩
  ·cases h
 | .cell x o s i,v,h=>by
  simp only[c8C,b8m]at h
  split at h
  ·rename_i u hu
   obtain⟨h1,h2⟩:=a1i hm x hu
   have hc:(D P (env σ e) x).cells=(rzs σ (cl u)).toArray:=by rw[h1,a3f]
   split at h
   ·exact⟨d6U (j:=0) hc (.inl rfl) (by rw[Nat.mul_zero,Nat.add_zero];exact b0D h) (fun _=>rfl),fun n hn=>b0E h (a3D (h2 n hn))⟩
   ·split at h
    ·rename_i j hj
     obtain⟨k,hk⟩:=b0G (σ:=σ) hj
     have h3:=(a1i (σ:=σ) hm i hk).1
     exact⟨d6U (j:=j) hc (.inr (by rw[h3];simp[rz,a1w,intOf])) (b0D h) (fun h=>(nomatch h)),fun n hn=>b0E h (a3D (h2 n hn))⟩
    ·cases h
  ·cases h
 | .sub x o n s i,v,h=>by
  simp only[d2C,c8v]at h
  split at h
  ·rename_i u hu
   obtain⟨h1,h2⟩:=a1i hm x hu
   have hc:(D P (env σ e) x).cells=(rzs σ (cl u)).toArray:=by rw[h1,a3f]
   split at h
   ·simp only[Option.some.injEq]at h;subst h
    exact⟨by rw[b8v (j:=0) hc (.inl rfl),rz,a2o,a3z,Nat.mul_zero,Nat.add_zero],fun n hn=>by simp only[lt];exact a4s (a5H (a3D (h2 n hn)))⟩
   ·split at h
    ·rename_i j hj
     obtain⟨k,hk⟩:=b0G (σ:=σ) hj
     have h3:=(a1i (σ:=σ) hm i hk).1
     simp only[Option.some.injEq]at h;subst h
     exact⟨by rw[b8v (j:=j) hc (.inr (by rw[h3];simp[rz,a1w,intOf])),rz,a2o,a3z];rfl,fun n hn=>by simp only[lt];exact a4s (a5H (a3D (h2 n hn)))⟩
    ·cases h
  ·cases h
 | .put x o n y s i,v,h=>by
  simp only[d2D,c8w]at h
  split at h
  ·rename_i u w hu hw
   obtain⟨h1,h2⟩:=a1i hm x hu
   obtain⟨g1,g2⟩:=a1i hm y hw
   have hc:(D P (env σ e) x).cells=(rzs σ (cl u)).toArray:=by rw[h1,a3f]
   have hd:(D P (env σ e) y).cells=(rzs σ (cl w)).toArray:=by rw[g1,a3f]
   split at h
   ·simp only[Option.some.injEq]at h;subst h
    exact⟨by rw[b8w (j:=0) hc hd (.inl rfl),rz,Nat.mul_zero,Nat.add_zero,a4T],fun n hn=>by simp only[lt];exact a4U _ _ _ (a3D (h2 n hn)) (a3D (g2 n hn))⟩
   ·split at h
    ·rename_i j hj
     obtain⟨k,hk⟩:=b0G (σ:=σ) hj
     have h3:=(a1i (σ:=σ) hm i hk).1
     simp only[Option.some.injEq]at h;subst h
     exact⟨by rw[b8w (j:=j) hc hd (.inr (by rw[h3];simp[rz,a1w,intOf])),rz,a4T];rfl,fun n hn=>by simp only[lt];exact a4U _ _ _ (a3D (h2 n hn)) (a3D (g2 n hn))⟩
    ·cases h
  ·cases h
 | .cat x k y,v,h=>by
  simp only[d2E,c8x]at h
  split at h
  ·rename_i u w hu hw
   obtain⟨h1,h2⟩:=a1i hm x hu
   obtain⟨g1,g2⟩:=a1i hm y hw
   simp only[Option.some.injEq]at h;subst h
   exact⟨by show Value.agg ((D P (env σ e) x).cells++(D P (env σ e) y).cells)=_;rw[h1,g1,a3f,a3f,rz,a3e];simp,fun n hn=>by simp only[lt];exact lts_app.2 ⟨a3D (h2 n hn),a3D (g2 n hn)⟩⟩
  ·cases h
 | .proj x i,v,h=>by
  simp only[c8D,b8n]at h
  split at h
  ·rename_i l hu
   obtain⟨h1,h2⟩:=a1i hm x hu
   refine⟨?_,fun n hn=>b0E h (by have:=h2 n hn;simpa only[lt]using this)⟩
   show c3c i (D P (env σ e) x)=_
   rw[h1,rz]
   show(rzs σ l).toArray.getD i undef=_
   have:=b0D (σ:=σ) h
   simp[this]
  ·cases h
 | .op2 o k x y,v,h=>by
  simp only[d2F,c8y]at h
  split at h
  ·rename_i ka a kb b hu hw
   have h1:=(a1i (σ:=σ) hm x hu).1
   have g1:=(a1i (σ:=σ) hm y hw).1
   have hb:=c8V (σ:=σ) h
   exact⟨by show a1H o k (intOf (D P (env σ e) x)) (intOf (D P (env σ e) y))=_;rw[h1,g1,hb.1];simp[rz,intOf],fun n _=>hb.2 n⟩
  ·cases h
 | .op1 o k x,v,h=>by
  simp only[d2G,c8z]at h
  split at h
  ·rename_i ka a hu
   have h1:=(a1i (σ:=σ) hm x hu).1
   have hb:=a5t (σ:=σ) h
   exact⟨by show unV o k (intOf (D P (env σ e) x))=_;rw[h1,hb.1];simp[rz,intOf],fun n _=>hb.2 n⟩
  ·cases h
 | .nt x,v,h=>by
  simp only[d5B,d5y]at h
  split at h
  ·rename_i b hu
   have h1:=(a1i (σ:=σ) hm x hu).1
   simp only[Option.some.injEq]at h;subst h
   exact⟨by show Value.bool (!a1b (D P (env σ e) x))=_;rw[h1];simp[rz,a1b],fun n _=>by simp[lt]⟩
  ·cases h
 | .cv k x,v,h=>by
  simp only[d5C,d5z]at h
  split at h
  ·rename_i ka a hu
   have h1:=(a1i (σ:=σ) hm x hu).1
   simp only[Option.some.injEq]at h;subst h
   exact⟨by show Value.int k (k.wrap (intOf (D P (env σ e) x)))=_;rw[h1];simp[rz,intOf,a4t],fun n _=>by simp[lt]⟩
  ·cases h
 | .ite c x y,v,h=>by
  simp only[d2H,c8A]at h
  split at h
  ·rename_i hc
   have h1:=(a1i (σ:=σ) hm c hc).1
   obtain⟨h2,h3⟩:=a1i hm x h
   exact⟨by show(if a1b (D P (env σ e) c)then _ else _)=_;rw[h1,if_pos (by simp[rz,a1b]),h2],h3⟩
  ·rename_i hc
   have h1:=(a1i (σ:=σ) hm c hc).1
   obtain⟨h2,h3⟩:=a1i hm y h
   exact⟨by show(if a1b (D P (env σ e) c)then _ else _)=_;rw[h1,if_neg (by simp[rz,a1b]),h2],h3⟩
  ·cases h
 | .eqb n x y,v,h=>by
  simp only[d2I,c8B]at h
  split at h
  ·rename_i a b hu hw
   have h1:=(a1i (σ:=σ) hm x hu).1
   have g1:=(a1i (σ:=σ) hm y hw).1
   simp only[Option.some.injEq]at h;subst h
   exact⟨by show Value.bool (n !=(a1b (D P (env σ e) x)==a1b (D P (env σ e) y)))=_;rw[h1,g1];simp[rz,a1b],fun n _=>by simp[lt]⟩
  ·cases h
theorem a3G {P:Program} {σ:Rl} {e:List AV} {m:Nat} (hm:e.length=m):∀(l:List SV) {vs:List AV},ADs P e m l=some vs->l.map (D P (env σ e))=rzs σ vs/\(∀n,lts n e->lts n vs)/\vs.length=l.length
 |[],vs,h=>by rw[c8E]at h;simp only[Option.some.injEq]at h;subst h;exact⟨rfl,fun n _=>by simp[lts],rfl⟩
 |x::r,vs,h=>by
  rw[c4i]at h
  split at h
  ·rename_i a b ha hb
   obtain⟨h1,h2⟩:=a1i (σ:=σ) hm x ha
   obtain⟨h3,h4,h5⟩:=a3G (σ:=σ) hm r hb
   simp only[Option.some.injEq]at h;subst h
   exact⟨by rw[List.map_cons,h1,h3,rzs],fun n hn=>by simp only[lts];exact⟨h2 n hn,h4 n hn⟩,by rw[List.length_cons,List.length_cons,h5]⟩
  ·cases h
theorem d3a {P:Program} {σ:Rl} {e:List AV} {m:Nat} (hm:e.length=m) {r:Rq} (h:rqA P e m r=true):r.holds P (env σ e):=by
 cases r with
 |int k x=>
  simp only[rqA,d2J]at h
  split at h
  ·rename_i l n hu
   have h1:=(a1i (σ:=σ) hm x hu).1
   have hk:k=l:=by simpa[isK]using h
   exact⟨n,by rw[h1,rz,hk]⟩
  ·cases h
 |num x=>
  simp only[rqA,d2K]at h
  split at h
  ·rename_i k n hu
   exact⟨k,n,by rw[(a1i (σ:=σ) hm x hu).1,rz]⟩
  ·cases h
 |bool x=>
  simp only[rqA,c6A]at h
  split at h
  ·rename_i b hu
   exact⟨b,by rw[(a1i (σ:=σ) hm x hu).1,rz]⟩
  ·cases h
 |cells n x=>
  simp only[rqA,b8o,a0K]at h
  split at h
  ·rename_i v hu
   have h1:=(a1i (σ:=σ) hm x hu).1
   rw[Bool.and_eq_true]at h
   refine⟨?_,?_⟩
   ·rw[h1,a3f];simp[a0w];exact a1E h.1
   ·rw[h1,a3f];exact a9a h.2
  ·cases h
 |agg n x=>
  simp only[rqA,d2L,a0K]at h
  split at h
  ·rename_i l hu
   have h1:=(a1i (σ:=σ) hm x hu).1
   exact⟨_,by rw[h1,rz],by simp[a0w];exact a1E h⟩
  ·cases h
 |tup n x=>
  simp only[rqA,d2M,a0K]at h
  split at h
  ·rename_i l hu
   have h1:=(a1i (σ:=σ) hm x hu).1
   exact⟨_,by rw[h1,rz],by simp[a0w];exact a2R h⟩
  ·cases h
 |nz x=>
  simp only[rqA,d6C]at h
  split at h
  ·rename_i k n hu
   have h1:=(a1i (σ:=σ) hm x hu).1
   show intOf _≠0
   rw[h1]
   simp only[rz,intOf]
   intro e
   subst e
   exact absurd h (by decide)
  ·cases h
 |nn x=>
  simp only[rqA,d6D]at h
  split at h
  ·rename_i k n hu
   have h1:=(a1i (σ:=σ) hm x hu).1
   show 0<=intOf _
   rw[h1]
   simp[rz,intOf]
  ·cases h
 |lt n x=>
  simp only[rqA,d6E]at h
  split at h
  ·rename_i k j hu
   have h1:=(a1i (σ:=σ) hm x hu).1
   have:=a2R h
   show 0<=intOf _/\intOf _<_
   rw[h1]
   simp only[rz,intOf]
   exact⟨Int.natCast_nonneg _,by simp;omega⟩
  ·cases h
 |isb b x=>
  simp only[rqA,d2N]at h
  split at h
  ·rename_i c hu
   have h1:=(a1i (σ:=σ) hm x hu).1
   have:b=c:=by simpa using h
   show D P (env σ e) x=_
   rw[h1,rz,this]
  ·cases h
end Go.RZ
/- Concrete runs: what abstract memory stands for. -/
namespace Go.RZ
open Go.RowKit Go.RX Go.GS
theorem Tr.get_nil (k:Nat):Tr.get .nil k=none:=rfl
theorem Tr.get_node (o:Option AO) (l r:Tr) (k:Nat):Tr.get (.node o l r) k=if k=0 then o else if k%2=1 then l.get (k/2)else r.get ((k-1)/2):=by
 show Bool.rec (motive:=fun _=>Option AO) (Bool.rec (motive:=fun _=>Option AO) (r.get ((k-1)/2)) (l.get (k/2)) (Nat.beq (k%2) 1)) o (Nat.beq k 0)=_
 by_cases h:k=0
 ·subst h;rfl
 ·rw[if_neg h,show Nat.beq k 0=false from Bool.eq_false_iff.2 fun e=>h (a1E e)]
  by_cases h2:k%2=1
  ·rw[if_pos h2,h2];rfl
  ·rw[if_neg h2,show Nat.beq (k%2) 1=false from Bool.eq_false_iff.2 fun e=>h2 (a1E e)]
theorem Tr.put_nil (f k:Nat) (v:Option AO):Tr.put (f+1) .nil k v=if k=0 then .node v .nil .nil else if k%2=1 then .node none (Tr.put f .nil (k/2) v) .nil else .node none .nil (Tr.put f .nil ((k-1)/2) v):=by
 show Bool.rec (motive:=fun _=>Tr) (Bool.rec (motive:=fun _=>Tr) (.node none .nil (Tr.put f .nil ((k-1)/2) v)) (.node none (Tr.put f .nil (k/2) v) .nil) (Nat.beq (k%2) 1)) (.node v .nil .nil) (Nat.beq k 0)=_
 by_cases h:k=0
 ·subst h;rfl
 ·rw[if_neg h,show Nat.beq k 0=false from Bool.eq_false_iff.2 fun e=>h (a1E e)]
  by_cases h2:k%2=1
  ·rw[if_pos h2,h2];rfl
  ·rw[if_neg h2,show Nat.beq (k%2) 1=false from Bool.eq_false_iff.2 fun e=>h2 (a1E e)]
theorem Tr.put_node (f:Nat) (o:Option AO) (l r:Tr) (k:Nat) (v:Option AO):Tr.put (f+1) (.node o l r) k v=if k=0 then .node v l r else if k%2=1 then .node o (Tr.put f l (k/2) v) r else .node o l (Tr.put f r ((k-1)/2) v):=by
 show Bool.rec (motive:=fun _=>Tr) (Bool.rec (motive:=fun _=>Tr) (.node o l (Tr.put f r ((k-1)/2) v)) (.node o (Tr.put f l (k/2) v) r) (Nat.beq (k%2) 1)) (.node v l r) (Nat.beq k 0)=_
 by_cases h:k=0
 ·subst h;rfl
 ·rw[if_neg h,show Nat.beq k 0=false from Bool.eq_false_iff.2 fun e=>h (a1E e)]
  by_cases h2:k%2=1
  ·rw[if_pos h2,h2];rfl
  ·rw[if_neg h2,show Nat.beq (k%2) 1=false from Bool.eq_false_iff.2 fun e=>h2 (a1E e)]
theorem Tr.get_put:∀(f:Nat) (t:Tr) (k:Nat) (v:Option AO) (j:Nat),k+1<2^f->(Tr.put f t k v).get j=if j=k then v else t.get j
 |0,t,k,v,j,h=>by simp at h
 |f+1,t,k,v,j,h=>by
  rw[Nat.pow_succ]at h
  have key:∀(o:Option AO) (l r:Tr),(if k=0 then Tr.node v l r else if k%2=1 then .node o (Tr.put f l (k/2) v) r else .node o l (Tr.put f r ((k-1)/2) v)).get j=if j=k then v else(Tr.node o l r).get j:=fun o l r=>by
   rw[Tr.get_node o l r j]
   by_cases hk:k=0
   ·subst hk
    rw[if_pos rfl,Tr.get_node]
    by_cases hj:j=0
    ·rw[if_pos hj,if_pos hj]
    ·rw[if_neg hj,if_neg hj,if_neg hj]
   ·rw[if_neg hk]
    by_cases ho:k%2=1
    ·rw[if_pos ho,Tr.get_node]
     by_cases hj:j=0
     ·rw[if_pos hj,if_neg (by omega),if_pos hj]
     ·rw[if_neg hj,if_neg hj]
      by_cases hp:j%2=1
      ·rw[if_pos hp,if_pos hp,Tr.get_put f l (k/2) v (j/2) (by omega)]
       by_cases e:j=k
       ·rw[if_pos e,if_pos (by omega)]
       ·rw[if_neg e,if_neg (by omega)]
      ·rw[if_neg hp,if_neg hp,if_neg (by omega)]
    ·rw[if_neg ho,Tr.get_node]
     by_cases hj:j=0
     ·rw[if_pos hj,if_neg (by omega),if_pos hj]
     ·rw[if_neg hj,if_neg hj]
      by_cases hp:j%2=1
      ·rw[if_pos hp,if_pos hp,if_neg (by omega)]
      ·rw[if_neg hp,if_neg hp,Tr.get_put f r ((k-1)/2) v ((j-1)/2) (by omega)]
       by_cases e:j=k
       ·rw[if_pos e,if_pos (by omega)]
       ·rw[if_neg e,if_neg (by omega)]
  cases t with
  |nil=>
   have h0:∀i,(Tr.node none .nil .nil).get i=Tr.get .nil i:=fun i=>by
    rw[Tr.get_node,Tr.get_nil,Tr.get_nil,Tr.get_nil]
    by_cases h1:i=0
    ·rw[if_pos h1]
    ·rw[if_neg h1];by_cases h2:i%2=1
     ·rw[if_pos h2]
     ·rw[if_neg h2]
   rw[Tr.put_nil,<-h0]
   exact key none .nil .nil
  |node o l r=>rw[Tr.put_node];exact key o l r
theorem c6F:∀k:Nat,k+1<=2^k
 |0=>by decide
 |k+1=>by have:=c6F k;rw[Nat.pow_succ];omega
theorem a9c (k:Nat):k+1<2^(Nat.succ k):=by have:=c6F k;rw[Nat.pow_succ];omega
theorem S.get_set (s:S) (k j:Nat) (o:AO):(s.set k o).get j=if j=k then some o else s.get j:=Tr.get_put _ _ _ _ _ (a9c k)
theorem S.get_del (s:S) (k j:Nat):(s.del k).get j=if j=k then none else s.get j:=Tr.get_put _ _ _ _ _ (a9c k)
theorem S.get_add (s:S) (o:AO) (j:Nat):(s.add o).get j=if j=s.n then some o else s.get j:=Tr.get_put _ _ _ _ _ (a9c s.n)
theorem S.n_add (s:S) (o:AO):(s.add o).n=s.n+1:=rfl
def a4b (σ:Rl) (es:List (AV×AV×Nat)):List MapEntry:=es.map fun p=>⟨rz σ p.1,rz σ p.2.1,p.2.2⟩
def RO (P:Program) (σ:Rl) (k:Nat) (H:PH):AO->Prop
 | .cells l T=>H (σ k).1=some (.cells (rzs σ l).toArray T (0,0))
 | .grown l T=>∃cs r,H (σ k).1=some (.cells cs T (0,0))/\cs.size=(σ k).2*P.cellsOf T/\(σ k).2<=maxLen/\cs.toList=rzs σ l++r
 | .map es clock=>H (σ k).1=some (.map (a4b σ es).toArray clock)
 | .iter m since seen last=>H (σ k).1=some (.mapIter (some (σ m).1) since seen.toArray last)
def ltE (n:Nat) (es:List (AV×AV×Nat)):Prop:=∀p∈es,lt n p.1/\lt n p.2.1
def ltO (n:Nat):AO->Prop
 | .cells l _| .grown l _=>lts n l
 | .map es _=>ltE n es
 | .iter m _ _ _=>m<n
theorem c4n {σ σ':Rl} {n:Nat} (h:∀k,k<n->σ' k=σ k) {es:List (AV×AV×Nat)} (hl:ltE n es):a4b σ' es=a4b σ es:=by
 unfold a4b
 refine List.map_congr_left fun p hp=> ?_
 rw[b8s h _ (hl p hp).1,b8s h _ (hl p hp).2]
theorem b3L {n m:Nat} (h:n<=m):∀{o:AO},ltO n o->ltO m o
 | .cells _ _,ho| .grown _ _,ho=>a0E h _ ho
 | .map _ _,ho=>fun p hp=>⟨b2s h _ (ho p hp).1,b2s h _ (ho p hp).2⟩
 | .iter _ _ _ _,ho=>Nat.lt_of_lt_of_le ho h
theorem RO.ext {P:Program} {σ σ':Rl} {n k:Nat} {H H':PH} (h:∀j,j<n->σ' j=σ j) (hk:k<n) (hH:H' (σ k).1=H (σ k).1):∀{o:AO},ltO n o->RO P σ k H o->RO P σ' k H' o
 | .cells l T,hl,ho=>by simp only[RO]at*;rw[h k hk,hH,ho,a1N h l hl]
 | .grown l T,hl,ho=>by
  obtain⟨cs,r,h1,h2,h3,h4⟩:=ho
  exact⟨cs,r,by rw[h k hk,hH,h1],by rw[h k hk];exact h2,by rw[h k hk];exact h3,by rw[a1N h l hl];exact h4⟩
 | .map es c,hl,ho=>by simp only[RO]at*;rw[h k hk,hH,ho,c4n h hl]
 | .iter m a b c,hl,ho=>by simp only[RO]at*;rw[h k hk,hH,ho,h m hl]
theorem RO.some {P:Program} {σ:Rl} {k:Nat} {H:PH}:∀{o:AO},RO P σ k H o->H (σ k).1≠none
 | .cells _ _,ho=>by simp only[RO]at ho;simp[ho]
 | .grown _ _,ho=>by obtain⟨cs,r,h1,_⟩:=ho;simp[h1]
 | .map _ _,ho=>by simp only[RO]at ho;simp[ho]
 | .iter _ _ _ _,ho=>by simp only[RO]at ho;simp[ho]
structure Inv (P:Program) (σ:Rl) (s:S) (wm:Nat) (H0 H:PH):Prop where
 ob:∀{k o},s.get k=some o->k<s.n/\ltO s.n o/\RO P σ k H o
 inj:∀{j k o o'},s.get j=some o->s.get k=some o'->(σ j).1=(σ k).1->j=k
 le:PH.le H0 H
 fr:∀{k o},s.get k=some o->wm<=k->H0 (σ k).1=none
structure Ex (σ:Rl) (s:S) (σ':Rl) (s':S):Prop where
 n:s.n<=s'.n
 ag:∀k,k<s.n->σ' k=σ k
 lv:∀{k o},k<s.n->s'.get k=some o->∃o',s.get k=some o'
theorem Ex.refl (σ:Rl) (s:S):Ex σ s σ s:=⟨Nat.le_refl _,fun _ _=>rfl,fun _ h=>⟨_,h⟩⟩
theorem Ex.trans {σ σ' σ'':Rl} {s s' s'':S} (a:Ex σ s σ' s') (b:Ex σ' s' σ'' s''):Ex σ s σ'' s'':=
 ⟨Nat.le_trans a.n b.n,fun k hk=>by rw[b.ag k (Nat.lt_of_lt_of_le hk a.n),a.ag k hk],fun{k o} hk h=>by
  obtain⟨o',ho'⟩:=b.lv (Nat.lt_of_lt_of_le hk a.n) h
  exact a.lv hk ho'⟩
theorem Inv.set {P:Program} {σ:Rl} {s:S} {wm k:Nat} {H0 H:PH} {o o0:AO} {ob:Obj} (h:Inv P σ s wm H0 H) (hk:s.get k=some o0) (hw:wm<=k) (ho:ltO s.n o) (hr:RO P σ k (H.put (σ k).1 ob) o):
  Inv P σ (s.set k o) wm H0 (H.put (σ k).1 ob):=by
 refine⟨fun{j o'} hj=> ?_,fun{i j o1 o2} hi hj he=> ?_,fun b x hb=> ?_,fun{j o'} hj hwj=> ?_⟩
 ·rw[S.get_set]at hj
  split at hj
  ·rename_i e;subst e;cases hj;exact⟨(h.ob hk).1,ho,hr⟩
  ·rename_i e
   obtain⟨h1,h2,h3⟩:=h.ob hj
   exact⟨h1,h2,RO.ext (fun _ _=>rfl) h1 (PH.put_ne _ _ fun e'=>e (h.inj hj hk e')) h2 h3⟩
 ·have live:∀{x y},(s.set k o).get x=some y->∃z,s.get x=some z:=fun{x y} hx=>by
   rw[S.get_set]at hx;split at hx
   ·rename_i e;subst e;exact⟨_,hk⟩
   ·exact⟨_,hx⟩
  obtain⟨_,h1⟩:=live hi
  obtain⟨_,h2⟩:=live hj
  exact h.inj h1 h2 he
 ·rw[PH.put_ne _ _ (fun e=>by subst e;rw[h.fr hk hw]at hb;cases hb)]
  exact h.le _ _ hb
 ·rw[S.get_set]at hj
  split at hj
  ·rename_i e;subst e;exact h.fr hk hw
  ·exact h.fr hj hwj
theorem Ex.set {σ:Rl} {s:S} {k:Nat} {o o0:AO} (hk:s.get k=some o0):Ex σ s σ (s.set k o):=
 ⟨Nat.le_refl _,fun _ _=>rfl,fun{j o'} _ h=>by
  rw[S.get_set]at h;split at h
  ·rename_i e;subst e;exact⟨_,hk⟩
  ·exact⟨_,h⟩⟩
theorem Inv.del {P:Program} {σ:Rl} {s:S} {wm:Nat} {H0 H:PH} (h:Inv P σ s wm H0 H) (k:Nat):Inv P σ (s.del k) wm H0 H:=by
 have live:∀{x y},(s.del k).get x=some y->x≠k/\s.get x=some y:=fun{x y} hx=>by
  rw[S.get_del]at hx;split at hx
  ·cases hx
  ·rename_i e;exact⟨e,hx⟩
 exact⟨fun hj=>h.ob (live hj).2,fun hi hj he=>h.inj (live hi).2 (live hj).2 he,h.le,fun hj hw=>h.fr (live hj).2 hw⟩
theorem Ex.del {σ:Rl} {s:S} (k:Nat):Ex σ s σ (s.del k):=
 ⟨Nat.le_refl _,fun _ _=>rfl,fun{j o'} _ h=>by
  rw[S.get_del]at h;split at h
  ·cases h
  ·exact⟨_,h⟩⟩
def up (σ:Rl) (n:Nat) (b:Nat×Nat):Rl:=fun k=>if k=n then b else σ k
theorem a1f (σ:Rl) (n:Nat) (b:Nat×Nat):up σ n b n=b:=if_pos rfl
theorem a5w (σ:Rl) (n:Nat) (b:Nat×Nat) {k:Nat} (h:k<n):up σ n b k=σ k:=if_neg (by omega)
theorem Inv.add {P:Program} {σ:Rl} {s:S} {wm:Nat} {H0 H:PH} {o:AO} {ob:Obj} {b:Nat×Nat} (h:Inv P σ s wm H0 H) (hb:∀{j o'},s.get j=some o'->(σ j).1≠b.1) (h0:H0 b.1=none) (ho:ltO (s.n+1) o)
  (hr:RO P (up σ s.n b) s.n (H.put b.1 ob) o):Inv P (up σ s.n b) (s.add o) wm H0 (H.put b.1 ob):=by
 refine⟨fun{j o'} hj=> ?_,fun{i j o1 o2} hi hj he=> ?_,fun c x hc=> ?_,fun{j o'} hj hwj=> ?_⟩
 ·rw[S.get_add]at hj
  split at hj
  ·rename_i e;subst e;cases hj;exact⟨Nat.lt_succ_self _,ho,hr⟩
  ·obtain⟨h1,h2,h3⟩:=h.ob hj
   exact⟨Nat.lt_succ_of_lt h1,b3L (Nat.le_succ _) h2,RO.ext (fun _ hk=>a5w σ s.n b hk) h1 (PH.put_ne _ _ (hb hj)) h2 h3⟩
 ·rw[S.get_add]at hi hj
  split at hi
  ·rename_i e;subst e
   split at hj
   ·rename_i e;exact e.symm
   ·rw[a1f,a5w σ s.n b (h.ob hj).1]at he;exact absurd he.symm (hb hj)
  ·split at hj
   ·rename_i e;subst e;rw[a1f,a5w σ s.n b (h.ob hi).1]at he;exact absurd he (hb hi)
   ·rw[a5w σ s.n b (h.ob hi).1,a5w σ s.n b (h.ob hj).1]at he;exact h.inj hi hj he
 ·rw[PH.put_ne _ _ (fun e=>by subst e;rw[h0]at hc;cases hc)]
  exact h.le _ _ hc
 ·rw[S.get_add]at hj
  split at hj
  ·rename_i e;subst e;rw[a1f];exact h0
  ·rw[a5w σ s.n b (h.ob hj).1];exact h.fr hj hwj
theorem Inv.new {P:Program} {σ:Rl} {s:S} {wm:Nat} {H0 H:PH} {o:AO} {ob:Obj} {b:Nat×Nat} (h:Inv P σ s wm H0 H) (hb:H b.1=none) (ho:ltO (s.n+1) o)
  (hr:RO P (up σ s.n b) s.n (H.put b.1 ob) o):Inv P (up σ s.n b) (s.add o) wm H0 (H.put b.1 ob):=
 h.add (fun{j o'} hj e=>by have:=RO.some (h.ob hj).2.2;rw[e]at this;exact this hb) (by
  cases e:H0 b.1 with
  |none=>rfl
  |some x=>have:=h.le _ _ e;rw[hb]at this;cases this) ho hr
theorem Ex.add {σ:Rl} {s:S} {o:AO} (b:Nat×Nat):Ex σ s (up σ s.n b) (s.add o):=
 ⟨Nat.le_succ _,fun _ hk=>a5w σ s.n b hk,fun{j o'} hj h=>by
  rw[S.get_add]at h;split at h
  ·omega
  ·exact⟨_,h⟩⟩
theorem Inv.back {P:Program} {σ σ':Rl} {s s':S} {wm:Nat} {H0 H H':PH} (h:Inv P σ s wm H0 H) (h':Inv P σ' s' s.n H H') (x:Ex σ s σ' s'):Inv P σ' s' wm H0 H':=by
 refine⟨fun hj=>h'.ob hj,fun hi hj he=>h'.inj hi hj he,h.le.trans h'.le,fun{k o} hk hw=> ?_⟩
 by_cases hn:k<s.n
 ·obtain⟨o',ho'⟩:=x.lv hn hk
  rw[x.ag k hn];exact h.fr ho' hw
 ·have:=h'.fr hk (by omega)
  cases e:H0 (σ' k).1 with
  |none=>rfl
  |some y=>rw[h.le _ _ e]at this;cases this
theorem Inv.keep {P:Program} {σ:Rl} {s:S} {wm:Nat} {H0 H:PH} (h:Inv P σ s wm H0 H):Inv P σ s s.n H H:=
 ⟨fun hj=>h.ob hj,fun hi hj he=>h.inj hi hj he,PH.le.refl _,fun{k o} hk hw=>by have:=(h.ob hk).1;omega⟩
theorem d3b {P:Program} {σ:Rl} {s:S} {wm k:Nat} {H0 H:PH} {l:List AV} (h:Inv P σ s wm H0 H) (hk:pkL s k=some l):∃cs T r,H (σ k).1=some (.cells cs T (0,0))/\cs.toList=rzs σ l++r/\lts s.n l:=by
 unfold pkL at hk
 split at hk
 ·rename_i l' T ho
  simp only[Option.some.injEq]at hk;subst hk
  obtain⟨_,h2,h3⟩:=h.ob ho
  exact⟨_,_,[],h3,by simp,h2⟩
 ·rename_i l' T ho
  simp only[Option.some.injEq]at hk;subst hk
  obtain⟨_,h2,cs,r,h3,_,_,h4⟩:=h.ob ho
  exact⟨_,_,r,h3,h4,h2⟩
 ·cases hk
theorem a0p {α:Type} {b:Bool} {x:Option α} {v:α} (h:gd b x=some v):b=true/\x=some v:=by
 cases b
 ·cases h
 ·exact⟨rfl,h⟩
theorem c8W {cs:Array Value} {q:Nat} {ys a r:List Value} (hc:cs.toList=a++r) (hq:q+ys.length<=a.length):(spl cs q ys).toList=(spl a.toArray q ys).toList++r:=by
 apply List.ext_getElem?
 intro j
 have hsz:cs.size=a.length+r.length:=by rw[<-Array.length_toList,hc,List.length_append]
 have hget:cs[j]? =(a++r)[j]?:=by rw[<-hc,Array.getElem?_toList]
 have hl:(spl a.toArray q ys).toList.length=a.length:=by rw[Array.length_toList,a2G];simp
 rw[Array.getElem?_toList,a4H,List.getElem?_append,hl]
 by_cases hj:j<a.length
 ·have h2:(spl a.toArray q ys).toList[j]? =if q<=j/\j<q+ys.length then ys[j-q]? else a[j]?:=by
   rw[Array.getElem?_toList,a4H,if_pos (by simpa using hj)];simp
  rw[if_pos (by omega),if_pos hj,h2,hget,List.getElem?_append_left hj]
 ·rw[if_neg hj,hget,List.getElem?_append_right (by omega)]
  by_cases hj2:j<cs.size
  ·rw[if_pos hj2,if_neg (by omega)]
  ·rw[if_neg hj2,List.getElem?_eq_none (by omega)]
theorem c8X {P:Program} {σ:Rl} {s s':S} {wm k q:Nat} {H0 H:PH} {ys:List AV} (h:Inv P σ s wm H0 H) (hk:wrS s wm k q ys=some s') (hy:lts s.n ys):
  ∃cs T,H (σ k).1=some (.cells cs T (0,0))/\q+ys.length<=cs.size/\Inv P σ s' wm H0 (H.put (σ k).1 (.cells (spl cs q (rzs σ ys)) T (0,0)))/\s'.n=s.n/\Ex σ s σ s':=by
 unfold wrS at hk
 obtain⟨hw,hk⟩:=a0p hk
 have hw:=a3g hw
 split at hk
 ·rename_i l T ho
  obtain⟨hq,hk⟩:=a0p hk
  have hq:q+ys.length<=l.length:=by have:=a3g hq;rw[a0K,a0K]at this;exact this
  rw[b8r]at hk
  simp only[Option.some.injEq]at hk;subst hk
  obtain⟨_,h2,h3⟩:=h.ob ho
  refine⟨_,T,h3,by simpa[a0w]using hq,h.set ho hw (a4U ys l q h2 hy) ?_,rfl,Ex.set ho⟩
  simp only[RO]
  rw[PH.put_self,a4T]
 ·rename_i l T ho
  obtain⟨hq,hk⟩:=a0p hk
  have hq:q+ys.length<=l.length:=by have:=a3g hq;rw[a0K,a0K]at this;exact this
  rw[b8r]at hk
  simp only[Option.some.injEq]at hk;subst hk
  obtain⟨_,h2,cs,r,h3,h4,h5,h6⟩:=h.ob ho
  have hsz:cs.size=l.length+r.length:=by rw[<-Array.length_toList,h6,List.length_append,a0w]
  refine⟨cs,T,h3,by omega,h.set ho hw (a4U ys l q h2 hy) ⟨_,r,PH.put_self _ _ _,by rw[a2G];exact h4,h5,?_⟩,rfl,Ex.set ho⟩
  rw[c8W h6 (by rw[a0w,a0w];exact hq),a4T]
 ·cases hk
end Go.RZ
/- Concrete runs: operations that read. -/
namespace Go.RZ
open Go.RowKit Go.RX Go.GS Go.WideMaps
theorem a9d {σ:Rl} {t:Nat}:∀{os:List Operand} {vs:List AV} {v:AV},b2r t os vs=some v->a5v t os (rzs σ vs)=rz σ v/\∀n,lts n vs->lt n v
 | .tmp u::os,x::vs,v,h=>by
  simp only[b2r]at h
  cases hb:Nat.beq u t with
  |true=>
   rw[hb]at h;simp only[cond_true,Option.some.injEq]at h;subst h
   exact⟨by simp only[rzs,a5v,if_pos (a1E hb)],fun n hn=>by simp only[lts]at hn;exact hn.1⟩
  |false=>
   rw[hb]at h
   have h:=a9d (σ:=σ) (show b2r t os vs=some v from h)
   refine⟨?_,fun n hn=>by simp only[lts]at hn;exact h.2 n hn.2⟩
   simp only[rzs,a5v]
   rw[if_neg (fun e=>by subst e;simp at hb)]
   exact h.1
 | .const _::os,_::vs,v,h| .global _::os,_::vs,v,h| .func _::os,_::vs,v,h=>by
  have h:=a9d (σ:=σ) (show b2r t os vs=some v from h)
  exact⟨by simp only[rzs,a5v];exact h.1,fun n hn=>by simp only[lts]at hn;exact h.2 n hn.2⟩
 |[],_,_,h=>by simp[b2r]at h
 | .tmp _::_,[],_,h| .const _::_,[],_,h| .global _::_,[],_,h| .func _::_,[],_,h=>by simp[b2r]at h
theorem a0V {σ:Rl} {os:List Operand} {vs:List AV}:∀{x:Operand} {v:AV},aE os vs x=some v->a0g os (rzs σ vs) x=rz σ v/\∀n,lts n vs->lt n v
 | .tmp t,v,h=>a9d h
 | .const c,v,h=>by
  have h:=a5s (σ:=σ) (show ofV c=some v from h)
  exact⟨h.1.symm,fun n _=>h.2 n⟩
 | .func f,v,h=>by
  simp only[aE,Option.some.injEq]at h;subst h
  exact⟨by simp[a0g,rz,rzs],fun n _=>by simp[lt,lts]⟩
 | .global g,v,h=>by simp[aE]at h
theorem b3M {σ:Rl} {os:List Operand} {vs:List AV}:∀{xs:List Operand} {l:List AV},aEs os vs xs=some l->xs.map (a0g os (rzs σ vs))=rzs σ l/\∀n,lts n vs->lts n l
 |[],l,h=>by simp only[aEs,Option.some.injEq]at h;subst h;exact⟨rfl,fun n _=>by simp[lts]⟩
 |x::r,l,h=>by
  simp only[aEs]at h
  split at h
  ·rename_i a b ha hb
   simp only[Option.some.injEq]at h;subst h
   have h1:=a0V (σ:=σ) ha
   have h2:=b3M (σ:=σ) hb
   exact⟨by rw[List.map_cons,h1.1,h2.1,rzs],fun n hn=>by simp only[lts];exact⟨h1.2 n hn,h2.2 n hn⟩⟩
  ·cases h
structure a7R (P:Program) (t:TypeId):Prop where
 at6:P.keyTypeAt 6 t=true
 tiled:P.tiled 6 t=true
 wide:(match P.underlying t with|some (.array _ _)|some (.struct _)=>true|_=>false)=true
 noguard:P.eqGuardType P.depth t=false
 key:P.keyType t=true
 big:6<=P.types.size+1
theorem a6I {α β:Type} {f:α->Option β}:∀{l:List α},(∀x∈l,∃y,f x=some y)->∃ys,l.mapM f=some ys
 |[],_=>⟨[],rfl⟩
 |x::r,h=>by
  obtain⟨y,hy⟩:=h x (by simp)
  obtain⟨ys,hys⟩:=a6I (l:=r) (f:=f) fun z hz=>h z (by simp[hz])
  exact⟨y::ys,by simp[List.mapM_cons,hy,hys]⟩
theorem d3c {q:IntKind} {n:Int} (h:okI q n=true):(Lit.int q n).wf=true:=by
 unfold okI at h
 split at h
 ·have:=a2R h;simp[Lit.wf,IntKind.min,IntKind.max,IntKind.signed,IntKind.bits];omega
 ·have:=a2R h;simp[Lit.wf,IntKind.min,IntKind.max,IntKind.signed,IntKind.bits];omega
 ·have:=a2R h;simp[Lit.wf,IntKind.min,IntKind.max,IntKind.signed,IntKind.bits];omega
 ·cases h
theorem a6J {P:Program} {σ:Rl}:∀(d:Nat) (t:TypeId) (l:List AV),P.keyTypeAt d t=true->c8I P d t l=true->∀D,d<=D->∃L,P.keyLits D t (rzs σ l)=some L
 |0,_,_,h,_,_,_=>by simp[Program.keyTypeAt]at h
 |d+1,t,l,hk,hf,D,hD=>by
  obtain⟨D,rfl⟩:∃E,D=E+1:=⟨D-1,by omega⟩
  unfold Program.keyTypeAt at hk
  unfold c8I at hf
  simp only[a0K]at hf
  unfold Program.keyLits
  cases hu:P.underlying t with
  |none=>simp[hu]at hf
  |some kd=>
   rw[hu]at hk hf
   cases kd<;>simp only[Bool.false_eq_true]at hk hf
   case some.bool=>
    split at hf
    ·exact⟨_,rfl⟩
    ·cases hf
   case some.int q=>
    split at hf
    ·rename_i k n
     simp only[Bool.and_eq_true,Bool.or_eq_true]at hf
     have hk:k=q:=by simpa[isK]using hf.1
     subst hk
     have hw:(Lit.int k n).wf=true:=hf.2.elim d3c id
     exact⟨_,by simp only[rzs,rz];exact if_pos ⟨trivial,hw⟩⟩
    ·cases hf
   case some.array n e=>
    rw[Bool.and_eq_true]at hf
    obtain⟨h1,h2⟩:=hf
    have h1:=a1E h1
    rw[List.all_eq_true]at h2
    have:∃ys,(List.range n).mapM (fun i=>P.keyLits D e (((rzs σ l).drop (i*P.cellsOf e)).take (P.cellsOf e)))=some ys:=by
     refine a6I fun i hi=> ?_
     obtain⟨L,hL⟩:=a6J d e _ hk (h2 i hi) D (by omega)
     exact⟨L,by rw[<-hL,a2o,a3z];rfl⟩
    obtain⟨ys,hys⟩:=this
    exact⟨_,by simp only[a0w,h1,if_true];rw[hys];rfl⟩
   case some.struct fs=>
    rw[Bool.and_eq_true]at hf
    obtain⟨h1,h2⟩:=hf
    have h1:=a1E h1
    rw[List.all_eq_true]at h2
    simp only[Bool.and_eq_true]at hk
    have hn:=Array.all_eq_true_iff_forall_mem.1 hk.1.1
    have:∃ys,fs.toList.mapM (fun f=>P.keyLits D f.type (((rzs σ l).drop f.offset).take (P.cellsOf f.type)))=some ys:=by
     refine a6I fun f hi=> ?_
     have hf:=hn f (Array.mem_toList_iff.1 hi)
     rw[Bool.and_eq_true]at hf
     obtain⟨L,hL⟩:=a6J d f.type _ hf.2 (h2 f hi) D (by omega)
     exact⟨L,by rw[<-hL,a2o,a3z]⟩
    obtain⟨ys,hys⟩:=this
    have hall:fs.all (·.name != "_")=true:=Array.all_eq_true_iff_forall_mem.2 fun f hf=>by
     have:=hn f hf;rw[Bool.and_eq_true]at this;exact this.1
    exact⟨_,by simp only[a0w,h1];rw[if_pos ⟨trivial,hall⟩,hys];rfl⟩
theorem c4o {P:Program} {t:TypeId} {l:List AV} {d:Nat} (h:c8I P (d+1) t l=true) (hw:(match P.underlying t with|some (.array _ _)|some (.struct _)=>true|_=>false)=true):l.length=P.cellsOf t:=by
 unfold c8I at h
 simp only[a0K]at h
 split at h
 ·rename_i hu;rw[hu]at hw;cases hw
 ·rename_i hu;rw[hu]at hw;cases hw
 ·rw[Bool.and_eq_true]at h;exact a1E h.1
 ·rw[Bool.and_eq_true]at h;exact a1E h.1
 ·cases h
def ib:AV->Prop
 | .int _ _=>True
 | .bool _=>True
 |_=>False
theorem d5R {σ:Rl}:∀{v:AV} {c:Lit},rz σ v=c.toCell->ib v:=by
 intro v c h
 cases v<;>simp only[ib]<;>cases c<;>simp[rz,Lit.toCell]at h
theorem b8x {σ:Rl}:∀{l:List AV} {L:List Lit},rzs σ l=L.map Lit.toCell->∀v∈l,ib v
 |[],_,_,v,hv=>by cases hv
 |x::r,[],h,_,_=>by simp[rzs]at h
 |x::r,c::L,h,v,hv=>by
  simp only[rzs,List.map_cons,List.cons.injEq]at h
  rcases List.mem_cons.1 hv with rfl|hv
  ·exact d5R h.1
  ·exact b8x h.2 v hv
theorem a6K {σ:Rl}:∀{a b:List AV},(∀v∈a,ib v)->(a0U a b=true↔rzs σ a=rzs σ b)
 |[],[],_=>by simp[a0U]
 |[],y::q,_=>by simp[a0U,rzs]
 |x::r,[],h=>by
  have:=h x (by simp)
  cases x<;>simp[ib,a0U,rzs]at*
 |x::r,y::q,h=>by
  have h1:=h x (by simp)
  have ih:=a6K (σ:=σ) (a:=r) (b:=q) fun v hv=>h v (by simp[hv])
  cases x<;>simp only[ib]at h1
  ·rename_i k n
   cases y<;>simp only[a0U,rzs,rz,List.cons.injEq,Bool.and_eq_true,b0F,beq_iff_eq,isK,Value.int.injEq,ih]<;>simp
  ·rename_i k
   cases y<;>simp only[a0U,rzs,rz,List.cons.injEq,Bool.and_eq_true,beq_iff_eq,Value.bool.injEq,ih]<;>simp
section
variable {P:Program} {kty:TypeId->Bool}
theorem a3U {σ:Rl} {kt:TypeId} {l:List AV} (hK:∀t,kty t=true->a7R P t) (h:a5r P kty kt (.agg l)=true):a7R P kt/\(rz σ (.agg l)).formed P kt=true/\∀D,6<=D->∃L,P.keyLits D kt (rz σ (.agg l)).cells.toList=some L:=by
 simp only[a5r]at h
 rw[Bool.and_eq_true]at h
 have K:=hK _ h.1
 refine⟨K,?_,fun D hD=> ?_⟩
 ·have hl:=c4o h.2 K.wide
  have hw:=K.wide
  simp only[rz,Value.formed]
  split<;>simp_all[a0w]
 ·obtain⟨L,hL⟩:=a6J (σ:=σ) 6 kt l K.at6 h.2 D hD
  exact⟨L,by simp only[rz,Value.cells];simpa using hL⟩
theorem a1F {kt:TypeId} {v:AV} (hK:∀t,kty t=true->a7R P t) (h:a5r P kty kt v=true):(∃l,v= .agg l)\/∃q n,v= .int q n/\P.underlying kt=some (.int q):=by
 unfold a5r at h
 split at h
 ·exact .inl ⟨_,rfl⟩
 ·split at h
  ·rename_i k n _ q hu
   obtain rfl:k=q:=by simpa[isK]using h
   exact .inr ⟨_,_,rfl,hu⟩
  ·cases h
 ·cases h
theorem b3N {σ:Rl} {kt:TypeId} {a b:List AV} (hK:∀t,kty t=true->a7R P t) (ha:a5r P kty kt (.agg a)=true) (hb:a5r P kty kt (.agg b)=true) (w:World):
  (Op.equal kt (rz σ (.agg a)) (rz σ (.agg b))).run P w= .ok (a0U a b) w:=by
 obtain⟨K,fa,la⟩:=a3U (σ:=σ) hK ha
 obtain⟨_,fb,lb⟩:=a3U (σ:=σ) hK hb
 obtain⟨L,hL⟩:=la 6 (Nat.le_refl _)
 obtain⟨M,hM⟩:=lb 6 (Nat.le_refl _)
 obtain⟨r,hr,hiff⟩:=run_equalIn_deep (10000-6) 6 kt K.at6 w _ _ _ _ L M fa fb hL hM
 have c1:=cells_of_lits 6 kt K.tiled _ _ _ hL
 have c2:=cells_of_lits 6 kt K.tiled _ _ _ hM
 have c1':rzs σ a=L.map Lit.toCell:=by simpa[rz,Value.cells]using c1
 have c2':rzs σ b=M.map Lit.toCell:=by simpa[rz,Value.cells]using c2
 have e:r=a0U a b:=by
  rw[Bool.eq_iff_iff,hiff,a6K (b8x c1')]
  constructor
  ·intro h;rw[c1',c2',h]
  ·intro h
   have h2:=hL
   simp only[rz,Value.cells,h]at h2
   simp only[rz,Value.cells]at hM
   rw[hM]at h2
   exact(Option.some.inj h2).symm
 rw[<-e]
 exact hr
variable {σ:Rl} {s:S} {wm:Nat} {H0 H:PH} {o:Oper} {vs:List AV} {x y:Operand} {v:AV}
theorem d3d {os:List Operand} {k q:Nat} (h:aE os vs x=some (.ptr k q)):a0g os (rzs σ vs) x= .pointer (some ⟨(σ k).1,q,none⟩):=by rw[(a0V (σ:=σ) h).1,rz]
theorem c2R {os:List Operand} {k:IntKind} {n:Int} (h:aE os vs x=some (.int k n)):a0g os (rzs σ vs) x= .int k n:=by rw[(a0V (σ:=σ) h).1,rz]
theorem c8Y {T:TypeId} (ho:o.op= .load T x) (h:evP P kty s vs (.load T x)=some v) (hi:Inv P σ s wm H0 H):Rds P o (rzs σ vs) H (rz σ v)/\lt s.n v:=by
 simp only[evP,d6F,a0K]at h
 split at h
 ·rename_i k q hx
  split at h
  ·rename_i l hl
   obtain⟨hT,h⟩:=a0p h
   obtain⟨cs,T',r,hH,hcs,hlt⟩:=d3b hi hl
   have hsz:cs.size=l.length+r.length:=by rw[<-Array.length_toList,hcs,List.length_append,a0w]
   have hos:o.op.operands.toList=[x]:=by simp[ho,Op.operands]
   have run:∀u,(q+P.cellsOf T<=cs.size)->(a0I P T=false->q<cs.size)->(if a0I P T then Value.agg (cs.extract q (q+P.cellsOf T))else cs.getD q undef)=u->Rds P o (rzs σ vs) H u:=fun u h1 h2 h3 w hw=>by
    rw[hos]
    simp only[execOp,ho,d3d (σ:=σ) hx,Sem.run_bind]
    rw[a6e hT (hw _ _ hH) h1 h2,h3]
    rfl
   split at h
   ·rename_i hag
    obtain⟨hq,h⟩:=a0p h
    have hq:q+P.cellsOf T<=l.length:=a3g hq
    simp only[Option.some.injEq]at h;subst h
    refine⟨run _ (by omega) (fun e=>by rw[hag]at e;cases e) ?_,by simp only[lt];exact a4s (a5H hlt)⟩
    rw[hag,rz,a2o,a3z]
    simp only[if_true]
    congr 1
    rw[<-Array.toList_inj,Array.toList_extract,List.extract_eq_take_drop,Nat.add_sub_cancel_left,hcs]
    rw[List.drop_append_of_le_length (by rw[a0w];omega),List.take_append_of_le_length (by rw[List.length_drop,a0w];omega)]
   ·rename_i hag
    obtain⟨hc,h⟩:=a0p h
    have hc:=a1E hc
    have hn:=b0D (σ:=σ) h
    rw[a6G]at h
    obtain⟨hq,_⟩:=List.getElem?_eq_some_iff.1 h
    refine⟨run _ (by omega) (fun _=>by omega) ?_,b0E (by rw[a6G];exact h) hlt⟩
    rw[hag]
    simp only[Bool.false_eq_true,if_false]
    rw[Array.getD_eq_getD_getElem?,<-Array.getElem?_toList,hcs,List.getElem?_append_left (by rw[a0w];exact hq),hn]
    rfl
  ·cases h
 ·cases h
theorem c4p {t:TypeId} (h:c8G P t=true):∃e,P.underlying t=some (.slice e):=by
 unfold c8G at h;split at h
 ·rename_i hu;exact⟨_,hu⟩
 ·cases h
theorem c4q {T:TypeId} (ho:o.op= .indexAddr T x y) (h:evP P kty s vs (.indexAddr T x y)=some v) (hl:lts s.n vs):Rds P o (rzs σ vs) H (rz σ v)/\lt s.n v:=by
 have hos:o.op.operands.toList=[x,y]:=by simp[ho,Op.operands]
 simp only[evP,d2P]at h
 split at h
 ·rename_i b k j hx hy
  have hlb:=(a0V (σ:=σ) hx).2 s.n hl
  split at h
  ·rename_i e hu
   obtain⟨he,h⟩:=a0p h
   have go:∀{k2 q n c},a0g [x,y] (rzs σ vs) x= .slice (some ⟨(σ k2).1,q,none⟩) n c->Nat.blt j n=true->Rds P o (rzs σ vs) H (rz σ (.ptr k2 (Nat.add q (Nat.mul j (P.cellsOf e))))):=fun{k2 q n c} hx hj=>
    (a3u ho hx (c2R (σ:=σ) hy) hu he (Int.natCast_nonneg _) (by have:=a2R hj;show((j:Nat):Int)<_;omega)).rds H
   split at h
   ·rename_i k2 q n c
    obtain⟨hj,h⟩:=a0p h
    simp only[Option.some.injEq]at h;subst h
    exact⟨go (by rw[(a0V (σ:=σ) hx).1,rz]) hj,by simpa only[lt]using hlb⟩
   ·rename_i k2 q n c
    obtain⟨hj,h⟩:=a0p h
    simp only[Option.some.injEq]at h;subst h
    exact⟨go (by rw[(a0V (σ:=σ) hx).1,rz]) hj,by simpa only[lt]using hlb⟩
   ·cases h
  ·rename_i n e hu
   obtain⟨he,h⟩:=a0p h
   split at h
   ·rename_i k2 q _
    obtain⟨hj,h⟩:=a0p h
    simp only[Option.some.injEq]at h;subst h
    refine⟨fun w _=> ?_,by simpa only[lt]using hlb⟩
    rw[hos]
    simp only[execOp,ho,d3d (σ:=σ) hx,c2R (σ:=σ) hy,Sem.run_bind]
    rw[a2H hu he _ _ k (Int.ofNat j) (Int.natCast_nonneg j) (by have:=a2R hj;show((j:Nat):Int)<_;omega)]
    rfl
   ·cases h
  ·cases h
 ·cases h
theorem c4r {T i:Nat} (ho:o.op= .fieldAddr T x i) (h:evP P kty s vs (.fieldAddr T x i)=some v) (hl:lts s.n vs):Rds P o (rzs σ vs) H (rz σ v)/\lt s.n v:=by
 have hos:o.op.operands.toList=[x]:=by simp[ho,Op.operands]
 simp only[evP,d2Q]at h
 split at h
 ·rename_i k q hx
  have hlb:=(a0V (σ:=σ) hx).2 s.n hl
  split at h
  ·rename_i fs hu
   split at h
   ·rename_i fd hf
    obtain⟨hg,h⟩:=a0p h
    rw[Bool.and_eq_true]at hg
    have hc:=a2R hg.2
    simp only[Option.some.injEq]at h;subst h
    refine⟨fun w _=> ?_,by simpa only[lt]using hlb⟩
    rw[a6G,Array.getElem?_toList]at hf
    rw[hos]
    simp only[execOp,ho,d3d (σ:=σ) hx,Sem.run_bind]
    rw[a3N hu hf hg.1 (by omega) _ q]
    rfl
   ·cases h
  ·cases h
 ·cases h
theorem d3e (ho:o.op= .nilCheck x) (h:evP P kty s vs (.nilCheck x)=some v) (hl:lts s.n vs):Rds P o (rzs σ vs) H (rz σ v)/\lt s.n v:=by
 have hos:o.op.operands.toList=[x]:=by simp[ho,Op.operands]
 simp only[evP,d6G]at h
 split at h
 ·rename_i k q hx
  simp only[Option.some.injEq]at h;subst h
  exact⟨fun w _=>by rw[hos];simp only[execOp,ho,d3d (σ:=σ) hx,rz];rfl,(a0V (σ:=σ) hx).2 s.n hl⟩
 ·cases h
theorem d6V {α:Type} {a:Array α} {x:α} (h:a.toList=[x]):a= #[x]:=Array.toList_inj.1 h
theorem c6G {α:Type} {a:Array α} {x y:α} (h:a.toList=[x,y]):a= #[x,y]:=Array.toList_inj.1 h
theorem a4u {c:Call} {n:Builtin} {as:Array Operand} {ts:Array TypeId} (h1:c.callee= .builtin n) (h2:c.args=as) (h3:c.argTypes=ts):c=⟨.builtin n,as,ts⟩:=by
 cases c;simp_all
theorem c4s {t u:TypeId} {a b:Int} {vs:List Value} (ho:o.op= .call ⟨.builtin .max,#[x,y],#[t,u]⟩) (hx:a0g [x,y] vs x= .int .i64 a) (hy:a0g [x,y] vs y= .int .i64 b):Yld P o vs (.int .i64 (if b>a then b else a)):=fun w=>by
 have hos:o.op.operands.toList=[x,y]:=by simp[ho,Op.operands,Call.operands]
 rw[hos]
 simp only[execOp,ho,resolve,invoke,Sem.run_bind,Sem.run_pure,Result.andThen_ok,List.map_toArray,List.map_cons,List.map_nil,hx,hy]
 simp only[builtin,Sem.run_bind,run_max_int2,Result.andThen_ok]
 rfl
theorem c4t {t:TypeId} (h:c8F P t=true):∃a e,P.underlying t=some (.map a e):=by
 unfold c8F at h;split at h
 ·rename_i hu;exact⟨_,_,hu⟩
 ·cases h
theorem b3O {t a e r clock:TypeId} {es:Array MapEntry} {vs:List Value} (ho:o.op= .call ⟨.builtin .len,#[x],#[t]⟩) (hx:a0g [x] vs x= .map (some r)) (hu:P.underlying t=some (.map a e)) (hH:H r=some (.map es clock)):Rds P o vs H (.int .i64 es.size):=fun w hw=>by
 have hos:o.op.operands.toList=[x]:=by simp[ho,Op.operands,Call.operands]
 have hg:=a1K (P:=P) (hw _ _ hH)
 rw[hos]
 simp only[execOp,ho,resolve,invoke,Sem.run_bind,Sem.run_pure,Result.andThen_ok,List.map_toArray,List.map_cons,List.map_nil,hx,builtin]
 have hr:(Builtin.len_ #[t] o.type #[.map (some r)]).run P w= .ok (goInt es.size) w:=by
  simp[Builtin.len_,run_underlying hu,hg]
 rw[hr]
 rfl
theorem c8Z {c:Call} (ho:o.op= .call c) (h:evP P kty s vs (.call c)=some v) (hI:Inv P σ s wm H0 H):Rds P o (rzs σ vs) H (rz σ v)/\lt s.n v:=by
 simp only[evP,d2O,a0K]at h
 split at h
 ·rename_i x hc ha
  split at h
  ·rename_i t ht
   have ho':o.op= .call ⟨.builtin .len,#[x],#[t]⟩:=by rw[ho,a4u hc (d6V ha) (d6V ht)]
   split at h
   ·rename_i hg
    obtain⟨e,hu⟩:=c4p hg
    split at h
    ·rename_i hx
     simp only[Option.some.injEq]at h;subst h
     exact⟨(a8K ho' (by rw[(a0V (σ:=σ) hx).1,rz]) hu).rds H,by simp[lt]⟩
    ·rename_i hx
     simp only[Option.some.injEq]at h;subst h
     exact⟨(a8K ho' (by rw[(a0V (σ:=σ) hx).1,rz]) hu).rds H,by simp[lt]⟩
    ·rename_i hx
     simp only[Option.some.injEq]at h;subst h
     exact⟨(a8K ho' (by rw[(a0V (σ:=σ) hx).1,rz]) hu).rds H,by simp[lt]⟩
    ·cases h
   ·obtain⟨hg,h⟩:=a0p h
    obtain⟨a,e,hu⟩:=c4t hg
    split at h
    ·rename_i k hx
     split at h
     ·rename_i es clock hk
      simp only[Option.some.injEq]at h;subst h
      obtain⟨_,_,hR⟩:=hI.ob hk
      have:=b3O (P:=P) (H:=H) ho' (by rw[(a0V (σ:=σ) hx).1,rz]) hu hR
      exact⟨by simpa[rz,a4b]using this,by simp[lt]⟩
     ·cases h
    ·cases h
  ·cases h
 ·rename_i x y hc ha
  split at h
  ·rename_i t u a b ht hx hy
   have ho':o.op= .call ⟨.builtin .min,#[x,y],#[t,u]⟩:=by rw[ho,a4u hc (c6G ha) (c6G ht)]
   simp only[Option.some.injEq]at h;subst h
   refine⟨?_,by simp[lt]⟩
   have:=(c3y (P:=P) ho' (c2R (σ:=σ) hx) (c2R (σ:=σ) hy)).rds H
   rw[rz,a7Q]
   simpa[cond_eq_ite]using this
  ·cases h
 ·rename_i x y hc ha
  split at h
  ·rename_i t u a b ht hx hy
   have ho':o.op= .call ⟨.builtin .max,#[x,y],#[t,u]⟩:=by rw[ho,a4u hc (c6G ha) (c6G ht)]
   simp only[Option.some.injEq]at h;subst h
   refine⟨?_,by simp[lt]⟩
   have:=(c4s (P:=P) ho' (c2R (σ:=σ) hx) (c2R (σ:=σ) hy)).rds H
   rw[rz,a7Q]
   simpa[cond_eq_ite]using this
  ·cases h
 ·cases h
theorem c4u {vs:List Value} {t t' e:TypeId} {p:Option Addr} {n c:Nat} (ho:o.op= .binOp .eql t x y t') (hx:a0g [x,y] vs x= .slice p n c) (hy:a0g [x,y] vs y= .slice none 0 0) (hu:P.underlying t=some (.slice e)):Yld P o vs (.bool p.isNone):=fun w=>by
 have hos:o.op.operands.toList=[x,y]:=by simp[ho,Op.operands]
 rw[hos]
 have h:∀d:Nat,(Op.equalIn (d+1) t (.slice p n c) (.slice none 0 0)).run P w= .ok p.isNone w:=fun d=>by
  cases p<;>simp[Op.equalIn,run_underlying hu]
 have hb:(binOp .eql t (.slice p n c) (.slice none 0 0)).run P w= .ok (.bool p.isNone) w:=by
  simp only[binOp]
  simp[Op.equal,Op.maxDepth,h 9999]
 simp only[execOp,ho,hx,hy,Sem.run_bind,eqGuard]
 simp[hb]
set_option maxHeartbeats 4000000 in
theorem d3f {op:BinOp} {T u:TypeId} (hK:∀t,kty t=true->a7R P t) (ho:o.op= .binOp op T x y u) (h:evP P kty s vs (.binOp op T x y u)=some v):Rds P o (rzs σ vs) H (rz σ v)/\lt s.n v:=by
 have hos:o.op.operands.toList=[x,y]:=by simp[ho,Op.operands]
 have hg:∀{a b:List AV} {op:BinOp} (w:World),a5r P kty T (.agg a)=true->(eqGuard op T x y (rz σ (.agg a)) (rz σ (.agg b))).run P w= .ok () w:=fun{a b op} w ha=>by
  obtain⟨K,_⟩:=a3U (σ:=σ) hK ha
  cases op<;>simp[eqGuard,rz,K.noguard]
 cases op
 case eql=>
  simp only[evP,d6I]at h
  split at h
  ·rename_i a e hx hy hu
   have run:∀(p:Option Addr) (n c:Nat),a0g [x,y] (rzs σ vs) x= .slice p n c->Rds P o (rzs σ vs) H (.bool p.isNone):=fun p n c hx=>
    (c4u ho hx (by rw[(a0V (σ:=σ) hy).1,rz]) hu).rds H
   split at h
   ·simp only[Option.some.injEq]at h;subst h
    exact⟨by simpa[rz]using run none 0 0 (by rw[(a0V (σ:=σ) hx).1,rz]),by simp[lt]⟩
   ·simp only[Option.some.injEq]at h;subst h
    exact⟨by simpa[rz]using run (some _) _ _ (by rw[(a0V (σ:=σ) hx).1,rz]),by simp[lt]⟩
   ·simp only[Option.some.injEq]at h;subst h
    exact⟨by simpa[rz]using run (some _) _ _ (by rw[(a0V (σ:=σ) hx).1,rz]),by simp[lt]⟩
   ·cases h
  ·rename_i a b hx hy hu
   obtain⟨hk,h⟩:=a0p h
   rw[Bool.and_eq_true]at hk
   simp only[Option.some.injEq]at h;subst h
   refine⟨fun w _=> ?_,by simp[lt]⟩
   rw[hos]
   simp only[execOp,ho,(a0V (σ:=σ) hx).1,(a0V (σ:=σ) hy).1,Sem.run_bind,hg w hk.1,Result.andThen_ok]
   have:=b3N (σ:=σ) hK hk.1 hk.2 w
   simp only[rz]at this⊢
   simp only[binOp,Sem.run_bind,this]
   rfl
  ·cases h
 case neq=>
  simp only[evP,d6J]at h
  split at h
  ·rename_i a b hx hy
   obtain⟨hk,h⟩:=a0p h
   rw[Bool.and_eq_true]at hk
   simp only[Option.some.injEq]at h;subst h
   refine⟨fun w _=> ?_,by simp[lt]⟩
   rw[hos]
   simp only[execOp,ho,(a0V (σ:=σ) hx).1,(a0V (σ:=σ) hy).1,Sem.run_bind,hg w hk.1,Result.andThen_ok]
   have:=b3N (σ:=σ) hK hk.1 hk.2 w
   simp only[rz]at this⊢
   simp only[binOp,Sem.run_bind,this]
   rfl
  ·cases h
 all_goals exact absurd h (by simp[evP])
end
end Go.RZ

/- Concrete runs: slices of slices, maps; all operations that read; operations that make a block. -/
import Derived.Test.YtkcjbfoejpfbbaaGreatDoorRzD
namespace Go.RZ
open Go.RowKit Go.RX Go.GS Go.WideMaps
section
variable {P:Program} {kty:TypeId->Bool} {σ:Rl} {s:S} {wm:Nat} {H0 H:PH} {o:Oper} {vs:List AV} {x y:Operand} {v:AV}
theorem a7S {isS:Bool} {n c l h:Nat} {lo hi:Option Value} (hl:(lo=none/\l=0)\/∃k,lo=some (.int k (l:Nat))) (hh:(hi=none/\h=n)\/∃k,hi=some (.int k (h:Nat))) (h1:l<=h) (h2:h<=c) (w:World):(Instr.sliceBounds isS n c lo hi none).run P w= .ok (l,h,c) w:=by
 rcases hl with⟨rfl,rfl⟩|⟨kl,rfl⟩<;>rcases hh with⟨rfl,rfl⟩|⟨kh,rfl⟩
 ·simp only[Instr.sliceBounds,Sem.run_bind,Sem.run_pure,Result.andThen_ok]
 ·simp only[Instr.sliceBounds,Sem.run_bind,Sem.run_pure,Result.andThen_ok,run_sliceBound w kh (h:Int) c _ (by omega) (by omega)];simp
 ·simp only[Instr.sliceBounds,Sem.run_bind,Sem.run_pure,Result.andThen_ok,run_sliceBound w kl (l:Int) h _ (by omega) (by omega)];simp
 ·simp only[Instr.sliceBounds,Sem.run_bind,Sem.run_pure,Result.andThen_ok,run_sliceBound w kh (h:Int) c _ (by omega) (by omega),Int.toNat_natCast,run_sliceBound w kl (l:Int) h _ (by omega) (by omega)]
theorem b3P {os:List Operand} {lo:Option Operand} {l:Nat} (h:loA os vs lo=some l):(lo.map (a0g os (rzs σ vs))=none/\l=0)\/∃k,lo.map (a0g os (rzs σ vs))=some (.int k (l:Nat)):=by
 cases lo with
 |none=>simp only[loA,Option.some.injEq]at h;exact .inl ⟨rfl,h.symm⟩
 |some y=>
  obtain⟨k,hk⟩:=b0G (σ:=σ) h
  exact .inr ⟨k,by rw[Option.map_some,c2R (σ:=σ) hk]⟩
theorem b3Q {os:List Operand} {n:Nat} {hi:Option Operand} {h':Nat} (h:hiA os vs n hi=some h'):(hi.map (a0g os (rzs σ vs))=none/\h'=n)\/∃k,hi.map (a0g os (rzs σ vs))=some (.int k (h':Nat)):=by
 cases hi with
 |none=>simp only[hiA,Option.some.injEq]at h;exact .inl ⟨rfl,h.symm⟩
 |some y=>
  obtain⟨k,hk⟩:=b0G (σ:=σ) h
  exact .inr ⟨k,by rw[Option.map_some,c2R (σ:=σ) hk]⟩
theorem a4V {T e n c l h:Nat} {a:Option Addr} {lo hi:Option Value} (hu:P.underlying T=some (.slice e)) (he:a1V P e=true) (hl:(lo=none/\l=0)\/∃k,lo=some (.int k (l:Nat))) (hh:(hi=none/\h=n)\/∃k,hi=some (.int k (h:Nat))) (h1:l<=h) (h2:h<=c) (w:World):
  (Instr.sliceAt T (.slice a n c) lo hi none).run P w= .ok (.slice (if c=l then a else a.map (·.add (l*P.cellsOf e))) (h-l) (c-l)) w:=by
 obtain⟨⟨i,hi'⟩,_⟩:=a0R he
 simp only[Instr.sliceAt,Instr.slice,Sem.run_bind,run_underlying hu,Result.andThen_ok,Sem.run_pure,a7S hl hh h1 h2 w,a0Y hi']
theorem b6d {T e n l h b q:Nat} {lo hi:Option Value} (hu:P.underlying T=some (.array n e)) (he:a1V P e=true) (hl:(lo=none/\l=0)\/∃k,lo=some (.int k (l:Nat))) (hh:(hi=none/\h=n)\/∃k,hi=some (.int k (h:Nat))) (h1:l<=h) (h2:h<=n) (w:World):
  (Instr.sliceAt T (.pointer (some ⟨b,q,none⟩)) lo hi none).run P w= .ok (.slice (some ⟨b,if n=l then q else q+l*P.cellsOf e,none⟩) (h-l) (n-l)) w:=by
 obtain⟨⟨i,hi'⟩,_⟩:=a0R he
 simp only[Instr.sliceAt,Sem.run_bind,run_underlying hu,Result.andThen_ok,Instr.sureAddr,Sem.run_pure,a7S hl hh h1 h2 w,a0Y hi',a2h]
 split<;>rfl
theorem b3R {α:Type} (a b:Nat) (x y:α):(bif Nat.beq a b then x else y)=if b=a then x else y:=by
 cases h:Nat.beq a b with
 |true=>rw[cond_true,if_pos (a1E h).symm]
 |false=>rw[cond_false,if_neg (fun e=>by subst e;simp at h)]
theorem c4v {T:TypeId} {lo hi mx:Option Operand} (ho:o.op= .slice T x lo hi mx) (h:evP P kty s vs (.slice T x lo hi mx)=some v) (hI:Inv P σ s wm H0 H) (hl:lts s.n vs):Rds P o (rzs σ vs) H (rz σ v)/\lt s.n v:=by
 cases mx with
 |some _=>simp[evP,d5D]at h
 |none=>
  have hos:o.op.operands.toList=x::(lo.toList++hi.toList):=by cases lo<;>cases hi<;>simp[ho,Op.operands]
  simp only[evP,d5D]at h
  split at h
  ·rename_i k q n c l e hx hlo hu
   split at h
   ·rename_i h' hhi
    obtain⟨hg,h⟩:=a0p h
    simp only[Bool.and_eq_true]at hg
    simp only[Option.some.injEq]at h;subst h
    refine⟨fun w _=> ?_,by have:=(a0V (σ:=σ) hx).2 s.n hl;simpa only[lt]using this⟩
    have h1:=a3g hg.1.1
    have h2:=a3g hg.1.2
    rw[hos]
    simp only[execOp,ho,Sem.run_bind,(a0V (σ:=σ) hx).1,rz,Option.map_none]
    rw[a4V hu hg.2 (b3P (σ:=σ) hlo) (b3Q (σ:=σ) hhi) h1 h2 w,b3R]
    simp only[Result.andThen_ok,Sem.run_pure,Option.map_some,a2h]
    split<;>rfl
   ·cases h
  ·rename_i k q n d l e hx hlo hu
   split at h
   ·rename_i h' hhi
    obtain⟨hg,h⟩:=a0p h
    simp only[Bool.and_eq_true,Bool.or_eq_true]at hg
    obtain⟨⟨⟨⟨h1,h2⟩,he⟩,h3⟩,h4⟩:=hg
    simp only[Option.some.injEq]at h;subst h
    have h1:=a3g h1
    have h2:=a3g h2
    have h3:l=0\/l<n:=h3.elim (fun h=> .inl (a1E h)) (fun h=> .inr (a2R h))
    have hcap:n<=(σ k).2-d:=by
     unfold sgB at h4
     simp only[a0K]at h4
     split at h4
     ·rename_i l' T' hk
      simp only[Bool.and_eq_true]at h4
      obtain⟨⟨⟨e1,e2⟩,e3⟩,e4⟩:=h4
      obtain⟨_,_,cs,r,_,hsz,_,hcs⟩:=hI.ob hk
      have e1:=a1E e1
      have e2:=a2R e2
      have e3:q=d*P.cellsOf e:=a1E e3
      have e4:q+n*P.cellsOf e<=l'.length:=a3g e4
      have hsz2:cs.size=l'.length+r.length:=by rw[<-Array.length_toList,hcs,List.length_append,a0w]
      rw[e1]at hsz
      have:(d+n)*P.cellsOf e<=(σ k).2*P.cellsOf e:=by rw[Nat.add_mul];omega
      have:=Nat.le_of_mul_le_mul_right this e2
      omega
     ·cases h4
    refine⟨fun w _=> ?_,by have:=(a0V (σ:=σ) hx).2 s.n hl;simpa only[lt]using this⟩
    rw[hos]
    simp only[execOp,ho,Sem.run_bind,(a0V (σ:=σ) hx).1,rz,Option.map_none]
    rw[a4V hu he (b3P (σ:=σ) hlo) (b3Q (σ:=σ) hhi) h1 (by omega) w]
    simp only[Result.andThen_ok,Sem.run_pure,Option.map_some,a2h]
    have e1:(σ k).2-d-l=(σ k).2-Nat.add d l:=by show _=(σ k).2-(d+l);omega
    rw[e1]
    split
    ·rename_i hc
     have:l=0:=by omega
     subst this
     have e0:Nat.add q (Nat.mul 0 (P.cellsOf e))=q:=by show q+0*_=q;rw[Nat.zero_mul,Nat.add_zero]
     rw[e0];rfl
    ·rfl
   ·cases h
  ·rename_i e hx hlo hu
   split at h
   ·rename_i hhi
    obtain⟨he,h⟩:=a0p h
    simp only[Option.some.injEq]at h;subst h
    refine⟨fun w _=> ?_,by simp[lt]⟩
    rw[hos]
    simp only[execOp,ho,Sem.run_bind,(a0V (σ:=σ) hx).1,rz,Option.map_none]
    rw[a4V hu he (b3P (σ:=σ) hlo) (b3Q (σ:=σ) hhi) (Nat.le_refl 0) (Nat.le_refl 0) w]
    rfl
   ·cases h
  ·rename_i k q l n e hx hlo hu
   split at h
   ·rename_i h' hhi
    obtain⟨hg,h⟩:=a0p h
    simp only[Bool.and_eq_true]at hg
    simp only[Option.some.injEq]at h;subst h
    refine⟨fun w _=> ?_,by have:=(a0V (σ:=σ) hx).2 s.n hl;simpa only[lt]using this⟩
    rw[hos]
    simp only[execOp,ho,Sem.run_bind,(a0V (σ:=σ) hx).1,rz,Option.map_none]
    rw[b6d hu hg.2 (b3P (σ:=σ) hlo) (b3Q (σ:=σ) hhi) (a3g hg.1.1) (a3g hg.1.2) w,b3R]
    rfl
   ·cases h
  ·cases h
theorem a5I {kt:TypeId} {l:List AV} (hK:∀t,kty t=true->a7R P t) (h:a5r P kty kt (.agg l)=true):∃lx,keyOf P kt (rz σ (.agg l))=some lx:=by
 obtain⟨K,fa,la⟩:=a3U (σ:=σ) hK h
 obtain⟨L,hL⟩:=la _ K.big
 have hw:=K.wide
 refine⟨.string (keyBytes L),?_⟩
 unfold keyOf
 split
 ·rw[if_pos (by rw[K.key,fa];rfl),hL];rfl
 ·rw[if_pos (by rw[K.key,fa];rfl),hL];rfl
 ·rename_i h1 h2
  split at hw
  ·rename_i hu;exact absurd hu (h1 _ _)
  ·rename_i hu;exact absurd hu (h2 _)
  ·cases hw
theorem a9e {kt:TypeId} {l:List AV} (hK:∀t,kty t=true->a7R P t) (h:a5r P kty kt (.agg l)=true):KeyLaw P kt:=by
 obtain⟨K,_⟩:=a3U (σ:=fun _=>(0,0)) hK h
 exact deep_law (by omega) K.at6 K.tiled K.wide
theorem a5J {kt:TypeId} {l:List AV} {q:IntKind} (hK:∀t,kty t=true->a7R P t) (h:a5r P kty kt (.agg l)=true) (hu:P.underlying kt=some (.int q)):False:=by
 obtain⟨K,_⟩:=a3U (σ:=fun _=>(0,0)) hK h
 have:=K.wide
 rw[hu]at this
 cases this
theorem a6L {kt:TypeId} (hK:∀t,kty t=true->a7R P t) (h:a5r P kty kt v=true) (b:Bool) (w:World):(Instr.checkKey b 10000 kt (rz σ v)).run P w= .ok () w:=by
 rcases a1F hK h with⟨l,rfl⟩|⟨q,n,rfl,hu⟩
 ·obtain⟨lx,hlx⟩:=a5I (σ:=σ) hK h
  exact(a9e hK h).check w b hlx
 ·rw[rz];exact a1n hu b w
theorem b8y {kt:TypeId} (hK:∀t,kty t=true->a7R P t) (h:a5r P kty kt v=true) (w:World):(Instr.keyThatStays (rz σ v) (rz σ v)).run P w= .ok (rz σ v) w:=by
 rcases a1F hK h with⟨l,rfl⟩|⟨q,n,rfl,hu⟩
 ·obtain⟨lx,hlx⟩:=a5I (σ:=σ) hK h
  exact(a9e hK h).stays w hlx
 ·simp[rz,Instr.keyThatStays,Instr.sameBits]
theorem b8z {kt:TypeId} {a b:AV} (hK:∀t,kty t=true->a7R P t) (ha:a5r P kty kt a=true) (hb:a5r P kty kt b=true):a0U (cl a) (cl b)=true↔rz σ a=rz σ b:=by
 rcases a1F hK ha with⟨l,rfl⟩|⟨q,n,rfl,hu⟩
 ·rcases a1F hK hb with⟨m,rfl⟩|⟨q,n,rfl,hu⟩
  ·obtain⟨K,_,la⟩:=a3U (σ:=σ) hK ha
   obtain⟨L,hL⟩:=la 6 (Nat.le_refl _)
   have c1:=cells_of_lits 6 kt K.tiled _ _ _ hL
   have c1':rzs σ l=L.map Lit.toCell:=by simpa[rz,Value.cells]using c1
   simp only[cl]
   rw[a6K (b8x c1'),rz,rz]
   constructor
   ·intro h;rw[h]
   ·intro h
    injection h with h
    simpa using h
  ·exact(a5J hK ha hu).elim
 ·rcases a1F hK hb with⟨m,rfl⟩|⟨q',n',rfl,hu'⟩
  ·exact(a5J hK hb hu).elim
  ·simp only[cl,a0U,Bool.and_true,Bool.and_eq_true,isK,beq_iff_eq,b0F,rz,Value.int.injEq]
theorem a2M {q:IntKind} {n:Int}:∀(E:List MapEntry) (i:Nat),(∀e∈E,∃b,e.key= .int q b)->(Instr.findNow (.int q) (.int q n) E i=some none/\∀e∈E,e.key≠ .int q n)\/∃j e,Instr.findNow (.int q) (.int q n) E i=some (some (i+j,e.val))/\E[j]? =some e/\e.key= .int q n
 |[],i,_=> .inl ⟨rfl,fun e he=>absurd he (by simp)⟩
 |e::r,i,h=>by
  obtain⟨b,hb⟩:=h e (by simp)
  by_cases hn:n=b
  ·subst hn
   exact .inr ⟨0,e,by simp[Instr.findNow,Instr.sameNow,hb],rfl,hb⟩
  ·have hbe:(n==b)=false:=by simp[hn]
   rcases a2M (n:=n) r (i+1) (fun e he=>h e (by simp[he]))with⟨h1,h2⟩|⟨j,e',h1,h2,h3⟩
   ·refine .inl ⟨by simp[Instr.findNow,Instr.sameNow,hb,hbe,h1],fun e' he=> ?_⟩
    rcases List.mem_cons.1 he with rfl|he
    ·rw[hb];intro h;injection h with _ h;exact hn h.symm
    ·exact h2 e' he
   ·exact .inr ⟨j+1,e',by simp[Instr.findNow,Instr.sameNow,hb,hbe,h1];omega,by simpa using h2,h3⟩
theorem c4w {kt:TypeId} {key:AV} (hK:∀t,kty t=true->a7R P t) (hk:a5r P kty kt key=true) (E:List MapEntry) (hE:∀e∈E,∃a,e.key=rz σ a/\a5r P kty kt a=true) (w:World):
  ((Instr.findKey kt (rz σ key) E).run P w= .ok none w/\∀e∈E,e.key≠rz σ key)\/∃j e,(Instr.findKey kt (rz σ key) E).run P w= .ok (some (j,e.val)) w/\E[j]? =some e/\e.key=rz σ key:=by
 rcases a1F hK hk with⟨l,rfl⟩|⟨q,n,rfl,hu⟩
 ·obtain⟨lx,hlx⟩:=a5I (σ:=σ) hK hk
  refine(a9e hK hk).find w hlx E fun e he=> ?_
  obtain⟨a,ha,hb⟩:=hE e he
  rcases a1F hK hb with⟨m,rfl⟩|⟨q,n,rfl,hu⟩
  ·rw[ha];exact a5I hK hb
  ·exact(a5J hK hk hu).elim
 ·rw[rz]
  have run:∀r,Instr.findNow (.int q) (.int q n) E 0=some r->(Instr.findKey kt (.int q n) E).run P w= .ok r w:=fun r hr=>by
   simp only[Instr.findKey,Sem.run_bind,run_underlying hu,Result.andThen_ok,hr,Sem.run_pure]
  rcases a2M (q:=q) (n:=n) E 0 (fun e he=>by
   obtain⟨a,ha,hb⟩:=hE e he
   rcases a1F hK hb with⟨m,rfl⟩|⟨q',n',rfl,hu'⟩
   ·exact(a5J hK hb hu).elim
   ·rw[hu]at hu';cases hu'
    exact⟨n',by rw[ha,rz]⟩)with⟨h1,h2⟩|⟨j,e,h1,h2,h3⟩
  ·exact .inl ⟨run _ h1,h2⟩
  ·exact .inr ⟨j,e,by rw[run _ h1,Nat.zero_add],h2,h3⟩
theorem a4v {kt:TypeId}:∀{es:List (AV×AV×Nat)},b6b P kty kt es=true->∀p∈es,a5r P kty kt p.1=true
 |[],_,_,hp=>by cases hp
 |q::r,h,p,hp=>by
  simp only[b6b,Bool.and_eq_true]at h
  rcases List.mem_cons.1 hp with rfl|hp
  ·exact h.1
  ·exact a4v h.2 p hp
theorem b2u {key:AV}:∀{es:List (AV×AV×Nat)},d4V key es=false->∀p∈es,a0U (cl p.1) (cl key)=false
 |[],_,_,hp=>by cases hp
 |q::r,h,p,hp=>by
  simp only[d4V,Bool.or_eq_false_iff]at h
  rcases List.mem_cons.1 hp with rfl|hp
  ·exact h.1
  ·exact b2u h.2 p hp
theorem a7T {key:AV}:∀{es:List (AV×AV×Nat)},(∀p∈es,a0U (cl p.1) (cl key)=false)->a6E key es=none
 |[],_=>rfl
 |q::r,h=>by simp only[a6E,h q (by simp),cond_false];exact a7T fun p hp=>h p (by simp[hp])
theorem b0H {key u:AV}:∀{es:List (AV×AV×Nat)},a6E key es=some u->∃p∈es,u=p.2.1
 |[],h=>by simp[a6E]at h
 |p::r,h=>by
  simp only[a6E]at h
  cases hq:a0U (cl p.1) (cl key)with
  |true=>rw[hq]at h;simp only[cond_true,Option.some.injEq]at h;exact⟨p,by simp,h.symm⟩
  |false=>
   rw[hq]at h
   obtain⟨p',hp',e⟩:=b0H (show a6E key r=some u from h)
   exact⟨p',by simp[hp'],e⟩
theorem a4W {key:AV}:∀{es:List (AV×AV×Nat)} {j:Nat} {p:AV×AV×Nat},c8J key es=true->es[j]? =some p->a0U (cl p.1) (cl key)=true->a6E key es=some p.2.1
 |[],_,_,_,h,_=>by simp at h
 |q::r,0,p,_,h,hb=>by
  simp only[List.getElem?_cons_zero,Option.some.injEq]at h;subst h
  simp only[a6E,hb,cond_true]
 |q::r,j+1,p,h1,h,hb=>by
  simp only[List.getElem?_cons_succ]at h
  simp only[c8J]at h1
  cases hq:a0U (cl q.1) (cl key)with
  |true=>
   rw[hq]at h1
   simp only[cond_true,Bool.not_eq_true']at h1
   have:=b2u h1 p (List.mem_of_getElem? h)
   rw[hb]at this;cases this
  |false=>
   rw[hq]at h1
   simp only[a6E,hq,cond_false]
   exact a4W h1 h hb
theorem a6M {key val:AV} {clock:Nat}:∀{es:List (AV×AV×Nat)},(∀p∈es,a0U (cl p.1) (cl key)=false)->a6F key val clock es=(es++[(key,val,clock)],true)
 |[],_=>rfl
 |q::r,h=>by
  simp only[a6F,h q (by simp),cond_false]
  rw[a6M fun p hp=>h p (by simp[hp])];rfl
theorem a6N {key val:AV} {clock:Nat}:∀{es:List (AV×AV×Nat)} {j:Nat} {p:AV×AV×Nat},c8J key es=true->es[j]? =some p->a0U (cl p.1) (cl key)=true->a6F key val clock es=(es.set j (key,val,p.2.2),false)
 |[],_,_,_,h,_=>by simp at h
 |q::r,0,p,_,h,hb=>by
  simp only[List.getElem?_cons_zero,Option.some.injEq]at h;subst h
  simp only[a6F,hb,cond_true,List.set_cons_zero]
 |q::r,j+1,p,h1,h,hb=>by
  simp only[List.getElem?_cons_succ]at h
  simp only[c8J]at h1
  cases hq:a0U (cl q.1) (cl key)with
  |true=>
   rw[hq]at h1
   simp only[cond_true,Bool.not_eq_true']at h1
   have:=b2u h1 p (List.mem_of_getElem? h)
   rw[hb]at this;cases this
  |false=>
   rw[hq]at h1
   simp only[a6F,hq,cond_false,List.set_cons_succ]
   rw[a6N h1 h hb]
theorem a9f {kt:TypeId} {key:AV} {es:List (AV×AV×Nat)} (hK:∀t,kty t=true->a7R P t) (hk:a5r P kty kt key=true) (hes:b6b P kty kt es=true) (w:World):
  ((Instr.findKey kt (rz σ key) (a4b σ es)).run P w= .ok none w/\∀p∈es,a0U (cl p.1) (cl key)=false)\/
   ∃j p,(Instr.findKey kt (rz σ key) (a4b σ es)).run P w= .ok (some (j,rz σ p.2.1)) w/\es[j]? =some p/\rz σ p.1=rz σ key/\a0U (cl p.1) (cl key)=true:=by
 have hmem:∀e∈a4b σ es,∃p∈es,e=⟨rz σ p.1,rz σ p.2.1,p.2.2⟩:=fun e he=>by
  obtain⟨p,hp,rfl⟩:=List.mem_map.1 he
  exact⟨p,hp,rfl⟩
 rcases c4w (σ:=σ) hK hk (a4b σ es) (fun e he=>by
  obtain⟨p,hp,rfl⟩:=hmem e he
  exact⟨p.1,rfl,a4v hes p hp⟩) w with⟨h1,h2⟩|⟨j,e,h1,h2,h3⟩
 ·refine .inl ⟨h1,fun p hp=> ?_⟩
  have:=h2 ⟨rz σ p.1,rz σ p.2.1,p.2.2⟩ (List.mem_map.2 ⟨p,hp,rfl⟩)
  cases hb:a0U (cl p.1) (cl key)with
  |false=>rfl
  |true=>exact absurd ((b8z hK (a4v hes p hp) hk).1 hb) this
 ·unfold a4b at h2
  rw[List.getElem?_map]at h2
  obtain⟨p,hp,rfl⟩:=Option.map_eq_some_iff.1 h2
  have hm:=List.mem_of_getElem? hp
  exact .inr ⟨j,p,h1,hp,h3,(b8z (σ:=σ) hK (a4v hes p hm) hk).2 h3⟩
theorem a6O {t:TypeId} (h:c8H P t=true):∃i z,P.info? t=some i/\i.zero=some z/\z.cells.size=i.size/\i.bytes<=4096/\0<i.size/\a0G P t=z/\P.cellsOf t=i.size:=by
 unfold c8H at h
 split at h
 ·rename_i i hi
  split at h
  ·rename_i z hz
   simp only[Bool.and_eq_true]at h
   exact⟨i,z,hi,hz,a1E h.1.1,a3g h.1.2,a2R h.2,by unfold a0G;rw[hi];simp[hz],by unfold Program.cellsOf;rw[hi];rfl⟩
  ·cases h
 ·cases h
theorem b8A {T:TypeId} {ok:Bool} (hK:∀t,kty t=true->a7R P t) (ho:o.op= .lookup T x y ok) (h:evP P kty s vs (.lookup T x y ok)=some v) (hI:Inv P σ s wm H0 H):Rds P o (rzs σ vs) H (rz σ v)/\lt s.n v:=by
 have hos:o.op.operands.toList=[x,y]:=by simp[ho,Op.operands]
 simp only[evP,d6H]at h
 split at h
 ·rename_i k key kt et hx hy hu
  split at h
  ·rename_i es clock hk
   obtain⟨hg,h⟩:=a0p h
   simp only[Bool.and_eq_true]at hg
   obtain⟨⟨⟨g1,g2⟩,g3⟩,g4⟩:=hg
   obtain⟨_,hlt,hR⟩:=hI.ob hk
   obtain⟨i,z,hi,hz,_,_,_,hzv,_⟩:=a6O g4
   have hck:∀b w,(Instr.checkKey b 10000 kt (rz σ key)).run P w= .ok () w:=fun b w=>a6L hK g1 b w
   have run:∀w,H.In w->∀u b,(∀w:World,((Instr.findKey kt (rz σ key) (a4b σ es)).run P w= .ok none w/\u=z/\b=false)\/∃j,(Instr.findKey kt (rz σ key) (a4b σ es)).run P w= .ok (some (j,u)) w/\b=true)->
     (execOp (a0g o.op.operands.toList (rzs σ vs)) o).run P w= .ok (.value (if ok then .tuple #[u,.bool b]else u)) w:=fun w hw u b hf=>by
    have hb:=hw _ _ hR
    rw[hos]
    simp only[execOp,ho,(a0V (σ:=σ) hx).1,(a0V (σ:=σ) hy).1,rz,Sem.run_bind,Instr.lookup,run_underlying hu,Result.andThen_ok,a1K hb,Sem.run_pure,hck]
    rcases hf w with⟨h1,rfl,rfl⟩|⟨j,h1,rfl⟩
    ·rw[h1]
     simp[zeroValue,typeInfo,hi,hz]
    ·rw[h1]
     simp
   split at h
   ·rename_i u hu2
    simp only[Option.some.injEq]at h;subst h
    have hsome:=b0H hu2
    obtain⟨p,hp,rfl⟩:=hsome
    refine⟨fun w hw=> ?_,?_⟩
    ·rw[run w hw (rz σ p.2.1) true fun w=> ?_]
     ·cases ok<;>simp[rz,rzs]
     ·rcases a9f (σ:=σ) hK g1 g2 w with⟨_,h2⟩|⟨j,p',h1,h2,_,h4⟩
      ·rw[a7T h2]at hu2;cases hu2
      ·rw[a4W g3 h2 h4]at hu2
       exact .inr ⟨j,by rw[h1,Option.some.inj hu2],rfl⟩
    ·have:=(hlt p hp).2
     cases ok
     ·exact this
     ·simp only[lt,lts];exact⟨this,trivial,trivial⟩
   ·rename_i hn
    split at h
    ·rename_i zv hzv'
     simp only[Option.some.injEq]at h;subst h
     have h1:=a5s (σ:=σ) hzv'
     rw[hzv]at h1
     refine⟨fun w hw=> ?_,?_⟩
     ·rw[run w hw (rz σ zv) false fun w=> ?_]
      ·cases ok<;>simp[rz,rzs]
      ·rcases a9f (σ:=σ) hK g1 g2 w with⟨h2,_⟩|⟨j,p',_,h2,_,h4⟩
       ·exact .inl ⟨h2,h1.1,rfl⟩
       ·rw[a4W g3 h2 h4]at hn;cases hn
     ·cases ok
      ·exact h1.2 _
      ·simp only[lt,lts];exact⟨h1.2 _,trivial,trivial⟩
    ·cases h
  ·cases h
 ·rename_i key kt et hx hy hu
  obtain⟨hg,h⟩:=a0p h
  rw[Bool.and_eq_true]at hg
  obtain⟨i,z,hi,hz,_,_,_,hzv,_⟩:=a6O hg.2
  split at h
  ·rename_i zv hzv'
   simp only[Option.some.injEq]at h;subst h
   have h1:=a5s (σ:=σ) hzv'
   rw[hzv]at h1
   refine⟨fun w hw=> ?_,?_⟩
   ·have hf:(Instr.findKey kt (rz σ key) []).run P w= .ok none w:=by
     rcases a9f (σ:=σ) (es:=[]) hK hg.1 rfl w with⟨h2,_⟩|⟨j,p',_,h2,_⟩
     ·exact h2
     ·simp at h2
    have hz0:(zeroValue et).run P w= .ok z w:=by simp[zeroValue,typeInfo,hi,hz]
    rw[hos]
    simp only[execOp,ho,(a0V (σ:=σ) hx).1,(a0V (σ:=σ) hy).1,rz,Sem.run_bind,Instr.lookup,run_underlying hu,Result.andThen_ok,Sem.run_pure,a6L hK hg.1,hf,hz0]
    rw[<-h1.1]
    cases ok<;>simp[rz,rzs]
   ·cases ok
    ·exact h1.2 _
    ·simp only[lt,lts];exact⟨h1.2 _,trivial,trivial⟩
  ·cases h
 ·cases h
theorem b3S:∀{l:List Nat} {b:Nat},b8p l=some b->l.toArray.back? =some b
 |x::r,b,h=>by
  simp only[b8p]at h
  split at h
  ·cases h;simp
  ·rename_i hr
   have:=b3S h
   cases r with
   |nil=>simp[b8p]at h
   |cons y q=>simpa using this
theorem b3T {σ:Rl} {b:Nat}:∀{es:List (AV×AV×Nat)} {p:AV×AV×Nat},b8q b es=some p->p∈es/\(a4b σ es).find? (·.born==b)=some ⟨rz σ p.1,rz σ p.2.1,p.2.2⟩
 |q::r,p,h=>by
  simp only[b8q]at h
  unfold a4b
  rw[List.map_cons,List.find?_cons]
  cases hb:Nat.beq q.2.2 b with
  |true=>
   rw[hb]at h
   simp only[cond_true,Option.some.injEq]at h;subst h
   have:=a1E hb
   exact⟨List.mem_cons_self,by simp[this]⟩
  |false=>
   rw[hb]at h
   obtain⟨h1,h2⟩:=b3T (σ:=σ) (show b8q b r=some p from h)
   refine⟨List.mem_cons_of_mem _ h1,?_⟩
   have hne:(q.2.2==b)=false:=by
    rw[Bool.eq_false_iff];intro e;rw[beq_iff_eq]at e;rw[e]at hb;simp at hb
   simp only[hne]
   exact h2
theorem c4x (ho:o.op= .entry x) (h:evP P kty s vs (.entry x)=some v) (hI:Inv P σ s wm H0 H):Rds P o (rzs σ vs) H (rz σ v)/\lt s.n v:=by
 have hos:o.op.operands.toList=[x]:=by simp[ho,Op.operands]
 simp only[evP,d6K]at h
 split at h
 ·rename_i k hx
  split at h
  ·rename_i m since seen stepped hk
   split at h
   ·rename_i es clock b hm hb
    obtain⟨hg,h'⟩:=a0p h
    clear h
    obtain rfl:=a1E hg
    split at h'
    ·rename_i p hp
     simp only[Option.some.injEq]at h';subst h'
     obtain⟨_,_,hR⟩:=hI.ob hk
     obtain⟨_,hlt,hRm⟩:=hI.ob hm
     obtain⟨h1,h2⟩:=b3T (σ:=σ) hp
     refine⟨fun w hw=> ?_,by simp only[lt,lts];exact⟨(hlt p h1).1,(hlt p h1).2,trivial⟩⟩
     have hr:=hw _ _ hR
     have hgr:(getObj (σ k).1).run P w= .ok (.mapIter (some (σ m).1) since seen.toArray clock) w:=by simp[getObj,Sem.run,hr]
     have hgm:=a1K (P:=P) (hw _ _ hRm)
     have hf:(a4b σ es).toArray.find? (·.born==b)=some ⟨rz σ p.1,rz σ p.2.1,p.2.2⟩:=by rw[<-Array.find?_toList];exact h2
     rw[hos]
     simp only[execOp,ho,(a0V (σ:=σ) hx).1,rz,Sem.run_bind,Instr.entry,hgr,Result.andThen_ok,b3S hb,hgm,bne_self_eq_false,Bool.false_eq_true,if_false,hf,Sem.run_pure]
     simp[rzs]
    ·cases h'
   ·cases h
  ·cases h
 ·cases h
theorem c6H (hK:∀t,kty t=true->a7R P t) (h:evP P kty s vs o.op=some v) (hI:Inv P σ s wm H0 H) (hl:lts s.n vs):Rds P o (rzs σ vs) H (rz σ v)/\lt s.n v:=by
 cases ho:o.op<;>rw[ho]at h
 case call=>exact c8Z ho h hI
 case indexAddr=>exact c4q ho h hl
 case load=>exact c8Y ho h hI
 case fieldAddr=>exact c4r ho h hl
 case nilCheck=>exact d3e ho h hl
 case slice=>exact c4v ho h hI hl
 case lookup=>exact b8A hK ho h hI
 case entry=>exact c4x ho h hI
 case binOp=>exact d3f hK ho h
 all_goals exact absurd h (by simp[evP])
end
end Go.RZ
/- Concrete runs: operations that make a block; operations with effects. -/
namespace Go.RZ
open Go.RowKit Go.RX Go.GS Go.WideMaps
section
variable {P:Program} {kty:TypeId->Bool} {σ:Rl} {s:S} {wm:Nat} {H0 H:PH} {o:Oper} {vs:List AV} {x y:Operand} {v:AV}
theorem a9g (xs:Array Value):∀n:Nat,madeCells xs (n*xs.size)=(rep xs.toList n).toArray
 |0=>by simp[madeCells,rep]
 |n+1=>by
  have ih:=congrArg Array.toList (a9g xs n)
  simp only[madeCells,Array.toList_map,Array.toList_range]at ih
  apply Array.toList_inj.1
  simp only[madeCells,Array.toList_map,Array.toList_range]
  rw[Nat.succ_mul,Nat.add_comm,List.range_add,List.map_append,List.map_map]
  show _=xs.toList++rep xs.toList n
  congr 1
  ·apply List.ext_getElem?
   intro i
   rw[List.getElem?_map]
   by_cases h:i<xs.size
   ·rw[List.getElem?_range h,Option.map_some,Nat.mod_eq_of_lt h,Array.getElem?_toList,Array.getElem?_eq_getElem h,getElem!_pos xs i h]
   ·rw[List.getElem?_eq_none (by simpa using h),List.getElem?_eq_none (by simpa using h)];rfl
  ·rw[show(rep xs.toList n)=(rep xs.toList n).toArray.toList from rfl,<-ih]
   refine List.map_congr_left fun i _=> ?_
   simp
theorem b8B (σ:Rl) (l:List AV):∀n,rzs σ (rep l n)=rep (rzs σ l) n
 |0=>rfl
 |n+1=>by rw[rep,a3e,b8B σ l n];rfl
theorem b8C {m:Nat} {l:List AV} (h:lts m l):∀n,lts m (rep l n)
 |0=>by simp[rep,lts]
 |n+1=>by rw[rep,lts_app];exact⟨h,b8C h n⟩
theorem b3U {os:List Operand} {sz:Nat}:∀{ps:List (Nat×Operand)} {l l':List AV},parts os vs sz ps l=some l'->
  Instr.fill (fun j=>some (j*sz,sz)) (rzs σ l).toArray (ps.map fun p=>(p.1,a0g os (rzs σ vs) p.2))=some (rzs σ l').toArray/\(∀n,lts n vs->lts n l->lts n l')
 |[],l,l',h=>by simp only[parts,Option.some.injEq]at h;subst h;exact⟨rfl,fun _ _ h=>h⟩
 |(j,x)::r,l,l',h=>by
  simp only[parts,a0K]at h
  split at h
  ·rename_i v hv
   obtain⟨hg,h⟩:=a0p h
   rw[Bool.and_eq_true]at hg
   have g1:=a1E hg.1
   have g2:j*sz+sz<=l.length:=a3g hg.2
   have h1:=a0V (σ:=σ) hv
   obtain⟨ih1,ih2⟩:=b3U h
   refine⟨?_,fun n hn hl=>ih2 n hn (a4U _ _ _ hl (a3D (h1.2 n hn)))⟩
   simp only[List.map_cons,Instr.fill,h1.1,a3f]
   rw[if_neg (by simp[a0w,g1];omega)]
   rw[<-ih1]
   congr 1
   rw[<-a4T,<-Array.foldl_toList,Array.toList_zipIdx]
   exact a4e _ _ 0 _
  ·cases h
theorem c6I {ao:AO} (h:evM P s.n vs o.op=some (v,ao)) (hl:lts s.n vs):∃(mk:Nat->Value) (ob:Obj),(∀w,(execOp (a0g o.op.operands.toList (rzs σ vs)) o).run P w= .ok (.value (mk w.heap.size)) (w.alloc ob))/\
  lt (s.n+1) v/\ltO (s.n+1) ao/\∀b,mk b=rz (up σ s.n (b,0)) v/\∀H:PH,RO P (up σ s.n (b,0)) s.n (H.put b ob) ao:=by
 have sl:∀(b q n c:Nat),Value.slice (some ⟨b,q,none⟩) n c=rz (up σ s.n (b,0)) (.sl s.n q n c):=fun b q n c=>by simp only[rz,a1f]
 have ro:∀(l:List AV) (e:TypeId) (b:Nat) (H:PH),lts s.n l->RO P (up σ s.n (b,0)) s.n (H.put b (.cells (rzs σ l).toArray e (0,0))) (.cells l e):=fun l e b H hl=>by
  simp only[RO,a1f]
  rw[PH.put_self,a1N (fun k hk=>a5w σ s.n (b,0) hk) l hl]
 cases ho:o.op<;>rw[ho]at h
 case buildSlice T n ps=>
  have hos:o.op.operands.toList=ps.toList.map (·.2):=by simp[ho,Op.operands]
  simp only[evM,a0K]at h
  split at h
  ·rename_i e hu
   split at h
   ·rename_i z hz
    obtain⟨hg,h⟩:=a0p h
    rw[Bool.and_eq_true]at hg
    obtain⟨i,z',hi,hzz,hsz,_,hpos,hzv,hc⟩:=a6O hg.1
    have hz':=a5s (σ:=σ) hz
    rw[hzv]at hz'
    have hlen:(cl z).length=i.size:=by rw[<-hsz,<-hz'.1,a3f];simp[a0w]
    split at h
    ·rename_i l hp
     simp only[Option.some.injEq,Prod.mk.injEq]at h
     obtain⟨rfl,rfl⟩:=h
     obtain⟨p1,p2⟩:=b3U (σ:=σ) hp
     have hlt:lts s.n l:=p2 s.n hl (b8C (a3D (hz'.2 s.n)) n)
     rw[<-ho,hos]
     refine⟨fun b=> .slice (some ⟨b,0,none⟩) n n,.cells (rzs σ l).toArray e (0,0),fun w=> ?_,by simp[lt],a0E (Nat.le_succ _) _ hlt,fun b=>⟨sl b 0 n n,fun H=>ro l e b H hlt⟩⟩
     have hr:(Instr.buildSlice T n (ps.map fun(j,x)=>(j,a0g (ps.toList.map (·.2)) (rzs σ vs) x))).run P w= .ok (.slice (some ⟨w.heap.size,0,none⟩) n n) (w.alloc (.cells (rzs σ l).toArray e)):=by
      rw[hlen]at p1
      by_cases hn:n=0
      ·subst hn
       have hps:ps= #[]:=by
        cases hq:ps.toList with
        |nil=>exact Array.toList_inj.1 hq
        |cons p r=>
         obtain⟨j,x⟩:=p
         rw[hq]at hp
         simp only[parts,rep,a0K]at hp
         split at hp
         ·obtain⟨g,_⟩:=a0p hp
          rw[Bool.and_eq_true]at g
          have:=a3g g.2
          simp only[List.length_nil]at this
          have e1:Nat.add (Nat.mul j (cl z).length) (cl z).length=Nat.mul j (cl z).length+(cl z).length:=rfl
          omega
         ·cases hp
       subst hps
       simp only[List.map_nil,Instr.fill,rep,rzs,Option.some.injEq]at p1
       rw[<-p1]
       simp[Instr.buildSlice,run_underlying hu,sizeOf,typeInfo,hi,newRow,Instr.fill,Array.range_zero']
      ·refine run_buildSlice (P:=P) w T e n _ _ i z' hu hi hzz ?_ ?_ ?_
       ·have:=a3g hg.2
        rw[hlen]at this
        have e1:Nat.mul n i.size=n*i.size:=rfl
        omega
       ·intro e0
        rcases Nat.mul_eq_zero.1 e0 with h|h<;>omega
       ·rw[Array.toList_map]
        have e1:=a9g z'.cells n
        rw[hsz]at e1
        unfold madeCells at e1
        rw[hsz]at e1⊢
        rw[e1]
        have e2:rep z'.cells.toList n=rzs σ (rep (cl z) n):=by rw[b8B,<-hz'.1,a3f]
        rw[e2]
        exact p1
     simp only[execOp,ho,Sem.run_bind]
     rw[hr]
     rfl
    ·cases h
   ·cases h
  ·cases h
 case makeSlice T x y=>
  have hos:o.op.operands.toList=[x,y]:=by simp[ho,Op.operands]
  simp only[evM,a0K]at h
  split at h
  ·rename_i e hu
   split at h
   ·rename_i z kl n kc c hz hx hy
    obtain⟨hg,h'⟩:=a0p h
    clear h
    simp only[Option.some.injEq,Prod.mk.injEq]at h'
    obtain⟨rfl,rfl⟩:=h'
    simp only[Bool.and_eq_true]at hg
    obtain⟨⟨g1,g2⟩,g3⟩:=hg
    obtain rfl:=a1E g2
    have g3:=a3g g3
    obtain⟨i,z',hi,hzz,hsz,hby,hpos,hzv,hc⟩:=a6O g1
    have hz':=a5s (σ:=σ) hz
    rw[hzv]at hz'
    have hlt:lts s.n (rep (cl z) n):=b8C (a3D (hz'.2 s.n)) n
    rw[<-ho,hos]
    refine⟨fun b=> .slice (some ⟨b,0,none⟩) n n,.cells (rzs σ (rep (cl z) n)).toArray e (0,0),fun w=> ?_,by simp[lt],a0E (Nat.le_succ _) _ hlt,fun b=>⟨sl b 0 n n,fun H=>ro _ e b H hlt⟩⟩
    have hb':(i.bytes:Int)*((n:Nat):Int)<=281474976710656:=by
     have h:i.bytes*n<=4096*100000:=Nat.mul_le_mul hby g3
     have h:((i.bytes*n:Nat):Int)<=281474976710656:=by omega
     rwa[Int.natCast_mul]at h
    have hr:=run_make (P:=P) w T e i z' hu hi hzz kl kc (n:Int) (n:Int) (by omega) (Int.le_refl _) hb' (by omega)
    simp only[Int.toNat_natCast]at hr
    have e1:=a9g z'.cells n
    rw[hsz]at e1
    have e2:rep z'.cells.toList n=rzs σ (rep (cl z) n):=by rw[b8B,<-hz'.1,a3f]
    rw[e1,e2]at hr
    simp only[execOp,ho,c2R (σ:=σ) hx,c2R (σ:=σ) hy,Sem.run_bind]
    have hr':(Instr.makeSlice T (.int kl (Int.ofNat n)) (.int kc (Int.ofNat n))).run P w=_:=hr
    rw[hr']
    rfl
   ·cases h
  ·cases h
 case makeMap T r=>
  cases r with
  |some _=>simp[evM]at h
  |none=>
   simp only[evM,Option.some.injEq,Prod.mk.injEq]at h
   obtain⟨rfl,rfl⟩:=h
   refine⟨fun b=> .map (some b),.map #[] 0,fun w=> ?_,by simp[lt],(fun p hp=>absurd hp (by simp)),fun b=>⟨by simp[rz,a1f],fun H=>by simp[RO,a1f,PH.put_self,a4b]⟩⟩
   simp only[execOp,ho,Option.map_none,Sem.run_bind]
   rw[show(Instr.makeMap T none).run P w= .ok (.map (some w.heap.size)) (w.alloc (.map #[] 0))from rfl]
   rfl
 all_goals exact absurd h (by simp[evM])
def Out (P:Program) (σ:Rl) (s:S) (wm:Nat) (H0:PH) (a0H:List (AV×S)) (u:Value) (H':PH):Prop:=
 ∃p∈a0H,∃σ',u=rz σ' p.1/\lt p.2.n p.1/\Inv P σ' p.2 wm H0 H'/\Ex σ s σ' p.2
theorem a5K {w:World} (hw:H.In w) {b:Nat} {cs cs':Array Value} {T:TypeId} (hH:H b=some (.cells cs T (0,0))):Step H w (H.put b (.cells cs' T (0,0))) (w.setRow b cs'):=by
 have hb:=hw _ _ hH
 refine⟨rfl,rfl,rfl,by simp,fun k hk hn=>setRow_other _ _ _ _ (fun e=>by rw[e,hH]at hn;cases hn),fun k ob hk=> ?_,fun k hk=> ?_⟩
 ·unfold PH.put at hk
  split at hk
  ·rename_i e;subst e;cases hk;exact setRow_heap w k _ _ T (0,0) hb
  ·rename_i e;rw[setRow_other _ _ _ _ e];exact hw k ob hk
 ·unfold PH.put at hk
  split at hk
  ·rename_i e;subst e;exact .inl (by simp[hH])
  ·exact .inl hk
theorem b3V {xs:Array Value} {q:Nat} {ys:List Value} (h:q+ys.length<=xs.size):spl xs q ys=(xs.toList.take q++ys++xs.toList.drop (q+ys.length)).toArray:=by
 rw[a6c h,<-Array.toList_inj]
 simp[List.extract_eq_take_drop]
 rw[List.take_of_length_le (by simp)]
theorem c4y {T:TypeId} {a0H:List (AV×S)} (ho:o.op= .store T x y) (h:evX P kty s wm vs (.store T x y)=some a0H) (hI:Inv P σ s wm H0 H) (hl:lts s.n vs):Opn P o (rzs σ vs) H (Out P σ s wm H0 a0H):=by
 have hos:o.op.operands.toList=[x,y]:=by simp[ho,Op.operands]
 simp only[evX,d6M,a0K]at h
 split at h
 ·rename_i k q v hx hy
  obtain⟨hg,h⟩:=a0p h
  simp only[Bool.and_eq_true]at hg
  obtain⟨⟨g1,g2⟩,g3⟩:=hg
  have g2:=a1E g2
  split at h
  ·rename_i s' hs
   simp only[Option.some.injEq]at h;subst h
   have hv:=a0V (σ:=σ) hy
   obtain⟨cs,T',hH,hq,hI',hn,hE⟩:=c8X hI hs (a3D (hv.2 _ hl))
   intro w hw
   unfold Stp
   rw[hos]
   simp only[execOp,ho,d3d (σ:=σ) hx,hv.1,Sem.run_bind]
   rw[a4I g1 (hw _ _ hH) (by rw[g2];exact hq) (by rw[a3f,g2];simp[a0w]) (by rw[a3f];exact a9a g3)]
   rw[a3f]
   exact⟨_,a5K hw hH,_,List.mem_singleton.2 rfl,σ,by simp[rz,rzs,undef],by simp[lt,lts],hI',hE⟩
  ·cases h
 ·cases h
theorem c9a {f:FuncId} {bs cs:Array Operand} {a0H:List (AV×S)} (ho:o.op= .makeFunc (.func f) bs cs) (h:evX P kty s wm vs (.makeFunc (.func f) bs cs)=some a0H) (hI:Inv P σ s wm H0 H) (hl:lts s.n vs):Opn P o (rzs σ vs) H (Out P σ s wm H0 a0H):=by
 have hos:o.op.operands.toList=bs.toList++cs.toList:=by simp[ho,Op.operands]
 simp only[evX,d6N]at h
 split at h
 ·rename_i b c hb hc
  simp only[Option.some.injEq]at h;subst h
  have h1:=b3M (σ:=σ) hb
  have h2:=b3M (σ:=σ) hc
  intro w hw
  unfold Stp
  rw[hos]
  simp only[execOp,ho,Sem.run_bind,Instr.makeFunc,Sem.run_pure,Result.andThen_ok]
  refine⟨_,Step.refl hw,_,List.mem_singleton.2 rfl,σ,?_,by simp only[lt];exact⟨h1.2 _ hl,h2.2 _ hl⟩,hI,Ex.refl _ _⟩
  rw[rz]
  congr 1
  ·rw[<-Array.toList_inj,Array.toList_map,h1.1]
  ·rw[<-Array.toList_inj,Array.toList_map,h2.1]
 ·cases h
theorem c4z {es:List (AV×AV×Nat)} {j:Nat} {p:AV×AV×Nat}:a4b σ (es.set j p)=(a4b σ es).set j ⟨rz σ p.1,rz σ p.2.1,p.2.2⟩:=by simp[a4b,List.map_set]
theorem c9b {n:Nat} {es:List (AV×AV×Nat)} {j:Nat} {p:AV×AV×Nat} (h:ltE n es) (hp:lt n p.1/\lt n p.2.1):ltE n (es.set j p):=fun q hq=>by
 rcases List.mem_or_eq_of_mem_set hq with hq|rfl
 ·exact h q hq
 ·exact hp
theorem d3g {T:TypeId} {x y z:Operand} {a0H:List (AV×S)} (hK:∀t,kty t=true->a7R P t) (ho:o.op= .mapUpdate T x y z) (h:evX P kty s wm vs (.mapUpdate T x y z)=some a0H) (hI:Inv P σ s wm H0 H) (hl:lts s.n vs):Opn P o (rzs σ vs) H (Out P σ s wm H0 a0H):=by
 have hos:o.op.operands.toList=[x,y,z]:=by simp[ho,Op.operands]
 simp only[evX,d6O]at h
 split at h
 ·rename_i k key val kt et hx hy hz hu
  split at h
  ·rename_i es clock hk
   obtain⟨hg,h⟩:=a0p h
   simp only[Bool.and_eq_true]at hg
   obtain⟨⟨⟨g0,g1⟩,g2⟩,g3⟩:=hg
   have g0:=a3g g0
   simp only[Option.some.injEq]at h;subst h
   obtain⟨_,hlt,hR⟩:=hI.ob hk
   have hkey:=a0V (σ:=σ) hy
   have hval:=a0V (σ:=σ) hz
   intro w hw
   have hb:=hw _ _ hR
   have hck:=a6L (σ:=σ) hK g1 false w
   unfold Stp
   rw[hos]
   simp only[execOp,ho,(a0V (σ:=σ) hx).1,hkey.1,hval.1,rz,Sem.run_bind,Instr.mapUpdate,run_underlying hu,Result.andThen_ok,a1K hb,hck]
   rcases a9f (σ:=σ) hK g1 g2 w with⟨h1,h2⟩|⟨j,p,h1,h2,h3,h4⟩
   ·rw[h1,a6M h2]
    simp only[Result.andThen_ok,Sem.run_pure,a3v _ hb]
    refine⟨_,Step.setB hw hR _,_,List.mem_singleton.2 rfl,σ,by simp[rz,rzs,undef],by simp[lt,lts],hI.set (o:= .map (es++[(key,val,clock)]) (clock+1)) hk g0 ?_ ?_,Ex.set hk⟩
    ·intro q hq
     rcases List.mem_append.1 hq with hq|hq
     ·exact hlt q hq
     ·obtain rfl:=List.mem_singleton.1 hq;exact⟨hkey.2 _ hl,hval.2 _ hl⟩
    ·simp only[RO,PH.put_self]
     simp[a4b]
   ·rw[h1,a6N g3 h2 h4]
    have hst:=b8y (σ:=σ) hK g1 w
    have hje:((a4b σ es).toArray[j]?.map (·.key)).getD (rz σ key)=rz σ key:=by
     simp[a4b,h2,h3]
    simp only[Result.andThen_ok,hje,Sem.run_bind,hst,a3v _ hb,Sem.run_pure]
    refine⟨_,Step.setB hw hR _,_,List.mem_singleton.2 rfl,σ,by simp[rz,rzs,undef],by simp[lt,lts],hI.set (o:= .map (es.set j (key,val,p.2.2)) clock) hk g0 (c9b hlt ⟨hkey.2 _ hl,hval.2 _ hl⟩) ?_,Ex.set hk⟩
    simp only[RO,PH.put_self]
    congr 2
    rw[c4z,<-Array.toList_inj]
    simp only[Array.toList_modify]
    apply List.ext_getElem?
    intro i
    simp only[List.getElem?_modify,List.getElem?_set,a4b,List.getElem?_map]
    by_cases e:j=i
    ·subst e
     obtain⟨hlt',h5⟩:=List.getElem?_eq_some_iff.1 h2
     simp[hlt',h5]
    ·simp[e]
  ·cases h
 ·cases h
theorem c4A {T:TypeId} {a0H:List (AV×S)} (ho:o.op= .range T x) (h:evX P kty s wm vs (.range T x)=some a0H) (hI:Inv P σ s wm H0 H):Opn P o (rzs σ vs) H (Out P σ s wm H0 a0H):=by
 have hos:o.op.operands.toList=[x]:=by simp[ho,Op.operands]
 simp only[evX,d6P]at h
 split at h
 ·rename_i m kt et hx hu
  split at h
  ·rename_i es clock hm
   simp only[Option.some.injEq]at h;subst h
   obtain⟨hmn,_,hR⟩:=hI.ob hm
   intro w hw
   have hb:=hw _ _ hR
   unfold Stp
   rw[hos]
   simp only[execOp,ho,(a0V (σ:=σ) hx).1,rz,Sem.run_bind,Instr.range,run_underlying hu,Result.andThen_ok,a1K hb,Sem.run_pure]
   refine⟨_,Step.newB hw _,_,List.mem_singleton.2 rfl,up σ s.n (w.heap.size,0),by simp only[rz,a1f],by simp only[lt];exact Nat.lt_succ_self _,hI.new (b:=(w.heap.size,0)) hw.fresh ?_ ?_,Ex.add _⟩
   ·exact Nat.lt_succ_of_lt hmn
   ·simp only[RO,a1f,PH.put_self]
    rw[a5w σ s.n _ hmn]
  ·cases h
 ·cases h
end
end Go.RZ
/- Concrete runs: iterations over maps, append, copy; all operations with effects. -/
namespace Go.RZ
open Go.RowKit Go.RX Go.GS Go.WideMaps
section
variable {P:Program} {kty:TypeId->Bool} {σ:Rl} {s:S} {wm:Nat} {H0 H:PH} {o:Oper} {vs:List AV} {x y:Operand} {v:AV}
theorem c4B (seen:List Nat) (b:Nat):seen.toArray.contains b=seen.any (Nat.beq b):=by
 rw[Bool.eq_iff_iff,List.any_eq_true]
 simp
theorem b8D {w:World} {r m since last clock:Nat} {seen:List Nat} {E:List MapEntry} {ty:TypeId} (hr:w.heap[r]? =some (.mapIter (some m) since seen.toArray last)) (hm:w.heap[m]? =some (.map E.toArray clock))
  (hold:∀e∈E.filter (fun e=> !seen.any (Nat.beq e.born)),e.born<since) (hstale:seen=[]\/E=[]\/∃e∈E,e.born<last):
  (E.filter (fun e=> !seen.any (Nat.beq e.born))=[]/\(Instr.next (.pointer (some ⟨r,0,none⟩)) false ty).run P w= .ok (.tuple #[.bool false]) w)\/
  ∃e∈E.filter (fun e=> !seen.any (Nat.beq e.born)),∃w1:World,Ext w w1/\w1.heap=w.heap/\(Instr.next (.pointer (some ⟨r,0,none⟩)) false ty).run P w= .ok (.tuple #[.bool true,e.key,e.val]) {w1 with heap:=w1.heap.setIfInBounds r (.mapIter (some m) since (seen++[e.born]).toArray clock)}:=by
 have hgr:(getObj r).run P w= .ok (.mapIter (some m) since seen.toArray last) w:=by simp[getObj,Sem.run,hr]
 have hst:(!seen.toArray.isEmpty&& !E.toArray.isEmpty&&E.toArray.all fun e=>decide (e.born≥last))=false:=by
  rcases hstale with rfl|rfl|⟨e,he,hlt⟩
  ·simp
  ·simp
  ·have:(E.toArray.all fun e=>decide (e.born≥last))=false:=by
    rw[Bool.eq_false_iff]
    intro h
    rw[List.all_toArray,List.all_eq_true]at h
    have:=h e he
    simp only[decide_eq_true_eq]at this
    omega
   rw[this];simp
 have hfil:E.toArray.filter (fun e=> !seen.toArray.contains e.born)=(E.filter (fun e=> !seen.any (Nat.beq e.born))).toArray:=by
  rw[<-Array.toList_inj,Array.toList_filter]
  simp only[c4B]
 unfold Instr.next
 simp only[Sem.run_bind,hgr,Result.andThen_ok,a1K hm,hst,Bool.false_eq_true,if_false]
 rw[hfil]
 generalize hL:E.filter (fun e=> !seen.any (Nat.beq e.born))=L at hold⊢
 have e1:L.toArray.filter (fun x=>decide (x.born<since))=L.toArray:=Array.filter_eq_self.2 (fun x hx=>by simpa using hold x (by simpa using hx))
 have e2:L.toArray.filter (fun x=>decide (x.born≥since))= #[]:=by
  rw[Array.filter_eq_empty_iff]
  intro x hx
  have:=hold x (by simpa using hx)
  simp
  omega
 simp only[e1,e2,Array.append_empty]
 cases L with
 |nil=>
  left
  refine⟨rfl,?_⟩
  simp[choose,Sem.run,Question.forced]
 |cons a L=>
  right
  have hch:∃(j:Nat) (w1:World),j<(a::L).toArray.size/\Ext w w1/\w1.heap=w.heap/\(choose (Question.mapNext (a::L).toArray.size)).run P w= .ok j w1:=by
   by_cases hf:(a::L).toArray.size<=1
   ·exact⟨0,w,by simp,Ext.refl _,rfl,by
     have:L=[]:=by cases L with|nil=>rfl|cons _ _=>simp at hf
     subst this
     simp[choose,Sem.run,Question.forced]⟩
   ·refine⟨w.tape w.drawn (Question.mapNext (a::L).toArray.size)%(a::L).toArray.size,w.drew,Nat.mod_lt _ (by simp),⟨rfl,rfl,rfl,Nat.le_refl _,fun _ _=>rfl⟩,rfl,?_⟩
    ·simp only[choose,Sem.run,Question.forced,decide_eq_true_eq,hf,if_false,Question.cut]
     rfl
  obtain⟨j,w1,hj,hx,hh,hrun⟩:=hch
  have hj':j<(a::L).length:=by simpa using hj
  refine⟨(a::L)[j],List.getElem_mem hj',w1,hx,hh,?_⟩
  have hset:∀ob':Obj,(setObj r ob').run P w1= .ok () {w1 with heap:=w1.heap.setIfInBounds r ob'}:=fun ob'=>by
   simp[setObj,Sem.run,hh,hr]
  simp only[List.isEmpty_toArray,List.isEmpty_cons,Bool.false_eq_true,if_false,Array.empty_append,Array.size_map,hrun,Result.andThen_ok,Array.getElem?_map,Array.getElem?_eq_getElem hj,Option.map_some,Sem.run_bind,hset,Sem.run_pure]
  simp
theorem b0I {k m since clock:Nat} {seen:List Nat}:∀{l:List (AV×AV×Nat)} {p:AV×AV×Nat},p∈l->(AV.tup [.bool true,p.1,p.2.1],s.set k (.iter m since (seen++[p.2.2]) clock))∈b6c s k m since seen clock l
 |q::r,p,h=>by
  simp only[b6c]
  rcases List.mem_cons.1 h with rfl|h
  ·exact List.mem_cons_self
  ·exact List.mem_cons_of_mem _ (b0I h)
theorem c9c {a0H:List (AV×S)} (ho:o.op= .next x false) (h:evX P kty s wm vs (.next x false)=some a0H) (hI:Inv P σ s wm H0 H):Opn P o (rzs σ vs) H (Out P σ s wm H0 a0H):=by
 have hos:o.op.operands.toList=[x]:=by simp[ho,Op.operands]
 simp only[evX,d6Q]at h
 split at h
 ·rename_i k hx
  split at h
  ·rename_i m since seen last hk
   split at h
   ·rename_i es clock hm
    unfold nxt at h
    obtain⟨hg,h⟩:=a0p h
    simp only[Bool.and_eq_true,Bool.or_eq_true,List.isEmpty_iff]at hg
    obtain⟨⟨g1,g2⟩,g3⟩:=hg
    have g3:=a3g g3
    obtain⟨_,hmn,hR⟩:=hI.ob hk
    obtain⟨_,hlt,hRm⟩:=hI.ob hm
    have hfil:(a4b σ es).filter (fun e=> !seen.any (Nat.beq e.born))=a4b σ (es.filter fun p=> !seen.any (Nat.beq p.2.2)):=by
     unfold a4b;rw[List.filter_map];rfl
    intro w hw
    have hr:=hw _ _ hR
    have hmw:=hw _ _ hRm
    have run:=b8D (P:=P) (ty:=o.type) hr hmw (by
     intro e he
     rw[hfil]at he
     obtain⟨p,hp,rfl⟩:=List.mem_map.1 he
     rw[List.all_eq_true]at g1
     exact a2R (g1 p hp)) (by
     rcases g2 with(h|h)|h
     ·exact .inl h
     ·exact .inr (.inl (by rw[h];rfl))
     ·rw[List.any_eq_true]at h
      obtain⟨p,hp,hb⟩:=h
      exact .inr (.inr ⟨⟨rz σ p.1,rz σ p.2.1,p.2.2⟩,List.mem_map.2 ⟨p,hp,rfl⟩,a2R hb⟩))
    rw[hfil]at run
    unfold Stp
    rw[hos]
    simp only[execOp,ho,(a0V (σ:=σ) hx).1,rz,Sem.run_bind]
    rcases run with⟨h1,h2⟩|⟨e,he,w1,hx1,hh,h2⟩
    ·rw[h2]
     simp only[Result.andThen_ok,Sem.run_pure]
     have h1:(es.filter fun p=> !seen.any (Nat.beq p.2.2))=[]:=by simpa[a4b]using h1
     rw[h1]at h
     simp only[Option.some.injEq]at h;subst h
     exact⟨_,Step.refl hw,_,List.mem_singleton.2 rfl,σ,by simp[rz,rzs],by simp[lt,lts],hI,Ex.refl _ _⟩
    ·rw[h2]
     simp only[Result.andThen_ok,Sem.run_pure]
     obtain⟨p,hp,rfl⟩:=List.mem_map.1 he
     have hpe:p∈es:=(List.mem_filter.1 hp).1
     have hmem:(AV.tup [.bool true,p.1,p.2.1],s.set k (.iter m since (seen++[p.2.2]) clock))∈a0H:=by
      split at h
      ·rename_i e;rw[e]at hp;cases hp
      ·simp only[Option.some.injEq]at h;subst h
       exact b0I hp
     refine⟨_,(Step.of_ext hw hx1).trans (Step.setB (hw.ext hx1) hR _),_,hmem,σ,by simp[rz,rzs],by simp only[lt,lts];exact⟨trivial,(hlt p hpe).1,(hlt p hpe).2,trivial⟩,hI.set (o:= .iter m since (seen++[p.2.2]) clock) hk g3 hmn ?_,Ex.set hk⟩
     simp only[RO,PH.put_self]
   ·cases h
  ·cases h
 ·cases h
theorem b3W {e:TypeId} {a:AV} {xs:List AV} (h:rdS P s e a=some xs) (hI:Inv P σ s wm H0 H):lts s.n xs/\((a= .nsl/\xs=[])\/∃k q n c,rz σ a= .slice (some ⟨(σ k).1,q,none⟩) n c/\a7P a=some n/\xs.length=n*P.cellsOf e/\
  ∃cs T,H (σ k).1=some (.cells cs T (0,0))/\(cs.toList.drop q).take (n*P.cellsOf e)=rzs σ xs):=by
 have go:∀{k q n:Nat},(match pkL s k with|some l=>gd (Nat.ble (Nat.add q (Nat.mul n (P.cellsOf e))) l.length) (some ((l.drop q).take (Nat.mul n (P.cellsOf e))))|none=>none)=some xs->lts s.n xs/\xs.length=n*P.cellsOf e/\
   ∃cs T,H (σ k).1=some (.cells cs T (0,0))/\(cs.toList.drop q).take (n*P.cellsOf e)=rzs σ xs:=fun{k q n} h=>by
  split at h
  ·rename_i l hl
   obtain⟨hq,h⟩:=a0p h
   have hq:q+n*P.cellsOf e<=l.length:=a3g hq
   simp only[Option.some.injEq]at h;subst h
   obtain⟨cs,T,r,hH,hcs,hlt⟩:=d3b hI hl
   refine⟨a4s (a5H hlt),?_,cs,T,hH,?_⟩
   ·rw[List.length_take,List.length_drop];show min (n*P.cellsOf e) _=_;omega
   ·rw[hcs,a2o,a3z,List.drop_append_of_le_length (by rw[a0w];omega),List.take_append_of_le_length (by rw[List.length_drop,a0w];omega)];rfl
  ·cases h
 cases a
 case nsl=>simp only[rdS,Option.some.injEq]at h;subst h;exact⟨by simp[lts],.inl ⟨rfl,rfl⟩⟩
 case sl k q n c=>
  simp only[rdS,a0K]at h
  obtain⟨h1,h2,h3⟩:=go h
  exact⟨h1,.inr ⟨k,q,n,c,by rw[rz],rfl,h2,h3⟩⟩
 case sg k q n d=>
  simp only[rdS,a0K]at h
  obtain⟨h1,h2,h3⟩:=go h
  exact⟨h1,.inr ⟨k,q,n,_,by rw[rz],rfl,h2,h3⟩⟩
 all_goals exact absurd h (by simp[rdS])
theorem c9d {e:TypeId} {k q n d:Nat} (h:sgB P s e k q n d=true) (hI:Inv P σ s wm H0 H):n<=(σ k).2-d:=by
 unfold sgB at h
 simp only[a0K]at h
 split at h
 ·rename_i l' T' hk
  simp only[Bool.and_eq_true]at h
  obtain⟨⟨⟨e1,e2⟩,e3⟩,e4⟩:=h
  obtain⟨_,_,cs,r,_,hsz,_,hcs⟩:=hI.ob hk
  have e1:=a1E e1
  have e2:=a2R e2
  have e3:q=d*P.cellsOf e:=a1E e3
  have e4:q+n*P.cellsOf e<=l'.length:=a3g e4
  have hsz2:cs.size=l'.length+r.length:=by rw[<-Array.length_toList,hcs,List.length_append,a0w]
  rw[e1]at hsz
  have:(d+n)*P.cellsOf e<=(σ k).2*P.cellsOf e:=by rw[Nat.add_mul];omega
  have:=Nat.le_of_mul_le_mul_right this e2
  omega
 ·cases h
theorem c9e {e:TypeId} {a:AV} {n:Nat} (h:d6L P s e a=true) (hn:a7P a=some n) (hI:Inv P σ s wm H0 H):∃ad c,rz σ a= .slice ad n c/\n<=c:=by
 cases a
 case nsl=>simp only[a7P,Option.some.injEq]at hn;subst hn;exact⟨none,0,by rw[rz],Nat.le_refl _⟩
 case sl k q n' c=>simp only[a7P,Option.some.injEq]at hn;subst hn;exact⟨_,c,by rw[rz],a3g h⟩
 case sg k q n' d=>simp only[a7P,Option.some.injEq]at hn;subst hn;exact⟨_,_,by rw[rz],c9d h hI⟩
 all_goals exact absurd hn (by simp[a7P])
theorem b3X {l:List AV} (h:c6z l=true):∀c∈rzs σ l,c.oneCell'=true:=fun c hc=>by
 rw[b1L];exact a9a (σ:=σ) h c (by simpa using hc)
theorem a9h {w:World} {e:TypeId} {i:TypeInfo} {z:Value} {old n':Nat} {xs:List AV} (hI:Inv P σ s wm H0 H) (hw:H.In w) (hzs:z.cells.size=i.size) (hc:P.cellsOf e=i.size) (hx:xs.length=n'*P.cellsOf e) (hm:n'<=maxLen) (hlt:lts s.n xs):
  ∃H',Step H w H' (w.drew.alloc (.cells ((rzs σ xs).toArray++Builtin.zeroCells z.cells (grownCap w n' old e-n')) e))/\Out P σ s wm H0 [(.sg s.n 0 n' 0,s.add (.grown xs e))] (.slice (some ⟨w.heap.size,0,none⟩) n' (grownCap w n' old e)) H':=by
 have hd:Ext w w.drew:=⟨rfl,rfl,rfl,Nat.le_refl _,fun _ _=>rfl⟩
 have hge:=grownCap_ge w n' old e
 have hcm:grownCap w n' old e<=maxLen:=grownCap_le_maxLen w n' old e hm
 refine⟨_,(Step.of_ext hw hd).trans (Step.newB (hw.ext hd) _),_,List.mem_singleton.2 rfl,up σ s.n (w.heap.size,grownCap w n' old e),by simp only[rz,a1f,Nat.sub_zero],by simp only[lt];exact Nat.lt_succ_self _,hI.new (b:=(w.heap.size,grownCap w n' old e)) hw.fresh (a0E (Nat.le_succ _) _ hlt) ?_,Ex.add _⟩
 refine⟨_,(Builtin.zeroCells z.cells (grownCap w n' old e-n')).toList,by rw[a1f];exact PH.put_self _ _ _,?_,by rw[a1f];exact hcm,?_⟩
 ·rw[a1f]
  simp only[Array.size_append,List.size_toArray,size_zeroCells,hzs,a0w,hx,hc,<-Nat.add_mul]
  congr 1
  omega
 ·rw[Array.toList_append,a1N (fun k hk=>a5w σ s.n _ hk) xs hlt]
theorem b8E {c:Call} {a0H:List (AV×S)} (hc:c.callee= .builtin .append) {x y:Operand} (ha:c.args.toList=[x,y]) (ho:o.op= .call c) (h:evX P kty s wm vs (.call c)=some a0H) (hI:Inv P σ s wm H0 H) (hl:lts s.n vs):Opn P o (rzs σ vs) H (Out P σ s wm H0 a0H):=by
 simp only[evX,d4W,hc,ha,d6R]at h
 split at h
 ·rename_i t t' ht
  split at h
  ·rename_i e hu
   split at h
   ·rename_i a b hx hy
    split at h
    ·rename_i news m n hnews hm hn
     obtain⟨hg,h'⟩:=a0p h
     clear h
     simp only[Bool.and_eq_true]at hg
     obtain⟨⟨g1,g2⟩,g3⟩:=hg
     obtain rfl:=a1E g1
     obtain⟨i,z,hi,hz,hzs,hby,hpos,_,hcell⟩:=a6O g2
     have ho':o.op= .call ⟨.builtin .append,#[x,y],#[t,t]⟩:=by rw[ho,a4u hc (c6G ha) (c6G ht)]
     have hos:o.op.operands.toList=[x,y]:=by simp[ho',Op.operands,Call.operands]
     have ha1:=a0V (σ:=σ) hx
     have hb1:=a0V (σ:=σ) hy
     obtain⟨hlt,hsrc⟩:=b3W (σ:=σ) hnews hI
     obtain⟨ad,cp,hae,hcap⟩:=c9e (σ:=σ) g3 hn hI
     intro w hw
     unfold Stp
     rw[hos]
     simp only[execOp,ho',resolve,invoke,Sem.run_bind,Sem.run_pure,Result.andThen_ok,List.map_toArray,List.map_cons,List.map_nil,ha1.1,hb1.1,builtin]
     split at h'
     ·--nothing comes
      simp only[Option.some.injEq]at h';subst h'
      obtain⟨ad2,cp2,hbe⟩:∃ad2 cp2,rz σ b= .slice ad2 0 cp2:=by
       rcases hsrc with⟨rfl,_⟩|⟨k,q,n2,c2,h1,h2,_⟩
       ·exact⟨none,0,by rw[rz]⟩
       ·rw[hm]at h2;cases h2;exact⟨_,_,h1⟩
      have hr:(Builtin.append_ #[t,t] o.type #[.slice ad n cp,.slice ad2 0 cp2]).run P w= .ok (.slice ad n cp) w:=by
       cases ad<;>cases ad2<;>simp[Builtin.append_,run_underlying hu,sizeOf,typeInfo,hi,hcap,storeCells,Builtin.lenOf,Builtin.firstCells,loadCells,loadCellsFrom]
      rw[hae,hbe,hr]
      exact⟨_,Step.refl hw,_,List.mem_singleton.2 rfl,σ,hae.symm,ha1.2 _ hl,hI,Ex.refl _ _⟩
     ·rename_i m
      obtain⟨hg,h⟩:=a0p h'
      clear h'
      rw[Bool.and_eq_true]at hg
      have hone:=b3X (σ:=σ) hg.1
      have hmax:n+(m+1)<=1000000:=a3g hg.2
      have hml:n+(m+1)<=maxLen:=by simp only[maxLen];omega
      obtain⟨kb,qb,nb,cb,hbe,hlb,hnl,csb,Tb,hHb,htb⟩:=hsrc.resolve_left (fun h=>by obtain⟨rfl,_⟩:=h;simp[a7P]at hm)
      rw[hm]at hlb;cases hlb
      have hsrcw:=a2s (hw _ _ hHb) htb
      have hbytes:(n+(m+1))*i.bytes<=140737488355328:=Nat.le_trans (Nat.mul_le_mul hmax hby) (by decide)
      have hnl':(rzs σ news).length=(m+1)*i.size:=by rw[a0w,hnl,hcell]
      rw[hbe]
      cases a
      case nsl=> --append to nil
       simp only[app]at h
       simp only[Option.some.injEq]at h;subst h
       simp only[a7P,Option.some.injEq]at hn;subst hn
       have hr:=run_append_nil (P:=P) w t o.type e i z hu hi hz ⟨(σ kb).1,qb,none⟩ (m+1) cb (rzs σ news) hnl' hsrcw (by omega) (by omega) (by rw[Nat.zero_add]at hbytes;omega)
       have e0:rz σ .nsl= .slice none 0 0:=by rw[rz]
       rw[e0,hr]
       exact a9h (n':=m+1) hI hw hzs hcell hnl (by rw[Nat.zero_add]at hml;exact hml) hlt
      case sl k q n2 c2=>
       simp only[a7P,Option.some.injEq]at hn;subst hn
       simp only[app]at h
       split at h
       ·--there is room
        rename_i hroom
        have hroom:n2+(m+1)<=c2:=a3g hroom
        split at h
        ·rename_i l2 T2 hk
         obtain⟨hg2,h'⟩:=a0p h
         clear h
         rw[Bool.and_eq_true]at hg2
         obtain rfl:=a1E hg2.1
         obtain rfl:=a1E hg2.2
         split at h'
         ·rename_i s' hs'
          simp only[Option.some.injEq]at h';subst h'
          obtain⟨cs,T',hH,hq,hI',hn',hE⟩:=c8X hI hs' hlt
          have hH2:=(hI.ob hk).2.2
          simp only[RO]at hH2
          rw[hH2]at hH
          simp only[Option.some.injEq,Obj.cells.injEq]at hH
          obtain⟨rfl,rfl,_⟩:=hH
          have hq':n2*i.size+(rzs σ news).length<=(rzs σ l2).toArray.size:=by rw[a0w,<-hcell];exact hq
          have hr:=run_append_room (P:=P) w t o.type _ i hu hi (σ k).1 n2 c2 _ (hw _ _ hH2) ⟨(σ kb).1,qb,none⟩ (m+1) cb (rzs σ news) hnl' hsrcw hone hroom hq'
          have e0:rz σ (.sl k 0 n2 c2)= .slice (some ⟨(σ k).1,0,none⟩) n2 c2:=by rw[rz]
          rw[e0,hr]
          rw[<-b3V hq']
          refine⟨_,a5K hw hH2,_,List.mem_singleton.2 rfl,σ,by rw[rz];rfl,?_,?_,hE⟩
          ·have:=ha1.2 _ hl;simp only[lt]at this⊢;rw[hn'];exact this
          ·rw[<-hcell];exact hI'
         ·cases h'
        ·cases h
       ·--there is none
        rename_i hroom
        have hroom:¬n2+(m+1)<=c2:=fun hh=>by
         have:Nat.ble (Nat.add n2 (m+1)) c2=true:=Nat.ble_eq_true_of_le hh
         rw[this]at hroom;cases hroom
        split at h
        ·rename_i old hold
         simp only[Option.some.injEq]at h;subst h
         obtain⟨hlo,hso⟩:=b3W (σ:=σ) hold hI
         obtain⟨k3,q3,n3,c3,e3,l3,len3,cs3,T3,hH3,ht3⟩:=hso.resolve_left (fun h=>by cases h.1)
         rw[rz]at e3
         injection e3 with e3 e4 e5
         subst e4;subst e5
         injection e3 with e3
         injection e3 with e3 e6
         subst e6
         have holds:=a2s (hw _ _ hH3) ht3
         rw[<-e3]at holds
         have hr:=run_append_grow (P:=P) w t o.type e i z hu hi hz ⟨(σ k).1,q,none⟩ n2 c2 (rzs σ old) (by rw[a0w,len3,hcell]) holds ⟨(σ kb).1,qb,none⟩ (m+1) cb (rzs σ news) hnl' hsrcw (by omega) (by omega) (growslice_fits (by omega) hbytes)
         have e0:rz σ (.sl k q n2 c2)= .slice (some ⟨(σ k).1,q,none⟩) n2 c2:=by rw[rz]
         rw[e0,hr]
         have:=a9h (old:=c2) (n':=n2+(m+1)) (xs:=old++news) hI hw hzs hcell (by rw[List.length_append,len3,hnl,Nat.add_mul]) hml (lts_app.2 ⟨hlo,hlt⟩)
         rw[a3e]at this
         simpa using this
        ·cases h
      case sg k q n2 d=>
       obtain rfl:q=0:=by cases q with|zero=>rfl|succ q=>simp[app]at h
       obtain rfl:d=0:=by cases d with|zero=>rfl|succ q=>simp[app]at h
       simp only[a7P,Option.some.injEq]at hn;subst hn
       simp only[app]at h
       split at h
       ·rename_i l T hk
        obtain⟨hg2,h⟩:=a0p h
        simp only[Bool.and_eq_true]at hg2
        obtain⟨⟨f1,f2⟩,f3⟩:=hg2
        obtain rfl:=a1E f1
        have f2:l.length=n2*P.cellsOf T:=by rw[a0K]at f2;exact a1E f2
        have f3:=a3g f3
        simp only[Option.some.injEq]at h;subst h
        obtain⟨hkn,hll,cs,r,hH,hsz,hrm,hcs⟩:=hI.ob hk
        have e0:rz σ (.sg k 0 n2 0)= .slice (some ⟨(σ k).1,0,none⟩) n2 (σ k).2:=by rw[rz,Nat.sub_zero]
        rw[e0]
        have hlr:lts s.n (l++news):=lts_app.2 ⟨hll,hlt⟩
        have hll':(rzs σ l).length=n2*i.size:=by rw[a0w,f2,hcell]
        have htk:(cs.toList.drop 0).take (n2*i.size)=rzs σ l:=by rw[List.drop_zero,hcs,<-hll'];exact List.take_left
        by_cases hroom:n2+(m+1)<=(σ k).2
        ·have hsz':cs.size=(σ k).2*i.size:=by rw[hsz,hcell]
         have hq:n2*i.size+(rzs σ news).length<=cs.size:=by rw[hnl',hsz',<-Nat.add_mul];exact Nat.mul_le_mul_right _ hroom
         have hr:=run_append_room (P:=P) w t o.type T i hu hi (σ k).1 n2 (σ k).2 cs (hw _ _ hH) ⟨(σ kb).1,qb,none⟩ (m+1) cb (rzs σ news) hnl' hsrcw hone hroom hq
         rw[hr]
         refine⟨_,a5K hw hH,_,List.mem_singleton.2 rfl,up σ s.n (σ k),by simp only[rz];rw[a1f,Nat.sub_zero];rfl,by simp only[lt];exact Nat.lt_succ_self _,(hI.del k).add (b:=σ k) (fun{j o'} hj he=> ?_) (hI.fr hk f3) (a0E (Nat.le_succ _) _ hlr) ⟨_,cs.toList.drop (n2*i.size+(rzs σ news).length),by rw[show(s.del k).n=s.n from rfl,a1f];exact PH.put_self _ _ _,?_,by rw[show(s.del k).n=s.n from rfl,a1f];exact hrm,?_⟩,(Ex.del k).trans (Ex.add _)⟩
         ·rw[S.get_del]at hj
          split at hj
          ·cases hj
          ·rename_i hjk;exact hjk (hI.inj hj hk he)
         ·rw[show(s.del k).n=s.n from rfl,a1f,<-hsz]
          simp only[List.size_toArray,List.length_append,List.length_take,List.length_drop,Array.length_toList]
          omega
         ·rw[show(s.del k).n=s.n from rfl,a1N (fun j hj=>a5w σ s.n (σ k) hj) _ hlr,a3e]
          simp only[List.drop_zero]at htk
          rw[htk]
        ·have hr:=run_append_grow (P:=P) w t o.type T i z hu hi hz ⟨(σ k).1,0,none⟩ n2 (σ k).2 (rzs σ l) hll' (a2s (hw _ _ hH) htk) ⟨(σ kb).1,qb,none⟩ (m+1) cb (rzs σ news) hnl' hsrcw (by omega) (by omega) (growslice_fits (by omega) hbytes)
         rw[hr]
         have:=a9h (old:=(σ k).2) (n':=n2+(m+1)) (xs:=l++news) (hI.del k) hw hzs hcell (by rw[List.length_append,f2,hnl,Nat.add_mul]) hml hlr
         rw[a3e]at this
         obtain⟨H',hst,p,hp,σ',q1,q2,q3,q4⟩:=this
         refine⟨H',by simpa using hst,p,hp,σ',q1,q2,q3,(Ex.del k).trans q4⟩
       ·cases h
      all_goals exact absurd hn (by simp[a7P])
    ·cases h
   ·cases h
  ·cases h
 ·cases h
end
end Go.RZ
/- Concrete runs: copy, all operations with effects; what a call leaves. -/
namespace Go.RZ
open Go.RowKit Go.RX Go.GS Go.WideMaps
section
variable {P:Program} {kty:TypeId->Bool} {σ:Rl} {s:S} {wm:Nat} {H0 H:PH} {o:Oper} {vs:List AV} {x y:Operand} {v:AV}
theorem b3Y (m n:Nat):(bif Nat.ble m n then m else n)=Nat.min m n:=by
 cases h:Nat.ble m n with
 |true=>have:=a3g h;rw[cond_true];exact(Nat.min_eq_left this).symm
 |false=>
  rw[cond_false]
  refine(Nat.min_eq_right ?_).symm
  rcases Nat.lt_or_ge n m with h2|h2
  ·omega
  ·have:=Nat.ble_eq_true_of_le h2;rw[this]at h;cases h
theorem c9f {c:Call} {a0H:List (AV×S)} (hc:c.callee= .builtin .copy) {x y:Operand} (ha:c.args.toList=[x,y]) (ho:o.op= .call c) (h:evX P kty s wm vs (.call c)=some a0H) (hI:Inv P σ s wm H0 H) (hl:lts s.n vs):Opn P o (rzs σ vs) H (Out P σ s wm H0 a0H):=by
 simp only[evX,d4W,hc,ha,d6S]at h
 split at h
 ·rename_i t t' ht
  split at h
  ·rename_i e hu
   split at h
   ·rename_i a b hx hy
    split at h
    ·rename_i n w' m hn hw' hm
     obtain⟨hg,h'⟩:=a0p h
     clear h
     simp only[Bool.and_eq_true]at hg
     obtain⟨⟨g1,g2⟩,g3⟩:=hg
     have g2:=a1E g2
     obtain⟨⟨i,hi⟩,_⟩:=a0R g1
     have hi1:i.size=1:=by rw[<-g2];unfold Program.cellsOf;rw[hi];rfl
     have hs1:(P.info? e).map (·.size)=some 1:=by rw[hi];simp[hi1]
     split at h'
     ·rename_i s' hs'
      simp only[Option.some.injEq]at h';subst h'
      rw[b3Y]at hs'
      have ho':o.op= .call ⟨.builtin .copy,#[x,y],#[t,t']⟩:=by rw[ho,a4u hc (c6G ha) (c6G ht)]
      have hos:o.op.operands.toList=[x,y]:=by simp[ho',Op.operands,Call.operands]
      have ha1:=a0V (σ:=σ) hx
      have hb1:=a0V (σ:=σ) hy
      obtain⟨hlt,hsrc⟩:=b3W (σ:=σ) hw' hI
      have hlt':lts s.n (w'.take (Nat.min m n)):=a4s hlt
      have hone:∀c∈rzs σ (w'.take (Nat.min m n)),c.oneCell'=true:=fun c hc=>b3X (σ:=σ) g3 c (by rw[a2o]at hc;exact List.mem_of_mem_take hc)
      intro w hw
      unfold Stp
      rw[hos]
      simp only[execOp,ho',resolve,invoke,Sem.run_bind,Sem.run_pure,Result.andThen_ok,List.map_toArray,List.map_cons,List.map_nil,ha1.1,hb1.1,builtin]
      have tgt:(a= .nsl/\s'=s/\n=0)\/∃k q c,rz σ a= .slice (some ⟨(σ k).1,q,none⟩) n c/\wrS s wm k q (w'.take (Nat.min m n))=some s':=by
       cases a
       case nsl=>simp only[cpy,Option.some.injEq]at hs';simp only[a7P,Option.some.injEq]at hn;exact .inl ⟨rfl,hs'.symm,hn.symm⟩
       case sl k q n' c'=>simp only[a7P,Option.some.injEq]at hn;subst hn;exact .inr ⟨k,q,c',by rw[rz],hs'⟩
       case sg k q n' d=>simp only[a7P,Option.some.injEq]at hn;subst hn;exact .inr ⟨k,q,_,by rw[rz],hs'⟩
       all_goals exact absurd hn (by simp[a7P])
      have srcV:∃ad c,rz σ b= .slice ad m c/\(0<m->∃kb qb,ad=some ⟨(σ kb).1,qb,none⟩/\∀j u,(rzs σ (w'.take (Nat.min m n)))[j]? =some u->w.cell? ((⟨(σ kb).1,qb,none⟩:Addr).add j)=some u)/\w'.length=m:=by
       rcases hsrc with⟨rfl,rfl⟩|⟨kb,qb,nb,cb,hbe,hlb,hnl,csb,Tb,hHb,htb⟩
       ·simp only[a7P,Option.some.injEq]at hm;subst hm
        exact⟨none,0,by rw[rz],fun h=>absurd h (by omega),rfl⟩
       ·rw[hm]at hlb;cases hlb
        rw[g2,Nat.mul_one]at hnl htb
        refine⟨_,cb,hbe,fun _=>⟨kb,qb,rfl,fun j u hj=> ?_⟩,hnl⟩
        have:=a2s (hw _ _ hHb) htb
        rw[a2o,List.getElem?_take]at hj
        split at hj
        ·exact this j u hj
        ·cases hj
      obtain⟨ad,cb,hbe,hsrcw,hwl⟩:=srcV
      rw[hbe]
      have hjl:(w'.take (Nat.min m n)).length=Nat.min m n:=by rw[List.length_take,hwl];show min (min m n) m=min m n;omega
      have none_:∀ad' c',rz σ a= .slice ad' n c'->Nat.min m n=0->(Builtin.copy_ #[t,t'] o.type #[rz σ a,.slice ad m cb]).run P w= .ok (goInt 0) w:=fun ad' c' hae h0=>by
       rw[hae];exact run_copy_none w t t' o.type e ad' ad n c' m cb hu hs1 h0
      have val:∀j:Nat,Nat.min m n=j->goInt j=rz σ (.int .i64 (.ofNat (bif Nat.ble m n then m else n))):=fun j hj=>by rw[b3Y,hj,rz];rfl
      rcases tgt with⟨rfl,rfl,rfl⟩|⟨k,q,c,hae,hwr⟩
      ·have h0:Nat.min m 0=0:=Nat.min_eq_right (Nat.zero_le _)
       rw[none_ none 0 (by rw[rz]) h0]
       exact⟨_,Step.refl hw,_,List.mem_singleton.2 rfl,σ,val 0 h0,by simp[lt],hI,Ex.refl _ _⟩
      ·obtain⟨cs,T,hH,hq,hI',hn',hE⟩:=c8X hI hwr hlt'
       by_cases h0:Nat.min m n=0
       ·rw[none_ _ c hae h0]
        have e0:w'.take (Nat.min m n)=[]:=List.eq_nil_of_length_eq_zero (by rw[hjl,h0])
        rw[e0]at hI'
        have e1:H.put (σ k).1 (.cells (spl cs q (rzs σ [])) T (0,0))=H:=PH.put_same hH
        rw[e1]at hI'
        exact⟨_,Step.refl hw,_,List.mem_singleton.2 rfl,σ,val 0 h0,by simp[lt],hI',hE⟩
       ·have hm0:0<m:=by
         rcases Nat.eq_zero_or_pos m with h|h
         ·subst h;exact absurd (Nat.min_eq_left (Nat.zero_le _)) h0
         ·exact h
        obtain⟨kb,qb,rfl,hcell⟩:=hsrcw hm0
        have hr:=run_copy_row (P:=P) w t t' o.type e (σ k).1 q n c ⟨(σ kb).1,qb,none⟩ m cb cs T (rzs σ (w'.take (Nat.min m n))) hu hs1 (hw _ _ hH) (by rw[a0w,hjl]) hcell (by rw[a0w];exact hq) hone
        rw[hae,hr,<-b3V (by rw[a0w];exact hq)]
        exact⟨_,a5K hw hH,_,List.mem_singleton.2 rfl,σ,val _ (by rw[a0w,hjl]),by simp[lt],hI',hE⟩
     ·cases h'
    ·cases h
   ·cases h
  ·cases h
 ·cases h
theorem d3h {a0H:List (AV×S)} (hK:∀t,kty t=true->a7R P t) (h:evX P kty s wm vs o.op=some a0H) (hI:Inv P σ s wm H0 H) (hl:lts s.n vs):Opn P o (rzs σ vs) H (Out P σ s wm H0 a0H):=by
 cases ho:o.op<;>rw[ho]at h
 case store=>exact c4y ho h hI hl
 case makeFunc fn bs cs=>
  cases fn with
  |func f=>exact c9a ho h hI hl
  |_=>exact absurd h (by simp[evX])
 case mapUpdate=>exact d3g hK ho h hI hl
 case range=>exact c4A ho h hI
 case next x b=>
  cases b with
  |false=>exact c9c ho h hI
  |true=>exact absurd h (by simp[evX])
 case call c=>
  have h2:=h
  simp only[evX,d4W]at h2
  split at h2
  ·rename_i x y hc ha;exact b8E hc ha ho h hI hl
  ·rename_i x y hc ha;exact c9f hc ha ho h hI hl
  ·cases h2
 all_goals exact absurd h (by simp[evX])
theorem d3i {a0H:List (AV×S)} (hK:∀t,kty t=true->a7R P t) (h:evE P kty s wm vs o.op=some a0H) (hI:Inv P σ s wm H0 H) (hl:lts s.n vs):Opn P o (rzs σ vs) H (Out P σ s wm H0 a0H):=by
 unfold evE at h
 split at h
 ·rename_i v ob hm
  simp only[Option.some.injEq]at h;subst h
  obtain⟨mk,ob',hr,h1,h2,h3⟩:=c6I (σ:=σ) hm hl
  intro w hw
  unfold Stp
  rw[hr w]
  obtain⟨h4,h5⟩:=h3 w.heap.size
  exact⟨_,Step.newB hw _,_,List.mem_singleton.2 rfl,up σ s.n (w.heap.size,0),h4,h1,hI.new (b:=(w.heap.size,0)) hw.fresh h2 (h5 H),Ex.add _⟩
 ·split at h
  ·rename_i l hx
   simp only[Option.some.injEq]at h;subst h
   exact d3h hK hx hI hl
  ·split at h
   ·rename_i v hv
    simp only[Option.some.injEq]at h;subst h
    obtain⟨h1,h2⟩:=c6H (σ:=σ) hK hv hI hl
    intro w hw
    unfold Stp
    rw[h1 w hw]
    exact⟨_,Step.refl hw,_,List.mem_singleton.2 rfl,σ,rfl,h2,hI,Ex.refl _ _⟩
   ·cases h
end
end Go.RZ

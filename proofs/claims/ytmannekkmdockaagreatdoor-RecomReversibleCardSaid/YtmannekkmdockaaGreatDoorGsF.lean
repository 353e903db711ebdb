/- Concrete runs: operations that read. -/
import Derived.Test.YtmannekkmdockaaGreatDoorRzB
import Derived.Test.YtmannekkmdockaaGreatDoorGsD
import Derived.DeepKeys3
import Derived.Test.YtmannekkmdockaaGreatDoorProg
import Derived.Test.YtmannekkmdockaaGreatDoorRxW
import Derived.Test.YtmannekkmdockaaGreatDoorGsB
namespace Go.RZ
open Go.RowKit Go.RX Go.GS Go.WideMaps
structure b3u (P:Program) (t:TypeId):Prop where
 at6:P.keyTypeAt 6 t=true
 tiled:P.tiled 6 t=true
 wide:(match P.underlying t with|some (.array _ _)|some (.struct _)=>true|_=>false)=true
 noguard:P.eqGuardType P.depth t=false
 key:P.keyType t=true
 big:6<=P.types.size+1
theorem a8l {α β:Type} {f:α->Option β}:∀{l:List α},(∀x∈l,∃y,f x=some y)->∃ys,l.mapM f=some ys
 |[],_=>⟨[],rfl⟩
 |x::r,h=>by
  obtain⟨y,hy⟩:=h x (by simp)
  obtain⟨ys,hys⟩:=a8l (l:=r) (f:=f) fun z hz=>h z (by simp[hz])
  exact⟨y::ys,by simp[List.mapM_cons,hy,hys]⟩
theorem d4u {q:IntKind} {n:Int} (h:okI q n=true):(Lit.int q n).wf=true:=by
 unfold okI at h
 split at h
 ·have:=d6O h;simp[Lit.wf,IntKind.min,IntKind.max,IntKind.signed,IntKind.bits];omega
 ·have:=d6O h;simp[Lit.wf,IntKind.min,IntKind.max,IntKind.signed,IntKind.bits];omega
 ·have:=d6O h;simp[Lit.wf,IntKind.min,IntKind.max,IntKind.signed,IntKind.bits];omega
 ·cases h
theorem a8m {P:Program} {σ:Rl}:∀(d:Nat) (t:TypeId) (l:List AV),P.keyTypeAt d t=true->b4n P d t l=true->∀D,d<=D->∃L,P.keyLits D t (rzs σ l)=some L
 |0,_,_,h,_,_,_=>by simp[Program.keyTypeAt]at h
 |d+1,t,l,hk,hf,D,hD=>by
  obtain⟨D,rfl⟩:∃E,D=E+1:=⟨D-1,by omega⟩
  unfold Program.keyTypeAt at hk
  unfold b4n at hf
  simp only[c0O]at hf
  unfold Program.keyLits
  cases hu:P.underlying t with
  |none=>simp[hu]at hf
  |some kd=>
   rw[hu]at hk hf
   cases kd<;>simp only[Bool.false_eq_true]at hk hf
   case some.bool=>
    split at hf
    ·exact⟨_,rfl⟩
    ·cases hf
   case some.int q=>
    split at hf
    ·rename_i k n
     simp only[Bool.and_eq_true,Bool.or_eq_true]at hf
     have hk:k=q:=by simpa[isK]using hf.1
     subst hk
     have hw:(Lit.int k n).wf=true:=hf.2.elim d4u id
     exact⟨_,by simp only[rzs,rz];exact if_pos ⟨trivial,hw⟩⟩
    ·cases hf
   case some.array n e=>
    rw[Bool.and_eq_true]at hf
    obtain⟨h1,h2⟩:=hf
    have h1:=c7Q h1
    rw[List.all_eq_true]at h2
    have:∃ys,(List.range n).mapM (fun i=>P.keyLits D e (((rzs σ l).drop (i*P.cellsOf e)).take (P.cellsOf e)))=some ys:=by
     refine a8l fun i hi=> ?_
     obtain⟨L,hL⟩:=a8m d e _ hk (h2 i hi) D (by omega)
     exact⟨L,by rw[<-hL,b5S,b5T];rfl⟩
    obtain⟨ys,hys⟩:=this
    exact⟨_,by simp only[b4o,h1,if_true];rw[hys];rfl⟩
   case some.struct fs=>
    rw[Bool.and_eq_true]at hf
    obtain⟨h1,h2⟩:=hf
    have h1:=c7Q h1
    rw[List.all_eq_true]at h2
    simp only[Bool.and_eq_true]at hk
    have hn:=Array.all_eq_true_iff_forall_mem.1 hk.1.1
    have:∃ys,fs.toList.mapM (fun f=>P.keyLits D f.type (((rzs σ l).drop f.offset).take (P.cellsOf f.type)))=some ys:=by
     refine a8l fun f hi=> ?_
     have hf:=hn f (Array.mem_toList_iff.1 hi)
     rw[Bool.and_eq_true]at hf
     obtain⟨L,hL⟩:=a8m d f.type _ hf.2 (h2 f hi) D (by omega)
     exact⟨L,by rw[<-hL,b5S,b5T]⟩
    obtain⟨ys,hys⟩:=this
    have hall:fs.all (·.name != "_")=true:=Array.all_eq_true_iff_forall_mem.2 fun f hf=>by
     have:=hn f hf;rw[Bool.and_eq_true]at this;exact this.1
    exact⟨_,by simp only[b4o,h1];rw[if_pos ⟨trivial,hall⟩,hys];rfl⟩
theorem c5C {P:Program} {t:TypeId} {l:List AV} {d:Nat} (h:b4n P (d+1) t l=true) (hw:(match P.underlying t with|some (.array _ _)|some (.struct _)=>true|_=>false)=true):l.length=P.cellsOf t:=by
 unfold b4n at h
 simp only[c0O]at h
 split at h
 ·rename_i hu;rw[hu]at hw;cases hw
 ·rename_i hu;rw[hu]at hw;cases hw
 ·rw[Bool.and_eq_true]at h;exact c7Q h.1
 ·rw[Bool.and_eq_true]at h;exact c7Q h.1
 ·cases h
def ib:AV->Prop
 | .int _ _=>True
 | .bool _=>True
 |_=>False
theorem d6P {σ:Rl}:∀{v:AV} {c:Lit},rz σ v=c.toCell->ib v:=by
 intro v c h
 cases v<;>simp only[ib]<;>cases c<;>simp[rz,Lit.toCell]at h
theorem c7S {σ:Rl}:∀{l:List AV} {L:List Lit},rzs σ l=L.map Lit.toCell->∀v∈l,ib v
 |[],_,_,v,hv=>by cases hv
 |x::r,[],h,_,_=>by simp[rzs]at h
 |x::r,c::L,h,v,hv=>by
  simp only[rzs,List.map_cons,List.cons.injEq]at h
  rcases List.mem_cons.1 hv with rfl|hv
  ·exact d6P h.1
  ·exact c7S h.2 v hv
theorem b2G {σ:Rl}:∀{a b:List AV},(∀v∈a,ib v)->(a2j a b=true↔rzs σ a=rzs σ b)
 |[],[],_=>by simp[a2j]
 |[],y::q,_=>by simp[a2j,rzs]
 |x::r,[],h=>by
  have:=h x (by simp)
  cases x<;>simp[ib,a2j,rzs]at*
 |x::r,y::q,h=>by
  have h1:=h x (by simp)
  have ih:=b2G (σ:=σ) (a:=r) (b:=q) fun v hv=>h v (by simp[hv])
  cases x<;>simp only[ib]at h1
  ·rename_i k n
   cases y<;>simp only[a2j,rzs,rz,List.cons.injEq,Bool.and_eq_true,c7R,beq_iff_eq,isK,Value.int.injEq,ih]<;>simp
  ·rename_i k
   cases y<;>simp only[a2j,rzs,rz,List.cons.injEq,Bool.and_eq_true,beq_iff_eq,Value.bool.injEq,ih]<;>simp
section
variable {P:Program} {kty:TypeId->Bool}
theorem a8n {σ:Rl} {kt:TypeId} {l:List AV} (hK:∀t,kty t=true->b3u P t) (h:a9a P kty kt (.agg l)=true):b3u P kt/\(rz σ (.agg l)).formed P kt=true/\∀D,6<=D->∃L,P.keyLits D kt (rz σ (.agg l)).cells.toList=some L:=by
 simp only[a9a]at h
 rw[Bool.and_eq_true]at h
 have K:=hK _ h.1
 refine⟨K,?_,fun D hD=> ?_⟩
 ·have hl:=c5C h.2 K.wide
  have hw:=K.wide
  simp only[rz,Value.formed]
  split<;>simp_all[b4o]
 ·obtain⟨L,hL⟩:=a8m (σ:=σ) 6 kt l K.at6 h.2 D hD
  exact⟨L,by simp only[rz,Value.cells];simpa using hL⟩
theorem a3l {kt:TypeId} {v:AV} (hK:∀t,kty t=true->b3u P t) (h:a9a P kty kt v=true):(∃l,v= .agg l)\/∃q n,v= .int q n/\P.underlying kt=some (.int q):=by
 unfold a9a at h
 split at h
 ·exact .inl ⟨_,rfl⟩
 ·split at h
  ·rename_i k n _ q hu
   obtain rfl:k=q:=by simpa[isK]using h
   exact .inr ⟨_,_,rfl,hu⟩
  ·cases h
 ·cases h
theorem c5D {σ:Rl} {kt:TypeId} {a b:List AV} (hK:∀t,kty t=true->b3u P t) (ha:a9a P kty kt (.agg a)=true) (hb:a9a P kty kt (.agg b)=true) (w:World):
  (Op.equal kt (rz σ (.agg a)) (rz σ (.agg b))).run P w= .ok (a2j a b) w:=by
 obtain⟨K,fa,la⟩:=a8n (σ:=σ) hK ha
 obtain⟨_,fb,lb⟩:=a8n (σ:=σ) hK hb
 obtain⟨L,hL⟩:=la 6 (Nat.le_refl _)
 obtain⟨M,hM⟩:=lb 6 (Nat.le_refl _)
 obtain⟨r,hr,hiff⟩:=run_equalIn_deep (10000-6) 6 kt K.at6 w _ _ _ _ L M fa fb hL hM
 have c1:=cells_of_lits 6 kt K.tiled _ _ _ hL
 have c2:=cells_of_lits 6 kt K.tiled _ _ _ hM
 have c1':rzs σ a=L.map Lit.toCell:=by simpa[rz,Value.cells]using c1
 have c2':rzs σ b=M.map Lit.toCell:=by simpa[rz,Value.cells]using c2
 have e:r=a2j a b:=by
  rw[Bool.eq_iff_iff,hiff,b2G (c7S c1')]
  constructor
  ·intro h;rw[c1',c2',h]
  ·intro h
   have h2:=hL
   simp only[rz,Value.cells,h]at h2
   simp only[rz,Value.cells]at hM
   rw[hM]at h2
   exact(Option.some.inj h2).symm
 rw[<-e]
 exact hr
variable {σ:Rl} {wm:Nat} {H0 H:PH} {o:Oper} {vs:List AV} {x y:Operand} {v:AV}
theorem c5E {t a e r clock:TypeId} {es:Array MapEntry} {vs:List Value} (ho:o.op= .call ⟨.builtin .len,#[x],#[t]⟩) (hx:a0f [x] vs x= .map (some r)) (hu:P.underlying t=some (.map a e)) (hH:H r=some (.map es clock)):Rds P o vs H (.int .i64 es.size):=fun w hw=>by
 have hos:o.op.operands.toList=[x]:=by simp[ho,Op.operands,Call.operands]
 have hg:=a1P (P:=P) (hw _ _ hH)
 rw[hos]
 simp only[execOp,ho,resolve,invoke,Sem.run_bind,Sem.run_pure,Result.andThen_ok,List.map_toArray,List.map_cons,List.map_nil,hx,builtin]
 have hr:(Builtin.len_ #[t] o.type #[.map (some r)]).run P w= .ok (goInt es.size) w:=by
  simp[Builtin.len_,run_underlying hu,hg]
 rw[hr]
 rfl
end
end Go.RZ
/- Concrete runs: slices of slices, maps; all operations that read; operations that make a block. -/
namespace Go.RZ
open Go.RowKit Go.RX Go.GS Go.WideMaps
section
variable {P:Program} {kty:TypeId->Bool} {σ:Rl} {wm:Nat} {H0 H:PH} {o:Oper} {vs:List AV} {x y:Operand} {v:AV}
theorem a7d {kt:TypeId} {l:List AV} (hK:∀t,kty t=true->b3u P t) (h:a9a P kty kt (.agg l)=true):∃lx,keyOf P kt (rz σ (.agg l))=some lx:=by
 obtain⟨K,fa,la⟩:=a8n (σ:=σ) hK h
 obtain⟨L,hL⟩:=la _ K.big
 have hw:=K.wide
 refine⟨.string (keyBytes L),?_⟩
 unfold keyOf
 split
 ·rw[if_pos (by rw[K.key,fa];rfl),hL];rfl
 ·rw[if_pos (by rw[K.key,fa];rfl),hL];rfl
 ·rename_i h1 h2
  split at hw
  ·rename_i hu;exact absurd hu (h1 _ _)
  ·rename_i hu;exact absurd hu (h2 _)
  ·cases hw
theorem b1a {kt:TypeId} {l:List AV} (hK:∀t,kty t=true->b3u P t) (h:a9a P kty kt (.agg l)=true):KeyLaw P kt:=by
 obtain⟨K,_⟩:=a8n (σ:=fun _=>(0,0)) hK h
 exact deep_law (by omega) K.at6 K.tiled K.wide
theorem b5U {kt:TypeId} {l:List AV} {q:IntKind} (hK:∀t,kty t=true->b3u P t) (h:a9a P kty kt (.agg l)=true) (hu:P.underlying kt=some (.int q)):False:=by
 obtain⟨K,_⟩:=a8n (σ:=fun _=>(0,0)) hK h
 have:=K.wide
 rw[hu]at this
 cases this
theorem c0P {kt:TypeId} (hK:∀t,kty t=true->b3u P t) (h:a9a P kty kt v=true) (b:Bool) (w:World):(Instr.checkKey b 10000 kt (rz σ v)).run P w= .ok () w:=by
 rcases a3l hK h with⟨l,rfl⟩|⟨q,n,rfl,hu⟩
 ·obtain⟨lx,hlx⟩:=a7d (σ:=σ) hK h
  exact(b1a hK h).check w b hlx
 ·rw[rz];exact a1f hu b w
theorem c0Q {kt:TypeId} (hK:∀t,kty t=true->b3u P t) (h:a9a P kty kt v=true) (w:World):(Instr.keyThatStays (rz σ v) (rz σ v)).run P w= .ok (rz σ v) w:=by
 rcases a3l hK h with⟨l,rfl⟩|⟨q,n,rfl,hu⟩
 ·obtain⟨lx,hlx⟩:=a7d (σ:=σ) hK h
  exact(b1a hK h).stays w hlx
 ·simp[rz,Instr.keyThatStays,Instr.sameBits]
theorem a3A {q:IntKind} {n:Int}:∀(E:List MapEntry) (i:Nat),(∀e∈E,∃b,e.key= .int q b)->(Instr.findNow (.int q) (.int q n) E i=some none/\∀e∈E,e.key≠ .int q n)\/∃j e,Instr.findNow (.int q) (.int q n) E i=some (some (i+j,e.val))/\E[j]? =some e/\e.key= .int q n
 |[],i,_=> .inl ⟨rfl,fun e he=>absurd he (by simp)⟩
 |e::r,i,h=>by
  obtain⟨b,hb⟩:=h e (by simp)
  by_cases hn:n=b
  ·subst hn
   exact .inr ⟨0,e,by simp[Instr.findNow,Instr.sameNow,hb],rfl,hb⟩
  ·have hbe:(n==b)=false:=by simp[hn]
   rcases a3A (n:=n) r (i+1) (fun e he=>h e (by simp[he]))with⟨h1,h2⟩|⟨j,e',h1,h2,h3⟩
   ·refine .inl ⟨by simp[Instr.findNow,Instr.sameNow,hb,hbe,h1],fun e' he=> ?_⟩
    rcases List.mem_cons.1 he with rfl|he
    ·rw[hb];intro h;injection h with _ h;exact hn h.symm
    ·exact h2 e' he
   ·exact .inr ⟨j+1,e',by simp[Instr.findNow,Instr.sameNow,hb,hbe,h1];omega,by simpa using h2,h3⟩
theorem c5F {kt:TypeId} {key:AV} (hK:∀t,kty t=true->b3u P t) (hk:a9a P kty kt key=true) (E:List MapEntry) (hE:∀e∈E,∃a,e.key=rz σ a/\a9a P kty kt a=true) (w:World):
  ((Instr.findKey kt (rz σ key) E).run P w= .ok none w/\∀e∈E,e.key≠rz σ key)\/∃j e,(Instr.findKey kt (rz σ key) E).run P w= .ok (some (j,e.val)) w/\E[j]? =some e/\e.key=rz σ key:=by
 rcases a3l hK hk with⟨l,rfl⟩|⟨q,n,rfl,hu⟩
 ·obtain⟨lx,hlx⟩:=a7d (σ:=σ) hK hk
  refine(b1a hK hk).find w hlx E fun e he=> ?_
  obtain⟨a,ha,hb⟩:=hE e he
  rcases a3l hK hb with⟨m,rfl⟩|⟨q,n,rfl,hu⟩
  ·rw[ha];exact a7d hK hb
  ·exact(b5U hK hk hu).elim
 ·rw[rz]
  have run:∀r,Instr.findNow (.int q) (.int q n) E 0=some r->(Instr.findKey kt (.int q n) E).run P w= .ok r w:=fun r hr=>by
   simp only[Instr.findKey,Sem.run_bind,run_underlying hu,Result.andThen_ok,hr,Sem.run_pure]
  rcases a3A (q:=q) (n:=n) E 0 (fun e he=>by
   obtain⟨a,ha,hb⟩:=hE e he
   rcases a3l hK hb with⟨m,rfl⟩|⟨q',n',rfl,hu'⟩
   ·exact(b5U hK hb hu).elim
   ·rw[hu]at hu';cases hu'
    exact⟨n',by rw[ha,rz]⟩)with⟨h1,h2⟩|⟨j,e,h1,h2,h3⟩
  ·exact .inl ⟨run _ h1,h2⟩
  ·exact .inr ⟨j,e,by rw[run _ h1,Nat.zero_add],h2,h3⟩
end
end Go.RZ
/- Concrete runs: iterations over maps, append, copy; all operations with effects. -/
namespace Go.RZ
open Go.RowKit Go.RX Go.GS Go.WideMaps
section
variable {P:Program} {kty:TypeId->Bool} {σ:Rl} {wm:Nat} {H0 H:PH} {o:Oper} {vs:List AV} {x y:Operand} {v:AV}
theorem c5G (seen:List Nat) (b:Nat):seen.toArray.contains b=seen.any (Nat.beq b):=by
 rw[Bool.eq_iff_iff,List.any_eq_true]
 simp
theorem c0R {w:World} {r m since last clock:Nat} {seen:List Nat} {E:List MapEntry} {ty:TypeId} (hr:w.heap[r]? =some (.mapIter (some m) since seen.toArray last)) (hm:w.heap[m]? =some (.map E.toArray clock))
  (hold:∀e∈E.filter (fun e=> !seen.any (Nat.beq e.born)),e.born<since) (hstale:seen=[]\/E=[]\/∃e∈E,e.born<last):
  (E.filter (fun e=> !seen.any (Nat.beq e.born))=[]/\(Instr.next (.pointer (some ⟨r,0,none⟩)) false ty).run P w= .ok (.tuple #[.bool false]) w)\/
  ∃e∈E.filter (fun e=> !seen.any (Nat.beq e.born)),∃w1:World,Ext w w1/\w1.heap=w.heap/\(Instr.next (.pointer (some ⟨r,0,none⟩)) false ty).run P w= .ok (.tuple #[.bool true,e.key,e.val]) {w1 with heap:=w1.heap.setIfInBounds r (.mapIter (some m) since (seen++[e.born]).toArray clock)}:=by
 have hgr:(getObj r).run P w= .ok (.mapIter (some m) since seen.toArray last) w:=by simp[getObj,Sem.run,hr]
 have hst:(!seen.toArray.isEmpty&& !E.toArray.isEmpty&&E.toArray.all fun e=>decide (e.born≥last))=false:=by
  rcases hstale with rfl|rfl|⟨e,he,hlt⟩
  ·simp
  ·simp
  ·have:(E.toArray.all fun e=>decide (e.born≥last))=false:=by
    rw[Bool.eq_false_iff]
    intro h
    rw[List.all_toArray,List.all_eq_true]at h
    have:=h e he
    simp only[decide_eq_true_eq]at this
    omega
   rw[this];simp
 have hfil:E.toArray.filter (fun e=> !seen.toArray.contains e.born)=(E.filter (fun e=> !seen.any (Nat.beq e.born))).toArray:=by
  rw[<-Array.toList_inj,Array.toList_filter]
  simp only[c5G]
 unfold Instr.next
 simp only[Sem.run_bind,hgr,Result.andThen_ok,a1P hm,hst,Bool.false_eq_true,if_false]
 rw[hfil]
 generalize hL:E.filter (fun e=> !seen.any (Nat.beq e.born))=L at hold⊢
 have e1:L.toArray.filter (fun x=>decide (x.born<since))=L.toArray:=Array.filter_eq_self.2 (fun x hx=>by simpa using hold x (by simpa using hx))
 have e2:L.toArray.filter (fun x=>decide (x.born≥since))= #[]:=by
  rw[Array.filter_eq_empty_iff]
  intro x hx
  have:=hold x (by simpa using hx)
  simp
  omega
 simp only[e1,e2,Array.append_empty]
 cases L with
 |nil=>
  left
  refine⟨rfl,?_⟩
  simp[choose,Sem.run,Question.forced]
 |cons a L=>
  right
  have hch:∃(j:Nat) (w1:World),j<(a::L).toArray.size/\Ext w w1/\w1.heap=w.heap/\(choose (Question.mapNext (a::L).toArray.size)).run P w= .ok j w1:=by
   by_cases hf:(a::L).toArray.size<=1
   ·exact⟨0,w,by simp,Ext.refl _,rfl,by
     have:L=[]:=by cases L with|nil=>rfl|cons _ _=>simp at hf
     subst this
     simp[choose,Sem.run,Question.forced]⟩
   ·refine⟨w.tape w.drawn (Question.mapNext (a::L).toArray.size)%(a::L).toArray.size,w.drew,Nat.mod_lt _ (by simp),⟨rfl,rfl,rfl,Nat.le_refl _,fun _ _=>rfl,Nat.le_succ _⟩,rfl,?_⟩
    ·simp only[choose,Sem.run,Question.forced,decide_eq_true_eq,hf,if_false,Question.cut]
     rfl
  obtain⟨j,w1,hj,hx,hh,hrun⟩:=hch
  have hj':j<(a::L).length:=by simpa using hj
  refine⟨(a::L)[j],List.getElem_mem hj',w1,hx,hh,?_⟩
  have hset:∀ob':Obj,(setObj r ob').run P w1= .ok () {w1 with heap:=w1.heap.setIfInBounds r ob'}:=fun ob'=>by
   simp[setObj,Sem.run,hh,hr]
  simp only[List.isEmpty_toArray,List.isEmpty_cons,Bool.false_eq_true,if_false,Array.empty_append,Array.size_map,hrun,Result.andThen_ok,Array.getElem?_map,Array.getElem?_eq_getElem hj,Option.map_some,Sem.run_bind,hset,Sem.run_pure]
  simp
end
end Go.RZ
/- Concrete runs: the evaluator is sound. -/
namespace Go.RZ
open Go.RowKit Go.RX Go.GS
theorem opn_callw {P:Program} {H:PH} {o:Oper} {x:Operand} {f:FuncId} {az:Array Operand} {tys:Array TypeId} {bs caps:Array Value} {vs ws:List Value} {V:Value->PH->Prop} (ho:o.op= .call ⟨.value x,az,tys⟩) (hx:a0f (x::az.toList) vs x= .func (.func f) bs caps) (ha':az.toList.map (a0f (x::az.toList) vs)=ws) (hf:a4B P f=true)
  (hc:Con P f (bs.toList++(ws++caps.toList)) H V):Opn P o vs H V:=fun w hw=>by
 have ha:az.map (a0f (x::az.toList) vs)=ws.toArray:=by rw[<-Array.toList_inj,Array.toList_map];exact ha'
 have hos:o.op.operands.toList=x::az.toList:=by simp[ho,Op.operands,Call.operands]
 have hr:(execOp (a0f (x::az.toList) vs) o).run P w= .ok (.enter f (bs.toList++(ws++caps.toList)).toArray) w:=by
  simp only[execOp,ho,resolve,hx,ha,Deferred.ofValue,Sem.run_bind,Sem.run_pure,Result.andThen_ok,invoke]
  rw[a5g hf]
  congr 2
  simp
 unfold Stp
 rw[hos,hr]
 exact(hc w hw).mono fun e w' ⟨v,H',he,hs,hV⟩=>⟨v,he,H',hs,hV⟩
end Go.RZ
/- Chapter 32: draws of chance.Below. -/
namespace Go.Proofs.YtmannekkmdockaaGreatDoor
open Go.Proofs.Tryz
open Go.RowKit Go.RX Go.GS
section
variable {H:PH} {b s:Nat} {T:TypeId}
theorem d4v {G:Value->PH->Prop} {nx:List (List Value->PH->Prop)} {ρ:List Value} {t:Tree} {id i:Nat} {o:Oper} {x:Operand} {args:List SV} {ad:Addr} (ho:o.op= .nilCheck x) (hx:a0f [x] [.pointer (some ad)] x= .pointer (some ad)) (ha:args.map (D prog ρ)=[.pointer (some ad)]) (n:den prog G t nx (ρ++[.pointer (some ad)]) H):den prog G (.prim id i o args t) nx ρ H:=
 a0g ((b2m ho hx).rds H) ha n
end
end Go.Proofs.YtmannekkmdockaaGreatDoor
/- Chapter 32: chance.Below. -/
namespace Go.Proofs.YtmannekkmdockaaGreatDoor
open Go.Proofs.Tryz
open Go.RowKit Go.RX Go.GS
def a1B (H:PH) (b:Nat):PH:=fun k=>if k=b then none else H k
section
variable {H:PH} {b s n:Nat} {Ts:TypeId}
theorem d6Q:a0I prog 43=ii 0:=by kernel_rfl
end
end Go.Proofs.YtmannekkmdockaaGreatDoor
/- Chapter 32: chance.Below returns what belF says. -/
namespace Go.Proofs.YtmannekkmdockaaGreatDoor
open Go.Proofs.Tryz
open Go.RowKit Go.RX Go.GS
def chV (s:Nat):Value:= .agg #[uv s]
theorem d4w:a0I prog 63=chV 0:=by kernel_rfl
section
variable {H:PH} {s:Nat} {z:Int}
theorem d0w (s:Nat):(chV s).cells.size=1/\a0t (chV s).cells:=⟨rfl,fun c hc=>by simp[chV,Value.cells]at hc;subst hc;rfl⟩
end
end Go.Proofs.YtmannekkmdockaaGreatDoor
/- MADE BY rxgen.py (mkGT.py): trees of chapter 32. -/
namespace Go.Proofs.YtmannekkmdockaaGreatDoor
open Go.Proofs.Tryz
open Go.RowKit Go.RX
set_option maxRecDepth 100000
theorem c5H:tree prog [] [] [⟨0,2,[],[]⟩] [] 50=some (.pm f50 1 1 [V0]
(.loop [(.ki 0),(.ki 0)]
(.ri V4
(.ri V2
(.br (.io .lss V4 V2)
(.pm f50 3 1 [V0,V4]
(.pm f50 3 2 [V5]
(.pm f50 4 2 [V1]
(.ri V7
(.br (.io .geq V4 V7)
(.ret [(.ki 1)])
(.pm f50 6 2 [V1,V4]
(.pm f50 6 3 [V8]
(.call false 93 [V6,V9]
(.ri V10
(.br (.io .neq V10 (.ki 0))
(.ret [V10])
(.next 0 [V3,(.io .add V4 (.ki 1))])))))))))))
(.pm f50 11 1 [V0]
(.pm f50 11 3 [V1]
(.ri V5
(.ri V6
(.br (.io .lss V5 V6)
(.ret [(.k (.int .i64 (-1)))])
(.ret [(.ki 0)]))))))))))):=by kernel_rfl
theorem d0x:tree prog [] [] [⟨0,4,[],[]⟩] [⟨6,[0,0,3,7,0,0,48,112,255],[0,0,1,1,0,0,1,1,1],[0,0,0,0,0,0,0,0,0],[0,1,2,3,4,5,6,7,8],[]⟩] 15=some (.pm f15 1 1 [V0]
(.pm f15 1 3 [V1]
(.ri V2
(.ri V3
(.br (.io .neq V2 V3)
(.ret [(.k (.bool false))])
(.pm f15 3 1 [V0]
(.loop [(.k (.bool false)),(.ki 0)]
(.ri V6
(.ri V4
(.br (.io .lss V6 V4)
(.pm f15 6 2 [V0,V6]
(.pm f15 6 3 [V7]
(.pm f15 6 6 [V1,V6]
(.pm f15 6 7 [V9]
(.pm f15 6 8 [V8,V10]
(.rq (.bool V11)
(.br V11
(.ret [(.k (.bool false))])
(.next 0 [V5,(.io .add V6 (.ki 1))]))))))))
(.ret [(.k (.bool true))]))))))))))):=by kernel_rfl
end Go.Proofs.YtmannekkmdockaaGreatDoor
/- Lists that are put in order; where an edge stands. -/
namespace Go.GS
theorem c0S {l m:List Int} (h1:l.Pairwise (· <= ·)) (h2:m.Pairwise (· <= ·)) (h:l.Perm m):l=m:=
 List.Perm.eq_of_pairwise (le:=(· <= ·)) (fun a b _ _ h3 h4=>by omega) h1 h2 h
def d3b (l:List Int) (x:Int):List Int:=(l.takeWhile fun y=>decide (y<=x))++x::l.dropWhile fun y=>decide (y<=x)
theorem c0T (l:List Int) (x:Int):(d3b l x).Perm (l++[x]):=by
 unfold d3b
 refine List.perm_middle.trans ?_
 rw[List.takeWhile_append_dropWhile]
 exact(List.perm_append_comm (l₁:=[x]) (l₂:=l))
theorem c0U {p:Int->Bool}:∀{l:List Int} {y:Int} {r:List Int},l.dropWhile p=y::r->p y=false
 |z::l,y,r,h=>by
  rw[List.dropWhile_cons]at h
  split at h
  ·exact c0U h
  ·rename_i hz
   simp only[List.cons.injEq]at h
   rw[<-h.1];simpa using hz
theorem d0y {l:List Int} {x:Int} (h:l.Pairwise (· <= ·)):(d3b l x).Pairwise (· <= ·):=by
 unfold d3b
 have hs:l.takeWhile (fun y=>decide (y<=x))++l.dropWhile (fun y=>decide (y<=x))=l:=List.takeWhile_append_dropWhile
 rw[<-hs]at h
 obtain⟨h1,h2,h3⟩:=List.pairwise_append.1 h
 have ht:∀a∈l.takeWhile (fun y=>decide (y<=x)),a<=x:=fun a ha=>by
  have:=List.all_takeWhile (p:=fun y=>decide (y<=x)) (l:=l)
  exact of_decide_eq_true (List.all_eq_true.1 this a ha)
 have hd:∀b∈l.dropWhile (fun y=>decide (y<=x)),x<=b:=fun b hb=>by
  generalize hr:l.dropWhile (fun y=>decide (y<=x))=r at hb h2
  cases r with
  |nil=>cases hb
  |cons z r=>
   have hz:=of_decide_eq_false (c0U hr)
   rcases List.mem_cons.1 hb with rfl|hb
   ·omega
   ·have:=(List.pairwise_cons.1 h2).1 b hb
    omega
 refine List.pairwise_append.2 ⟨h1,List.pairwise_cons.2 ⟨hd,h2⟩,fun a ha b hb=> ?_⟩
 rcases List.mem_cons.1 hb with rfl|hb
 ·exact ht a ha
 ·exact h3 a ha b hb
end Go.GS
/- Chapter 32: sorting, and where an edge stands. -/
namespace Go.RZ
open Go.RowKit Go.RX
theorem d0z {P:Program} {o:Oper} {x y:Operand} {T u:TypeId} {vs:List Value} {a b:List AV} {H:PH} (hk:b3u P T) (ha:b4n P 6 T a=true) (hb:b4n P 6 T b=true) (ho:o.op= .binOp .neq T x y u) (hx:a0f [x,y] vs x=rz (fun _=>(0,0)) (.agg a)) (hy:a0f [x,y] vs y=rz (fun _=>(0,0)) (.agg b)):Rds P o vs H (.bool (!a2j a b)):=fun w _=>by
 have hos:o.op.operands.toList=[x,y]:=by simp[ho,Op.operands]
 have hK:∀t,(fun t=>Nat.beq t T) t=true->b3u P t:=fun t ht=>by rw[c7Q ht];exact hk
 have h1:a9a P (fun t=>Nat.beq t T) T (.agg a)=true:=by simp[a9a,ha]
 have h2:a9a P (fun t=>Nat.beq t T) T (.agg b)=true:=by simp[a9a,hb]
 have he:=c5D (σ:=fun _=>(0,0)) hK h1 h2 w
 rw[hos]
 simp only[execOp,ho,hx,hy,Sem.run_bind]
 simp only[rz]at he⊢
 simp[eqGuard,hk.noguard,binOp,he]
end Go.RZ
namespace Go.GS
open Go.RowKit Go.RX
theorem d4x {P:Program} {ρ:List Value} {a:SV} {k:Nat} (ha:D P ρ a=ii ((k+1:Nat):Int)) (h:k<9223372036854775807):D P ρ (.op2 .sub .i64 a (.k (.int .i64 1)))=ii (k:Nat):=by
 have:=b5N (P:=P) (ρ:=ρ) (a:=a) (b:= .k (.int .i64 1)) ha (y:=1) rfl (by omega) (by omega)
 rw[this]
 show ii _=ii _
 congr 1;omega
end Go.GS
namespace Go.Proofs.YtmannekkmdockaaGreatDoor
open Go.Proofs.Tryz
open Go.RowKit Go.RX Go.GS Go.RZ
theorem d0A {n:Nat} (h:n<9223372036854775808) (d:Nat):b4n prog (d+1) 3 [.int .i64 (.ofNat n)]=true:=by
 have hu:prog.underlying 3=some (.int .i64):=by kernel_rfl
 simp only[b4n,hu,okI]
 rw[show Nat.blt n 9223372036854775808=true from by rw[Nat.blt_eq];exact h]
 rfl
section
variable {H H0:PH} {u v w:Value} {l:List Int} {n:Nat} {es:List (Nat×Nat)}
abbrev OI (H0 H:PH) (v:Value) (l:List Int):Prop:=SO H0 H 3 1 (fun z:Int=>[ii z]) v l
end
end Go.Proofs.YtmannekkmdockaaGreatDoor
/- What can be reached. -/
namespace Go.GS
def adj (es:List (Nat×Nat)) (y z:Nat):Prop:=∃e∈es,(e.1=y/\e.2=z)\/(e.2=y/\e.1=z)
theorem adj.symm {es:List (Nat×Nat)} {y z:Nat} (h:adj es y z):adj es z y:=by
 obtain⟨e,he,h|h⟩:=h
 ·exact⟨e,he,.inr ⟨h.2,h.1⟩⟩
 ·exact⟨e,he,.inl ⟨h.2,h.1⟩⟩
inductive Rch (es:List (Nat×Nat)) (set x:Nat):Nat->Prop
 |base:Rch es set x x
 |step {y z:Nat}:Rch es set x y->adj es y z->bit set z=true->Rch es set x z
theorem Rch.trans {es:List (Nat×Nat)} {set x y z:Nat} (h1:Rch es set x y) (h2:Rch es set y z):Rch es set x z:=by
 induction h2 with
 |base=>exact h1
 |step _ ha hz ih=>exact ih.step ha hz
theorem Rch.mem {es:List (Nat×Nat)} {set x y:Nat} (h:Rch es set x y) (hx:bit set x=true):bit set y=true:=by
 cases h with
 |base=>exact hx
 |step _ _ hz=>exact hz
theorem Rch.symm {es:List (Nat×Nat)} {set x y:Nat} (h:Rch es set x y) (hx:bit set x=true):Rch es set y x:=by
 induction h with
 |base=>exact .base
 |step h1 ha hz ih=>exact((Rch.base.step ha.symm (h1.mem hx)).trans ih)
def CL (es:List (Nat×Nat)) (set x c:Nat):Prop:=c<M64/\∀y,bit c y=true↔Rch es set x y
theorem CL.uniq {es:List (Nat×Nat)} {set x c d:Nat} (h:CL es set x c) (k:CL es set x d):c=d:=a0F fun y=>by
 rw[Bool.eq_iff_iff,h.2,k.2]
def Cn (es:List (Nat×Nat)) (set:Nat):Prop:=∃x,bit set x=true/\∀y,bit set y=true->Rch es set x y
theorem Cn.all {es:List (Nat×Nat)} {set x y:Nat} (h:Cn es set) (hx:bit set x=true) (hy:bit set y=true):Rch es set x y:=by
 obtain⟨z,hz,h⟩:=h
 exact((h x hx).symm hz).trans (h y hy)
theorem c7T {n:Nat} {es:List (Nat×Nat)} (h:∀e∈es,e.1<e.2/\e.2<n) {x y:Nat}:bit (nb es x) y=true↔adj es x y:=by
 rw[d4r]
 constructor
 ·rintro⟨e,he,h1|h1⟩
  ·exact⟨e,he,.inl h1⟩
  ·exact⟨e,he,.inr h1.2⟩
 ·rintro⟨e,he,h1|h1⟩
  ·exact⟨e,he,.inl h1⟩
  ·exact⟨e,he,.inr ⟨by have:=h e he;omega,h1⟩⟩
def grow (es:List (Nat×Nat)) (set part:Nat) (l:List Nat):Nat:=l.foldl (fun s n=>s|||(nb es n&&&set)) part
theorem a8o (es:List (Nat×Nat)) (set part:Nat) (l:List Nat) (x:Nat):grow es set part (l++[x])=grow es set part l|||(nb es x&&&set):=by
 unfold grow;rw[List.foldl_append];rfl
theorem a5v {es:List (Nat×Nat)} {set part:Nat} (l:List Nat) (y:Nat):bit (grow es set part l) y=true↔bit part y=true\/∃x∈l,bit (nb es x) y=true/\bit set y=true:=by
 induction l using a2I with
 |nil=>simp[grow]
 |snoc l x ih=>
  rw[a8o,a0G,a1R,Bool.or_eq_true,ih,Bool.and_eq_true]
  simp only[List.mem_append,List.mem_singleton]
  constructor
  ·rintro((h|⟨a,h1,h2⟩)|h)
   ·exact .inl h
   ·exact .inr ⟨a,.inl h1,h2⟩
   ·exact .inr ⟨x,.inr rfl,h⟩
  ·rintro(h|⟨a,h1|rfl,h2⟩)
   ·exact .inl (.inl h)
   ·exact .inl (.inr ⟨a,h1,h2⟩)
   ·exact .inr h2
theorem c0V {es:List (Nat×Nat)} {set part:Nat} (hs:set<M64) (hp:part<M64) (l:List Nat):grow es set part l<M64:=by
 induction l using a2I with
 |nil=>exact hp
 |snoc l x ih=>rw[a8o];exact a6d ih (d0p hs)
theorem c5I {n:Nat} {es:List (Nat×Nat)} (h:∀e∈es,e.1<e.2/\e.2<n) {set part x:Nat} (hp:part<M64) (hx:bit part x=true) (hr:∀y,bit part y=true->Rch es set x y) (he:grow es set part (els part)=part):CL es set x part:=by
 refine⟨hp,fun y=>⟨hr y,fun hy=> ?_⟩⟩
 induction hy with
 |base=>exact hx
 | @step u v _ ha hz ih=>
  rw[<-he,a5v]
  exact .inr ⟨u,(a1Y hp).2 ih,(c7T h).2 ha,hz⟩
theorem c5J {n:Nat} {es:List (Nat×Nat)} (h:∀e∈es,e.1<e.2/\e.2<n) {set part x:Nat} (hp:part<M64) (hr:∀y,bit part y=true->Rch es set x y):∀y,bit (grow es set part (els part)) y=true->Rch es set x y:=by
 intro y hy
 rw[a5v]at hy
 rcases hy with hy|⟨z,h1,h2,h3⟩
 ·exact hr y hy
 ·exact(hr z ((a1Y hp).1 h1)).step ((c7T h).1 h2) h3
theorem c0W {p q:Nat->Bool} (hpq:∀y,p y=true->q y=true) {x:Nat} (hq:q x=true) (hp:p x=false):∀l:List Nat,x∈l->(l.filter p).length<(l.filter q).length:=by
 have hle:∀l:List Nat,(l.filter p).length<=(l.filter q).length:=by
  intro l
  induction l with
  |nil=>exact Nat.le_refl _
  |cons a l ih=>
   rw[List.filter_cons,List.filter_cons]
   split
   ·rename_i h;rw[if_pos (hpq a h)];simp;exact ih
   ·split
    ·simp;omega
    ·exact ih
 intro l
 induction l with
 |nil=>intro h;cases h
 |cons a l ih=>
  intro h
  rw[List.filter_cons,List.filter_cons]
  rcases List.mem_cons.1 h with rfl|h
  ·rw[if_neg (by simp[hp]),if_pos hq];have:=hle l;simp;omega
  ·have:=ih h
   split
   ·rename_i h;rw[if_pos (hpq a h)];simp;exact this
   ·split
    ·simp;omega
    ·exact this
theorem b1b {a b x:Nat} (h:∀y,bit a y=true->bit b y=true) (hb:bit b x=true) (ha:bit a x=false) (hx:x<64):card a<card b:=
 c0W h hb ha _ (List.mem_range.2 hx)
theorem a2d (a:Nat):card a<=64:=by
 have:=List.length_filter_le (bit a) (List.range 64);simpa[card,els]using this
theorem b2H {a b:Nat} (h:a≠b) (hab:∀y,bit a y=true->bit b y=true):∃x,bit b x=true/\bit a x=false:=by
 apply Classical.byContradiction
 intro hn
 apply h
 apply a0F
 intro y
 cases hy:bit a y with
 |true=>rw[hab y hy]
 |false=>
  cases hb:bit b y with
  |false=>rfl
  |true=>exact absurd ⟨y,hb,hy⟩ hn
def CS (es:List (Nat×Nat)) (set rest k:Nat):Prop:=(k=0/\rest=set)\/(k=1/\∃x c,bit set x=true/\CL es set x c/\rest=sdf set c)\/(2<=k/\¬Cn es set)
theorem CS.end {es:List (Nat×Nat)} {set k:Nat} (h:CS es set 0 k):k=1↔Cn es set:=by
 rcases h with⟨rfl,h⟩|⟨rfl,x,c,hx,hc,h⟩|⟨h1,h2⟩
 ·subst h
  constructor
  ·intro h;cases h
  ·rintro⟨x,hx,_⟩;rw[a0J]at hx;cases hx
 ·refine⟨fun _=>⟨x,hx,fun y hy=> ?_⟩,fun _=>rfl⟩
  have:bit (sdf set c) y=false:=by rw[<-h,a0J]
  rw[a0p,hy]at this
  exact(hc.2 y).1 (by simpa using this)
 ·exact⟨fun h=>by omega,fun h=>absurd h h2⟩
theorem CS.next {es:List (Nat×Nat)} {set rest k x c:Nat} (h:CS es set rest k) (hx:bit rest x=true) (hxs:bit set x=true) (hc:CL es set x c):CS es set (sdf rest c) (k+1):=by
 rcases h with⟨rfl,rfl⟩|⟨rfl,y,d,hy,hd,rfl⟩|⟨h1,h2⟩
 ·exact .inr (.inl ⟨rfl,x,c,hxs,hc,rfl⟩)
 ·refine .inr (.inr ⟨by omega,fun hn=> ?_⟩)
  rw[a0p,(hd.2 x).2 (hn.all hy hxs)]at hx
  simp at hx
 ·exact .inr (.inr ⟨by omega,h2⟩)
end Go.GS

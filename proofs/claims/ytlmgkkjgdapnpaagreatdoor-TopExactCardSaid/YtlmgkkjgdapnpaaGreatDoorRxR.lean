/- Concrete runs: an evaluator of trees. -/
import Derived.Test.YtlmgkkjgdapnpaaGreatDoorRxY
import Derived.Test.YtlmgkkjgdapnpaaGreatDoorGsA
import Derived.Test.YtlmgkkjgdapnpaaGreatDoorGsD
import Derived.DeepKeys3
import Derived.Test.YtlmgkkjgdapnpaaGreatDoorProg
import Derived.Test.YtlmgkkjgdapnpaaGreatDoorRxW
import Derived.Test.YtlmgkkjgdapnpaaGreatDoorGqT
import Derived.Test.YtlmgkkjgdapnpaaGreatDoorGaE
namespace Go.RZ
open Go.RowKit Go.RX
noncomputable section
inductive AV where
 |int (k:IntKind) (n:Int)
 |bool (b:Bool)
 |ptr (k q:Nat)
 |nptr
 |sl (k q n c:Nat)
 |sg (k q n d:Nat)
 |nsl
 |mp (k:Nat)
 |nmp
 |fn (f:FuncId) (b c:List AV)
 |nfn
 |agg (l:List AV)
 |tup (l:List AV)
 deriving Inhabited
def len {α:Type} (l:List α):Nat:=List.rec (motive:=fun _=>Nat) 0 (fun _ _ n=>Nat.succ n) l
def okI:IntKind->Int->Bool
 | .i64,.ofNat m=>Nat.blt m 9223372036854775808
 | .u64,.ofNat m=>Nat.blt m 18446744073709551616
 | .i64,.negSucc m=>Nat.blt m 9223372036854775808
 |_,_=>false
def isK (k l:IntKind):Bool:=k==l
def b0l (P:Program):Nat->TypeId->List AV->Bool
 |0,_,_=>false
 |d+1,t,l=>match P.underlying t with
  |some .bool=>match l with
   |[.bool _]=>true
   |_=>false
  |some (.int q)=>match l with
   |[.int k n]=>isK k q&&(okI k n||(Lit.int k n).wf)
   |_=>false
  |some (.array n e)=>Nat.beq (len l) (P.cellsOf t)&&(List.range n).all fun i=>b0l P d e ((l.drop (Nat.mul i (P.cellsOf e))).take (P.cellsOf e))
  |some (.struct fs)=>Nat.beq (len l) (P.cellsOf t)&&fs.toList.all fun f=>b0l P d f.type ((l.drop f.offset).take (P.cellsOf f.type))
  |_=>false
def b2L (P:Program) (kty:TypeId->Bool) (kt:TypeId) (v:AV):Bool:=match v with
 | .agg l=>kty kt&&b0l P 6 kt l
 | .int k _=>match P.underlying kt with
  |some (.int q)=>isK k q
  |_=>false
 |_=>false
theorem b9K {α:Type}:∀l:List α,len l=l.length
 |[]=>rfl
 |x::r=>by rw[List.length_cons,<-b9K r];rfl
end
end Go.RZ
/- Concrete runs: what abstract values and terms stand for. -/
namespace Go.RZ
open Go.RowKit Go.RX Go.GS
abbrev Rl:=Nat->Nat×Nat
mutual
def rz (σ:Rl):AV->Value
 | .int k n=> .int k n
 | .bool b=> .bool b
 | .ptr k q=> .pointer (some ⟨(σ k).1,q,none⟩)
 | .nptr=> .pointer none
 | .sl k q n c=> .slice (some ⟨(σ k).1,q,none⟩) n c
 | .sg k q n d=> .slice (some ⟨(σ k).1,q,none⟩) n ((σ k).2-d)
 | .nsl=> .slice none 0 0
 | .mp k=> .map (some (σ k).1)
 | .nmp=> .map none
 | .fn f b c=> .func (.func f) (rzs σ b).toArray (rzs σ c).toArray
 | .nfn=> .nilFunc
 | .agg l=> .agg (rzs σ l).toArray
 | .tup l=> .tuple (rzs σ l).toArray
def rzs (σ:Rl):List AV->List Value
 |[]=>[]
 |x::r=>rz σ x::rzs σ r
end
theorem b0m (σ:Rl):∀l,rzs σ l=l.map (rz σ)
 |[]=>by simp[rzs]
 |x::r=>by simp[rzs,b0m σ r]
theorem b3F (σ:Rl) (l:List AV):(rzs σ l).length=l.length:=by rw[b0m,List.length_map]
theorem b4L (σ:Rl) (l:List AV) (j:Nat):rzs σ (l.take j)=(rzs σ l).take j:=by simp[b0m,List.map_take]
theorem b4M (σ:Rl) (l:List AV) (j:Nat):rzs σ (l.drop j)=(rzs σ l).drop j:=by simp[b0m,List.map_drop]
theorem d6R {a b:Nat} (h:Nat.blt a b=true):a<b:=by simpa[Nat.blt_eq]using h
theorem d0U {a b:Nat} (h:Nat.beq a b=true):a=b:=Nat.eq_of_beq_eq_true h
end Go.RZ
/- Concrete runs: operations that read. -/
namespace Go.RZ
open Go.RowKit Go.RX Go.GS Go.WideMaps
structure b2M (P:Program) (t:TypeId):Prop where
 at6:P.keyTypeAt 6 t=true
 tiled:P.tiled 6 t=true
 wide:(match P.underlying t with|some (.array _ _)|some (.struct _)=>true|_=>false)=true
 noguard:P.eqGuardType P.depth t=false
 key:P.keyType t=true
 big:6<=P.types.size+1
theorem a7Z {α β:Type} {f:α->Option β}:∀{l:List α},(∀x∈l,∃y,f x=some y)->∃ys,l.mapM f=some ys
 |[],_=>⟨[],rfl⟩
 |x::r,h=>by
  obtain⟨y,hy⟩:=h x (by simp)
  obtain⟨ys,hys⟩:=a7Z (l:=r) (f:=f) fun z hz=>h z (by simp[hz])
  exact⟨y::ys,by simp[List.mapM_cons,hy,hys]⟩
theorem d4L {q:IntKind} {n:Int} (h:okI q n=true):(Lit.int q n).wf=true:=by
 unfold okI at h
 split at h
 ·have:=d6R h;simp[Lit.wf,IntKind.min,IntKind.max,IntKind.signed,IntKind.bits];omega
 ·have:=d6R h;simp[Lit.wf,IntKind.min,IntKind.max,IntKind.signed,IntKind.bits];omega
 ·have:=d6R h;simp[Lit.wf,IntKind.min,IntKind.max,IntKind.signed,IntKind.bits];omega
 ·cases h
theorem a8a {P:Program} {σ:Rl}:∀(d:Nat) (t:TypeId) (l:List AV),P.keyTypeAt d t=true->b0l P d t l=true->∀D,d<=D->∃L,P.keyLits D t (rzs σ l)=some L
 |0,_,_,h,_,_,_=>by simp[Program.keyTypeAt]at h
 |d+1,t,l,hk,hf,D,hD=>by
  obtain⟨D,rfl⟩:∃E,D=E+1:=⟨D-1,by omega⟩
  unfold Program.keyTypeAt at hk
  unfold b0l at hf
  simp only[b9K]at hf
  unfold Program.keyLits
  cases hu:P.underlying t with
  |none=>simp[hu]at hf
  |some kd=>
   rw[hu]at hk hf
   cases kd<;>simp only[Bool.false_eq_true]at hk hf
   case some.bool=>
    split at hf
    ·exact⟨_,rfl⟩
    ·cases hf
   case some.int q=>
    split at hf
    ·rename_i k n
     simp only[Bool.and_eq_true,Bool.or_eq_true]at hf
     have hk:k=q:=by simpa[isK]using hf.1
     subst hk
     have hw:(Lit.int k n).wf=true:=hf.2.elim d4L id
     exact⟨_,by simp only[rzs,rz];exact if_pos ⟨trivial,hw⟩⟩
    ·cases hf
   case some.array n e=>
    rw[Bool.and_eq_true]at hf
    obtain⟨h1,h2⟩:=hf
    have h1:=d0U h1
    rw[List.all_eq_true]at h2
    have:∃ys,(List.range n).mapM (fun i=>P.keyLits D e (((rzs σ l).drop (i*P.cellsOf e)).take (P.cellsOf e)))=some ys:=by
     refine a7Z fun i hi=> ?_
     obtain⟨L,hL⟩:=a8a d e _ hk (h2 i hi) D (by omega)
     exact⟨L,by rw[<-hL,b4L,b4M];rfl⟩
    obtain⟨ys,hys⟩:=this
    exact⟨_,by simp only[b3F,h1,if_true];rw[hys];rfl⟩
   case some.struct fs=>
    rw[Bool.and_eq_true]at hf
    obtain⟨h1,h2⟩:=hf
    have h1:=d0U h1
    rw[List.all_eq_true]at h2
    simp only[Bool.and_eq_true]at hk
    have hn:=Array.all_eq_true_iff_forall_mem.1 hk.1.1
    have:∃ys,fs.toList.mapM (fun f=>P.keyLits D f.type (((rzs σ l).drop f.offset).take (P.cellsOf f.type)))=some ys:=by
     refine a7Z fun f hi=> ?_
     have hf:=hn f (Array.mem_toList_iff.1 hi)
     rw[Bool.and_eq_true]at hf
     obtain⟨L,hL⟩:=a8a d f.type _ hf.2 (h2 f hi) D (by omega)
     exact⟨L,by rw[<-hL,b4L,b4M]⟩
    obtain⟨ys,hys⟩:=this
    have hall:fs.all (·.name != "_")=true:=Array.all_eq_true_iff_forall_mem.2 fun f hf=>by
     have:=hn f hf;rw[Bool.and_eq_true]at this;exact this.1
    exact⟨_,by simp only[b3F,h1];rw[if_pos ⟨trivial,hall⟩,hys];rfl⟩
theorem c5K {P:Program} {t:TypeId} {l:List AV} {d:Nat} (h:b0l P (d+1) t l=true) (hw:(match P.underlying t with|some (.array _ _)|some (.struct _)=>true|_=>false)=true):l.length=P.cellsOf t:=by
 unfold b0l at h
 simp only[b9K]at h
 split at h
 ·rename_i hu;rw[hu]at hw;cases hw
 ·rename_i hu;rw[hu]at hw;cases hw
 ·rw[Bool.and_eq_true]at h;exact d0U h.1
 ·rw[Bool.and_eq_true]at h;exact d0U h.1
 ·cases h
section
variable {P:Program} {kty:TypeId->Bool}
theorem b3G {σ:Rl} {kt:TypeId} {l:List AV} (hK:∀t,kty t=true->b2M P t) (h:b2L P kty kt (.agg l)=true):b2M P kt/\(rz σ (.agg l)).formed P kt=true/\∀D,6<=D->∃L,P.keyLits D kt (rz σ (.agg l)).cells.toList=some L:=by
 simp only[b2L]at h
 rw[Bool.and_eq_true]at h
 have K:=hK _ h.1
 refine⟨K,?_,fun D hD=> ?_⟩
 ·have hl:=c5K h.2 K.wide
  have hw:=K.wide
  simp only[rz,Value.formed]
  split<;>simp_all[b3F]
 ·obtain⟨L,hL⟩:=a8a (σ:=σ) 6 kt l K.at6 h.2 D hD
  exact⟨L,by simp only[rz,Value.cells];simpa using hL⟩
theorem a3i {kt:TypeId} {v:AV} (hK:∀t,kty t=true->b2M P t) (h:b2L P kty kt v=true):(∃l,v= .agg l)\/∃q n,v= .int q n/\P.underlying kt=some (.int q):=by
 unfold b2L at h
 split at h
 ·exact .inl ⟨_,rfl⟩
 ·split at h
  ·rename_i k n _ q hu
   obtain rfl:k=q:=by simpa[isK]using h
   exact .inr ⟨_,_,rfl,hu⟩
  ·cases h
 ·cases h
variable {σ:Rl} {wm:Nat} {H0 H:PH} {o:Oper} {vs:List AV} {x y:Operand} {v:AV}
theorem b4N {t u:TypeId} {a b:Int} {vs:List Value} (ho:o.op= .call ⟨.builtin .max,#[x,y],#[t,u]⟩) (hx:a0k [x,y] vs x= .int .i64 a) (hy:a0k [x,y] vs y= .int .i64 b):Yld P o vs (.int .i64 (if b>a then b else a)):=fun w=>by
 have hos:o.op.operands.toList=[x,y]:=by simp[ho,Op.operands,Call.operands]
 rw[hos]
 simp only[execOp,ho,resolve,invoke,Sem.run_bind,Sem.run_pure,Result.andThen_ok,List.map_toArray,List.map_cons,List.map_nil,hx,hy]
 simp only[builtin,Sem.run_bind,run_max_int2,Result.andThen_ok]
 rfl
theorem c5L {t a e r clock:TypeId} {es:Array MapEntry} {vs:List Value} (ho:o.op= .call ⟨.builtin .len,#[x],#[t]⟩) (hx:a0k [x] vs x= .map (some r)) (hu:P.underlying t=some (.map a e)) (hH:H r=some (.map es clock)):Rds P o vs H (.int .i64 es.size):=fun w hw=>by
 have hos:o.op.operands.toList=[x]:=by simp[ho,Op.operands,Call.operands]
 have hg:=a2I (P:=P) (hw _ _ hH)
 rw[hos]
 simp only[execOp,ho,resolve,invoke,Sem.run_bind,Sem.run_pure,Result.andThen_ok,List.map_toArray,List.map_cons,List.map_nil,hx,builtin]
 have hr:(Builtin.len_ #[t] o.type #[.map (some r)]).run P w= .ok (goInt es.size) w:=by
  simp[Builtin.len_,run_underlying hu,hg]
 rw[hr]
 rfl
end
end Go.RZ
/- Chapter 32: sorting, and where an edge stands. -/
namespace Go.GS
open Go.RowKit Go.RX
theorem b9L {P:Program} {ρ:List Value} {a:SV} {k:Nat} (ha:D P ρ a=ii ((k+1:Nat):Int)) (h:k<9223372036854775807):D P ρ (.op2 .sub .i64 a (.k (.int .i64 1)))=ii (k:Nat):=by
 have:=a7R (P:=P) (ρ:=ρ) (a:=a) (b:= .k (.int .i64 1)) ha (y:=1) rfl (by omega) (by omega)
 rw[this]
 show ii _=ii _
 congr 1;omega
end Go.GS
namespace Go.Proofs.YtlmgkkjgdapnpaaGreatDoor
open Go.Proofs.Tryz
open Go.RowKit Go.RX Go.GS Go.RZ
theorem b3H {n:Nat} (h:n<M64) (d:Nat):b0l prog (d+1) 57 [.int .u64 (.ofNat n)]=true:=by
 have hu:prog.underlying 57=some (.int .u64):=by kernel_rfl
 simp only[b0l,hu,okI]
 rw[show Nat.blt n 18446744073709551616=true from by rw[Nat.blt_eq];exact h]
 rfl
theorem b9M {s:Nat} (hs:s<M64):Det prog 122 [uv s] (ii (Go.WD.blen s)):=a0H mixed c5J (by kernel_rfl) rfl (a1l (a7y s hs) rfl (a0Z rfl rfl))
end Go.Proofs.YtlmgkkjgdapnpaaGreatDoor
/- Concrete runs: slices of slices, maps; all operations that read; operations that make a block. -/
namespace Go.RZ
open Go.RowKit Go.RX Go.GS Go.WideMaps
section
variable {P:Program} {kty:TypeId->Bool} {σ:Rl} {wm:Nat} {H0 H:PH} {o:Oper} {vs:List AV} {x y:Operand} {v:AV}
theorem a6P {kt:TypeId} {l:List AV} (hK:∀t,kty t=true->b2M P t) (h:b2L P kty kt (.agg l)=true):∃lx,keyOf P kt (rz σ (.agg l))=some lx:=by
 obtain⟨K,fa,la⟩:=b3G (σ:=σ) hK h
 obtain⟨L,hL⟩:=la _ K.big
 have hw:=K.wide
 refine⟨.string (keyBytes L),?_⟩
 unfold keyOf
 split
 ·rw[if_pos (by rw[K.key,fa];rfl),hL];rfl
 ·rw[if_pos (by rw[K.key,fa];rfl),hL];rfl
 ·rename_i h1 h2
  split at hw
  ·rename_i hu;exact absurd hu (h1 _ _)
  ·rename_i hu;exact absurd hu (h2 _)
  ·cases hw
theorem b0n {kt:TypeId} {l:List AV} (hK:∀t,kty t=true->b2M P t) (h:b2L P kty kt (.agg l)=true):KeyLaw P kt:=by
 obtain⟨K,_⟩:=b3G (σ:=fun _=>(0,0)) hK h
 exact deep_law (by omega) K.at6 K.tiled K.wide
theorem b4O {kt:TypeId} {l:List AV} {q:IntKind} (hK:∀t,kty t=true->b2M P t) (h:b2L P kty kt (.agg l)=true) (hu:P.underlying kt=some (.int q)):False:=by
 obtain⟨K,_⟩:=b3G (σ:=fun _=>(0,0)) hK h
 have:=K.wide
 rw[hu]at this
 cases this
theorem b1J {kt:TypeId} (hK:∀t,kty t=true->b2M P t) (h:b2L P kty kt v=true) (b:Bool) (w:World):(Instr.checkKey b 10000 kt (rz σ v)).run P w= .ok () w:=by
 rcases a3i hK h with⟨l,rfl⟩|⟨q,n,rfl,hu⟩
 ·obtain⟨lx,hlx⟩:=a6P (σ:=σ) hK h
  exact(b0n hK h).check w b hlx
 ·rw[rz];exact a2c hu b w
theorem b1K {kt:TypeId} (hK:∀t,kty t=true->b2M P t) (h:b2L P kty kt v=true) (w:World):(Instr.keyThatStays (rz σ v) (rz σ v)).run P w= .ok (rz σ v) w:=by
 rcases a3i hK h with⟨l,rfl⟩|⟨q,n,rfl,hu⟩
 ·obtain⟨lx,hlx⟩:=a6P (σ:=σ) hK h
  exact(b0n hK h).stays w hlx
 ·simp[rz,Instr.keyThatStays,Instr.sameBits]
theorem a8b {q:IntKind} {n:Int}:∀(E:List MapEntry) (i:Nat),(∀e∈E,∃b,e.key= .int q b)->(Instr.findNow (.int q) (.int q n) E i=some none/\∀e∈E,e.key≠ .int q n)\/∃j e,Instr.findNow (.int q) (.int q n) E i=some (some (i+j,e.val))/\E[j]? =some e/\e.key= .int q n
 |[],i,_=> .inl ⟨rfl,fun e he=>absurd he (by simp)⟩
 |e::r,i,h=>by
  obtain⟨b,hb⟩:=h e (by simp)
  by_cases hn:n=b
  ·subst hn
   exact .inr ⟨0,e,by simp[Instr.findNow,Instr.sameNow,hb],rfl,hb⟩
  ·have hbe:(n==b)=false:=by simp[hn]
   rcases a8b (n:=n) r (i+1) (fun e he=>h e (by simp[he]))with⟨h1,h2⟩|⟨j,e',h1,h2,h3⟩
   ·refine .inl ⟨by simp[Instr.findNow,Instr.sameNow,hb,hbe,h1],fun e' he=> ?_⟩
    rcases List.mem_cons.1 he with rfl|he
    ·rw[hb];intro h;injection h with _ h;exact hn h.symm
    ·exact h2 e' he
   ·exact .inr ⟨j+1,e',by simp[Instr.findNow,Instr.sameNow,hb,hbe,h1];omega,by simpa using h2,h3⟩
theorem b4P {kt:TypeId} {key:AV} (hK:∀t,kty t=true->b2M P t) (hk:b2L P kty kt key=true) (E:List MapEntry) (hE:∀e∈E,∃a,e.key=rz σ a/\b2L P kty kt a=true) (w:World):
  ((Instr.findKey kt (rz σ key) E).run P w= .ok none w/\∀e∈E,e.key≠rz σ key)\/∃j e,(Instr.findKey kt (rz σ key) E).run P w= .ok (some (j,e.val)) w/\E[j]? =some e/\e.key=rz σ key:=by
 rcases a3i hK hk with⟨l,rfl⟩|⟨q,n,rfl,hu⟩
 ·obtain⟨lx,hlx⟩:=a6P (σ:=σ) hK hk
  refine(b0n hK hk).find w hlx E fun e he=> ?_
  obtain⟨a,ha,hb⟩:=hE e he
  rcases a3i hK hb with⟨m,rfl⟩|⟨q,n,rfl,hu⟩
  ·rw[ha];exact a6P hK hb
  ·exact(b4O hK hk hu).elim
 ·rw[rz]
  have run:∀r,Instr.findNow (.int q) (.int q n) E 0=some r->(Instr.findKey kt (.int q n) E).run P w= .ok r w:=fun r hr=>by
   simp only[Instr.findKey,Sem.run_bind,run_underlying hu,Result.andThen_ok,hr,Sem.run_pure]
  rcases a8b (q:=q) (n:=n) E 0 (fun e he=>by
   obtain⟨a,ha,hb⟩:=hE e he
   rcases a3i hK hb with⟨m,rfl⟩|⟨q',n',rfl,hu'⟩
   ·exact(b4O hK hb hu).elim
   ·rw[hu]at hu';cases hu'
    exact⟨n',by rw[ha,rz]⟩)with⟨h1,h2⟩|⟨j,e,h1,h2,h3⟩
  ·exact .inl ⟨run _ h1,h2⟩
  ·exact .inr ⟨j,e,by rw[run _ h1,Nat.zero_add],h2,h3⟩
end
end Go.RZ
/- Concrete runs: iterations over maps, append, copy; all operations with effects. -/
namespace Go.RZ
open Go.RowKit Go.RX Go.GS Go.WideMaps
section
variable {P:Program} {kty:TypeId->Bool} {σ:Rl} {wm:Nat} {H0 H:PH} {o:Oper} {vs:List AV} {x y:Operand} {v:AV}
theorem c5M (seen:List Nat) (b:Nat):seen.toArray.contains b=seen.any (Nat.beq b):=by
 rw[Bool.eq_iff_iff,List.any_eq_true]
 simp
theorem b9N {w:World} {r m since last clock:Nat} {seen:List Nat} {E:List MapEntry} {ty:TypeId} (hr:w.heap[r]? =some (.mapIter (some m) since seen.toArray last)) (hm:w.heap[m]? =some (.map E.toArray clock))
  (hold:∀e∈E.filter (fun e=> !seen.any (Nat.beq e.born)),e.born<since) (hstale:seen=[]\/E=[]\/∃e∈E,e.born<last):
  (E.filter (fun e=> !seen.any (Nat.beq e.born))=[]/\(Instr.next (.pointer (some ⟨r,0,none⟩)) false ty).run P w= .ok (.tuple #[.bool false]) w)\/
  ∃e∈E.filter (fun e=> !seen.any (Nat.beq e.born)),∃w1:World,Ext w w1/\w1.heap=w.heap/\(Instr.next (.pointer (some ⟨r,0,none⟩)) false ty).run P w= .ok (.tuple #[.bool true,e.key,e.val]) {w1 with heap:=w1.heap.setIfInBounds r (.mapIter (some m) since (seen++[e.born]).toArray clock)}:=by
 have hgr:(getObj r).run P w= .ok (.mapIter (some m) since seen.toArray last) w:=by simp[getObj,Sem.run,hr]
 have hst:(!seen.toArray.isEmpty&& !E.toArray.isEmpty&&E.toArray.all fun e=>decide (e.born≥last))=false:=by
  rcases hstale with rfl|rfl|⟨e,he,hlt⟩
  ·simp
  ·simp
  ·have:(E.toArray.all fun e=>decide (e.born≥last))=false:=by
    rw[Bool.eq_false_iff]
    intro h
    rw[List.all_toArray,List.all_eq_true]at h
    have:=h e he
    simp only[decide_eq_true_eq]at this
    omega
   rw[this];simp
 have hfil:E.toArray.filter (fun e=> !seen.toArray.contains e.born)=(E.filter (fun e=> !seen.any (Nat.beq e.born))).toArray:=by
  rw[<-Array.toList_inj,Array.toList_filter]
  simp only[c5M]
 unfold Instr.next
 simp only[Sem.run_bind,hgr,Result.andThen_ok,a2I hm,hst,Bool.false_eq_true,if_false]
 rw[hfil]
 generalize hL:E.filter (fun e=> !seen.any (Nat.beq e.born))=L at hold⊢
 have e1:L.toArray.filter (fun x=>decide (x.born<since))=L.toArray:=Array.filter_eq_self.2 (fun x hx=>by simpa using hold x (by simpa using hx))
 have e2:L.toArray.filter (fun x=>decide (x.born≥since))= #[]:=by
  rw[Array.filter_eq_empty_iff]
  intro x hx
  have:=hold x (by simpa using hx)
  simp
  omega
 simp only[e1,e2,Array.append_empty]
 cases L with
 |nil=>
  left
  refine⟨rfl,?_⟩
  simp[choose,Sem.run,Question.forced]
 |cons a L=>
  right
  have hch:∃(j:Nat) (w1:World),j<(a::L).toArray.size/\Ext w w1/\w1.heap=w.heap/\(choose (Question.mapNext (a::L).toArray.size)).run P w= .ok j w1:=by
   by_cases hf:(a::L).toArray.size<=1
   ·exact⟨0,w,by simp,Ext.refl _,rfl,by
     have:L=[]:=by cases L with|nil=>rfl|cons _ _=>simp at hf
     subst this
     simp[choose,Sem.run,Question.forced]⟩
   ·refine⟨w.tape w.drawn (Question.mapNext (a::L).toArray.size)%(a::L).toArray.size,w.drew,Nat.mod_lt _ (by simp),⟨rfl,rfl,rfl,Nat.le_refl _,fun _ _=>rfl,Nat.le_succ _⟩,rfl,?_⟩
    ·simp only[choose,Sem.run,Question.forced,decide_eq_true_eq,hf,if_false,Question.cut]
     rfl
  obtain⟨j,w1,hj,hx,hh,hrun⟩:=hch
  have hj':j<(a::L).length:=by simpa using hj
  refine⟨(a::L)[j],List.getElem_mem hj',w1,hx,hh,?_⟩
  have hset:∀ob':Obj,(setObj r ob').run P w1= .ok () {w1 with heap:=w1.heap.setIfInBounds r ob'}:=fun ob'=>by
   simp[setObj,Sem.run,hh,hr]
  simp only[List.isEmpty_toArray,List.isEmpty_cons,Bool.false_eq_true,if_false,Array.empty_append,Array.size_map,hrun,Result.andThen_ok,Array.getElem?_map,Array.getElem?_eq_getElem hj,Option.map_some,Sem.run_bind,hset,Sem.run_pure]
  simp
end
end Go.RZ
/- Maps with keys of any kind, in memory; iterations over them. -/
namespace Go.RX
open Go.RowKit Go.RZ
structure d0V (P:Program) (kt:TypeId) {κ:Type} (ok:κ->Prop) (ke:κ->Value):Prop where
 check:∀k,ok k->∀b w,(Instr.checkKey b 10000 kt (ke k)).run P w= .ok () w
 stays:∀k,ok k->∀w,(Instr.keyThatStays (ke k) (ke k)).run P w= .ok (ke k) w
 find:∀k,ok k->∀E:List MapEntry,(∀e∈E,∃a,ok a/\e.key=ke a)->∀w,((Instr.findKey kt (ke k) E).run P w= .ok none w/\∀e∈E,e.key≠ke k)\/∃j e,(Instr.findKey kt (ke k) E).run P w= .ok (some (j,e.val)) w/\E[j]? =some e/\e.key=ke k
 inj:∀a b,ok a->ok b->ke a=ke b->a=b
section
variable {κ:Type} {ok:κ->Prop} {ke:κ->Value}
def eN (ke:κ->Value) (es:List (κ×Value×Nat)):List MapEntry:=es.map fun p=>⟨ke p.1,p.2.1,p.2.2⟩
def kvN (es:List (κ×Value×Nat)):List (κ×Value):=es.map fun p=>(p.1,p.2.1)
structure d6i (ok:κ->Prop) (es:List (κ×Value×Nat)) (clock:Nat):Prop where
 keys:(es.map (·.1)).Nodup
 oks:∀p∈es,ok p.1
 asc:(es.map (·.2.2)).Pairwise (· < ·)
 lt:∀p∈es,p.2.2<clock
def MK (ok:κ->Prop) (ke:κ->Value) (H:PH) (m:Value) (L:List (κ×Value)):Prop:=∃r es clock,m= .map (some r)/\H r=some (.map (eN ke es).toArray clock)/\d6i ok es clock/\kvN es=L
def MKO (ok:κ->Prop) (ke:κ->Value) (B H:PH) (m:Value) (L:List (κ×Value)):Prop:=∃r es clock,m= .map (some r)/\B r=none/\H r=some (.map (eN ke es).toArray clock)/\d6i ok es clock/\kvN es=L
theorem MKO.mk {B H:PH} {m:Value} {L:List (κ×Value)} (h:MKO ok ke B H m L):MK ok ke H m L:=by
 obtain⟨r,es,c,h1,_,h2,h3⟩:=h;exact⟨r,es,c,h1,h2,h3⟩
theorem MKO.mono {B H H':PH} {m:Value} {L:List (κ×Value)} (h:MKO ok ke B H m L) (hl:PH.le H H'):MKO ok ke B H' m L:=by
 obtain⟨r,es,c,h1,h4,h2,h3⟩:=h;exact⟨r,es,c,h1,h4,hl _ _ h2,h3⟩
theorem MK.keys {H:PH} {m:Value} {L:List (κ×Value)} (h:MK ok ke H m L):(L.map (·.1)).Nodup/\∀p∈L,ok p.1:=by
 obtain⟨r,es,c,_,_,h3,rfl⟩:=h
 refine⟨?_,fun p hp=> ?_⟩
 ·have e:(kvN es).map (·.1)=es.map (·.1):=by unfold kvN;rw[List.map_map];rfl
  rw[e];exact h3.keys
 ·obtain⟨q,hq,rfl⟩:=List.mem_map.1 hp
  exact h3.oks q hq
open Classical in
noncomputable def a8w {β:Type} (L:List (κ×β)) (k:κ) (v:β):List (κ×β):=if k∈L.map (·.1)then L.map fun p=>if p.1=k then(k,v)else p else L++[(k,v)]
open Classical in
theorem a2N {β:Type} {L:List (κ×β)} {k x:κ} {v y:β}:(x,y)∈a8w L k v->(x=k/\y=v)\/(x≠k/\(x,y)∈L):=by
 unfold a8w
 split
 ·rename_i hk
  rw[List.mem_map]
  rintro⟨p,hp,e⟩
  split at e
  ·simp only[Prod.mk.injEq]at e;exact .inl ⟨e.1.symm,e.2.symm⟩
  ·rename_i e1;subst e;exact .inr ⟨e1,hp⟩
 ·rename_i hk
  rw[List.mem_append,List.mem_singleton]
  rintro(h1|h1)
  ·refine .inr ⟨fun e=>hk ?_,h1⟩
   subst e;exact List.mem_map.2 ⟨_,h1,rfl⟩
  ·simp only[Prod.mk.injEq]at h1;exact .inl h1
theorem a2O {β:Type} {L:List (κ×β)} {k:κ} {v:β}:(k,v)∈a8w L k v:=by
 unfold a8w
 split
 ·rename_i hk
  obtain⟨p,hp,e⟩:=List.mem_map.1 hk
  exact List.mem_map.2 ⟨p,hp,by rw[if_pos e]⟩
 ·simp
theorem a5w {β:Type} {L:List (κ×β)} {k x:κ} {v y:β} (h:(x,y)∈L) (hx:x≠k):(x,y)∈a8w L k v:=by
 unfold a8w
 split
 ·exact List.mem_map.2 ⟨(x,y),h,by rw[if_neg hx]⟩
 ·simp[h]
section
variable {P:Program} {H:PH} {o:Oper} {x y z:Operand} {T kt et:TypeId} (hK:d0V P kt ok ke)
theorem d0W {es:List (κ×Value×Nat)} (h:∀p∈es,ok p.1):∀e∈eN ke es,∃a,ok a/\e.key=ke a:=fun e he=>by
 obtain⟨p,hp,rfl⟩:=List.mem_map.1 he
 exact⟨p.1,h p hp,rfl⟩
include hK
theorem b9O {es:List (κ×Value×Nat)} (ho:∀p∈es,ok p.1) {k:κ} (hk:ok k) (w:World):
  ((Instr.findKey kt (ke k) (eN ke es)).run P w= .ok none w/\k∉es.map (·.1))\/∃j p,(Instr.findKey kt (ke k) (eN ke es)).run P w= .ok (some (j,p.2.1)) w/\es[j]? =some p/\p.1=k:=by
 rcases hK.find k hk (eN ke es) (d0W ho) w with⟨h1,h2⟩|⟨j,e,h1,h2,h3⟩
 ·refine .inl ⟨h1,fun hm=> ?_⟩
  obtain⟨p,hp,rfl⟩:=List.mem_map.1 hm
  exact h2 _ (List.mem_map.2 ⟨p,hp,rfl⟩) rfl
 ·unfold eN at h2
  rw[List.getElem?_map]at h2
  obtain⟨p,hp,rfl⟩:=Option.map_eq_some_iff.1 h2
  exact .inr ⟨j,p,h1,hp,hK.inj _ _ (ho p (List.mem_of_getElem? hp)) hk h3⟩
theorem a3z {B:PH} {vs:List Value} {m v:Value} {L:List (κ×Value)} {k:κ} (ho:o.op= .mapUpdate T x y z) (hx:a0k [x,y,z] vs x=m) (hy:a0k [x,y,z] vs y=ke k) (hz:a0k [x,y,z] vs z=v) (hu:P.underlying T=some (.map kt et)) (hk:ok k)
  (hle:PH.le B H) (h:MKO ok ke B H m L):Opn P o vs H fun u H'=>u=undef/\PH.le B H'/\MKO ok ke B H' m (a8w L k v)/\∃g ob E c,m= .map (some g)/\B g=none/\H g=some (.map E c)/\H'=H.put g ob:=fun w hw=>by
 obtain⟨r,es,clock,rfl,hB,hH,hE,hkv⟩:=h
 have hos:o.op.operands.toList=[x,y,z]:=by simp[ho,Op.operands]
 have hb:=hw _ _ hH
 unfold Stp
 rw[hos]
 have hkeep:∀ob,PH.le B (H.put r ob):=fun ob c cb hc=>by
  rw[PH.put_ne _ _ (fun e=>by subst e;rw[hB]at hc;cases hc)];exact hle _ _ hc
 have hkeys:L.map (·.1)=es.map (·.1):=by rw[<-hkv];unfold kvN;rw[List.map_map];rfl
 simp only[execOp,ho,hx,hy,hz,Sem.run_bind,Instr.mapUpdate,run_underlying hu,Result.andThen_ok,a2I hb,hK.check k hk]
 rcases b9O hK hE.oks hk w with⟨h1,h2⟩|⟨j,p,h1,h2,h3⟩
 ·rw[h1]
  simp only[Result.andThen_ok,Sem.run_pure,a9N _ hb]
  refine⟨_,Step.setB hw hH _,by first|rfl|trivial,hkeep _,⟨r,es++[(k,v,clock)],clock+1,rfl,hB,?_,⟨?_,?_,?_,?_⟩,?_⟩,r,_,_,_,rfl,hB,hH,rfl⟩
  ·rw[PH.put_self];simp[eN]
  ·rw[List.map_append,List.nodup_append]
   exact⟨hE.keys,by simp,fun a ha b hb=>by simp only[List.map_cons,List.map_nil,List.mem_singleton]at hb;subst hb;intro e;subst e;exact h2 ha⟩
  ·intro p hp;rcases List.mem_append.1 hp with hp|hp
   ·exact hE.oks p hp
   ·rw[List.mem_singleton]at hp;subst hp;exact hk
  ·rw[List.map_append,List.pairwise_append]
   refine⟨hE.asc,by simp,fun a ha b hb=> ?_⟩
   simp only[List.map_cons,List.map_nil,List.mem_singleton]at hb;subst hb
   obtain⟨p,hp,rfl⟩:=List.mem_map.1 ha
   exact hE.lt p hp
  ·intro p hp;rcases List.mem_append.1 hp with hp|hp
   ·have:=hE.lt p hp;omega
   ·rw[List.mem_singleton]at hp;subst hp;exact Nat.lt_succ_self _
  ·unfold a8w;rw[if_neg (by rw[hkeys];exact h2),<-hkv];simp[kvN]
 ·rw[h1]
  have hje:((eN ke es).toArray[j]?.map (·.key)).getD (ke k)=ke k:=by simp[eN,h2,h3]
  simp only[Result.andThen_ok,Sem.run_pure,hje,Sem.run_bind,hK.stays k hk,a9N _ hb]
  have hlt:=(List.getElem?_eq_some_iff.1 h2).1
  have hset:∀{α:Type} (f:κ×Value×Nat->α),f (k,v,p.2.2)=f p->(es.set j (k,v,p.2.2)).map f=es.map f:=fun f hf=>by
   apply List.ext_getElem?
   intro i
   rw[List.getElem?_map,List.getElem?_map,List.getElem?_set]
   by_cases e:j=i
   ·subst e;rw[if_pos rfl,if_pos hlt,h2];simp[hf]
   ·rw[if_neg e]
  refine⟨_,Step.setB hw hH _,by first|rfl|trivial,hkeep _,⟨r,es.set j (k,v,p.2.2),clock,rfl,hB,?_,⟨?_,?_,?_,?_⟩,?_⟩,r,_,_,_,rfl,hB,hH,rfl⟩
  ·rw[PH.put_self]
   congr 2
   rw[<-Array.toList_inj]
   simp only[Array.toList_modify]
   apply List.ext_getElem?
   intro i
   simp only[List.getElem?_modify,eN,List.getElem?_map,List.getElem?_set]
   by_cases e:j=i
   ·subst e
    obtain⟨hlt',h5⟩:=List.getElem?_eq_some_iff.1 h2
    simp[hlt',h5,h3]
   ·simp[e]
  ·rw[hset (·.1) (by simp[h3])];exact hE.keys
  ·intro q hq
   rcases List.mem_or_eq_of_mem_set hq with hq|rfl
   ·exact hE.oks q hq
   ·exact hk
  ·rw[hset (·.2.2) rfl];exact hE.asc
  ·intro q hq
   rcases List.mem_or_eq_of_mem_set hq with hq|rfl
   ·exact hE.lt q hq
   ·exact hE.lt p (List.mem_of_getElem? h2)
  ·have hmem:k∈L.map (·.1):=by rw[hkeys];exact List.mem_map.2 ⟨p,List.mem_of_getElem? h2,h3⟩
   have h0:=hE.keys
   unfold a8w
   rw[if_pos hmem,<-hkv]
   unfold kvN
   rw[List.map_map]
   apply List.ext_getElem?
   intro i
   simp only[List.getElem?_map,List.getElem?_set,Function.comp]
   by_cases e:j=i
   ·subst e
    simp[hlt,(List.getElem?_eq_some_iff.1 h2).2,h3]
   ·rw[if_neg e]
    cases hi:es[i]? with
    |none=>rfl
    |some q=>
     have hne:q.1≠k:=fun e2=>e (by
      refine(List.getElem?_inj (by simpa using hlt) h0).1 ?_
      rw[List.getElem?_map,List.getElem?_map,h2,hi]
      simp[h3,e2])
     simp[hne]
theorem a5x {vs:List Value} {m zr u:Value} {L:List (κ×Value)} {k:κ} {b ok2:Bool} (ho:o.op= .lookup T x y ok2) (hx:a0k [x,y] vs x=m) (hy:a0k [x,y] vs y=ke k) (hu:P.underlying T=some (.map kt et)) (hk:ok k) (hz:∀w,(zeroValue et).run P w= .ok zr w) (h:MK ok ke H m L)
  (hub:(b=false/\u=zr/\k∉L.map (·.1))\/(b=true/\(k,u)∈L)):Rds P o vs H (if ok2 then .tuple #[u,.bool b]else u):=fun w hw=>by
 obtain⟨r,es,clock,rfl,hH,hE,hkv⟩:=h
 have hos:o.op.operands.toList=[x,y]:=by simp[ho,Op.operands]
 have hb:=hw _ _ hH
 have hkeys:L.map (·.1)=es.map (·.1):=by rw[<-hkv];unfold kvN;rw[List.map_map];rfl
 rw[hos]
 simp only[execOp,ho,hx,hy,Sem.run_bind,Instr.lookup,run_underlying hu,Result.andThen_ok,a2I hb,Sem.run_pure,hK.check k hk]
 rcases b9O hK hE.oks hk w with⟨h1,h2⟩|⟨j,p,h1,h2,h3⟩
 ·rw[h1]
  rcases hub with⟨rfl,rfl,_⟩|⟨_,hm⟩
  ·cases ok2<;>simp[hz]
  ·exact absurd (by rw[<-hkeys];exact List.mem_map.2 ⟨_,hm,rfl⟩) h2
 ·rw[h1]
  rcases hub with⟨_,_,hm⟩|⟨rfl,hm⟩
  ·exact absurd (by rw[hkeys];exact List.mem_map.2 ⟨p,List.mem_of_getElem? h2,h3⟩) hm
  ·have:p.2.1=u:=by
    rw[<-hkv]at hm
    obtain⟨q,hq,e⟩:=List.mem_map.1 hm
    simp only[Prod.mk.injEq]at e
    obtain⟨i,hi⟩:=List.mem_iff_getElem?.1 hq
    have l1:=(List.getElem?_eq_some_iff.1 h2).1
    have:j=i:=(List.getElem?_inj (by simpa using l1) hE.keys).1 (by rw[List.getElem?_map,List.getElem?_map,h2,hi];simp[h3,e.1])
    subst this
    rw[h2]at hi;cases hi;exact e.2
   subst this
   cases ok2<;>simp
theorem a2A (ho:o.op= .makeMap T none):Opn P o [] H fun v H'=>PH.le H H'/\MKO ok ke H H' v []:=fun w hw=>by
 have _hK:=hK
 refine(a7r (P:=P) (H:=H) ho w hw).mono ?_
 rintro u w' ⟨H',hs,r,hr,rfl,rfl⟩
 exact⟨_,hs,PH.le_put hr _,r,[],0,rfl,hr,by rw[PH.put_self];rfl,⟨List.nodup_nil,(fun p hp=>by cases hp),List.Pairwise.nil,fun p hp=>by cases hp⟩,rfl⟩
end
def IT (ke:κ->Value) (H:PH) (q r:Nat) (es:List (κ×Value×Nat)) (clock:Nat) (seen:List Nat):Prop:=H q=some (.mapIter (some r) clock seen.toArray clock)/\H r=some (.map (eN ke es).toArray clock)
section
variable {P:Program} {H:PH} {o:Oper} {x:Operand} {T kt et:TypeId}
theorem a4q {vs:List Value} {r clock:Nat} {es:List (κ×Value×Nat)} (ho:o.op= .range T x) (hx:a0k [x] vs x= .map (some r)) (hu:P.underlying T=some (.map kt et)) (hH:H r=some (.map (eN ke es).toArray clock)):
  Opn P o vs H fun v H'=>∃q,H q=none/\v= .pointer (some ⟨q,0,none⟩)/\H'=H.put q (.mapIter (some r) clock #[] clock):=fun w hw=>by
 have hos:o.op.operands.toList=[x]:=by simp[ho,Op.operands]
 have hb:=hw _ _ hH
 unfold Stp
 rw[hos]
 simp only[execOp,ho,hx,Sem.run_bind,Instr.range,run_underlying hu,Result.andThen_ok,a2I hb,Sem.run_pure]
 exact⟨_,Step.newB hw _,_,hw.fresh,rfl,rfl⟩
def left (es:List (κ×Value×Nat)) (seen:List Nat):List (κ×Value×Nat):=es.filter fun p=> !seen.any (Nat.beq p.2.2)
theorem a5y {vs:List Value} {q r clock:Nat} {es:List (κ×Value×Nat)} {seen:List Nat} (ho:o.op= .next x false) (hx:a0k [x] vs x= .pointer (some ⟨q,0,none⟩)) (hE:d6i ok es clock) (h:IT ke H q r es clock seen):
  Opn P o vs H fun v H'=>(left es seen=[]/\v= .tuple #[.bool false]/\H'=H)\/∃p∈left es seen,v= .tuple #[.bool true,ke p.1,p.2.1]/\H'=H.put q (.mapIter (some r) clock (seen++[p.2.2]).toArray clock):=fun w hw=>by
 obtain⟨h1,h2⟩:=h
 have hos:o.op.operands.toList=[x]:=by simp[ho,Op.operands]
 have hq:=hw _ _ h1
 have hr:=hw _ _ h2
 have hlf:(eN ke es).filter (fun e=> !seen.any (Nat.beq e.born))=eN ke (left es seen):=by
  unfold eN left;rw[List.filter_map];rfl
 have hlt:∀e∈eN ke es,e.born<clock:=fun e he=>by
  obtain⟨p,hp,rfl⟩:=List.mem_map.1 he
  exact hE.lt p hp
 have hrun:=b9N (P:=P) (ty:=o.type) hq hr (fun e he=>hlt e (List.mem_filter.1 he).1) (by
  by_cases he:eN ke es=[]
  ·exact .inr (.inl he)
  ·obtain⟨e,r,hh⟩:=List.exists_cons_of_ne_nil he
   exact .inr (.inr ⟨e,by rw[hh];simp,hlt e (by rw[hh];simp)⟩))
 unfold Stp
 rw[hos]
 simp only[execOp,ho,hx,Sem.run_bind]
 rw[hlf]at hrun
 rcases hrun with⟨h3,h4⟩|⟨e,he,w1,hx1,hh1,h4⟩
 ·rw[h4]
  exact⟨_,Step.refl hw,.inl ⟨by unfold eN at h3;simpa using h3,rfl,rfl⟩⟩
 ·rw[h4]
  obtain⟨p,hp,rfl⟩:=List.mem_map.1 he
  exact⟨_,(Step.of_ext hw hx1).trans (Step.setB (hw.ext hx1) h1 _),.inr ⟨p,hp,rfl,rfl⟩⟩
theorem a4r {vs:List Value} {q r clock:Nat} {es:List (κ×Value×Nat)} {seen:List Nat} {p:κ×Value×Nat} (ho:o.op= .entry x) (hx:a0k [x] vs x= .pointer (some ⟨q,0,none⟩)) (hE:d6i ok es clock) (hp:p∈es) (h:IT ke H q r es clock (seen++[p.2.2])):Rds P o vs H (.tuple #[ke p.1,p.2.1]):=fun w hw=>by
 obtain⟨h1,h2⟩:=h
 have hos:o.op.operands.toList=[x]:=by simp[ho,Op.operands]
 have hq:=hw _ _ h1
 have hgr:(getObj q).run P w= .ok (.mapIter (some r) clock (seen++[p.2.2]).toArray clock) w:=by simp[getObj,Sem.run,hq]
 have hgm:=a2I (P:=P) (hw _ _ h2)
 have hf:(eN ke es).toArray.find? (·.born==p.2.2)=some ⟨ke p.1,p.2.1,p.2.2⟩:=by
  rw[<-Array.find?_toList]
  show(eN ke es).find? _=_
  unfold eN
  rw[List.find?_map]
  have hu:es.find? ((fun e:MapEntry=>e.born==p.2.2) ∘ fun p=>⟨ke p.1,p.2.1,p.2.2⟩)=some p:=by
   obtain⟨i,hi⟩:=List.mem_iff_getElem?.1 hp
   rw[List.find?_eq_some_iff_getElem]
   obtain⟨hil,rfl⟩:=List.getElem?_eq_some_iff.1 hi
   refine⟨by simp,i,hil,rfl,fun j hj=> ?_⟩
   have:=List.pairwise_iff_getElem.1 hE.asc j i (by simp;omega) (by simpa using hil) hj
   simp only[List.getElem_map]at this
   simp
   omega
  rw[hu];rfl
 have hb:(seen++[p.2.2]).toArray.back? =some p.2.2:=by simp
 rw[hos]
 simp only[execOp,ho,hx,Sem.run_bind,Instr.entry,hgr,Result.andThen_ok,hb,hgm,bne_self_eq_false,Bool.false_eq_true,if_false,hf,Sem.run_pure]
end
end
end Go.RX

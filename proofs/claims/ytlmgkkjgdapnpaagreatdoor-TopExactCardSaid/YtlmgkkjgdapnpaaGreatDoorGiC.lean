/- Drafts of chapter 22: rolls. -/
import Derived.Test.YtlmgkkjgdapnpaaGreatDoorGiB
namespace Go.RX
open Go.RowKit
theorem a8u:∀l:List UInt8,(l.map (·.toNat)).flatMap (fun c:Nat=>[Value.int .u8 (c:Nat)])=l.map bv
 |[]=>rfl
 |a::l=>by rw[List.map_cons,List.flatMap_cons,a8u l];rfl
theorem b2B {P:Program} {H:PH} {o:Oper} {x:Operand} {src dst e:TypeId} {v:Value} {vs:List Value} {l:List UInt8} {m:List Nat} (hm:m=l.map (·.toNat)) (ho:o.op= .convert src dst x) (hx:a0k [x] vs x=v) (hs:P.underlying src=some (.slice e)) (he:P.underlying e=some (.int .u8)) (hd:P.underlying dst=some .string) (h:SE H 1 (fun c:Nat=>[Value.int .u8 (c:Nat)]) v m):Rds P o vs H (st l):=by
 subst hm
 refine b3j ho hx hs he hd ?_
 unfold SE at h
 rw[List.length_map,a8u]at h
 exact h
theorem a6d {A B:PH} {b:Nat} (h:PH.le A B) (hb:B b=none):A b=none:=by
 cases e:A b with
 |none=>rfl
 |some o=>rw[h _ _ e]at hb;cases hb
section
variable {P:Program} {T e:TypeId} {sz:Nat} {ag:Bool} {α:Type} {ce:α->List Value} {ve:α->Value} (E:El P T e sz ag ce ve)
variable {G Xp:Value->PH->Prop} {nx:List (List Value->PH->Prop)} {ρ:List Value} {H:PH} {o:Oper} {id i:Nat} {args:List SV} {t:Tree} {l:List α} {vs:List Value}
include E
theorem c2I {N:Nat} {parts:Array (Nat×Operand)} (hl:l.length=N) (h0:0<N) (hN:N<=1000) (ho:o.op= .buildSlice T N parts) (hp:parts.toList.map (fun p=>(p.1,a0k (parts.toList.map (·.2)) vs p.2))=(l.zipIdx 0).map fun p=>(p.2,ve p.1)) (ha:args.map (D P ρ)=vs)
  (n:∀v H',PH.le H H'->SO H H' e sz ce v l->den P G Xp t nx (ρ++[v]) H'):den P G Xp (.mk id i o args t) nx ρ H:=by
 obtain⟨ti,zv,h1,h2,h3,h4,h5⟩:=E.inf
 have hpos:=E.pos
 have hsm:=E.small
 have hb:N*sz<=1000*1000:=Nat.mul_le_mul hN hsm
 have hNp:0<N*sz:=Nat.mul_pos h0 hpos
 refine⟨fun b=> .slice (some ⟨b,0,none⟩) N N,.cells (l.flatMap ce).toArray e (0,0),fun w=> ?_,fun b hb=>n _ _ (PH.le_put hb _) (b1z E hb hl (by simp only[maxLen];omega) (by simp))⟩
 have hos:o.op.operands.toList=parts.toList.map (·.2):=by simp[ho,Op.operands]
 have hf:Instr.fill (fun j=>some (j*ti.size,ti.size)) ((Array.range (N*ti.size)).map (zv.cells[· %zv.cells.size]!)) (parts.toList.map fun p=>(p.1,a0k (parts.toList.map (·.2)) vs p.2))=some (l.flatMap ce).toArray:=by
  rw[h3,hp,a6H _ _ _ fun p hp=> ?_]
  ·rw[b1y E.len E.cells,Nat.zero_mul,a9A (by rw[a4B E.len,hl];simp)]
  ·simp only[List.mem_map,Prod.exists]at hp
   obtain⟨a,k,hk,rfl⟩:=hp
   have hk':=List.mem_zipIdx hk
   refine⟨k*sz,sz,rfl,(E.vcells a).1,?_⟩
   have:(k+1)*sz<=N*sz:=Nat.mul_le_mul_right _ (by omega)
   rw[Nat.add_mul,Nat.one_mul]at this
   simpa using this
 have hr:=run_buildSlice (P:=P) w T e N (parts.map fun(j,x)=>(j,a0k (parts.toList.map (·.2)) vs x)) (l.flatMap ce).toArray ti zv E.und h1 h2 (by rw[h3];omega) (by rw[h3];omega) (by rw[Array.toList_map];exact hf)
 rw[hos,ha]
 simp only[execOp,ho,Sem.run_bind,hr,Result.andThen_ok,Sem.run_pure]
theorem b3Q {kl kc:IntKind} {x y:Operand} {m:Nat} {z:α} (hz:a0G P e=ve z) (hc:(madeCells (ve z).cells (m*sz)).toList=(List.replicate m z).flatMap ce) (ho:o.op= .makeSlice T x y) (hx:a0k [x,y] [.int kl (m:Nat),.int kc (m:Nat)] x= .int kl (m:Nat)) (hy:a0k [x,y] [.int kl (m:Nat),.int kc (m:Nat)] y= .int kc (m:Nat)) (hm:m<=1000) (ha:args.map (D P ρ)=[.int kl (m:Nat),.int kc (m:Nat)])
  (n:∀v H',PH.le H H'->SO H H' e sz ce v (List.replicate m z)->den P G Xp t nx (ρ++[v]) H'):den P G Xp (.mk id i o args t) nx ρ H:=by
 obtain⟨ti,zv,h1,h2,h3,h4,h5⟩:=E.inf
 have hzv:zv=ve z:=by
  rw[<-hz];unfold a0G;rw[h1];simp[h2]
 subst hzv
 refine⟨fun b=> .slice (some ⟨b,0,none⟩) m m,.cells (madeCells (ve z).cells (m*sz)) e (0,0),fun w=> ?_,fun b hb=>n _ _ (PH.le_put hb _) (b1z E hb (by simp) (by simp only[maxLen];omega) hc)⟩
 have hos:o.op.operands.toList=[x,y]:=by simp[ho,Op.operands]
 have hb':(ti.bytes:Int)*(m:Int)<=281474976710656:=by
  have h5:=Nat.mul_le_mul h5 hm
  have h:((ti.bytes*m:Nat):Int)<=281474976710656:=by omega
  rwa[Int.natCast_mul]at h
 have hr:=run_make (P:=P) w T e ti (ve z) E.und h1 h2 kl kc (m:Int) (m:Int) (by omega) (Int.le_refl _) hb' (by omega)
 simp only[Int.toNat_natCast,h3]at hr
 rw[hos,ha]
 simp only[execOp,ho,hx,hy,Sem.run_bind,hr,Result.andThen_ok,Sem.run_pure]
end
end Go.RX
namespace Go.GS
def a4E (xs:List Nat) (k:Nat):Nat:=if xs.length=0 then 1 else xs.getD (k%xs.length) 0
theorem d5K {xs:List Nat} (h:∀x∈xs,x<256) (k:Nat):a4E xs k<256:=by
 unfold a4E
 split
 ·decide
 ·rename_i h0
  have:=Nat.mod_lt k (Nat.pos_of_ne_zero h0)
  rw[List.getD_eq_getElem?_getD,List.getElem?_eq_getElem this]
  exact h _ (List.getElem_mem this)
def leI (a b:Int):Int:=if b<a then b else a
theorem d5L {a b m:Int} (ha:0<=a) (hb:0<=b) (h:b<=m):0<=leI a b/\leI a b<=b/\leI a b<=m:=by unfold leI;split<;>omega
def b7d (xs:List Nat) (n s:Nat) (most:Int):List Int:=(List.range n).map fun i=>leI ((a4E xs (s+i):Nat):Int) most
theorem c8z {xs:List Nat} {n s:Nat} {most:Int} (h:0<=most):∀z∈b7d xs n s most,0<=z/\z<=most:=fun z hz=>by
 obtain⟨i,_,rfl⟩:=List.mem_map.1 hz
 exact⟨(d5L (Int.natCast_nonneg _) h (Int.le_refl _)).1,(d5L (Int.natCast_nonneg _) h (Int.le_refl _)).2.1⟩
theorem c2J {xs:List Nat} {n s:Nat} {most:Int}:b7d xs n s most++[leI ((a4E xs (s+n):Nat):Int) most]=b7d xs (n+1) s most:=by
 unfold b7d;rw[List.range_succ,List.map_append];rfl
def c8A (xs:List Nat) (s n:Nat):List Int:=(List.range n).map fun j=>((a4E xs (s+j)%3:Nat):Int)
theorem c2K {xs:List Nat} {n s:Nat}:c8A xs s n++[((a4E xs (s+n)%3:Nat):Int)]=c8A xs s (n+1):=by
 unfold c8A;rw[List.range_succ,List.map_append];rfl
def nmU (i:Nat):List UInt8:=[117,UInt8.ofNat (97+i%26),UInt8.ofNat (97+i/26%26)]
def unF (xs:List Nat) (i:Nat):Un:=⟨nmU i,((a4E xs (9*i):Nat):Int),b7d xs 2 (9*i+1) ((a4E xs (9*i):Nat):Int),b7d xs 3 (9*i+3) 255,c8A xs (9*i+7) 2,false⟩
def d3B:Un:=⟨[115,101,97],0,[0,0],[0,0,0],[0,0],true⟩
def usF (xs:List Nat) (n w:Nat):List Un:=(List.range n).map (unF xs)++List.replicate w d3B
theorem b3R {xs:List Nat} {n w:Nat}:(usF xs n w).length=n+w:=by simp[usF]
theorem c2L {xs:List Nat} {n w i:Nat} {x:Un} (h:(usF xs n w)[i]? =some x):x=if i<n then unF xs i else d3B:=by
 unfold usF at h
 by_cases hi:i<n
 ·rw[List.getElem?_append_left (by simpa using hi),List.getElem?_map,List.getElem?_range hi]at h
  injection h with h
  rw[if_pos hi,<-h]
 ·rw[List.getElem?_append_right (by simpa using hi),List.length_map,List.length_range]at h
  rw[if_neg hi]
  exact List.eq_of_mem_replicate (List.mem_of_getElem? h)
theorem c7l:∀i:Fin 6,Go.Lib.trimS (nmU i.val) d3w=[]:=by decide
theorem d5M:∀n:Fin 7,∀w:Fin 2,(((List.range n.val).map nmU)++List.replicate w.val [115,101,97]).Nodup:=by decide
theorem d3a {xs:List Nat} (h8:∀x∈xs,x<256) {n w:Nat} (h1:1<=n) (h6:n<=6) (hw:w<2):RoV n (usF xs n w):=by
 have hat:∀x∈usF xs n w,(∃i,i<n/\x=unF xs i)\/x=d3B:=fun x hx=>by
  obtain⟨i,hi⟩:=List.getElem?_of_mem hx
  have:=c2L hi
  by_cases h:i<n
  ·rw[if_pos h]at this;exact .inl ⟨i,h,this⟩
  ·rw[if_neg h]at this;exact .inr this
 refine⟨h1,by rw[b3R];omega,by rw[b3R];omega,fun x hx=> ?_,fun i x hx=> ?_,?_⟩
 ·rcases hat x hx with⟨i,hi,rfl⟩|rfl
  ·have hb:=d5K h8 (9*i)
   refine⟨by unfold unF nmU;simp,by unfold unF nmU;simp,c7l ⟨i,by omega⟩,Int.natCast_nonneg _,?_,by simp[unF,b7d],fun z hz=>c8z (Int.natCast_nonneg _) z hz,by simp[unF,b7d],fun z hz=> ?_,by simp[unF,c8A],fun z hz=> ?_⟩
   ·show((a4E xs (9*i):Nat):Int)<=1000000000;omega
   ·have:=c8z (by decide) z hz
    show 0<=z/\z<=1000000000;omega
   ·obtain⟨j,_,rfl⟩:=List.mem_map.1 hz
    have:=Nat.mod_lt (a4E xs (9*i+7+j)) (show 0<3 by decide)
    show 0<=_/\_<=(63:Int);omega
  ·refine⟨by decide,by decide,by decide,by decide,by decide,by decide,by decide,by decide,by decide,by decide,by decide⟩
 ·rw[c2L hx]
  by_cases h:i<n
  ·rw[if_pos h,decide_eq_false (by omega)];rfl
  ·rw[if_neg h,decide_eq_true (by omega)];rfl
 ·have:=d5M ⟨n,by omega⟩ ⟨w,hw⟩
  unfold usF
  rw[List.map_append,List.map_map,List.map_replicate]
  exact this
end Go.GS
namespace Go.Proofs.YtlmgkkjgdapnpaaGreatDoor
open Go.Proofs.Tryz
open Go.RowKit Go.RX Go.GS Go.RZ Go.WD
set_option maxRecDepth 100000
def c7m (g p l w:Nat) (s:Value):Value:= .agg #[.int .u8 (g:Nat),.int .u8 (p:Nat),.int .u8 (l:Nat),.int .u8 (w:Nat),s]
theorem b0D {s:Value} (h:a3G s=true) (g p l w:Nat):(c7m g p l w s).cells.size=5/\a0p (c7m g p l w s).cells:=by
 refine⟨rfl,fun x hx=> ?_⟩
 rw[c7m,a1e]at hx
 simp only[List.mem_cons,List.not_mem_nil,or_false]at hx
 rcases hx with rfl|rfl|rfl|rfl|rfl
 ·rfl
 ·rfl
 ·rfl
 ·rfl
 ·exact h
theorem st_one (l:List UInt8):(st l).cells.size=1/\a0p (st l).cells:=⟨rfl,fun c hc=>by simp[st,Value.cells]at hc;subst hc;rfl⟩
theorem b3S:Ag prog 52 6:=⟨by kernel_rfl,by kernel_rfl,by kernel_rfl⟩
theorem d5N:FA prog 52 2 2:=⟨by kernel_rfl,of_decide_eq_true (by kernel_rfl),by kernel_rfl,by kernel_rfl,of_decide_eq_true (by kernel_rfl)⟩
theorem d5O:FA prog 52 3 3:=⟨by kernel_rfl,of_decide_eq_true (by kernel_rfl),by kernel_rfl,by kernel_rfl,of_decide_eq_true (by kernel_rfl)⟩
theorem c8B:FA prog 52 4 4:=⟨by kernel_rfl,of_decide_eq_true (by kernel_rfl),by kernel_rfl,by kernel_rfl,of_decide_eq_true (by kernel_rfl)⟩
theorem c2M:prog.underlying 22=some (.slice 5):=by kernel_rfl
theorem c8C:prog.underlying 5=some (.int .u8):=by kernel_rfl
theorem c2N:(a0G prog 52).cells= #[st [],ii 0,.slice none 0 0,.slice none 0 0,.slice none 0 0,.bool false]:=by kernel_rfl
theorem d5P:(a0G prog 33).cells= #[.slice none 0 0]:=by kernel_rfl
theorem c2O {ρ:List Value} {x:SV} {a m:Nat} {mi:Int} (hx:D prog ρ x= .int .u8 (a:Nat)) (hmi:mi=(m:Nat)) (hm:m<1000) (h0:0<m):D prog ρ (.cv .i64 (.op2 .rem .u8 x (.k (.int .u8 mi))))=ii ((a%m:Nat):Int):=by
 subst hmi
 show Value.int .i64 (IntKind.i64.wrap (Int.tmod (intOf (D prog ρ x)) (m:Nat)))=_
 rw[hx]
 show Value.int .i64 (IntKind.i64.wrap (Int.tmod ((a:Nat):Int) (m:Nat)))=_
 rw[<-Int.ofNat_tmod]
 have:=Nat.mod_lt a h0
 congr 1
 rw[IntKind.wrap_i64]
 omega
theorem b2C {ρ:List Value} {x y:SV} {a b:Nat} (hx:D prog ρ x=ii (a:Nat)) (hy:D prog ρ y=ii (b:Nat)) (h:a+b<1000000000):D prog ρ (.op2 .add .i64 x y)=ii ((a+b:Nat):Int):=by
 rw[a3I hx hy (by omega) (by omega)];rfl
theorem b2D {ρ:List Value} {x y:SV} {a b:Nat} (hx:D prog ρ x=ii (a:Nat)) (hy:D prog ρ y=ii (b:Nat)) (h:a*b<1000000000):D prog ρ (.op2 .mul .i64 x y)=ii ((a*b:Nat):Int):=by
 show a2U .mul .i64 (intOf (D prog ρ x)) (intOf (D prog ρ y))=_
 rw[hx,hy]
 show Value.int .i64 (IntKind.i64.wrap (((a:Nat):Int)*((b:Nat):Int)))=_
 rw[<-Int.natCast_mul]
 congr 1
 rw[IntKind.wrap_i64]
 omega
section
variable {H:PH} {s:Value} {xs:List Nat} {g p l w:Nat}
theorem a4u (hs:SE H 1 cU8 s xs) (h8:∀x∈xs,x<256) {k:Nat}:Asks prog 112 [c7m g p l w s,ii (k:Nat)] H (ii ((a4E xs k:Nat):Int)):=by
 refine a0b mixed c2A (by kernel_rfl) rfl ?_
 refine a0a (b0D (a0I hs) g p l w) ?_
 refine a0j b0C rfl rfl hs rfl ?_
 refine a0a ⟨_,rfl⟩ ?_
 refine a0f (b:=decide (xs.length=0)) (bE0 _) (fun h0=> ?_) (fun h0=> ?_)
 ·replace h0:=of_decide_eq_true h0
  exact a0c rfl ⟨rfl,by unfold a4E;rw[if_pos h0];rfl⟩
 ·replace h0:=of_decide_eq_false h0
  refine a0j b0C rfl rfl hs rfl ?_
  refine a0a ⟨_,rfl⟩ ?_
  refine a0a ⟨_,rfl⟩ ?_
  refine a0a (show((xs.length:Nat):Int)≠0 by omega) ?_
  have hm:=Nat.mod_lt k (Nat.pos_of_ne_zero h0)
  have hx:xs[k%xs.length]? =some xs[k%xs.length]:=List.getElem?_eq_getElem hm
  refine a0m b0C rfl rfl rfl rfl (fun _=>rfl) hs hx (a0R rfl (a3K rfl rfl)) (fun _=>rfl) fun _=> ?_
  simp only[cA,nA]
  refine a0a ⟨_,rfl⟩ ?_
  exact a0c (show D prog _ _=_ from a8D rfl (h8 _ (List.getElem_mem hm))) ⟨rfl,by unfold a4E;rw[if_neg h0,List.getD_eq_getElem?_getD,hx];rfl⟩
theorem a9q (hs:SE H 1 cU8 s xs) (h8:∀x∈xs,x<256) {n a:Nat} {most:Int} (hn:n<=1000) (ha:a<=1000000):Con prog 113 [c7m g p l w s,ii (n:Nat),ii (a:Nat),ii most] H fun r H'=>PH.le H H'/\SO H H' 3 1 (fun z:Int=>[ii z]) r (b7d xs n a most):=by
 refine a0b mixed c2B (by kernel_rfl) rfl ?_
 refine a0a (b0D (a0I hs) g p l w) ?_
 refine a0o (α:=Nat×Value) (fun⟨i,u⟩=>[u,ii (i:Nat)]) (fun⟨i,u⟩=>fun H'=>i<=n/\PH.le H H'/\SO H H' 3 1 (fun z:Int=>[ii z]) u (b7d xs i a most)) (fun⟨i,u⟩=>n-i) ((0,.slice none 0 0)) rfl (⟨Nat.zero_le _,PH.le.refl _,SO.nil _ _ _ _ _⟩) fun⟨i,u⟩ H' hQ=> ?_
 simp only[cA,nA]
 obtain⟨hi,l1,o1⟩:=hQ
 refine a0a ⟨_,rfl⟩ ?_
 refine a0a ⟨_,rfl⟩ ?_
 refine a0f (b:=decide (((i:Nat):Int)<(n:Nat))) rfl (fun h=> ?_) (fun h=> ?_)
 ·replace h:=of_decide_eq_true h
  have hin:i<n:=by omega
  refine a0a ⟨_,rfl⟩ ?_
  refine a0q (a4u (k:=a+i) (hs.mono l1) h8) (a0R rfl (b2C rfl rfl (by omega))) ?_
  simp only[cA,nA]
  refine a0l ((a6I (vs:=[ii ((a4E xs (a+i):Nat):Int),ii most]) rfl rfl rfl).rds _) rfl ?_
  simp only[cA,nA]
  refine a0P el_int rfl rfl rfl (fun _=>rfl) (fun _=>rfl) l1 o1 (by simp[b7d];omega) rfl (fun _=>rfl) rfl fun q2 u3 H3 l3 o3=> ?_
  simp only[cA,nA]
  have o4:SO H H3 3 1 (fun z:Int=>[ii z]) u3 (b7d xs (i+1) a most):=by rw[<-c2J];exact o3
  exact⟨(i+1,u3),by show n-(i+1)<n-i;omega,(a0R rfl (a0J rfl (by omega))),⟨by show i+1<=n;omega,l3,o4⟩⟩
 ·replace h:=of_decide_eq_false h
  have hin:i=n:=by omega
  subst hin
  exact a0c rfl ⟨l1,o1⟩
structure UnO (A H:PH) (u:UC) (x:Un):Prop where
 name:u.name=x.name
 ppl:u.ppl=x.ppl
 wat:u.wat=x.wat
 grp:SO A H 3 1 (fun z:Int=>[ii z]) (vs u.grp) x.grp
 vot:SO A H 3 1 (fun z:Int=>[ii z]) (vs u.vot) x.vot
 par:SO A H 3 1 (fun z:Int=>[ii z]) (vs u.par) x.par
theorem UnO.mono {A H H':PH} {u:UC} {x:Un} (h:UnO A H u x) (hl:PH.le H H'):UnO A H' u x:=⟨h.name,h.ppl,h.wat,h.grp.mono hl,h.vot.mono hl,h.par.mono hl⟩
theorem UnO.r {A H:PH} {u:UC} {x:Un} (h:UnO A H u x):UnR H u x:=⟨h.name,h.ppl,h.wat,h.grp.se,h.vot.se,h.par.se⟩
theorem b2E:(3:TypeId)≠52:=by decide
theorem UnO.other {A H X:PH} {u:UC} {x:Un} (h:UnO A H u x) (hk:∀k,(∀cs,H k≠some (.cells cs 52 (0,0)))->X k=H k):UnO A X u x:=⟨h.name,h.ppl,h.wat,a2P h.grp hk b2E,a2P h.vot hk b2E,a2P h.par hk b2E⟩
def unC (nm:List UInt8) (pp:Int) (a b c:Value):Array Value:= #[st nm,ii pp,a,b,c,.bool false]
theorem d5Q {ρ:List Value} {a b:SV} {nm:List UInt8} {pp:Int} (ha:D prog ρ a=st nm) (hb:D prog ρ b=ii pp):D prog ρ (.put (.cat a 1 (.cat (.z 3) 1 (.cat (.z 38) 1 (.cat (.z 38) 1 (.cat (.z 38) 1 (.z 4)))))) 1 1 b 0 noI)= .agg (unC nm pp (.slice none 0 0) (.slice none 0 0) (.slice none 0 0)):=by
 simp only[D,ha,hb,c1z,c2n,c8x]
 rfl
theorem b2F:a0G prog 3=ii 0:=by kernel_rfl
theorem b5A {ρ:List Value} {x y:SV} {n:Nat} {a b:Value} (hx:D prog ρ x=a) (hy:D prog ρ y=b):D prog ρ (.cat x n y)= .agg (a.cells++b.cells):=by
 show Value.agg ((D prog ρ x).cells++(D prog ρ y).cells)=_
 rw[hx,hy]
theorem d7v {ρ:List Value} {a b c:SV} {s1 s2 s3:Slc} (ha:D prog ρ a=vs s1) (hb:D prog ρ b=vs s2) (hc:D prog ρ c=vs s3):D prog ρ (.cat (.k (.string ⟨#[115,101,97]⟩)) 1 (.cat (.z 3) 1 (.cat (.sub (.put (.cat a 1 (.cat (.z 38) 1 (.cat (.z 38) 1 (.k (.bool true))))) 1 1 b 0 noI) 0 2 0 noI) 2 (.cat c 1 (.sub (.put (.cat a 1 (.cat (.z 38) 1 (.cat (.z 38) 1 (.k (.bool true))))) 1 1 b 0 noI) 3 1 0 noI)))))=veU ⟨[115,101,97],0,s1,s2,s3,true⟩:=by
 have e1:D prog ρ (.put (.cat a 1 (.cat (.z 38) 1 (.cat (.z 38) 1 (.k (.bool true))))) 1 1 b 0 noI)= .agg #[vs s1,vs s2,.slice none 0 0,.bool true]:=by
  simp only[D,ha,hb,c1z]
  rfl
 have e2:D prog ρ (.sub (.put (.cat a 1 (.cat (.z 38) 1 (.cat (.z 38) 1 (.k (.bool true))))) 1 1 b 0 noI) 0 2 0 noI)= .agg #[vs s1,vs s2]:=by
  show Value.agg ((D prog ρ (.put _ 1 1 b 0 noI)).cells.extract (0+0*a2G (D prog ρ noI)) (0+0*a2G (D prog ρ noI)+2))=_
  rw[e1,Nat.zero_mul];rfl
 have e3:D prog ρ (.sub (.put (.cat a 1 (.cat (.z 38) 1 (.cat (.z 38) 1 (.k (.bool true))))) 1 1 b 0 noI) 3 1 0 noI)= .agg #[.bool true]:=by
  show Value.agg ((D prog ρ (.put _ 1 1 b 0 noI)).cells.extract (3+0*a2G (D prog ρ noI)) (3+0*a2G (D prog ρ noI)+1))=_
  rw[e1,Nat.zero_mul];rfl
 have ez:D prog ρ (.z 3)=ii 0:=b2F
 have e4:veU ⟨[115,101,97],0,s1,s2,s3,true⟩=Value.agg #[.string ⟨#[115,101,97]⟩,ii 0,vs s1,vs s2,vs s3,.bool true]:=rfl
 rw[e4]
 have hsv:(Value.string ⟨#[115,101,97]⟩).cells= #[.string ⟨#[115,101,97]⟩]:=rfl
 generalize Value.string ⟨#[115,101,97]⟩=sv at*
 refine(b5A (a:=sv) rfl (b5A ez (b5A e2 (b5A hc e3)))).trans ?_
 rw[hsv]
 rfl
theorem c2P {ρ:List Value} {x y:SV} {u v:Value} (hx:D prog ρ x=rov u) (hy:D prog ρ y=v) (hc:v.cells= #[v]):D prog ρ (.cat (.sub x 0 3 0 noI) 3 y)=rov v:=by
 show Value.agg ((Value.agg ((D prog ρ x).cells.extract (0+0*a2G (D prog ρ noI)) (0+0*a2G (D prog ρ noI)+3))).cells++(D prog ρ y).cells)=_
 rw[hx,hy,hc,Nat.zero_mul]
 rfl
theorem d6n {ρ:List Value} {x:SV} {a:Nat} (hx:D prog ρ x=ii (a:Nat)) (ha:a<26):D prog ρ (.cv .u8 (.op2 .add .i64 (.k (.int .i64 97)) x))= .int .u8 ((97+a:Nat):Int):=by
 show Value.int .u8 (IntKind.u8.wrap (IntKind.i64.wrap (97+intOf (D prog ρ x))))=_
 rw[hx]
 show Value.int .u8 (IntKind.u8.wrap (IntKind.i64.wrap (97+((a:Nat):Int))))=_
 rw[show IntKind.i64.wrap (97+((a:Nat):Int))=((97+a:Nat):Int) by rw[IntKind.wrap_i64];omega,show IntKind.u8.wrap ((97+a:Nat):Int)=((97+a:Nat):Int) by rw[IntKind.wrap_u8];omega]
theorem c2Q {ρ:List Value} {x:SV} {a:Nat} (hx:D prog ρ x=ii (a:Nat)) (ha:a<1000):D prog ρ (.op2 .quo .i64 x (.k (.int .i64 26)))=ii ((a/26:Nat):Int):=by
 show a2U .quo .i64 (intOf (D prog ρ x)) 26=_
 rw[hx]
 show Value.int .i64 (IntKind.i64.wrap (Int.tdiv ((a:Nat):Int) ((26:Nat):Int)))=_
 rw[<-Int.ofNat_tdiv]
 congr 1
 rw[IntKind.wrap_i64]
 omega
theorem c2R (i:Nat):[97+i%26,97+i/26%26]=[UInt8.ofNat (97+i%26),UInt8.ofNat (97+i/26%26)].map (·.toNat):=by
 have h1:=Nat.mod_lt i (show 0<26 by decide)
 have h2:=Nat.mod_lt (i/26) (show 0<26 by decide)
 have e:∀x,x<256->(UInt8.ofNat x).toNat=x:=fun x hx=>by rw[UInt8.toNat_ofNat'];exact Nat.mod_eq_of_lt hx
 rw[List.map_cons,List.map_cons,List.map_nil,e _ (by omega),e _ (by omega)]
theorem a6e {H H':PH} {b:Nat} {ob:Obj} (h:PH.le H H') (hb:H b=none):PH.le H (H'.put b ob):=PH.le_put_of h hb
set_option maxHeartbeats 2000000 in
theorem b6P (hs:SE H 1 cU8 s xs) (h8:∀x∈xs,x<256) {n wa:Nat} (hn:n<=6):Con prog 63 [c7m 2 3 2 wa s,ii (n:Nat)] H fun r H'=>PH.le H H'/\∃u,r=rov u/\RoR H' u (usF xs n (wa%2)):=by
 refine a0b mixed c2C (by kernel_rfl) rfl ?_
 obtain⟨zr,hzr⟩:∃zr,a0G prog 35=zr:=⟨_,rfl⟩
 refine a0a (b0D (a0I hs) 2 3 2 wa) ?_
 refine a0a ⟨_,rfl⟩ ?_
 refine a0a ⟨_,rfl⟩ ?_
 refine a0a ⟨_,rfl⟩ ?_
 refine a0o (α:=Nat×Value×List UC) (fun⟨i,u,l⟩=>[ii (i:Nat),c7m 2 3 2 wa s,zr,rov u]) (fun⟨i,u,l⟩=>fun H'=>PH.le H H'/\i<=n/\l.length=i/\SO H H' 52 6 ceU u l/\∀(j:Nat) uc,l[j]? =some uc->UnO H H' uc (unF xs j)) (fun⟨i,u,l⟩=>n-i) ((0,.slice none 0 0,[])) (by refine b6Z rfl rfl hzr ?_;show Value.agg (_++(Value.agg (_++(Value.agg (_++(a0G prog 33).cells)).cells)).cells)=_;rw[d5P];rfl) (⟨PH.le.refl _,Nat.zero_le _,rfl,SO.nil _ _ _ _ _,fun j uc h=>by simp at h⟩) fun⟨i,u,l⟩ H' hQ=> ?_
 simp only[cA,nA]
 obtain⟨l1,hin,hll,o1,hU⟩:=hQ
 have hs1:=hs.mono l1
 refine a0a ⟨_,rfl⟩ ?_
 refine a0a ⟨_,rfl⟩ ?_
 refine a0f (b:=decide (((i:Nat):Int)<(n:Nat))) rfl (fun hi2=> ?_) (fun hi2=> ?_)
 ·replace hi2:=of_decide_eq_true hi2
  have hi3:i<n:=by omega
  have hm1:=Nat.mod_lt i (show 0<26 by decide)
  have hm2:=Nat.mod_lt (i/26) (show 0<26 by decide)
  refine⟨(fun l' K=>∃b,l'=[.pointer (some ⟨b,0,none⟩)]/\H' b=none/\PH.le H' K/\K b=some (.cells (unC (nmU i) ((a4E xs (9*i):Nat):Int) (.slice none 0 0) (.slice none 0 0) (.slice none 0 0)) 52 (0,0))),?_,?_⟩
  ·skip
   refine⟨?_,?_⟩
   ·skip
    refine c2I b0C (N:=2) (l:=[97+i%26,97+i/26%26]) (vs:=[.int .u8 ((97+i%26:Nat):Int),.int .u8 ((97+i/26%26:Nat):Int)]) rfl (by decide) (by decide) rfl rfl (a0R (d6n (a3K rfl rfl) hm1) (d6n (a3K (c2Q rfl (by omega)) rfl) hm2)) fun v6 G1 g1 o6=> ?_
    simp only[cA,nA]
    refine a0l ((b2B (vs:=[v6]) (c2R i) rfl rfl c2M c8C a8g o6.se)) rfl ?_
    simp only[cA,nA]
    refine a0l ((c7B (l:=[117]) (m:=[UInt8.ofNat (97+i%26),UInt8.ofNat (97+i/26%26)]) (vs:=[st [117],st [UInt8.ofNat (97+i%26),UInt8.ofNat (97+i/26%26)]]) rfl rfl rfl (by simp)).rds _) rfl ?_
    simp only[cA,nA]
    refine a0q (a4u (k:=9*i) (hs1.mono g1) h8) (a0R rfl (b2D (a:=9) rfl rfl (by omega))) ?_
    simp only[cA,nA]
    refine a0a (st_one _) ?_
    refine a0a (el_int.vcells _) ?_
    refine a0A (cs:= #[st [],ii 0,.slice none 0 0,.slice none 0 0,.slice none 0 0,.bool false]) c2N fun b hb=> ?_
    simp only[cA,nA]
    refine a4V (vs:=(unC (nmU i) ((a4E xs (9*i):Nat):Int) (.slice none 0 0) (.slice none 0 0) (.slice none 0 0)).toList) b3S rfl rfl rfl (PH.put_self _ _ _) rfl (by intro c hc;simp[unC]at hc;rcases hc with rfl|rfl|rfl|rfl|rfl|rfl<;>rfl) (a0R rfl (d5Q (nm:=nmU i) rfl rfl)) (fun h=>(nomatch h)) ?_
    simp only[cA,nA]
    exact⟨b,rfl,a6d g1 hb,a6e (a6e g1 (a6d g1 hb)) (a6d g1 hb),PH.put_self _ _ _⟩
   ·skip
    refine a0q (a4u (k:=9*i) hs1 h8) (a0R rfl (b2D (a:=9) rfl rfl (by omega))) ?_
    simp only[cA,nA]
    refine c2I b0C (N:=2) (l:=[97+i%26,97+i/26%26]) (vs:=[.int .u8 ((97+i%26:Nat):Int),.int .u8 ((97+i/26%26:Nat):Int)]) rfl (by decide) (by decide) rfl rfl (a0R (d6n (a3K rfl rfl) hm1) (d6n (a3K (c2Q rfl (by omega)) rfl) hm2)) fun v7 G1 g1 o6=> ?_
    simp only[cA,nA]
    refine a0l ((b2B (vs:=[v7]) (c2R i) rfl rfl c2M c8C a8g o6.se)) rfl ?_
    simp only[cA,nA]
    refine a0l ((c7B (l:=[117]) (m:=[UInt8.ofNat (97+i%26),UInt8.ofNat (97+i/26%26)]) (vs:=[st [117],st [UInt8.ofNat (97+i%26),UInt8.ofNat (97+i/26%26)]]) rfl rfl rfl (by simp)).rds _) rfl ?_
    simp only[cA,nA]
    refine a0a (st_one _) ?_
    refine a0a (el_int.vcells _) ?_
    refine a0A (cs:= #[st [],ii 0,.slice none 0 0,.slice none 0 0,.slice none 0 0,.bool false]) c2N fun b hb=> ?_
    simp only[cA,nA]
    refine a4V (vs:=(unC (nmU i) ((a4E xs (9*i):Nat):Int) (.slice none 0 0) (.slice none 0 0) (.slice none 0 0)).toList) b3S rfl rfl rfl (PH.put_self _ _ _) rfl (by intro c hc;simp[unC]at hc;rcases hc with rfl|rfl|rfl|rfl|rfl|rfl<;>rfl) (a0R rfl (d5Q (nm:=nmU i) rfl rfl)) (fun h=>(nomatch h)) ?_
    simp only[cA,nA]
    exact⟨b,rfl,a6d g1 hb,a6e (a6e g1 (a6d g1 hb)) (a6d g1 hb),PH.put_self _ _ _⟩
  rintro _ K1 _ ⟨b,rfl,hb,lK1,hK1⟩
  simp only[cA,nA]
  refine a0i b5c rfl rfl rfl ?_
  simp only[cA,nA]
  refine a0g (u:=ii ((a4E xs (9*i):Nat):Int)) sc_int rfl rfl hK1 rfl rfl ?_
  simp only[cA,nA]
  refine a0d (a9q (n:=2) (a:=9*i+1) (most:=((a4E xs (9*i):Nat):Int)) (hs1.mono lK1) h8 (by decide) (by omega)) (b6Z rfl rfl (b2C (b2D (a:=9) rfl rfl (by omega)) (b:=1) rfl (by omega)) rfl) ?_
  rintro g1 K2 ⟨l2,o2⟩
  refine⟨fun h=>(nomatch h),?_⟩
  simp only[cA,nA]
  obtain⟨s2,rfl⟩:=a6v o2.se
  refine a0i d5N rfl rfl rfl ?_
  simp only[cA,nA]
  refine a1f (u:=vs s2) a1S rfl rfl rfl (l2 _ _ hK1) (by show 0+2<6;decide) rfl rfl rfl (fun h=>(nomatch h)) ?_
  simp only[cA,nA]
  change den _ _ _ _ _ _ (K2.put b (.cells (unC (nmU i) ((a4E xs (9*i):Nat):Int) (vs s2) (.slice none 0 0) (.slice none 0 0)) 52 (0,0)))
  have o3:=(a1s (o2.less lK1) (l2 _ _ hK1) b2E).mono (PH.cut_put K2 b (.cells (unC (nmU i) ((a4E xs (9*i):Nat):Int) (vs s2) (.slice none 0 0) (.slice none 0 0)) 52 (0,0)))
  have l3:=a6e (ob:= .cells (unC (nmU i) ((a4E xs (9*i):Nat):Int) (vs s2) (.slice none 0 0) (.slice none 0 0)) 52 (0,0)) (lK1.trans l2) hb
  have hK3:=PH.put_self K2 b (.cells (unC (nmU i) ((a4E xs (9*i):Nat):Int) (vs s2) (.slice none 0 0) (.slice none 0 0)) 52 (0,0))
  generalize K2.put b (.cells (unC (nmU i) ((a4E xs (9*i):Nat):Int) (vs s2) (.slice none 0 0) (.slice none 0 0)) 52 (0,0))=K3 at o3 l3 hK3⊢
  refine a0d (a9q (n:=3) (a:=9*i+3) (most:=255) (hs1.mono l3) h8 (by decide) (by omega)) (b6Z rfl rfl (b2C (b2D (a:=9) rfl rfl (by omega)) (b:=3) rfl (by omega)) rfl) ?_
  rintro g2 K4 ⟨l4,o4⟩
  refine⟨fun h=>(nomatch h),?_⟩
  simp only[cA,nA]
  obtain⟨s4,rfl⟩:=a6v o4.se
  refine a0i d5O rfl rfl rfl ?_
  simp only[cA,nA]
  refine a1f (u:=vs s4) a1S rfl rfl rfl (l4 _ _ hK3) (by show 0+3<6;decide) rfl rfl rfl (fun h=>(nomatch h)) ?_
  simp only[cA,nA]
  change den _ _ _ _ _ _ (K4.put b (.cells (unC (nmU i) ((a4E xs (9*i):Nat):Int) (vs s2) (vs s4) (.slice none 0 0)) 52 (0,0)))
  have o5:=a1s (o4.less l3) (l4 _ _ hK3) b2E
  have o3:=a1s (o3.mono l4) (l4 _ _ hK3) b2E
  have hle:=PH.le_cut (lK1.trans (l2.trans (PH.le.refl _))) hb
  have lcut:PH.le H' (K4.cut b):=PH.le_cut (l3.trans l4) hb
  have hcb:=PH.cut_self K4 b
  refine a0o (α:=Nat×Value) (fun⟨k,pv⟩=>[ii (k:Nat)]) (fun⟨k,pv⟩=>fun K=>k<=2/\PH.le (K4.cut b) K/\K b=some (.cells (unC (nmU i) ((a4E xs (9*i):Nat):Int) (vs s2) (vs s4) pv) 52 (0,0))/\SO (K4.cut b) K 3 1 (fun z:Int=>[ii z]) pv (c8A xs (9*i+7) k)) (fun⟨k,pv⟩=>2-k) ((0,.slice none 0 0)) rfl (⟨Nat.zero_le _,PH.cut_put K4 b _,PH.put_self _ _ _,SO.nil _ _ _ _ _⟩) fun⟨k,pv⟩ K hQ2=> ?_
  simp only[cA,nA]
  obtain⟨hk2,lK,hKb,oP⟩:=hQ2
  obtain⟨sp,rfl⟩:=a6v oP.se
  refine a0a ⟨_,rfl⟩ ?_
  refine a0a ⟨_,rfl⟩ ?_
  refine a0f (b:=decide (((k:Nat):Int)<2)) rfl (fun hk3=> ?_) (fun hk3=> ?_)
  ·replace hk3:=of_decide_eq_true hk3
   refine a0i c8B rfl rfl rfl ?_
   simp only[cA,nA]
   refine a0g (u:=vs sp) a1S rfl rfl hKb rfl rfl ?_
   simp only[cA,nA]
   refine a0q (a4u (k:=9*i+7+k) (hs1.mono (lcut.trans lK)) h8) (a0R rfl (b2C (b2C (b2D (a:=9) rfl rfl (by omega)) (b:=7) rfl (by omega)) rfl (by omega))) ?_
   simp only[cA,nA]
   obtain⟨X,x1,x2,x3,x4⟩:=a2C oP lK
   refine a0a ⟨_,rfl⟩ ?_
   refine a0P el_int rfl rfl rfl (fun _=>rfl) (fun _=>rfl) x2 x3 (by simp[c8A];omega) (a1R (a3K rfl rfl)) (fun _=>rfl) rfl fun q p' K5 lX oX=> ?_
   simp only[cA,nA]
   obtain⟨sq,rfl⟩:=a6v oX.se
   have hK5:=lX _ _ ((x4 b (fun cs=>by rw[hKb];simp only[ne_eq,Option.some.injEq,Obj.cells.injEq,not_and];intro _ e;exact absurd e.symm b2E)).trans hKb)
   refine a0i c8B rfl rfl rfl ?_
   simp only[cA,nA]
   refine a1f (u:=vs sq) a1S rfl rfl rfl hK5 (by show 0+4<6;decide) rfl rfl rfl (fun h=>(nomatch h)) ?_
   simp only[cA,nA]
   change den _ _ _ _ _ _ (K5.put b (.cells (unC (nmU i) ((a4E xs (9*i):Nat):Int) (vs s2) (vs s4) (vs sq)) 52 (0,0)))
   have oY:SO (K4.cut b) K5 3 1 (fun z:Int=>[ii z]) (vs sq) (c8A xs (9*i+7) (k+1)):=by rw[<-c2K];exact oX.less x1
   exact⟨(k+1,vs sq),by show 2-(k+1)<2-k;omega,(a1R (a0J rfl (by omega))),⟨by show k+1<=2;omega,a6e (x1.trans lX) hcb,PH.put_self _ _ _,(a1s oY hK5 b2E).mono (PH.cut_put _ _ _)⟩⟩
  ·replace hk3:=of_decide_eq_false hk3
   have hk2:k=2:=by omega
   subst hk2
   refine a0N (vs:=(unC (nmU i) ((a4E xs (9*i):Nat):Int) (vs s2) (vs s4) (vs sp)).toList) b3S rfl rfl hKb rfl (by show 0+6<=6;decide) rfl ?_
   simp only[cA,nA]
   have lHK:PH.le H K:=l1.trans (lcut.trans lK)
   obtain⟨X,y1,y2,y3,y4⟩:=a2C (o1.mono (lcut.trans lK)) lHK
   refine a0P a0U rfl rfl rfl (fun _=>rfl) (fun _=>rfl) y2 y3 (by omega) (show _=[veU ⟨nmU i,((a4E xs (9*i):Nat):Int),s2,s4,sp,false⟩]from rfl) (fun _=>rfl) rfl fun q u' K7 l7 o7=> ?_
   simp only[cA,nA]
   have hnew:UnO H K7 ⟨nmU i,((a4E xs (9*i):Nat):Int),s2,s4,sp,false⟩ (unF xs i):=((⟨rfl,rfl,rfl,(o3.mono lK).less l1,(o5.mono lK).less l1,oP.less (l1.trans lcut)⟩:UnO H K ⟨nmU i,((a4E xs (9*i):Nat):Int),s2,s4,sp,false⟩ (unF xs i)).other y4).mono l7
   refine a0a (o7.se.one) ?_
   exact⟨(i+1,u',l++[⟨nmU i,((a4E xs (9*i):Nat):Int),s2,s4,sp,false⟩]),by show n-(i+1)<n-i;omega,(b6Z (a0J rfl (by omega)) rfl rfl (c2P rfl rfl o7.se.cells)),⟨y1.trans l7,by show i+1<=n;omega,by show(l++[_]).length=i+1;rw[List.length_append,hll];rfl,o7.less y1,fun j uc hj=>by rcases Nat.lt_or_ge j l.length with h|h;rw[List.getElem?_append_left h]at hj;exact(((hU j uc hj).mono (lcut.trans lK)).other y4).mono l7;have hj1:j=i:=(by have:=(List.getElem?_eq_some_iff.1 hj).1;simp at this;omega);subst hj1;rw[List.getElem?_append_right h,hll,Nat.sub_self]at hj;injection hj with hj;subst hj;exact hnew⟩⟩
 ·replace hi2:=of_decide_eq_false hi2
  have hie:i=n:=by omega
  subst hie
  refine a0o (α:=Nat×Value×List UC) (fun⟨j,u2,l2⟩=>[ii (j:Nat),rov u2]) (fun⟨j,u2,l2⟩=>fun K=>PH.le H K/\j<=wa%2/\l2.length=i+j/\SO H K 52 6 ceU u2 l2/\∀(m:Nat) uc,l2[m]? =some uc->UnO H K uc (if m<i then unF xs m else d3B)) (fun⟨j,u2,l2⟩=>wa%2-j) ((0,u,l)) rfl (⟨l1,Nat.zero_le _,by omega,o1,fun m uc hm=>by rw[if_pos (by have:=(List.getElem?_eq_some_iff.1 hm).1;omega)];exact hU m uc hm⟩) fun⟨j,u2,l2⟩ K hQ2=> ?_
  simp only[cA,nA]
  obtain⟨lK,hj2,hl2,oK,hUK⟩:=hQ2
  refine a0a ⟨_,rfl⟩ ?_
  refine a0a ⟨_,rfl⟩ ?_
  refine a0f (b:=decide (((j:Nat):Int)<((wa%2:Nat):Int))) (by show Value.bool (decide (_<intOf (D prog _ (.cv .i64 (.op2 .rem .u8 _ _)))))=_;rw[c2O (m:=2) (mi:=2) (a:=wa) rfl rfl (by decide) (by decide)];rfl) (fun hj3=> ?_) (fun hj3=> ?_)
  ·replace hj3:=of_decide_eq_true hj3
   refine b3Q el_int (m:=2) b2F (by kernel_rfl) rfl rfl rfl (by decide) rfl fun v8 G1 g1 q1=> ?_
   simp only[cA,nA]
   refine b3Q el_int (m:=3) b2F (by kernel_rfl) rfl rfl rfl (by decide) rfl fun v9 G2 g2 q2=> ?_
   simp only[cA,nA]
   refine b3Q el_int (m:=2) b2F (by kernel_rfl) rfl rfl rfl (by decide) rfl fun v10 G3 g3 q3=> ?_
   simp only[cA,nA]
   obtain⟨s8,rfl⟩:=a6v q1.se
   obtain⟨s9,rfl⟩:=a6v q2.se
   obtain⟨s10,rfl⟩:=a6v q3.se
   refine a0a (a9k rfl rfl) ?_
   refine a0a (a9k rfl rfl) ?_
   refine a0a (a9k rfl rfl) ?_
   have gg:=g1.trans (g2.trans g3)
   obtain⟨X,y1,y2,y3,y4⟩:=a2C (oK.mono gg) (lK.trans gg)
   refine a0P a0U rfl rfl rfl (fun _=>rfl) (fun _=>rfl) y2 y3 (by omega) (a1R (d7v rfl rfl rfl)) (fun _=>rfl) rfl fun q u' K7 l7 o7=> ?_
   simp only[cA,nA]
   have hnew:UnO H K7 ⟨[115,101,97],0,s8,s9,s10,true⟩ d3B:=((⟨rfl,rfl,rfl,(q1.mono (g2.trans g3)).less lK,(q2.mono g3).less (lK.trans g1),q3.less (lK.trans (g1.trans g2))⟩:UnO H G3 ⟨[115,101,97],0,s8,s9,s10,true⟩ d3B).other y4).mono l7
   refine a0a (o7.se.one) ?_
   exact⟨(j+1,u',l2++[⟨[115,101,97],0,s8,s9,s10,true⟩]),by show wa%2-(j+1)<wa%2-j;omega,(a0R (a0J rfl (by omega)) (c2P rfl rfl o7.se.cells)),⟨y1.trans l7,by show j+1<=wa%2;omega,by show(l2++[_]).length=i+(j+1);rw[List.length_append,hl2];rfl,o7.less y1,fun m uc hm=>by rcases Nat.lt_or_ge m l2.length with h|h;rw[List.getElem?_append_left h]at hm;exact(((hUK m uc hm).mono gg).other y4).mono l7;have hj1:m=i+j:=(by have:=(List.getElem?_eq_some_iff.1 hm).1;simp at this;omega);rw[if_neg (by omega)];rw[List.getElem?_append_right h,hl2,hj1,Nat.sub_self]at hm;injection hm with hm;subst hm;exact hnew⟩⟩
  ·replace hj3:=of_decide_eq_false hj3
   have hje:j=wa%2:=by omega
   exact a0c rfl ⟨lK,u2,rfl,l2,oK.se,by rw[b3R];omega,fun m uc x hm hx=>by rw[c2L hx];exact(hUK m uc hm).r⟩
end
end Go.Proofs.YtlmgkkjgdapnpaaGreatDoor

/- Chapter 32: a step of the chain, in plain terms. -/
import Derived.Test.YtmannekkmdockaaGreatDoorGuB
import Derived.Test.YtmannekkmdockaaGreatDoorGcC
import Derived.Test.YtmannekkmdockaaGreatDoorGmT
import Derived.Test.YtmannekkmdockaaGreatDoorGdA
import Derived.Test.YtmannekkmdockaaGreatDoorRfI
import Derived.Test.YtmannekkmdockaaGreatDoorRxT
import Derived.Test.YtmannekkmdockaaGreatDoorWdB
import Derived.Laws.Small
namespace Go.GS
def b7g:List Int->List Int->List Int
 |_,[]=>[]
 |F,x::r=>if x∈F then((F.idxOf x:Nat):Int)::b7g F r else((F.length:Nat):Int)::b7g (F++[x]) r
def a0m (p:List Int):List Int:=b7g [] p
def a8s:List Int->List Int->List Int
 |F,[]=>F
 |F,x::r=>if x∈F then a8s F r else a8s (F++[x]) r
theorem a6C:∀(r F:List Int),∃s,a8s F r=F++s
 |[],F=>⟨[],by simp[a8s]⟩
 |x::r,F=>by
  simp only[a8s]
  split
  ·exact a6C r F
  ·obtain⟨s,h⟩:=a6C r (F++[x])
   exact⟨x::s,by rw[h];simp⟩
theorem a1U:∀(r F:List Int) (y:Int),y∈a8s F r↔y∈F\/y∈r
 |[],F,y=>by simp[a8s]
 |x::r,F,y=>by
  simp only[a8s]
  split
  ·rename_i hx
   rw[a1U r F y]
   constructor
   ·rintro(h|h)
    ·exact .inl h
    ·exact .inr (by simp[h])
   ·rintro(h|h)
    ·exact .inl h
    ·rcases List.mem_cons.1 h with rfl|h
     ·exact .inl hx
     ·exact .inr h
  ·rw[a1U r (F++[x]) y]
   simp only[List.mem_append,List.mem_cons,List.not_mem_nil,or_false,or_assoc]
theorem a3b:∀(r F:List Int),F.Nodup->(a8s F r).Nodup
 |[],F,h=>by simpa[a8s]using h
 |x::r,F,h=>by
  simp only[a8s]
  split
  ·exact a3b r F h
  ·rename_i hx
   refine a3b r (F++[x]) (List.nodup_append.2 ⟨h,by simp,fun a ha b hb=> ?_⟩)
   obtain rfl:=List.mem_singleton.1 hb
   exact fun e=>hx (e ▸ ha)
theorem c0X {F s:List Int} {x:Int} (h:x∈F):(F++s).idxOf x=F.idxOf x:=by
 rw[List.idxOf_append,if_pos h]
theorem b3I:∀(r F:List Int),b7g F r=r.map fun x=>(((a8s F r).idxOf x:Nat):Int)
 |[],F=>by simp[b7g]
 |x::r,F=>by
  simp only[b7g,a8s]
  split
  ·rename_i hx
   obtain⟨s,hs⟩:=a6C r F
   rw[List.map_cons,b3I r F,hs,c0X hx]
  ·rename_i hx
   obtain⟨s,hs⟩:=a6C r (F++[x])
   rw[List.map_cons,b3I r (F++[x])]
   congr 1
   rw[hs,c0X (by simp),List.idxOf_append,if_neg hx]
   simp
theorem a5j (p:List Int):a0m p=p.map fun x=>(((a8s [] p).idxOf x:Nat):Int):=b3I p []
theorem a0T (p:List Int):(a0m p).length=p.length:=by rw[a5j,List.length_map]
theorem mask_mem2 {p:List Int} {d:Int}:a0R p d≠0↔d∈p:=by
 constructor
 ·intro h
  obtain⟨x,h1,h2⟩:=b1Q (a:=0) (b:=a0R p d) (fun e=>h e.symm) (fun y hy=>by rw[a0J]at hy;cases hy)
  unfold a0R at h1
  rw[b0f,Bool.and_eq_true]at h1
  exact List.mem_of_getElem? (of_decide_eq_true h1.2)
 ·intro h e
  obtain⟨i,hi⟩:=List.mem_iff_getElem?.1 h
  have hlt:=(List.getElem?_eq_some_iff.1 hi).1
  have:bit (a0R p d) i=true:=by unfold a0R;rw[b0f,decide_eq_true hlt,decide_eq_true hi];rfl
  rw[e,a0J]at this;cases this
theorem c0Y {p:List Int} {k:Nat} (hL:LabOk p (k:Nat)) (hU:a3G p k):(a8s [] p).length=k:=by
 have hn:=a3b p [] List.nodup_nil
 have hr:((List.range k).map fun i:Nat=>(i:Int)).Nodup:=by
  rw[List.nodup_iff_pairwise_ne,List.pairwise_map]
  exact(List.nodup_range (n:=k)).imp fun h e=>h (by omega)
 have h1:=List.Nodup.length_le_of_subset hn (l₂:=(List.range k).map fun i:Nat=>(i:Int)) fun x hx=>by
  have hx:=((a1U p [] x).1 hx).resolve_left (by simp)
  have:=hL.1 x hx
  exact List.mem_map.2 ⟨x.toNat,List.mem_range.2 (by omega),by omega⟩
 have h2:=List.Nodup.length_le_of_subset hr (l₂:=a8s [] p) fun x hx=>by
  obtain⟨d,hd,rfl⟩:=List.mem_map.1 hx
  exact(a1U p [] _).2 (.inr (mask_mem2.1 (hU d (List.mem_range.1 hd))))
 rw[List.length_map,List.length_range]at h1 h2
 omega
theorem a3c {p:List Int} {k:Nat} (hL:LabOk p (k:Nat)) (hU:a3G p k):LabOk (a0m p) (k:Nat):=by
 refine⟨fun x hx=> ?_,by rw[a0T];exact hL.2.1,by rw[a0T];exact hL.2.2⟩
 rw[a5j]at hx
 obtain⟨y,hy,rfl⟩:=List.mem_map.1 hx
 have:=List.idxOf_lt_length_of_mem ((a1U p [] y).2 (.inr hy))
 rw[c0Y hL hU]at this
 omega
theorem a2l {p:List Int} {k:Nat} (hL:LabOk p (k:Nat)) (hU:a3G p k):a3G (a0m p) k:=fun d hd=>by
 rw[mask_mem2,a5j]
 have hl:=c0Y hL hU
 have hd':d<(a8s [] p).length:=by omega
 refine List.mem_map.2 ⟨(a8s [] p)[d],((a1U p [] _).1 (List.getElem_mem hd')).resolve_left (by simp),?_⟩
 rw[List.Nodup.idxOf_getElem (a3b p [] List.nodup_nil) d hd']
def rcV (i k:Int) (a m:Nat) (x:Int):Int:=if x=i\/x=k then(if bit a m=true then i else k)else x
def a4m (p:List Int) (i k:Int) (a:Nat):List Int:=p.mapIdx fun m x=>rcV i k a m x
theorem b0x {p:List Int} {i k:Int} {a m:Nat} {x:Int} (h:p[m]? =some x):(a4m p i k a)[m]? =some (rcV i k a m x):=by
 unfold a4m;rw[List.getElem?_mapIdx,h];rfl
theorem a1N (p:List Int) (i k:Int) (a:Nat):(a4m p i k a).length=p.length:=by unfold a4m;rw[List.length_mapIdx]
theorem b0y {p:List Int} {i k:Int} {a:Nat} {m:Int} (hL:LabOk p m) (hi:0<=i/\i<m) (hk:0<=k/\k<m):LabOk (a4m p i k a) m:=by
 refine⟨fun x hx=> ?_,by rw[a1N];exact hL.2.1,by rw[a1N];exact hL.2.2⟩
 obtain⟨j,hj⟩:=List.mem_iff_getElem?.1 hx
 unfold a4m at hj
 rw[List.getElem?_mapIdx]at hj
 obtain⟨y,hy,rfl⟩:=Option.map_eq_some_iff.1 hj
 unfold rcV
 split
 ·split
  ·exact hi
  ·exact hk
 ·exact hL.1 y (List.mem_of_getElem? hy)
def btB (a b:Nat) (e:Nat×Nat):Bool:=bit a e.1&&bit b e.2||bit a e.2&&bit b e.1
def d1z (es:List (Nat×Nat)) (a b:Nat):Nat:=(es.filter (btB a b)).length
def b5J (i j:Nat):List (Nat×Nat):=(List.range (j-(i+1))).map fun d=>(i,i+1+d)
def prI (k i:Nat):List (Nat×Nat):=(List.range i).flatMap fun a=>b5J a k
def a0w (k:Nat):List (Nat×Nat):=prI k k
theorem b5K (k i:Nat):prI k (i+1)=prI k i++b5J i k:=by unfold prI;rw[List.range_succ,List.flatMap_append];simp
theorem c0Z {i j:Nat} (h:i+1<=j):b5J i (j+1)=b5J i j++[(i,j)]:=by
 unfold b5J
 rw[show j+1-(i+1)=(j-(i+1))+1 by omega,List.range_succ,List.map_append,List.map_cons,List.map_nil,show i+1+(j-(i+1))=j by omega]
theorem c4L (i:Nat):b5J i (i+1)=[]:=by unfold b5J;rw[Nat.sub_self];rfl
theorem b5L (i j:Nat):(b5J i j).length=j-(i+1):=by simp[b5J]
theorem b0z (k:Nat):∀i,(prI k i).length<=i*k
 |0=>by simp[prI]
 |i+1=>by
  rw[b5K,List.length_append,b5L]
  have:=b0z k i
  rw[Nat.add_mul,Nat.one_mul];omega
theorem a5k {k:Nat} {e:Nat×Nat} (h:e∈a0w k):e.1<e.2/\e.2<k:=by
 unfold a0w prI b5J at h
 obtain⟨a,ha,h⟩:=List.mem_flatMap.1 h
 obtain⟨d,hd,rfl⟩:=List.mem_map.1 h
 rw[List.mem_range]at ha hd
 simp only
 omega
theorem c1a (k:Nat) (h:k<=8):(a0w k).length<=64:=Nat.le_trans (b0z k k) (Nat.mul_le_mul h h)
end Go.GS
/- How many edges a small set has. -/
namespace Go.GS
def prs:List Nat->List (Nat×Nat)
 |[]=>[]
 |a::r=>r.map (fun b=>(a,b))++prs r
def tri:Nat->Nat
 |0=>0
 |n+1=>n+tri n
theorem c9Y (l:List Nat):(prs l).length=tri l.length:=by
 induction l with
 |nil=>rfl
 |cons a r ih=>simp only[prs,List.length_append,List.length_map,List.length_cons,tri,ih]
theorem c4M {m n:Nat} (h:m<=n):tri m<=tri n:=by
 induction h with
 |refl=>exact Nat.le_refl _
 |step _ ih=>exact Nat.le_trans ih (Nat.le_add_left _ _)
theorem c9Z {l:List Nat} (hl:l.Pairwise (· < ·)) {x y:Nat} (hx:x∈l) (hy:y∈l) (hxy:x<y):(x,y)∈prs l:=by
 induction l with
 |nil=>cases hx
 |cons a r ih=>
  rw[List.pairwise_cons]at hl
  simp only[prs,List.mem_append,List.mem_map]
  rcases List.mem_cons.1 hx with hxa|hx
  ·subst hxa
   rcases List.mem_cons.1 hy with hya|hy
   ·omega
   ·exact .inl ⟨y,hy,rfl⟩
  ·rcases List.mem_cons.1 hy with hya|hy
   ·have:=hl.1 x hx;omega
   ·exact .inr (ih hl.2 hx hy)
theorem a6D {α:Type} [DecidableEq α]:∀{l m:List α},l.Nodup->(∀x∈l,x∈m)->l.length<=m.length:=by
 intro l
 induction l with
 |nil=>intro m _ _;exact Nat.zero_le _
 |cons a l ih=>
  intro m hn hs
  rw[List.nodup_cons]at hn
  have ha:=hs a (by simp)
  have:=ih (m:=m.erase a) hn.2 fun x hx=>(List.mem_erase_of_ne (fun e:x=a=>by subst e;exact hn.1 hx)).2 (hs x (List.mem_cons_of_mem _ hx))
  rw[List.length_erase_of_mem ha]at this
  have:=List.length_pos_of_mem ha
  rw[List.length_cons];omega
theorem c4N {n:Nat} {es:List (Nat×Nat)} (hg:GV n es) {set:Nat} (hs:set<M64):a4l es set 0<=tri (card set):=by
 unfold a4l
 rw[List.drop_zero,show card set=(els set).length from rfl,<-c9Y]
 have hnd:es.Nodup:=hg.ord.imp fun h e=>by subst e;rcases h with h|h<;>omega
 refine a6D (List.Pairwise.filter _ hnd) fun e he=> ?_
 rw[List.mem_filter]at he
 have h1:=hg.ed e he.1
 have h2:=he.2
 unfold inB at h2
 rw[Bool.and_eq_true]at h2
 exact c9Z (a2v set) ((a2a hs).2 h2.1) ((a2a hs).2 h2.2) h1.1
theorem c1b {n:Nat} {es:List (Nat×Nat)} (hg:GV n es) {set:Nat} (hs:set<M64) (h9:card set<=9):a4l es set 0<=36:=
 Nat.le_trans (c4N hg hs) (c4M h9)
end Go.GS
/- Chapter 32: all spanning trees, part 2. -/
namespace Go.Proofs.YtmannekkmdockaaGreatDoor
open Go.Proofs.Tryz
open Go.RowKit Go.RX Go.GS
section
variable {H:PH} {n:Nat} {w:Value} {es:List (Nat×Nat)} {set:Nat}
def Trs (H0 H:PH) (es:List (Nat×Nat)) (set:Nat) (r:Value) (l:List Slc):Prop:=
 SO H0 H 32 1 (fun s:Slc=>[vs s]) r l/\(∀s∈l,∃t,SO H0 H 3 1 (fun z:Int=>[ii z]) (vs s) t/\TreeOk es set t)/\l.length<=68719476736
theorem b7h (hw:SG H w es) (hg:GV n es) (hs:set<2^n) (h0:set≠0) (h9:card set<=9):Con prog 42 [gv n w,uv set] H fun r H'=>PH.le H H'/\∃l,Trs H H' es set r l/\(Cn es set->l≠[]):=by
 refine a0b mixed c0b (by kernel_rfl) rfl ?_
 have h36:=c1b hg (a1g hg.n64 hs) h9
 refine a0a (a0S hw) ?_
 refine a0d (b7b hg hs h0 h36 _ [] (.slice none 0 0) H (Nat.le_refl _) hw (SE.nil _ _ _) (Beg.nil _ _)) rfl ?_
 rintro r H1 ⟨l1,l,h1,h2,h3,h4⟩
 refine⟨fun h=>(nomatch h),?_⟩
 simp only[cA,nA]
 exact a0c rfl ⟨l1,l,⟨h1,h2,Nat.le_trans h3 (Nat.le_trans (Nat.pow_le_pow_right (by decide) h36) (by decide))⟩,fun hc=>h4 (Spn.start hc)⟩
end
end Go.Proofs.YtmannekkmdockaaGreatDoor
/- Chapter 32: drafts: labels of a forest. -/
namespace Go.Proofs.YtmannekkmdockaaGreatDoor
open Go.Proofs.Tryz
open Go.RowKit Go.RX Go.GS
theorem d0a {n i:Nat} (h:i<n):(List.replicate i (-1:Int)++List.replicate (n-i) 0).set i (-1)=List.replicate (i+1) (-1)++List.replicate (n-(i+1)) 0:=by
 obtain⟨k,hk⟩:∃k,n-i=k+1:=⟨n-i-1,by omega⟩
 rw[hk,show n-(i+1)=k by omega,List.replicate_succ,List.replicate_succ',List.append_assoc]
 simp[List.set_append]
end Go.Proofs.YtmannekkmdockaaGreatDoor
/- Chapter 32: drafts: weights. -/
namespace Go.Proofs.YtmannekkmdockaaGreatDoor
open Go.Proofs.Tryz
open Go.RowKit Go.RX Go.GS
def arI (l:List Int):Value:= .agg (l.map ii).toArray
theorem a7S (l:List Int):(arI l).cells=(l.map ii).toArray:=rfl
theorem c4O {ρ:List Value} {x i:SV} {l:List Int} {d:Nat} {y:Int} (hx:D prog ρ x=arI l) (hi:D prog ρ i=ii (d:Nat)) (hd:l[d]? =some y):D prog ρ (.cell x 0 1 i)=ii y:=by
 show(D prog ρ x).cells.getD (0+1*a2j (D prog ρ i)) undef=_
 rw[hx,hi,a7S]
 show((l.map ii).toArray).getD (0+1*((d:Nat):Int).toNat) undef=_
 rw[Int.toNat_natCast,Nat.zero_add,Nat.one_mul,Array.getD_eq_getD_getElem?,List.getElem?_toArray,List.getElem?_map,hd]
 rfl
theorem c4P {ρ:List Value} {x y i:SV} {l:List Int} {d:Nat} {z:Int} (hx:D prog ρ x=arI l) (hy:D prog ρ y=ii z) (hi:D prog ρ i=ii (d:Nat)):D prog ρ (.put x 0 1 y 1 i)=arI (l.set d z):=by
 show Value.agg (spl (D prog ρ x).cells (0+1*a2j (D prog ρ i)) (D prog ρ y).cells.toList)=_
 rw[hx,hi,hy,a7S]
 show Value.agg (spl (l.map ii).toArray (0+1*((d:Nat):Int).toNat) [ii z])=_
 rw[Int.toNat_natCast,Nat.zero_add,Nat.one_mul]
 show Value.agg ((l.map ii).toArray.setIfInBounds d (ii z))=Value.agg _
 congr 1
 rw[<-Array.toList_inj]
 simp[List.map_set]
theorem z_8:a0L prog 167=arI (List.replicate 8 0):=by kernel_rfl
theorem c6G {ρ:List Value} {x:SV} {l:List Int} {y:Int} (hx:D prog ρ x=arI l) (hd:l[0]? =some y):D prog ρ (.cell x 0 0 noI)=ii y:=by
 show(D prog ρ x).cells.getD (0+0*a2j (D prog ρ noI)) undef=_
 rw[hx,a7S,Nat.zero_mul,Array.getD_eq_getD_getElem?,List.getElem?_toArray,List.getElem?_map,hd]
 rfl
theorem d3u {ρ:List Value} {a b:SV} {x y:Int} (ha:D prog ρ a=ii x) (hb:D prog ρ b=ii y):D prog ρ (.op2 .add .i64 a b)=ii (IntKind.i64.wrap (x+y)):=by
 show a2E .add .i64 (intOf (D prog ρ a)) (intOf (D prog ρ b))=_
 rw[ha,hb];rfl
end Go.Proofs.YtmannekkmdockaaGreatDoor
/- Contract of Parse. -/
namespace Go.WD
open Go.RX
theorem take_snoc {l:List UInt8} {p:Nat} (h:p<l.length):l.take (p+1)=l.take p++[l.getD p 0]:=by
 rw[List.take_succ_eq_append_getElem h,List.getD_eq_getElem?_getD,List.getElem?_eq_getElem h];rfl
end Go.WD
/- Contracts of the helpers of the laws of chapter 01. -/
namespace Go.WD
open Go.RX
theorem d0b {a b k:Nat} (h:k=a+b):2^a*2^b=2^k:=by rw[h,Nat.pow_add]
theorem d3v {k:Nat} (h:k=511):HM=2^k:=by
 have e:=b1C 7
 rw[b3g,e]
 generalize hb:64*7=b
 exact d0b (a:=63) (b:=b) (by omega)
theorem c1c {k:Nat} (h:k<=511):2^k<=HM:=by
 obtain⟨n,hn⟩:∃n:Nat,n=511:=⟨_,rfl⟩
 rw[d3v hn];exact Nat.pow_le_pow_right (by omega) (by omega)
end Go.WD
namespace Go.Proofs.YtmannekkmdockaaGreatDoor
open Go.Proofs.Tryz
open Go.RowKit Go.RX Go.WD Go.IntWalk
theorem c6H {x y:Int} (hx:b0S x) (hy:b0S y):Det prog 28 [iw x,iw y] (told (x*y)):=by
 have:=c7P (rs x) (rs y);rwa[toI_rs hx,toI_rs hy]at this
end Go.Proofs.YtmannekkmdockaaGreatDoor
/- Chapter 32: the reference's trees by number. -/
namespace Go.Proofs.YtmannekkmdockaaGreatDoor
open Go.Proofs.Tryz
open Go.RowKit Go.RX Go.GS
open Go.WD (wd toI iw)
section
variable {H:PH} {n:Nat} {w:Value} {es:List (Nat×Nat)} {set:Nat}
theorem a4E (a:Nat):(wd a).cells.size=8/\a0t (wd a).cells:=⟨Go.WD.words_size a,Go.WD.words_one a⟩
end
end Go.Proofs.YtmannekkmdockaaGreatDoor
/- Chapter 32: drafted graphs. -/
namespace Go.Proofs.YtmannekkmdockaaGreatDoor
open Go.Proofs.Tryz
open Go.RowKit Go.RX Go.GS
def bc (e:Nat×Nat):List Value:=[.int .u8 (e.1:Nat),.int .u8 (e.2:Nat)]
theorem d0c:El prog 23 27 2 true bc (fun e=> .agg (bc e).toArray) where
 und:=by kernel_rfl
 has:=by kernel_rfl
 cel:=by kernel_rfl
 agg:=by kernel_rfl
 pos:=by decide
 one1:=fun h=>by cases h
 small:=by decide
 inf:=⟨(prog.info? 27).getD default,.agg #[.int .u8 0,.int .u8 0],by kernel_rfl,by kernel_rfl,by kernel_rfl,rfl,of_decide_eq_true (by kernel_rfl)⟩
 len:=fun _=>rfl
 val:=fun _=>rfl
 cells:=fun _=>rfl
 one:=fun x c hc=>by simp[bc]at hc;rcases hc with rfl|rfl<;>rfl
theorem d5v:Sc prog 5:=⟨by kernel_rfl,by kernel_rfl,by kernel_rfl⟩
theorem d3w:Ar prog 27 5 2:=⟨by kernel_rfl,by kernel_rfl,by kernel_rfl,by kernel_rfl,d5v⟩
def dv (a b c:Int) (s:Value):Value:= .agg #[.int .u8 a,.int .u8 b,.int .u16 c,s]
theorem d5Q:a0L prog 35= .slice none 0 0:=by kernel_rfl
theorem d5R {ρ:List Value} {a b c d e:SV} {x y z u v:Value} (h:D prog ρ a=x) (h2:D prog ρ b=y) (h3:D prog ρ c=z) (h4:D prog ρ d=u) (h5:D prog ρ e=v):[a,b,c,d,e].map (D prog ρ)=[x,y,z,u,v]:=by rw[List.map_cons,h,d1x h2 h3 h4 h5]
theorem b2i (z:Int):(ii z).cells.size=1/\a0t (ii z).cells:=⟨rfl,fun x hx=>by rw[show(ii z).cells= #[ii z]from rfl]at hx;simp at hx;subst hx;rfl⟩
theorem d3x {s:Value} (h:a8l s=true) (a b c:Int):(dv a b c s).cells.size=4/\a0t (dv a b c s).cells:=by
 refine⟨rfl,fun x hx=> ?_⟩
 rw[dv,a1x]at hx
 simp only[List.mem_cons,List.not_mem_nil,or_false]at hx
 rcases hx with rfl|rfl|rfl|rfl
 ·rfl
 ·rfl
 ·rfl
 ·exact h
theorem c4Q {ρ:List Value} {x:SV} {a m:Nat} {mi:Int} (hx:D prog ρ x= .int .u8 (a:Nat)) (hmi:mi=(m:Nat)) (hm:m<1000) (h0:0<m):D prog ρ (.op2 .add .i64 (.k (.int .i64 1)) (.cv .i64 (.op2 .rem .u8 x (.k (.int .u8 mi)))))=ii ((1+a%m:Nat):Int):=by
 subst hmi
 show a2E .add .i64 1 (IntKind.i64.wrap (Int.tmod (intOf (D prog ρ x)) (m:Nat)))=_
 rw[hx]
 show Value.int .i64 (IntKind.i64.wrap (1+IntKind.i64.wrap (Int.tmod ((a:Nat):Int) (m:Nat))))=_
 rw[<-Int.ofNat_tmod]
 have:=Nat.mod_lt a h0
 congr 1
 rw[IntKind.wrap_i64,IntKind.wrap_i64]
 omega
theorem c6I {ρ:List Value} {x y:SV} {a b:Nat} (hx:D prog ρ x=ii (a:Nat)) (hy:D prog ρ y=ii (b:Nat)) (h:a*b<9223372036854775808):D prog ρ (.op2 .mul .i64 x y)=ii ((a*b:Nat):Int):=by
 show a2E .mul .i64 (intOf (D prog ρ x)) (intOf (D prog ρ y))=_
 rw[hx,hy]
 show Value.int .i64 (IntKind.i64.wrap (((a:Nat):Int)*((b:Nat):Int)))=_
 rw[<-Int.natCast_mul]
 congr 1
 rw[IntKind.wrap_i64]
 omega
theorem b3J (x:Int):0<=IntKind.u64.wrap x:=by rw[IntKind.wrap_u64];omega
theorem c4R {ρ:List Value} {x y:SV} {a b:Nat} (hx:D prog ρ x=ii (a:Nat)) (hy:D prog ρ y=ii (b:Nat)):D prog ρ (.put (.put (.z 99) 0 1 x 0 noI) 1 1 y 0 noI)=ev2 (a,b):=by
 show Value.agg (spl (Value.agg (spl (a0L prog 99).cells (0+0*a2j (D prog ρ noI)) (D prog ρ x).cells.toList)).cells (1+0*a2j (D prog ρ noI)) (D prog ρ y).cells.toList)=_
 rw[z_2,hx,hy,Nat.zero_mul]
 rfl
theorem d3y {ρ:List Value} {x y:SV} {n:Nat} {w u:Value} (hx:D prog ρ x=gv n w) (hy:D prog ρ y=u) (hc:u.cells= #[u]):D prog ρ (.cat (.sub x 0 1 0 noI) 1 y)=gv n u:=by
 show Value.agg ((Value.agg ((D prog ρ x).cells.extract (0+0*a2j (D prog ρ noI)) (0+0*a2j (D prog ρ noI)+1))).cells++(D prog ρ y).cells)=_
 rw[hx,hy,hc,Nat.zero_mul]
 rfl
def Upto (a b:Nat) (es:List (Nat×Nat)):Prop:=es.Pairwise elt/\∀e∈es,e.1<e.2/\elt e (a,b)
theorem Upto.row {a b:Nat} {es:List (Nat×Nat)} (h:Upto a b es):Upto (a+1) (a+2) es:=⟨h.1,fun e he=>⟨(h.2 e he).1,.inl (by rcases(h.2 e he).2 with h1|⟨h1,_⟩<;>simp only at h1<;>omega)⟩⟩
theorem Upto.skip {a b:Nat} {es:List (Nat×Nat)} (h:Upto a b es):Upto a (b+1) es:=⟨h.1,fun e he=>⟨(h.2 e he).1,by rcases(h.2 e he).2 with h1|⟨h1,h2⟩;exact .inl h1;exact .inr ⟨h1,by simp only at h2;show e.2<b+1;omega⟩⟩⟩
theorem Upto.put {a b:Nat} {es:List (Nat×Nat)} (h:Upto a b es) (hab:a<b):Upto a (b+1) (es++[(a,b)]):=by
 refine⟨List.pairwise_append.2 ⟨h.1,List.pairwise_singleton _ _,fun e he f hf=> ?_⟩,fun e he=> ?_⟩
 ·rw[List.mem_singleton]at hf;subst hf;exact(h.2 e he).2
 ·rcases List.mem_append.1 he with he|he
  ·exact h.skip.2 e he
  ·rw[List.mem_singleton]at he;subst he;exact⟨hab,.inr ⟨rfl,by show b<b+1;omega⟩⟩
section
variable {H:PH} {s:Value} {more:List (Nat×Nat)} {da db dc:Nat}
abbrev c4S (H:PH):List Value->PH->Prop:=fun l H'=>H'=H/\∃p:Bool,l=[.bool p]
set_option maxHeartbeats 2000000 in
theorem b7i (hs:SE H 2 bc s more):Con prog 39 [dv (da:Nat) (db:Nat) (dc:Nat) s] H fun r H'=>PH.le H H'/\∃w es,r=gv ((1+da%4)*(1+db%3)) w/\SO H H' 99 2 ec w es/\GV ((1+da%4)*(1+db%3)) es:=by
 refine a0b mixed b9W (by kernel_rfl) rfl ?_
 have hw4:1+da%4<=4:=by have:=Nat.mod_lt da (show 0<4 by decide);omega
 have hh3:1+db%3<=3:=by have:=Nat.mod_lt db (show 0<3 by decide);omega
 have hn12:(1+da%4)*(1+db%3)<=12:=Nat.mul_le_mul hw4 hh3
 have hn1:1<=(1+da%4)*(1+db%3):=Nat.mul_pos (by omega) (by omega)
 generalize hn:(1+da%4)*(1+db%3)=n at hn12 hn1
 obtain⟨zg,hzg⟩:∃zg,a0L prog 37=zg:=⟨_,rfl⟩
 refine a0a (d3x (a0A hs) _ _ _) ?_
 refine a0a ⟨_,rfl⟩ ?_
 refine a0a ⟨_,rfl⟩ ?_
 refine a0k (α:=Int×Nat×Value×List (Nat×Nat)) (fun⟨c,a,w,es⟩=>[ii c,ii (a:Nat),dv (da:Nat) (db:Nat) (dc:Nat) s,zg,gv n w]) (fun⟨c,a,w,es⟩=>fun H'=>PH.le H H'/\a<=n/\SO H H' 99 2 ec w es/\Upto a (a+1) es/\es.length<=a*12/\∀e∈es,e.2<n) (fun⟨c,a,w,es⟩=>n-a) ((0,0,.slice none 0 0,[])) (by rw[<-hn];refine d5R rfl rfl rfl hzg ?_;show Value.agg ((D prog _ (.op2 .mul .i64 _ _)).cells++(a0L prog 35).cells)=_;rw[d5Q,c6I (c4Q (m:=4) (mi:=4) rfl rfl (by decide) (by decide)) (c4Q (m:=3) (mi:=3) rfl rfl (by decide) (by decide)) (by omega)];rfl) (⟨PH.le.refl _,Nat.zero_le _,SO.nil _ _ _ _ _,⟨List.Pairwise.nil,fun _ h=>nomatch h⟩,Nat.zero_le _,fun _ h=>nomatch h⟩) fun⟨c,a,w,es⟩ H' hQ=> ?_
 simp only[cA,nA]
 obtain⟨l1,han,o1,hU,hlen,hed⟩:=hQ
 have hs1:=hs.mono l1
 refine a0a ⟨_,rfl⟩ ?_
 refine a0a ⟨_,rfl⟩ ?_
 refine a0e (b:=decide (((a:Nat):Int)<(n:Nat))) rfl (fun h=> ?_) (fun h=> ?_)
 ·replace h:=of_decide_eq_true h
  have han2:a<n:=by omega
  refine a0k (α:=Int×Nat×Value×List (Nat×Nat)) (fun⟨c2,b,w2,es2⟩=>[ii c2,ii (b:Nat),gv n w2]) (fun⟨c2,b,w2,es2⟩=>fun H''=>PH.le H H''/\a<b/\b<=n/\SO H H'' 99 2 ec w2 es2/\Upto a b es2/\es2.length<=a*12+b/\∀e∈es2,e.2<n) (fun⟨c2,b,w2,es2⟩=>n-b) ((c,a+1,w,es)) (a8k rfl (a0r rfl (by omega)) rfl) (⟨l1,by omega,by omega,o1,hU,by omega,hed⟩) fun⟨c2,b,w2,es2⟩ H2 hQ2=> ?_
  simp only[cA,nA]
  obtain⟨l2,hab,hbn,o2,hU2,hlen2,hed2⟩:=hQ2
  have hs2:=hs.mono l2
  refine a0a ⟨_,rfl⟩ ?_
  refine a0a ⟨_,rfl⟩ ?_
  refine a0e (b:=decide (((b:Nat):Int)<(n:Nat))) rfl (fun h2=> ?_) (fun h2=> ?_)
  ·replace h2:=of_decide_eq_true h2
   have hbn2:b<n:=by omega
   refine⟨(c4S H2),?_,?_⟩
   ·skip
    refine a0e (b:=_) rfl (fun h3=> ?_) (fun h3=> ?_)
    ·skip
     exact⟨rfl,_,rfl⟩
    ·skip
     refine a0e (b:=_) rfl (fun h4=> ?_) (fun h4=> ?_)
     ·skip
      refine a0a (by show intOf (D prog _ _)≠0;rw[c4Q (m:=4) (mi:=4) rfl rfl (by decide) (by decide)];show((1+da%4:Nat):Int)≠0;omega) ?_
      exact⟨rfl,_,rfl⟩
     ·skip
      exact⟨rfl,_,rfl⟩
   rintro _ H2 _ ⟨rfl,p,rfl⟩
   simp only[cA,nA]
   refine⟨(fun l H'=>H'=H2/\∃(c:Int) (p:Bool),l=[ii c,.bool p]),?_,?_⟩
   ·skip
    refine a0a ⟨_,rfl⟩ ?_
    refine a0e (b:=p) rfl (fun h3=> ?_) (fun h3=> ?_)
    ·skip
     refine⟨(c4S H2),?_,?_⟩
     ·skip
      refine a0a ⟨_,rfl⟩ ?_
      refine a0e (b:=_) rfl (fun h4=> ?_) (fun h4=> ?_)
      ·skip
       refine a0a ⟨_,rfl⟩ ?_
       refine a0a (b3J _) ?_
       exact⟨rfl,_,rfl⟩
      ·skip
       exact⟨rfl,_,rfl⟩
     rintro _ H2 _ ⟨rfl,p4,rfl⟩
     simp only[cA,nA]
     refine⟨(c4S H2),?_,?_⟩
     ·skip
      refine a0a ⟨_,rfl⟩ ?_
      refine a0e (b:=p4) rfl (fun h4=> ?_) (fun h4=> ?_)
      ·skip
       exact⟨rfl,_,rfl⟩
      ·skip
       exact⟨rfl,_,rfl⟩
     rintro _ H2 _ ⟨rfl,p5,rfl⟩
     simp only[cA,nA]
     refine a0a ⟨_,rfl⟩ ?_
     exact⟨rfl,_,_,rfl⟩
    ·skip
     exact⟨rfl,_,_,rfl⟩
   rintro _ H2 _ ⟨rfl,c3,p3,rfl⟩
   simp only[cA,nA]
   refine a0E (α:=Bool×Nat) (fun⟨p6,i⟩=>[.bool p6,ii (i:Nat)]) (fun⟨p6,i⟩=>i<=3) (fun⟨p6,i⟩=>3-i) ((p3,0)) rfl (Nat.zero_le _) fun⟨p6,i⟩ hQ=> ?_
   simp only[cA,nA]
   refine⟨(fun l H'=>H'=H2/\∃q:Bool,l=[.bool q]/\(q=true->i<more.length/\i<3)),?_,?_⟩
   ·skip
    refine a0g d0c rfl rfl hs2 rfl ?_
    refine a0a ⟨_,rfl⟩ ?_
    refine a0a ⟨_,rfl⟩ ?_
    refine a0e (b:=decide (((i:Nat):Int)<(more.length:Nat))) rfl (fun h3=> ?_) (fun h3=> ?_)
    ·replace h3:=of_decide_eq_true h3
     exact⟨rfl,decide (((i:Nat):Int)<3),rfl,fun e=>⟨by omega,by have:=of_decide_eq_true e;omega⟩⟩
    ·replace h3:=of_decide_eq_false h3
     exact⟨rfl,false,rfl,fun e=>nomatch e⟩
   rintro _ H2 _ ⟨rfl,q,rfl,hq⟩
   simp only[cA,nA]
   refine a0a ⟨_,rfl⟩ ?_
   refine a0e (b:=q) rfl (fun h3=> ?_) (fun h3=> ?_)
   ·skip
    obtain⟨hi1,hi2⟩:=hq h3
    have hm:=List.getElem?_eq_getElem hi1
    refine b9l d0c (c:=(.int .u8 ((more[i]).1:Nat))) d3w (by decide) rfl rfl rfl rfl rfl rfl (fun _=>rfl) (fun _=>rfl) (fun _=>rfl) hs2 hm rfl (fun _=>rfl) (fun _ _=>rfl) fun _ _=> ?_
    simp only[cA,nA]
    refine a0a ⟨_,rfl⟩ ?_
    refine a0a (show((n:Nat):Int)≠0 by omega) ?_
    refine b9l d0c (c:=(.int .u8 ((more[i]).2:Nat))) d3w (by decide) rfl rfl rfl rfl rfl rfl (fun _=>rfl) (fun _=>rfl) (fun _=>rfl) hs2 hm rfl (fun _=>rfl) (fun _ _=>rfl) fun _ _=> ?_
    simp only[cA,nA]
    refine a0a ⟨_,rfl⟩ ?_
    refine⟨(c4S H2),?_,?_⟩
    ·skip
     refine a0a ⟨_,rfl⟩ ?_
     refine a0e (b:=p6) rfl (fun h4=> ?_) (fun h4=> ?_)
     ·skip
      exact⟨rfl,_,rfl⟩
     ·skip
      refine a0e (b:=_) rfl (fun h5=> ?_) (fun h5=> ?_)
      ·skip
       refine a0e (b:=_) rfl (fun h6=> ?_) (fun h6=> ?_)
       ·skip
        exact⟨rfl,_,rfl⟩
       ·skip
        refine a0e (b:=_) rfl (fun h7=> ?_) (fun h7=> ?_)
        ·skip
         exact⟨rfl,_,rfl⟩
        ·skip
         exact⟨rfl,_,rfl⟩
      ·skip
       refine a0e (b:=_) rfl (fun h6=> ?_) (fun h6=> ?_)
       ·skip
        exact⟨rfl,_,rfl⟩
       ·skip
        exact⟨rfl,_,rfl⟩
    rintro _ H2 _ ⟨rfl,p7,rfl⟩
    simp only[cA,nA]
    refine a0a ⟨_,rfl⟩ ?_
    exact⟨(p7,i+1),by show 3-(i+1)<3-i;omega,(a1l rfl (a0r rfl (by omega))),⟨by show i+1<=3;omega,rfl⟩⟩
   ·skip
    refine a0a ⟨_,rfl⟩ ?_
    refine a0e (b:=p6) rfl (fun h4=> ?_) (fun h4=> ?_)
    ·skip
     refine a0a (b2i _) ?_
     refine a0a (b2i _) ?_
     refine a2o el_edge rfl rfl rfl (fun _=>rfl) (fun _=>rfl) l2 o2 (by omega) (a3k (c4R rfl rfl)) (fun _=>rfl) rfl fun q2 w3 H3 l3 o3=> ?_
     simp only[cA,nA]
     have hsl3:=o3.se
     refine a0a hsl3.one ?_
     exact⟨(c3,b+1,w3,es2++[(a,b)]),by show n-(b+1)<n-b;omega,(a8k rfl (a0r rfl (by omega)) (d3y rfl rfl hsl3.cells)),⟨l3,by show a<b+1;omega,by show b+1<=n;omega,o3,hU2.put hab,by show(es2++[(a,b)]).length<=a*12+(b+1);rw[List.length_append];simp only[List.length_cons,List.length_nil];omega,fun e he=>by rcases List.mem_append.1 he with he|he;exact hed2 e he;rw[List.mem_singleton]at he;subst he;exact hbn2⟩⟩
    ·skip
     exact⟨(c3,b+1,w2,es2),by show n-(b+1)<n-b;omega,(a8k rfl (a0r rfl (by omega)) rfl),⟨l2,by show a<b+1;omega,by show b+1<=n;omega,o2,hU2.skip,by show es2.length<=a*12+(b+1);omega,hed2⟩⟩
  ·replace h2:=of_decide_eq_false h2
   exact⟨(c2,a+1,w2,es2),by show n-(a+1)<n-a;omega,(d5R rfl (a0r rfl (by omega)) rfl rfl rfl),⟨l2,by show a+1<=n;omega,o2,hU2.row,by show es2.length<=(a+1)*12;omega,hed2⟩⟩
 ·replace h:=of_decide_eq_false h
  exact a0c rfl ⟨l1,w,es,rfl,o1,hn1,by omega,by omega,fun e he=>⟨(hU.2 e he).1,hed e he⟩,hU.1⟩
end
end Go.Proofs.YtmannekkmdockaaGreatDoor

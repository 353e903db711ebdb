/- Chapter 32: graphs. -/
import Derived.Test.YtmannekkmdockaaGreatDoorGsD
import Derived.Test.YtmannekkmdockaaGreatDoorGsB
namespace Go.Proofs.YtmannekkmdockaaGreatDoor
open Go.Proofs.Tryz
open Go.RowKit Go.RX Go.GS
theorem bF {p:Prop} [Decidable p] (h:¬p):Value.bool (decide p)= .bool false:=by rw[decide_eq_false h]
def gv (n:Nat) (w:Value):Value:= .agg #[ii n,w]
abbrev SG (H:PH) (w:Value) (es:List (Nat×Nat)):Prop:=SE H 2 ec w es
theorem a0T {H:PH} {n:Nat} {w:Value} {es:List (Nat×Nat)} (h:SG H w es):(gv n w).cells.size=2/\a0t (gv n w).cells:=by
 refine⟨rfl,fun c hc=> ?_⟩
 rw[gv,a1v]at hc
 simp only[List.mem_cons,List.not_mem_nil,or_false]at hc
 rcases hc with rfl|rfl
 ·rfl
 ·exact h.one.2 _ (by rw[h.cells];simp)
theorem sc_int:Sc prog 3:=⟨by kernel_rfl,by kernel_rfl,by kernel_rfl⟩
theorem a5s:Sc prog 54:=⟨by kernel_rfl,by kernel_rfl,by kernel_rfl⟩
theorem ar_2:Ar prog 99 3 2:=⟨by kernel_rfl,by kernel_rfl,by kernel_rfl,by kernel_rfl,sc_int⟩
theorem d6l:Ag prog 99 2:=⟨by kernel_rfl,by kernel_rfl,by kernel_rfl⟩
theorem z_2:a0I prog 99= .agg #[ii 0,ii 0]:=by kernel_rfl
theorem d7C:(a0I prog 99).cells= #[ii 0,ii 0]:=by rw[z_2];rfl
def bef (es:List (Nat×Nat)):Nat->Int×Int
 |0=>(-1,-1)
 |i+1=>match es[i]? with|some e=>(e.1,e.2)|none=>(-1,-1)
theorem d7Y {a b c d:Int} (h:a<c\/a=c/\b<d):a2W [a,b] [c,d]<0:=by
 rcases h with h|⟨rfl,h⟩
 ·have e:b1K a c= -1:=if_pos h
  simp only[a2W,e];rw[if_pos (by decide)];decide
 ·have e:b1K a a=0:=by unfold b1K;rw[if_neg (by omega),if_neg (by omega)]
  have e2:b1K b d= -1:=if_pos h
  simp only[a2W,e,e2];rw[if_neg (by decide),if_pos (by decide)];decide
theorem d4q {n:Nat} {es:List (Nat×Nat)} (h:GV n es) {i:Nat} {a:Nat×Nat} (ha:es[i]? =some a):a2W [(bef es i).1,(bef es i).2] [(a.1:Int),(a.2:Int)]<0:=by
 apply d7Y
 cases i with
 |zero=>exact .inl (by simp only[bef];omega)
 |succ i=>
  obtain⟨hi,_⟩:=List.getElem?_eq_some_iff.1 ha
  have hb:es[i]? =some es[i]:=List.getElem?_eq_getElem (by omega)
  have:=h.next hb ha
  simp only[bef,hb]
  rcases this with h1|⟨h1,h2⟩
  ·exact .inl (by omega)
  ·exact .inr ⟨by omega,by omega⟩
theorem d7Z (ρ:List Value):D prog ρ (.put (.put (.z 99) 0 1 (.k (.int .i64 (-1))) 0 noI) 1 1 (.k (.int .i64 (-1))) 0 noI)= .agg #[ii (-1),ii (-1)]:=by
 show Value.agg (spl (Value.agg (spl (a0I prog 99).cells 0 [ii (-1)])).cells 1 [ii (-1)])=_
 rw[z_2];rfl
section
variable {H:PH} {n:Nat} {w:Value} {es:List (Nat×Nat)}
theorem a5t (hw:SG H w es) (hg:GV n es):a3M prog 103 [gv n w] H (ii 0):=by
 refine a0b mixed d0f (by kernel_rfl) rfl ?_
 have h1:=hg.n1
 have h2:=hg.n64
 have h3:=hg.len
 refine a0a (a0T hw) ?_
 refine a0a ⟨_,rfl⟩ ?_
 refine a0j (bF (p:=((n:Nat):Int)<1) (by omega)) ?_
 refine a0j (bF (p:=((n:Nat):Int)>64) (by omega)) ?_
 refine a0h el_edge rfl rfl hw rfl ?_
 refine a0a ⟨_,rfl⟩ ?_
 refine a0j (bF (p:=((es.length:Nat):Int)>200) (by omega)) ?_
 refine a1G (cs:= #[ii 0,ii 0]) d7C fun b hb=> ?_
 simp only[cA,nA]
 refine b0X (vs:=[ii (-1),ii (-1)]) d6l rfl rfl rfl (PH.put_self _ _ _) rfl (by intro c hc;simp at hc;rcases hc with rfl|rfl<;>rfl) (a1s rfl (d7Z _)) (fun h=>(nomatch h)) ?_
 simp only[cA,nA]
 have l1:=PH.le_put2 hb (.cells #[ii 0,ii 0] 99 (0,0)) (.cells #[ii (-1),ii (-1)] 99 (0,0))
 have b1:=PH.put_self (H.put b (.cells #[ii 0,ii 0] 99 (0,0))) b (.cells #[ii (-1),ii (-1)] 99 (0,0))
 generalize (H.put b (.cells #[ii 0,ii 0] 99 (0,0))).put b (.cells #[ii (-1),ii (-1)] 99 (0,0))=H1 at l1 b1
 refine a0h el_edge rfl rfl (hw.mono l1) rfl ?_
 refine a0k (α:=Nat×Int) (fun⟨i,p⟩=>[ii p,ii (i:Nat)]) (fun⟨i,p⟩=>fun H'=>i<=es.length/\PH.le H H'/\H' b=some (.cells #[ii (bef es i).1,ii (bef es i).2] 99 (0,0))) (fun⟨i,p⟩=>es.length-i) ((0,0)) rfl (⟨Nat.zero_le _,l1,b1⟩) fun⟨i,p⟩ H' hQ=> ?_
 simp only[cA,nA]
 obtain⟨hi,l2,b2⟩:=hQ
 refine a0a ⟨_,rfl⟩ ?_
 refine a0a ⟨_,rfl⟩ ?_
 refine a0e (b:=decide (((i:Nat):Int)<(es.length:Nat))) rfl (fun h=> ?_) (fun h=> ?_)
 ·replace h:=of_decide_eq_true h
  have hi':i<es.length:=by omega
  obtain⟨x,hx,hdx⟩:=a0B hi'
  obtain⟨hx1,hx2⟩:=hg.mem hx
  refine a0i el_edge rfl rfl rfl rfl (fun _=>rfl) (hw.mono l2) hx rfl (fun _=>rfl) fun _=> ?_
  simp only[cA,nA]
  refine a1G (cs:= #[ii 0,ii 0]) d7C fun c hc=> ?_
  simp only[cA,nA]
  refine b0X (vs:=(ec x)) d6l rfl rfl rfl (PH.put_self _ _ _) rfl (el_edge.one x) rfl (fun h=>(nomatch h)) ?_
  simp only[cA,nA]
  have l3:=PH.le_put2 hc (.cells #[ii 0,ii 0] 99 (0,0)) (.cells (ec x).toArray 99 (0,0))
  have b3:=PH.put_self (H'.put c (.cells #[ii 0,ii 0] 99 (0,0))) c (.cells (ec x).toArray 99 (0,0))
  have hb2:=l3 _ _ b2
  generalize (H'.put c (.cells #[ii 0,ii 0] 99 (0,0))).put c (.cells (ec x).toArray 99 (0,0))=H2 at l3 b3 hb2
  refine a5r (m:=0) ar_2 rfl rfl rfl rfl rfl b3 (by decide) rfl rfl rfl ?_
  simp only[cA,nA]
  refine a0a ⟨_,rfl⟩ ?_
  refine a0j (bF (p:=((x.1:Nat):Int)<0) (by omega)) ?_
  refine a5r (m:=0) ar_2 rfl rfl rfl rfl rfl b3 (by decide) rfl rfl rfl ?_
  simp only[cA,nA]
  refine a5r (m:=1) ar_2 rfl rfl rfl rfl rfl b3 (by decide) rfl rfl rfl ?_
  simp only[cA,nA]
  refine a0a ⟨_,rfl⟩ ?_
  refine a0a ⟨_,rfl⟩ ?_
  refine a0j (bF (p:=((x.1:Nat):Int)≥(x.2:Nat)) (by omega)) ?_
  refine a5r (m:=1) ar_2 rfl rfl rfl rfl rfl b3 (by decide) rfl rfl rfl ?_
  simp only[cA,nA]
  refine a0a ⟨_,rfl⟩ ?_
  refine a0j (bF (p:=((x.2:Nat):Int)≥(n:Nat)) (by omega)) ?_
  refine a0g ((a3c rfl rfl ar_2.und sc_int.has).rds _) rfl ?_
  simp only[cA,nA]
  refine a0g ((a3c rfl rfl ar_2.und sc_int.has).rds _) rfl ?_
  simp only[cA,nA]
  refine a0P (c5y (l:=[(bef es i).1,(bef es i).2]) (m:=[(x.1:Int),(x.2:Int)]) (b5L hb2 rfl rfl (show 2<=maxLen by decide)) (b5L b3 rfl rfl (show 2<=maxLen by decide))) rfl ?_
  simp only[cA,nA]
  have hlt:=d4q hg hx
  refine a0a ⟨_,rfl⟩ ?_
  refine a0j (bF (p:=a2W [(bef es i).1,(bef es i).2] [(x.1:Int),(x.2:Int)]≥0) (by omega)) ?_
  refine a8i (vs:=ec x) d6l rfl rfl b3 rfl (by simp) rfl ?_
  simp only[cA,nA]
  refine b0X (vs:=(ec x)) d6l rfl rfl rfl hb2 rfl (el_edge.one x) rfl (fun h=>(nomatch h)) ?_
  simp only[cA,nA]
  exact⟨(i+1,p),by show es.length-(i+1)<es.length-i;omega,(a1s rfl (a0w rfl (by omega))),⟨by show i+1<=_;omega,PH.le_put_of (l2.trans l3) hb,by simp only[bef,hx];exact PH.put_self _ _ _⟩⟩
 ·replace h:=of_decide_eq_false h
  exact a0c rfl ⟨l2,rfl⟩
end
end Go.Proofs.YtmannekkmdockaaGreatDoor
/- Neighbours. -/
namespace Go.GS
theorem a2I {α:Type} {p:List α->Prop} (nil:p []) (snoc:∀l a,p l->p (l++[a])) (l:List α):p l:=by
 have:∀l:List α,p l.reverse:=by
  intro l
  induction l with
  |nil=>exact nil
  |cons a l ih=>rw[List.reverse_cons];exact snoc _ _ ih
 have h:=this l.reverse
 rwa[List.reverse_reverse]at h
def nb (es:List (Nat×Nat)) (x:Nat):Nat:=es.foldl (fun s e=>if e.1=x then s|||2^e.2 else if e.2=x then s|||2^e.1 else s) 0
theorem b4l (es:List (Nat×Nat)) (e:Nat×Nat) (x:Nat):nb (es++[e]) x=if e.1=x then nb es x|||2^e.2 else if e.2=x then nb es x|||2^e.1 else nb es x:=by
 unfold nb;rw[List.foldl_append];rfl
def nbs (n:Nat) (es:List (Nat×Nat)):List Nat:=(List.range n).map (nb es)
theorem d0u (n:Nat):nbs n []=List.replicate n 0:=by
 unfold nbs
 apply List.ext_getElem
 ·simp
 ·intro i h1 h2;simp[nb]
theorem a6f (n:Nat) (es:List (Nat×Nat)):(nbs n es).length=n:=by simp[nbs]
theorem b2E {n x:Nat} (es:List (Nat×Nat)) (h:x<n):(nbs n es)[x]? =some (nb es x):=by simp[nbs,h]
theorem c5z (n:Nat) (es:List (Nat×Nat)) (e:Nat×Nat) (h:e.1<e.2):((nbs n es).set e.1 (nb es e.1|||2^e.2)).set e.2 (nb es e.2|||2^e.1)=nbs n (es++[e]):=by
 apply List.ext_getElem?
 intro i
 by_cases hi:i<n
 ·rw[b2E _ hi,b4l]
  by_cases h2:e.2=i
  ·subst h2
   rw[List.getElem?_set_self (by simp[a6f,hi]),if_neg (by omega),if_pos rfl]
  ·rw[List.getElem?_set_ne h2]
   by_cases h1:e.1=i
   ·subst h1
    rw[List.getElem?_set_self (by simp[a6f,hi]),if_pos rfl]
   ·rw[List.getElem?_set_ne h1,b2E _ hi,if_neg h1,if_neg h2]
 ·rw[List.getElem?_eq_none (by simp[a6f];omega),List.getElem?_eq_none (by simp[a6f];omega)]
theorem d4r (es:List (Nat×Nat)) (x y:Nat):bit (nb es x) y=true↔∃e∈es,(e.1=x/\e.2=y)\/(e.1≠x/\e.2=x/\e.1=y):=by
 induction es using a2I with
 |nil=>simp[nb,bit]
 |snoc es e ih=>
  rw[b4l]
  simp only[List.mem_append,List.mem_singleton]
  constructor
  ·intro h
   split at h
   ·rename_i h1
    rw[a0G,a0v,Bool.or_eq_true]at h
    rcases h with h|h
    ·obtain⟨a,h2,h3⟩:=ih.1 h;exact⟨a,.inl h2,h3⟩
    ·exact⟨e,.inr rfl,.inl ⟨h1,by simpa using h⟩⟩
   ·split at h
    ·rename_i h1 h2
     rw[a0G,a0v,Bool.or_eq_true]at h
     rcases h with h|h
     ·obtain⟨a,h3,h4⟩:=ih.1 h;exact⟨a,.inl h3,h4⟩
     ·exact⟨e,.inr rfl,.inr ⟨h1,h2,by simpa using h⟩⟩
    ·obtain⟨a,h2,h3⟩:=ih.1 h;exact⟨a,.inl h2,h3⟩
  ·rintro⟨a,h2|rfl,h3⟩
   ·have:=ih.2 ⟨a,h2,h3⟩
    split
    ·rw[a0G,this];rfl
    ·split
     ·rw[a0G,this];rfl
     ·exact this
   ·rcases h3 with⟨h3,h4⟩|⟨h3,h4,h5⟩
    ·rw[if_pos h3,a0G,a0v];simp[h4]
    ·rw[if_neg h3,if_pos h4,a0G,a0v];simp[h5]
theorem d4s {n:Nat} {es:List (Nat×Nat)} (h:∀e∈es,e.1<e.2/\e.2<n) (hn:n<=64) (x:Nat):nb es x<M64:=by
 induction es using a2I with
 |nil=>exact(by decide:0<M64)
 |snoc es e ih=>
  have ih:=ih fun a ha=>h a (List.mem_append_left _ ha)
  have he:=h e (List.mem_append_right _ (List.mem_singleton.2 rfl))
  rw[b4l]
  split
  ·exact a6d ih (a0S (by omega))
  ·split
   ·exact a6d ih (a0S (by omega))
   ·exact ih
end Go.GS
/- Chapter 32: graphs, part 2. -/
namespace Go.Proofs.YtmannekkmdockaaGreatDoor
open Go.Proofs.Tryz
open Go.RowKit Go.RX Go.GS
theorem d4t:a0I prog 54=uv 0:=by kernel_rfl
theorem b8b:a0I prog 3=ii 0:=by kernel_rfl
theorem b0Y {l:List Int} {x y:Int}:(l++[x]).contains y=(l.contains y||(y==x)):=by
 rw[Bool.eq_iff_iff];simp[List.contains_iff_mem]
theorem take_snoc {α:Type} {l:List α} {i:Nat} {x:α} (h:l[i]? =some x):l.take (i+1)=l.take i++[x]:=by rw[List.take_add_one,h];rfl
section
variable {H:PH} {n:Nat} {w:Value} {es:List (Nat×Nat)}
theorem d0v (hw:SG H w es) (hg:GV n es):Con prog 223 [gv n w] H fun u H'=>PH.le H H'/\SO H H' 54 1 (fun s:Nat=>[uv s]) u (nbs n es):=by
 refine a0b mixed d4k (by kernel_rfl) rfl ?_
 have h1:=hg.n1
 have h2:=hg.n64
 have h3:=hg.len
 have hlt:∀i x,nb (es.take i) x<M64:=fun i x=>d4s (fun e he=>hg.ed e (List.mem_of_mem_take he)) h2 x
 refine a0a (a0T hw) ?_
 refine a3j el_u64 (z:=(0:Nat)) d4t rfl rfl rfl (by omega) rfl fun v H1 l1 o1 _=> ?_
 simp only[cA,nA]
 rw[<-d0u]at o1
 refine a0h el_edge rfl rfl (hw.mono l1) rfl ?_
 refine a0k (α:=Nat) (fun i=>[ii (i:Nat)]) (fun i=>fun H'=>i<=es.length/\PH.le H H'/\SO H H' 54 1 (fun s:Nat=>[uv s]) v (nbs n (es.take i))) (fun i=>es.length-i) (0) rfl (⟨Nat.zero_le _,l1,o1⟩) fun i H' hQ=> ?_
 simp only[cA,nA]
 obtain⟨hi,l2,o2⟩:=hQ
 refine a0a ⟨_,rfl⟩ ?_
 refine a0a ⟨_,rfl⟩ ?_
 refine a0e (b:=decide (((i:Nat):Int)<(es.length:Nat))) rfl (fun h=> ?_) (fun h=> ?_)
 ·replace h:=of_decide_eq_true h
  have hi':i<es.length:=by omega
  obtain⟨x,hx,hdx⟩:=a0B hi'
  obtain⟨hx1,hx2⟩:=hg.mem hx
  refine a0i el_edge rfl rfl rfl rfl (fun _=>rfl) (hw.mono l2) hx rfl (fun _=>rfl) fun _=> ?_
  simp only[cA,nA]
  refine a0a (el_edge.vcells x) ?_
  refine a0i el_u64 rfl rfl rfl rfl (fun _=>rfl) o2.se (b2E _ (show x.1<n by omega)) rfl (fun _=>rfl) fun _=> ?_
  simp only[cA,nA]
  refine a0a ⟨_,_,rfl⟩ ?_
  refine a0a (by show(0:Int)<=((x.2:Nat):Int);omega) ?_
  refine a0a ⟨_,rfl⟩ ?_
  refine a0R el_u64 (a:=nb (es.take i) x.1|||2^x.2) rfl rfl rfl rfl (fun _=>rfl) (fun _=>rfl) l2 o2 (by rw[a6f];omega) rfl (fun _=>a1s rfl (a9G rfl (a6e rfl (by omega)) (hlt _ _) (a0S (by omega)))) rfl fun p u H2 l3 o3 _=> ?_
  simp only[cA,nA]
  refine a0i el_u64 rfl rfl rfl rfl (fun _=>rfl) o3.se (show _=some (nb (es.take i) x.2) by rw[List.getElem?_set_ne (by omega),b2E _ (by omega)]) rfl (fun _=>rfl) fun _=> ?_
  simp only[cA,nA]
  refine a0a ⟨_,_,rfl⟩ ?_
  refine a0a (by show(0:Int)<=((x.1:Nat):Int);omega) ?_
  refine a0a ⟨_,rfl⟩ ?_
  refine a0R el_u64 (a:=nb (es.take i) x.2|||2^x.1) rfl rfl rfl rfl (fun _=>rfl) (fun _=>rfl) l3 o3 (by rw[List.length_set,a6f];omega) rfl (fun _=>a1s rfl (a9G rfl (a6e rfl (by omega)) (hlt _ _) (a0S (by omega)))) rfl fun p2 u2 H3 l4 o4 _=> ?_
  simp only[cA,nA]
  rw[c5z n _ x hx1,<-take_snoc hx]at o4
  exact⟨i+1,by omega,(a3K (a0w rfl (by omega))),⟨by omega,l4,o4⟩⟩
 ·replace h:=of_decide_eq_false h
  rw[List.take_of_length_le (by omega)]at o2
  exact a0c rfl ⟨l2,o2⟩
theorem c0K:a4B prog 250=true:=by kernel_rfl
def a6U (b s:Nat):PH:=PH.nil.put b (.cells #[uv s] 54 (0,0))
theorem c5A {s:Nat}:Con prog 224 [uv s] H fun u H'=>∃b,H b=none/\H'=H.or (a6U b s)/\u= .func (.func 250) #[] #[.pointer (some ⟨b,0,none⟩)]:=by
 refine a0b mixed d0h (by kernel_rfl) rfl ?_
 refine a0a (el_u64.vcells s) ?_
 refine a1G (cs:= #[uv s]) rfl fun b hb=> ?_
 simp only[cA,nA]
 refine a3z (a1j (vs:=[.pointer (some ⟨b,0,none⟩)]) rfl rfl) rfl ?_
 simp only[cA,nA]
 exact a0c rfl ⟨b,hb,PH.put_or hb,rfl⟩
theorem bN (a b:Int):Value.bool (a !=b)= .bool (decide (a≠b)):=by
 by_cases h:a=b<;>simp[h]
theorem bE (a b:Int):Value.bool (a==b)= .bool (decide (a=b)):=by
 by_cases h:a=b<;>simp[h]
theorem bN0 (s:Nat):Value.bool (((s:Nat):Int) !=0)= .bool (decide (s≠0)):=by
 rw[bN];congr 1;apply decide_eq_decide.2;omega
theorem bE0 (s:Nat):Value.bool (((s:Nat):Int)==0)= .bool (decide (s=0)):=by
 rw[bE];congr 1;apply decide_eq_decide.2;omega
theorem a5u (b s:Nat):a6U b s b=some (.cells #[uv s] 54 (0,0)):=PH.put_self _ _ _
theorem c5B {X:PH} {b s t:Nat} (h:X b=none):(X.or (a6U b s)).put b (.cells #[uv t] 54 (0,0))=X.or (a6U b t):=by
 rw[PH.or_put h];unfold a6U;rw[PH.put_put]
theorem a8k {X:PH} {b:Nat} (s:Nat) (h:X b=none):Disj X (a6U b s):=b0T (b5F X) h
theorem c0L {X:PH} {b s:Nat} (h:Disj X (a6U b s)):X b=none:=Disj.none h (b:=b) (by rw[a5u];exact fun h=>nomatch h)
abbrev nxs (s:Nat):List (List Value):=(els s).map fun x:Nat=>[ii (x:Int)]
theorem c0M {b s:Nat} {Ro:PH} (hs:s<M64) (hT:Tb Ro):ItC prog 250 [.pointer (some ⟨b,0,none⟩)] Ro (a6U b s) (fun pre xs=>∃x,(els s)[pre.length]? =some x/\xs=[ii (x:Nat)]/\pre=((els s).take pre.length).map fun x:Nat=>[ii (x:Int)]) (fun xs _=>xs=nxs s) (fun _ _=>True):=by
 intro l J Jx hRo hr X hX hd w hw
 refine(a0b (H:=X.or (a6U b s)) (V:=fun _ H'=>∃X' K',PH.le (X'.or K') H'/\Disj X' K'/\((∃xs,xs=nxs s/\J xs X')\/(∃pre,True/\Jx pre X'))) mixed c5q (by kernel_rfl) rfl ?_ w hw).mono fun e w' ⟨v,H',he,hst,hV⟩=>⟨v,H',he,hst,hV⟩
 refine a0k (α:=Nat×Nat×PH) (fun⟨k,s',X'⟩=>[]) (fun⟨k,s',X'⟩=>fun H'=>k<=(els s).length/\s'<M64/\els s'=(els s).drop k/\H'=X'.or (a6U b s')/\J (((els s).take k).map fun x:Nat=>[ii (x:Int)]) X'/\Disj X' (a6U b s')) (fun⟨k,s',X'⟩=>(els s).length-k) ((0,s,X)) rfl (⟨Nat.zero_le _,hs,rfl,rfl,hX,hd⟩) fun⟨k,s',X'⟩ H' hQ=> ?_
 simp only[cA,nA]
 obtain⟨hk,hs',he,rfl,hJ,hd'⟩:=hQ
 have hb:=PH.or_right hd' (a5u b s')
 refine a0L a5s rfl rfl hb rfl rfl ?_
 simp only[cA,nA]
 refine a0a ⟨_,rfl⟩ ?_
 refine a0e (b:=decide (s'≠0)) (bN0 s') (fun h=> ?_) (fun h=> ?_)
 ·replace h:=of_decide_eq_true h
  refine a0L a5s rfl rfl hb rfl rfl ?_
  simp only[cA,nA]
  obtain⟨x,r,hel⟩:∃x r,els s'=x::r:=by
   cases hel:els s' with
   |nil=>exact absurd (a8f hs' hel) h
   |cons x r=>exact⟨x,r,rfl⟩
  have htz:tz s'=x:=by simp[tz,hel]
  have hk':k<(els s).length:=by
   apply Nat.lt_of_not_le;intro hh
   rw[List.drop_eq_nil_of_le hh,hel]at he;cases he
  obtain⟨y,hy,hdy⟩:=a0B hk'
  rw[<-he,hel]at hdy
  obtain⟨rfl,hr'⟩:=List.cons.inj hdy
  refine a0P (b5J ((hT.mono (hRo _ _ hJ)).mono (PH.le_or _ _)) hs') rfl ?_
  simp only[cA,nA]
  rw[htz]
  refine a8e (hr _ [ii (x:Nat)] X' (a6U b s') ⟨x,by simp[Nat.min_eq_left hk,hy],rfl,by simp[Nat.min_eq_left hk]⟩ hJ hd') rfl rfl rfl rfl rfl fun v X2 hd2 hV=> ?_
  simp only[cA,nA]
  obtain⟨bb,rfl,hb1,hb2⟩:∃bb,v= .bool bb/\(bb=true->J ((((els s).take k).map fun x:Nat=>[ii (x:Int)])++[[ii (x:Nat)]]) X2)/\(bb=false->Jx ((((els s).take k).map fun x:Nat=>[ii (x:Int)])++[[ii (x:Nat)]]) X2):=by
   rcases hV with⟨rfl,h⟩|⟨rfl,h⟩
   ·exact⟨true,rfl,fun _=>h,(fun h=>nomatch h)⟩
   ·exact⟨false,rfl,(fun h=>nomatch h),fun _=>h⟩
  refine a0a ⟨_,rfl⟩ ?_
  refine a0e (b:= !bb) rfl (fun hbb=> ?_) (fun hbb=> ?_)
  ·skip
   exact a0c rfl ⟨X2,a6U b s',PH.le.refl _,hd2,.inr ⟨_,trivial,hb2 (by simpa using hbb)⟩⟩
  ·skip
   have hn2:=c0L hd2
   have hb2:=PH.or_right hd2 (a5u b s')
   refine a0L a5s rfl rfl hb2 rfl rfl ?_
   simp only[cA,nA]
   refine a0L a5s rfl rfl hb2 rfl rfl ?_
   simp only[cA,nA]
   refine a0a ⟨_,rfl⟩ ?_
   refine a0a ⟨_,rfl⟩ ?_
   refine b0W a5s rfl rfl rfl hb2 (by simp) rfl rfl (a1s rfl (a4X rfl (b5M (B:=1) rfl rfl hs' (by omega)) hs' (Nat.lt_of_le_of_lt (Nat.sub_le _ _) hs'))) (fun h=>(nomatch h)) ?_
   simp only[cA,nA]
   exact⟨(k+1,s'&&&(s'-1),X2),by show(els s).length-(k+1)<(els s).length-k;omega,rfl,⟨hk',b5H hs',by rw[b5I hs' hel,hr'],c5B hn2,by rw[take_snoc hy,List.map_append];exact hb1 (by simpa using hbb),a8k _ hn2⟩⟩
 ·replace h:=of_decide_eq_false h
  have h0:s'=0:=by omega
  rw[h0,b0U]at he
  have hk2:(els s).length<=k:=by
   apply Nat.le_of_not_lt;intro hh
   rw[List.drop_eq_getElem_cons hh]at he;cases he
  rw[List.take_of_length_le hk2]at hJ
  exact a0c rfl ⟨X',a6U b s',PH.le.refl _,hd',.inl ⟨_,rfl,hJ⟩⟩
end
end Go.Proofs.YtmannekkmdockaaGreatDoor
/- Slices made in regions that draw; append to a a1u slice. -/
namespace Go.RX
open Go.RowKit
section
variable {P:Program} {T e:TypeId} {sz:Nat} {ag:Bool} {α:Type} {ce:α->List Value} {ve:α->Value} (E:El P T e sz ag ce ve)
variable {G:Value->PH->Prop} {nx:List (List Value->PH->Prop)} {ρ:List Value} {H:PH} {o:Oper} {x y:Operand} {id i:Nat} {args:List SV} {t:Tree} {v u:Value} {l l2:List α} {a:α} {pf:Bool} {vs:List Value}
include E
theorem b5Q (ho:o.op= .buildSlice T 0 #[]) (ha:args.map (D P ρ)=[])
  (n:∀b,H b=none->den P G t nx (ρ++[.slice (some ⟨b,0,none⟩) 0 0]) (H.put b (.cells #[] e (0,0)))):den P G (.mk id i o args t) nx ρ H:=by
 obtain⟨ti,zv,h1,h2,h3,h4,h5⟩:=E.inf
 refine⟨fun b=> .slice (some ⟨b,0,none⟩) 0 0,.cells #[] e (0,0),fun w=> ?_,n⟩
 have hr:(Instr.buildSlice T 0 #[]).run P w= .ok (.slice (some ⟨w.heap.size,0,none⟩) 0 0) (w.alloc (.cells #[] e)):=by
  simp[Instr.buildSlice,run_underlying E.und,sizeOf,typeInfo,h1,newRow,Instr.fill,Array.range_zero']
 simp only[execOp,ho,Sem.run_bind,hr,Result.andThen_ok,Sem.run_pure,Array.map_empty]
theorem b5R (ho:o.op= .buildSlice T 1 #[(0,x)]) (hx:a0f [x] [ve a] x=ve a) (ha:args.map (D P ρ)=[ve a])
  (n:∀b,H b=none->den P G t nx (ρ++[.slice (some ⟨b,0,none⟩) 1 1]) (H.put b (.cells (ce a).toArray e (0,0)))):den P G (.mk id i o args t) nx ρ H:=by
 obtain⟨ti,zv,h1,h2,h3,h4,h5⟩:=E.inf
 have hpos:=E.pos
 have hsm:=E.small
 refine⟨fun b=> .slice (some ⟨b,0,none⟩) 1 1,.cells (ce a).toArray e (0,0),fun w=> ?_,n⟩
 have hos:o.op.operands.toList=[x]:=by simp[ho,Op.operands]
 have hf:Instr.fill (fun j=>some (j*ti.size,ti.size)) ((Array.range (1*ti.size)).map (zv.cells[· %zv.cells.size]!)) [(0,ve a)]=some (ce a).toArray:=by
  rw[h3,a5f _ _ _ fun p hp=> ?_]
  ·have:=a8d E.len E.cells [a] 0 ((Array.range (1*sz)).map (zv.cells[· %zv.cells.size]!))
   simp only[List.zipIdx_cons,List.zipIdx_nil,List.map_cons,List.map_nil]at this
   rw[this,Nat.zero_mul,b0o (by rw[a5n E.len];simp)]
   simp
  ·simp only[List.mem_singleton]at hp
   subst hp
   exact⟨0*sz,sz,rfl,(E.vcells a).1,by simp⟩
 have hr:=run_buildSlice (P:=P) w T e 1 (#[((0:Nat),x)].map fun(j,x')=>(j,a0f [x] [ve a] x')) (ce a).toArray ti zv E.und h1 h2 (by rw[h3];omega) (by rw[h3];omega) (by simpa[hx]using hf)
 rw[hos,ha]
 simp only[execOp,ho,Sem.run_bind,hr,Result.andThen_ok,Sem.run_pure]
end
section
variable {P:Program} {H:PH} {o:Oper} {x y:Operand} {vs:List Value}
theorem b4m {t e:TypeId} {i:TypeInfo} {z:Value} {sz n m g:Nat} {cur:Array Value} {T':TypeId} {fz:Nat×Nat} {u:Value} {xs news:List Value} (ho:o.op= .call ⟨.builtin .append,#[x,y],#[t,t]⟩) (hx:a0f [x,y] vs x= .slice (some ⟨g,0,none⟩) n n) (hy:a0f [x,y] vs y=u)
  (hu:P.underlying t=some (.slice e)) (hi:P.info? e=some i) (hz:i.zero=some z) (hsz:i.size=sz) (hzs:z.cells.size=sz) (hg:H g=some (.cells cur T' fz)) (hxl:xs.length=n*sz) (htake:cur.toList.take (n*sz)=xs) (hs:Sl H sz u m news) (hm:0<m) (h63:n+m<=maxLen) (hbytes:(n+m)*i.bytes<=140737488355328):
  Opn P o vs H fun v' H'=>PH.le H H'/\OwS H H' e sz v' (n+m) (xs++news):=fun w hw=>by
 have hos:o.op.operands.toList=[x,y]:=by simp[ho,Op.operands,Call.operands]
 obtain⟨hl,a,c,hu2,hmc,hcm,hs⟩:=hs
 obtain⟨b,q,cs,T,fz',ha,hb,hn⟩:=hs.resolve_left (by omega)
 subst ha
 have hnews:=a5U (hw _ _ hb) hn
 have h63':n+m<=9223372036854775807:=by simp only[maxLen]at h63;omega
 have hlen:(xs++news).length=(n+m)*sz:=by rw[List.length_append,hxl,hl,Nat.add_mul]
 have grown:∀(old:Nat) (w':World),w'=w.drew.alloc (.cells (xs.toArray++news.toArray++Builtin.zeroCells z.cells (grownCap w (n+m) old e-(n+m))) e)->
   Step H w (H.put w.heap.size (.cells (xs.toArray++news.toArray++Builtin.zeroCells z.cells (grownCap w (n+m) old e-(n+m))) e (0,0))) w'/\
   OwS H (H.put w.heap.size (.cells (xs.toArray++news.toArray++Builtin.zeroCells z.cells (grownCap w (n+m) old e-(n+m))) e (0,0))) e sz (.slice (some ⟨w.heap.size,0,none⟩) (n+m) (grownCap w (n+m) old e)) (n+m) (xs++news):=fun old w' hw'=>by
  have hge:=grownCap_ge w (n+m) old e
  have hcm:grownCap w (n+m) old e<=maxLen:=grownCap_le_maxLen w (n+m) old e h63
  subst hw'
  constructor
  ·have hd:Ext w w.drew:=⟨rfl,rfl,rfl,Nat.le_refl _,fun _ _=>rfl,Nat.le_succ _⟩
   exact(Step.of_ext hw hd).trans (Step.newB (hw.ext hd) _)
  ·refine⟨hlen,.inr ⟨w.heap.size,_,_,rfl,hw.fresh,PH.put_self _ _ _,hge,hcm,?_,?_⟩⟩
   ·simp only[Array.size_append,List.size_toArray,size_zeroCells,hzs,hxl,hl,<-Nat.add_mul]
    congr 1
    omega
   ·simp only[Array.toList_append,List.append_assoc]
    rw[<-List.append_assoc,<-hlen]
    exact List.take_left
 unfold Stp
 rw[hos]
 simp only[execOp,ho,resolve,invoke,Sem.run_bind,Sem.run_pure,Result.andThen_ok,List.map_toArray,List.map_cons,List.map_nil,hx,hy,hu2,builtin]
 have holds:∀j u,xs[j]? =some u->w.cell? ((⟨g,0,none⟩:Addr).add j)=some u:=a5U (n:=n*sz) (hw _ _ hg) (by rw[List.drop_zero];exact htake)
 have hr:=run_append_grow (P:=P) w t o.type e i z hu hi hz ⟨g,0,none⟩ n n xs (by rw[hsz];exact hxl) holds ⟨b,q,none⟩ m c news (by rw[hsz];exact hl) hnews (by omega) (by omega) (growslice_fits (by omega) hbytes)
 have hgr:=grown n _ rfl
 rw[hr]
 exact⟨_,hgr.1,PH.le_put hw.fresh _,hgr.2⟩
end
section
variable {P:Program} {T e:TypeId} {sz:Nat} {ag:Bool} {α:Type} {ce:α->List Value} {ve:α->Value} (E:El P T e sz ag ce ve)
variable {G:Value->PH->Prop} {nx:List (List Value->PH->Prop)} {ρ:List Value} {H:PH} {o:Oper} {x y:Operand} {id i:Nat} {args:List SV} {t:Tree} {v u:Value} {l l2:List α} {a:α} {pf:Bool} {b:Nat} {fz:Nat×Nat} {T':TypeId}
include E
theorem b2F (ho:o.op= .call ⟨.builtin .append,#[x,y],#[T,T]⟩) (hx:a0f [x,y] [.slice (some ⟨b,0,none⟩) 0 0,u] x= .slice (some ⟨b,0,none⟩) 0 0) (hy:a0f [x,y] [.slice (some ⟨b,0,none⟩) 0 0,u] y=u) (hb:H b=some (.cells #[] e (0,0))) (h2:SE H sz ce u l2) (hlen:l2.length<=68719476736)
  (ha:args.map (D P ρ)=[.slice (some ⟨b,0,none⟩) 0 0,u]) (n:∀v' H',PH.le H H'->SE H' sz ce v' l2->(∀H0,PH.le H0 H->H0 b=none->SO H0 H' e sz ce v' l2)->den P G t nx (ρ++[v']) H'):den P G (.eff pf id i o args t) nx ρ H:=by
 obtain⟨ti,zv,h1,h3,h4,h5,h6⟩:=E.inf
 have hown0:∀H0,H0 b=none->SO H0 H e sz ce (.slice (some ⟨b,0,none⟩) 0 0) ([]:List α):=fun H0 h0=>⟨by simp,.inr ⟨b,0,#[],rfl,h0,hb,Nat.le_refl _,by simp[maxLen],by simp,by simp⟩⟩
 by_cases hm:0<l2.length
 ·refine a0l (b4m (n:=0) (xs:=[]) ho hx hy E.und h1 h3 h4 h5 hb (by simp) (by simp) h2 hm (by simp only[maxLen];omega) (by rw[Nat.zero_add];have:=Nat.mul_le_mul hlen h6;omega)) ha ?_
  rintro v' H' ⟨hl,ho'⟩
  simp only[Nat.zero_add,List.nil_append]at ho'
  exact⟨fun _=>hl,n v' H' hl ho'.sl fun H0 h0 hb0=>OwS.less ho' h0⟩
 ·have hl2:l2=[]:=List.eq_nil_of_length_eq_zero (by omega)
  subst hl2
  have hs0:SE H sz ce (.slice (some ⟨b,0,none⟩) 0 0) ([]:List α):=⟨by simp,_,_,rfl,Nat.le_refl _,by simp[maxLen],.inl rfl⟩
  refine a0l (a7I ho hx hy E.und h1 hs0 h2) ha ?_
  rintro v' H' ⟨rfl,rfl⟩
  exact⟨fun _=>PH.le.refl _,n _ _ (PH.le.refl _) hs0 fun H0 _ hb0=>hown0 H0 hb0⟩
theorem c0N {o1 o2 o3:Oper} {x y x2 x3:Operand} {id1 i1 id2 i2 id3 i3:Nat} {args1 args2 args3:List SV} {k:IntKind} {j m n:Nat} {e2:TypeId} {c:Value} (hT:Ar P e e2 n) (hm:m<n) (hc:(ce a)[m]? =some c) (ho1:o1.op= .indexAddr T x y) (ho2:o2.op= .indexAddr e x2 (.const (.int .i64 (m:Nat)))) (ho3:o3.op= .load e2 x3) (hx:a0f [x,y] [v,.int k (j:Nat)] x=v) (hy:a0f [x,y] [v,.int k (j:Nat)] y= .int k (j:Nat))
  (hx2:∀p,a0f [x2,.const (.int .i64 (m:Nat))] [p,.int .i64 (m:Nat)] x2=p) (hx2':∀p,a0f [x2,.const (.int .i64 (m:Nat))] [p,.int .i64 (m:Nat)] (.const (.int .i64 (m:Nat)))= .int .i64 (m:Nat)) (hx3:∀p,a0f [x3] [p] x3=p) (h:SE H sz ce v l) (hj:l[j]? =some a) (ha:args1.map (D P ρ)=[v,.int k (j:Nat)]) (ha2:∀p,args2.map (D P (ρ++[p]))=[p,.int .i64 (m:Nat)]) (ha3:∀p p',args3.map (D P (ρ++[p]++[p']))=[p'])
  (nn:∀p p',den P G t nx (ρ++[p]++[p']++[c]) H):den P G (.prim id1 i1 o1 args1 (.prim id2 i2 o2 args2 (.prim id3 i3 o3 args3 t))) nx ρ H:=by
 refine b4g E ho1 hx hy h hj ha fun p hp=> ?_
 obtain⟨b,q,cs,T',fz,rfl,h2,h3,h4⟩:=hp
 have hlt:=(List.getElem?_eq_some_iff.1 hc).1
 have hi:=(a3b (P:=P) (len:=n) (e:=e2) (b:=b) (q:=q) ho2 (hx2 _) (hx2' _) hT.und hT.sc.has (by omega) (by omega)).rds H
 rw[hT.sc.cel,Int.toNat_natCast,Nat.mul_one]at hi
 refine a0g hi (ha2 _) ?_
 refine a0L hT.sc ho3 (hx3 _) h2 ?_ (ha3 _ _) (nn _ _)
 rw[<-Array.getElem?_toList]
 rw[<-h4,List.getElem?_take_of_lt hlt,List.getElem?_drop]at hc
 exact hc
end
end Go.RX
/- Concrete runs: an evaluator of trees. -/
namespace Go.RZ
open Go.RowKit Go.RX
noncomputable section
inductive AV where
 |int (k:IntKind) (n:Int)
 |bool (b:Bool)
 |ptr (k q:Nat)
 |nptr
 |sl (k q n c:Nat)
 |sg (k q n d:Nat)
 |nsl
 |mp (k:Nat)
 |nmp
 |fn (f:FuncId) (b c:List AV)
 |nfn
 |agg (l:List AV)
 |tup (l:List AV)
 deriving Inhabited
def len {α:Type} (l:List α):Nat:=List.rec (motive:=fun _=>Nat) 0 (fun _ _ n=>Nat.succ n) l
def ofS:Value->Option AV
 | .int k n=>some (.int k n)
 | .bool b=>some (.bool b)
 | .pointer none=>some .nptr
 | .slice none 0 0=>some .nsl
 | .map none=>some .nmp
 | .nilFunc=>some .nfn
 | .func (.func f) ⟨[]⟩ ⟨[]⟩=>some (.fn f [] [])
 |_=>none
def d8a:List Value->Option (List AV)
 |[]=>some []
 |x::r=>match ofS x,d8a r with|some a,some b=>some (a::b)|_,_=>none
def okI:IntKind->Int->Bool
 | .i64,.ofNat m=>Nat.blt m 9223372036854775808
 | .u64,.ofNat m=>Nat.blt m 18446744073709551616
 | .i64,.negSucc m=>Nat.blt m 9223372036854775808
 |_,_=>false
def eqI:Int->Int->Bool
 | .ofNat m,.ofNat n=>Nat.beq m n
 | .negSucc m,.negSucc n=>Nat.beq m n
 |_,_=>false
def ixN:Option AV->Option Nat
 |some (.int _ (.ofNat n))=>some n
 |_=>none
def d8m (ox:Option AV):Option AV:=match ox with
 |some (.bool b)=>some (.bool (not b))
 |_=>none
def isK (k l:IntKind):Bool:=k==l
def a2j:List AV->List AV->Bool
 |[],[]=>true
 | .int k a::r,.int l b::q=>isK k l&&eqI a b&&a2j r q
 | .bool a::r,.bool b::q=>(a==b)&&a2j r q
 |_,_=>false
def b4n (P:Program):Nat->TypeId->List AV->Bool
 |0,_,_=>false
 |d+1,t,l=>match P.underlying t with
  |some .bool=>match l with
   |[.bool _]=>true
   |_=>false
  |some (.int q)=>match l with
   |[.int k n]=>isK k q&&(okI k n||(Lit.int k n).wf)
   |_=>false
  |some (.array n e)=>Nat.beq (len l) (P.cellsOf t)&&(List.range n).all fun i=>b4n P d e ((l.drop (Nat.mul i (P.cellsOf e))).take (P.cellsOf e))
  |some (.struct fs)=>Nat.beq (len l) (P.cellsOf t)&&fs.toList.all fun f=>b4n P d f.type ((l.drop f.offset).take (P.cellsOf f.type))
  |_=>false
def a9a (P:Program) (kty:TypeId->Bool) (kt:TypeId) (v:AV):Bool:=match v with
 | .agg l=>kty kt&&b4n P 6 kt l
 | .int k _=>match P.underlying kt with
  |some (.int q)=>isK k q
  |_=>false
 |_=>false
theorem c0O {α:Type}:∀l:List α,len l=l.length
 |[]=>rfl
 |x::r=>by rw[List.length_cons,<-c0O r];rfl
end
end Go.RZ
/- Concrete runs: what abstract values and terms stand for. -/
namespace Go.RZ
open Go.RowKit Go.RX Go.GS
abbrev Rl:=Nat->Nat×Nat
mutual
def rz (σ:Rl):AV->Value
 | .int k n=> .int k n
 | .bool b=> .bool b
 | .ptr k q=> .pointer (some ⟨(σ k).1,q,none⟩)
 | .nptr=> .pointer none
 | .sl k q n c=> .slice (some ⟨(σ k).1,q,none⟩) n c
 | .sg k q n d=> .slice (some ⟨(σ k).1,q,none⟩) n ((σ k).2-d)
 | .nsl=> .slice none 0 0
 | .mp k=> .map (some (σ k).1)
 | .nmp=> .map none
 | .fn f b c=> .func (.func f) (rzs σ b).toArray (rzs σ c).toArray
 | .nfn=> .nilFunc
 | .agg l=> .agg (rzs σ l).toArray
 | .tup l=> .tuple (rzs σ l).toArray
def rzs (σ:Rl):List AV->List Value
 |[]=>[]
 |x::r=>rz σ x::rzs σ r
end
theorem b0Z (σ:Rl):∀l,rzs σ l=l.map (rz σ)
 |[]=>by simp[rzs]
 |x::r=>by simp[rzs,b0Z σ r]
theorem b4o (σ:Rl) (l:List AV):(rzs σ l).length=l.length:=by rw[b0Z,List.length_map]
theorem b5S (σ:Rl) (l:List AV) (j:Nat):rzs σ (l.take j)=(rzs σ l).take j:=by simp[b0Z,List.map_take]
theorem b5T (σ:Rl) (l:List AV) (j:Nat):rzs σ (l.drop j)=(rzs σ l).drop j:=by simp[b0Z,List.map_drop]
theorem d6O {a b:Nat} (h:Nat.blt a b=true):a<b:=by simpa[Nat.blt_eq]using h
theorem c7Q {a b:Nat} (h:Nat.beq a b=true):a=b:=Nat.eq_of_beq_eq_true h
theorem c7R (a b:Int):eqI a b=(a==b):=by
 rw[Bool.eq_iff_iff,beq_iff_eq]
 cases a<;>cases b<;>simp only[eqI,Nat.beq_eq]
 ·exact Int.ofNat_inj.symm
 ·exact⟨fun h=>(nomatch h),fun h=>(nomatch h)⟩
 ·exact⟨fun h=>(nomatch h),fun h=>(nomatch h)⟩
 ·exact⟨fun h=>by rw[h],fun h=>by injection h⟩
end Go.RZ

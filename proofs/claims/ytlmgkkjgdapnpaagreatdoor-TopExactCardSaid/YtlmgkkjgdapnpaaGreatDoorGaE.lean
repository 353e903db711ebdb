/- Chapter 32: graphs. -/
import Derived.Test.YtlmgkkjgdapnpaaGreatDoorGsD
namespace Go.Proofs.YtlmgkkjgdapnpaaGreatDoor
open Go.Proofs.Tryz
open Go.RowKit Go.RX Go.GS
theorem bT {p:Prop} [Decidable p] (h:p):Value.bool (decide p)= .bool true:=by rw[decide_eq_true h]
theorem bF {p:Prop} [Decidable p] (h:¬p):Value.bool (decide p)= .bool false:=by rw[decide_eq_false h]
def gv (n:Nat) (w:Value):Value:= .agg #[ii n,w]
abbrev SG (H:PH) (w:Value) (es:List (Nat×Nat)):Prop:=SE H 2 ec w es
theorem a2e {H:PH} {n:Nat} {w:Value} {es:List (Nat×Nat)} (h:SG H w es):(gv n w).cells.size=2/\a0p (gv n w).cells:=by
 refine⟨rfl,fun c hc=> ?_⟩
 rw[gv,a1e]at hc
 simp only[List.mem_cons,List.not_mem_nil,or_false]at hc
 rcases hc with rfl|rfl
 ·rfl
 ·exact h.one.2 _ (by rw[h.cells];simp)
theorem sc_int:Sc prog 3:=⟨by kernel_rfl,by kernel_rfl,by kernel_rfl⟩
theorem a7S:Sc prog 57:=⟨by kernel_rfl,by kernel_rfl,by kernel_rfl⟩
theorem ar_2:Ar prog 150 3 2:=⟨by kernel_rfl,by kernel_rfl,by kernel_rfl,by kernel_rfl,sc_int⟩
theorem d6g:Ag prog 150 2:=⟨by kernel_rfl,by kernel_rfl,by kernel_rfl⟩
theorem z_2:a0G prog 150= .agg #[ii 0,ii 0]:=by kernel_rfl
theorem d7R:(a0G prog 150).cells= #[ii 0,ii 0]:=by rw[z_2];rfl
def bef (es:List (Nat×Nat)):Nat->Int×Int
 |0=>(-1,-1)
 |i+1=>match es[i]? with|some e=>(e.1,e.2)|none=>(-1,-1)
theorem d8m {a b c d:Int} (h:a<c\/a=c/\b<d):b9m [a,b] [c,d]<0:=by
 rcases h with h|⟨rfl,h⟩
 ·have e:b6t a c= -1:=if_pos h
  simp only[b9m,e];rw[if_pos (by decide)];decide
 ·have e:b6t a a=0:=by unfold b6t;rw[if_neg (by omega),if_neg (by omega)]
  have e2:b6t b d= -1:=if_pos h
  simp only[b9m,e,e2];rw[if_neg (by decide),if_pos (by decide)];decide
theorem d4G {n:Nat} {es:List (Nat×Nat)} (h:GV n es) {i:Nat} {a:Nat×Nat} (ha:es[i]? =some a):b9m [(bef es i).1,(bef es i).2] [(a.1:Int),(a.2:Int)]<0:=by
 apply d8m
 cases i with
 |zero=>exact .inl (by simp only[bef];omega)
 |succ i=>
  obtain⟨hi,_⟩:=List.getElem?_eq_some_iff.1 ha
  have hb:es[i]? =some es[i]:=List.getElem?_eq_getElem (by omega)
  have:=h.next hb ha
  simp only[bef,hb]
  rcases this with h1|⟨h1,h2⟩
  ·exact .inl (by omega)
  ·exact .inr ⟨by omega,by omega⟩
theorem d8n (ρ:List Value):D prog ρ (.put (.put (.z 150) 0 1 (.k (.int .i64 (-1))) 0 noI) 1 1 (.k (.int .i64 (-1))) 0 noI)= .agg #[ii (-1),ii (-1)]:=by
 show Value.agg (spl (Value.agg (spl (a0G prog 150).cells 0 [ii (-1)])).cells 1 [ii (-1)])=_
 rw[z_2];rfl
section
variable {H:PH} {n:Nat} {w:Value} {es:List (Nat×Nat)}
theorem a2f (hw:SG H w es) (hg:GV n es):a1g prog 65 [gv n w] H (ii 0):=by
 refine a0b mixed d0j (by kernel_rfl) rfl ?_
 have h1:=hg.n1
 have h2:=hg.n64
 have h3:=hg.len
 refine a0a (a2e hw) ?_
 refine a0a ⟨_,rfl⟩ ?_
 refine a0e (bF (p:=((n:Nat):Int)<1) (by omega)) ?_
 refine a0e (bF (p:=((n:Nat):Int)>64) (by omega)) ?_
 refine a0j el_edge rfl rfl hw rfl ?_
 refine a0a ⟨_,rfl⟩ ?_
 refine a0e (bF (p:=((es.length:Nat):Int)>200) (by omega)) ?_
 refine a0A (cs:= #[ii 0,ii 0]) d7R fun b hb=> ?_
 simp only[cA,nA]
 refine a4V (vs:=[ii (-1),ii (-1)]) d6g rfl rfl rfl (PH.put_self _ _ _) rfl (by intro c hc;simp at hc;rcases hc with rfl|rfl<;>rfl) (a0R rfl (d8n _)) (fun h=>(nomatch h)) ?_
 simp only[cA,nA]
 have l1:=PH.le_put2 hb (.cells #[ii 0,ii 0] 150 (0,0)) (.cells #[ii (-1),ii (-1)] 150 (0,0))
 have b1:=PH.put_self (H.put b (.cells #[ii 0,ii 0] 150 (0,0))) b (.cells #[ii (-1),ii (-1)] 150 (0,0))
 generalize (H.put b (.cells #[ii 0,ii 0] 150 (0,0))).put b (.cells #[ii (-1),ii (-1)] 150 (0,0))=H1 at l1 b1
 refine a0j el_edge rfl rfl (hw.mono l1) rfl ?_
 refine a0o (α:=Nat×Int) (fun⟨i,p⟩=>[ii p,ii (i:Nat)]) (fun⟨i,p⟩=>fun H'=>i<=es.length/\PH.le H H'/\H' b=some (.cells #[ii (bef es i).1,ii (bef es i).2] 150 (0,0))) (fun⟨i,p⟩=>es.length-i) ((0,0)) rfl (⟨Nat.zero_le _,l1,b1⟩) fun⟨i,p⟩ H' hQ=> ?_
 simp only[cA,nA]
 obtain⟨hi,l2,b2⟩:=hQ
 refine a0a ⟨_,rfl⟩ ?_
 refine a0a ⟨_,rfl⟩ ?_
 refine a0f (b:=decide (((i:Nat):Int)<(es.length:Nat))) rfl (fun h=> ?_) (fun h=> ?_)
 ·replace h:=of_decide_eq_true h
  have hi':i<es.length:=by omega
  obtain⟨x,hx,hdx⟩:=a0t hi'
  obtain⟨hx1,hx2⟩:=hg.mem hx
  refine a0m el_edge rfl rfl rfl rfl (fun _=>rfl) (hw.mono l2) hx rfl (fun _=>rfl) fun _=> ?_
  simp only[cA,nA]
  refine a0A (cs:= #[ii 0,ii 0]) d7R fun c hc=> ?_
  simp only[cA,nA]
  refine a4V (vs:=(ec x)) d6g rfl rfl rfl (PH.put_self _ _ _) rfl (el_edge.one x) rfl (fun h=>(nomatch h)) ?_
  simp only[cA,nA]
  have l3:=PH.le_put2 hc (.cells #[ii 0,ii 0] 150 (0,0)) (.cells (ec x).toArray 150 (0,0))
  have b3:=PH.put_self (H'.put c (.cells #[ii 0,ii 0] 150 (0,0))) c (.cells (ec x).toArray 150 (0,0))
  have hb2:=l3 _ _ b2
  generalize (H'.put c (.cells #[ii 0,ii 0] 150 (0,0))).put c (.cells (ec x).toArray 150 (0,0))=H2 at l3 b3 hb2
  refine a5t (m:=0) ar_2 rfl rfl rfl rfl rfl b3 (by decide) rfl rfl rfl ?_
  simp only[cA,nA]
  refine a0a ⟨_,rfl⟩ ?_
  refine a0e (bF (p:=((x.1:Nat):Int)<0) (by omega)) ?_
  refine a5t (m:=0) ar_2 rfl rfl rfl rfl rfl b3 (by decide) rfl rfl rfl ?_
  simp only[cA,nA]
  refine a5t (m:=1) ar_2 rfl rfl rfl rfl rfl b3 (by decide) rfl rfl rfl ?_
  simp only[cA,nA]
  refine a0a ⟨_,rfl⟩ ?_
  refine a0a ⟨_,rfl⟩ ?_
  refine a0e (bF (p:=((x.1:Nat):Int)≥(x.2:Nat)) (by omega)) ?_
  refine a5t (m:=1) ar_2 rfl rfl rfl rfl rfl b3 (by decide) rfl rfl rfl ?_
  simp only[cA,nA]
  refine a0a ⟨_,rfl⟩ ?_
  refine a0e (bF (p:=((x.2:Nat):Int)≥(n:Nat)) (by omega)) ?_
  refine a0l ((a4m rfl rfl ar_2.und sc_int.has).rds _) rfl ?_
  simp only[cA,nA]
  refine a0l ((a4m rfl rfl ar_2.und sc_int.has).rds _) rfl ?_
  simp only[cA,nA]
  refine a0q (c5g (l:=[(bef es i).1,(bef es i).2]) (m:=[(x.1:Int),(x.2:Int)]) (c7R hb2 rfl rfl (show 2<=maxLen by decide)) (c7R b3 rfl rfl (show 2<=maxLen by decide))) rfl ?_
  simp only[cA,nA]
  have hlt:=d4G hg hx
  refine a0a ⟨_,rfl⟩ ?_
  refine a0e (bF (p:=b9m [(bef es i).1,(bef es i).2] [(x.1:Int),(x.2:Int)]≥0) (by omega)) ?_
  refine a0N (vs:=ec x) d6g rfl rfl b3 rfl (by simp) rfl ?_
  simp only[cA,nA]
  refine a4V (vs:=(ec x)) d6g rfl rfl rfl hb2 rfl (el_edge.one x) rfl (fun h=>(nomatch h)) ?_
  simp only[cA,nA]
  exact⟨(i+1,p),by show es.length-(i+1)<es.length-i;omega,(a0R rfl (a0J rfl (by omega))),⟨by show i+1<=_;omega,PH.le_put_of (l2.trans l3) hb,by simp only[bef,hx];exact PH.put_self _ _ _⟩⟩
 ·replace h:=of_decide_eq_false h
  exact a0c rfl ⟨l2,rfl⟩
end
end Go.Proofs.YtlmgkkjgdapnpaaGreatDoor
/- Neighbours. -/
namespace Go.GS
theorem a6M {α:Type} {p:List α->Prop} (nil:p []) (snoc:∀l a,p l->p (l++[a])) (l:List α):p l:=by
 have:∀l:List α,p l.reverse:=by
  intro l
  induction l with
  |nil=>exact nil
  |cons a l ih=>rw[List.reverse_cons];exact snoc _ _ ih
 have h:=this l.reverse
 rwa[List.reverse_reverse]at h
def nb (es:List (Nat×Nat)) (x:Nat):Nat:=es.foldl (fun s e=>if e.1=x then s|||2^e.2 else if e.2=x then s|||2^e.1 else s) 0
theorem b3B (es:List (Nat×Nat)) (e:Nat×Nat) (x:Nat):nb (es++[e]) x=if e.1=x then nb es x|||2^e.2 else if e.2=x then nb es x|||2^e.1 else nb es x:=by
 unfold nb;rw[List.foldl_append];rfl
def nbs (n:Nat) (es:List (Nat×Nat)):List Nat:=(List.range n).map (nb es)
theorem b9n (n:Nat):nbs n []=List.replicate n 0:=by
 unfold nbs
 apply List.ext_getElem
 ·simp
 ·intro i h1 h2;simp[nb]
theorem a4a (n:Nat) (es:List (Nat×Nat)):(nbs n es).length=n:=by simp[nbs]
theorem a6u {n x:Nat} (es:List (Nat×Nat)) (h:x<n):(nbs n es)[x]? =some (nb es x):=by simp[nbs,h]
theorem b4F (n:Nat) (es:List (Nat×Nat)) (e:Nat×Nat) (h:e.1<e.2):((nbs n es).set e.1 (nb es e.1|||2^e.2)).set e.2 (nb es e.2|||2^e.1)=nbs n (es++[e]):=by
 apply List.ext_getElem?
 intro i
 by_cases hi:i<n
 ·rw[a6u _ hi,b3B]
  by_cases h2:e.2=i
  ·subst h2
   rw[List.getElem?_set_self (by simp[a4a,hi]),if_neg (by omega),if_pos rfl]
  ·rw[List.getElem?_set_ne h2]
   by_cases h1:e.1=i
   ·subst h1
    rw[List.getElem?_set_self (by simp[a4a,hi]),if_pos rfl]
   ·rw[List.getElem?_set_ne h1,a6u _ hi,if_neg h1,if_neg h2]
 ·rw[List.getElem?_eq_none (by simp[a4a];omega),List.getElem?_eq_none (by simp[a4a];omega)]
theorem d4H (es:List (Nat×Nat)) (x y:Nat):bit (nb es x) y=true↔∃e∈es,(e.1=x/\e.2=y)\/(e.1≠x/\e.2=x/\e.1=y):=by
 induction es using a6M with
 |nil=>simp[nb,bit]
 |snoc es e ih=>
  rw[b3B]
  simp only[List.mem_append,List.mem_singleton]
  constructor
  ·intro h
   split at h
   ·rename_i h1
    rw[a2d,a2i,Bool.or_eq_true]at h
    rcases h with h|h
    ·obtain⟨a,h2,h3⟩:=ih.1 h;exact⟨a,.inl h2,h3⟩
    ·exact⟨e,.inr rfl,.inl ⟨h1,by simpa using h⟩⟩
   ·split at h
    ·rename_i h1 h2
     rw[a2d,a2i,Bool.or_eq_true]at h
     rcases h with h|h
     ·obtain⟨a,h3,h4⟩:=ih.1 h;exact⟨a,.inl h3,h4⟩
     ·exact⟨e,.inr rfl,.inr ⟨h1,h2,by simpa using h⟩⟩
    ·obtain⟨a,h2,h3⟩:=ih.1 h;exact⟨a,.inl h2,h3⟩
  ·rintro⟨a,h2|rfl,h3⟩
   ·have:=ih.2 ⟨a,h2,h3⟩
    split
    ·rw[a2d,this];rfl
    ·split
     ·rw[a2d,this];rfl
     ·exact this
   ·rcases h3 with⟨h3,h4⟩|⟨h3,h4,h5⟩
    ·rw[if_pos h3,a2d,a2i];simp[h4]
    ·rw[if_neg h3,if_pos h4,a2d,a2i];simp[h5]
theorem d0s {n:Nat} {es:List (Nat×Nat)} (h:∀e∈es,e.1<e.2/\e.2<n) (hn:n<=64) (x:Nat):nb es x<M64:=by
 induction es using a6M with
 |nil=>exact(by decide:0<M64)
 |snoc es e ih=>
  have ih:=ih fun a ha=>h a (List.mem_append_left _ ha)
  have he:=h e (List.mem_append_right _ (List.mem_singleton.2 rfl))
  rw[b3B]
  split
  ·exact b9h ih (a2z (by omega))
  ·split
   ·exact b9h ih (a2z (by omega))
   ·exact ih
end Go.GS
/- Chapter 32: graphs, part 2. -/
namespace Go.Proofs.YtlmgkkjgdapnpaaGreatDoor
open Go.Proofs.Tryz
open Go.RowKit Go.RX Go.GS
theorem d0t:a0G prog 57=uv 0:=by kernel_rfl
theorem d6Q:a0G prog 3=ii 0:=by kernel_rfl
theorem take_snoc {α:Type} {l:List α} {i:Nat} {x:α} (h:l[i]? =some x):l.take (i+1)=l.take i++[x]:=by rw[List.take_add_one,h];rfl
section
variable {H:PH} {n:Nat} {w:Value} {es:List (Nat×Nat)}
theorem d0u (hw:SG H w es) (hg:GV n es):Con prog 267 [gv n w] H fun u H'=>PH.le H H'/\SO H H' 57 1 (fun s:Nat=>[uv s]) u (nbs n es):=by
 refine a0b mixed d4C (by kernel_rfl) rfl ?_
 have h1:=hg.n1
 have h2:=hg.n64
 have h3:=hg.len
 have hlt:∀i x,nb (es.take i) x<M64:=fun i x=>d0s (fun e he=>hg.ed e (List.mem_of_mem_take he)) h2 x
 refine a0a (a2e hw) ?_
 refine a2x el_u64 (z:=(0:Nat)) d0t rfl rfl rfl (by omega) rfl fun v H1 l1 o1 _=> ?_
 simp only[cA,nA]
 rw[<-b9n]at o1
 refine a0j el_edge rfl rfl (hw.mono l1) rfl ?_
 refine a0o (α:=Nat) (fun i=>[ii (i:Nat)]) (fun i=>fun H'=>i<=es.length/\PH.le H H'/\SO H H' 57 1 (fun s:Nat=>[uv s]) v (nbs n (es.take i))) (fun i=>es.length-i) (0) rfl (⟨Nat.zero_le _,l1,o1⟩) fun i H' hQ=> ?_
 simp only[cA,nA]
 obtain⟨hi,l2,o2⟩:=hQ
 refine a0a ⟨_,rfl⟩ ?_
 refine a0a ⟨_,rfl⟩ ?_
 refine a0f (b:=decide (((i:Nat):Int)<(es.length:Nat))) rfl (fun h=> ?_) (fun h=> ?_)
 ·replace h:=of_decide_eq_true h
  have hi':i<es.length:=by omega
  obtain⟨x,hx,hdx⟩:=a0t hi'
  obtain⟨hx1,hx2⟩:=hg.mem hx
  refine a0m el_edge rfl rfl rfl rfl (fun _=>rfl) (hw.mono l2) hx rfl (fun _=>rfl) fun _=> ?_
  simp only[cA,nA]
  refine a0a (el_edge.vcells x) ?_
  refine a0m el_u64 rfl rfl rfl rfl (fun _=>rfl) o2.se (a6u _ (show x.1<n by omega)) rfl (fun _=>rfl) fun _=> ?_
  simp only[cA,nA]
  refine a0a ⟨_,_,rfl⟩ ?_
  refine a0a (by show(0:Int)<=((x.2:Nat):Int);omega) ?_
  refine a0a ⟨_,rfl⟩ ?_
  refine a1M el_u64 (a:=nb (es.take i) x.1|||2^x.2) rfl rfl rfl rfl (fun _=>rfl) (fun _=>rfl) l2 o2 (by rw[a4a];omega) rfl (fun _=>a0R rfl (b6Y rfl (a6C rfl (by omega)) (hlt _ _) (a2z (by omega)))) rfl fun p u H2 l3 o3 _=> ?_
  simp only[cA,nA]
  refine a0m el_u64 rfl rfl rfl rfl (fun _=>rfl) o3.se (show _=some (nb (es.take i) x.2) by rw[List.getElem?_set_ne (by omega),a6u _ (by omega)]) rfl (fun _=>rfl) fun _=> ?_
  simp only[cA,nA]
  refine a0a ⟨_,_,rfl⟩ ?_
  refine a0a (by show(0:Int)<=((x.1:Nat):Int);omega) ?_
  refine a0a ⟨_,rfl⟩ ?_
  refine a1M el_u64 (a:=nb (es.take i) x.2|||2^x.1) rfl rfl rfl rfl (fun _=>rfl) (fun _=>rfl) l3 o3 (by rw[List.length_set,a4a];omega) rfl (fun _=>a0R rfl (b6Y rfl (a6C rfl (by omega)) (hlt _ _) (a2z (by omega)))) rfl fun p2 u2 H3 l4 o4 _=> ?_
  simp only[cA,nA]
  rw[b4F n _ x hx1,<-take_snoc hx]at o4
  exact⟨i+1,by omega,(a1R (a0J rfl (by omega))),⟨by omega,l4,o4⟩⟩
 ·replace h:=of_decide_eq_false h
  rw[List.take_of_length_le (by omega)]at o2
  exact a0c rfl ⟨l2,o2⟩
theorem b9o:a1q prog 279=true:=by kernel_rfl
def a6D (b s:Nat):PH:=PH.nil.put b (.cells #[uv s] 57 (0,0))
theorem c5h {s:Nat}:Con prog 268 [uv s] H fun u H'=>∃b,H b=none/\H'=H.or (a6D b s)/\u= .func (.func 279) #[] #[.pointer (some ⟨b,0,none⟩)]:=by
 refine a0b mixed d0l (by kernel_rfl) rfl ?_
 refine a0a (el_u64.vcells s) ?_
 refine a0A (cs:= #[uv s]) rfl fun b hb=> ?_
 simp only[cA,nA]
 refine a0O (a0z (vs:=[.pointer (some ⟨b,0,none⟩)]) rfl rfl) rfl ?_
 simp only[cA,nA]
 exact a0c rfl ⟨b,hb,PH.put_or hb,rfl⟩
theorem bN (a b:Int):Value.bool (a !=b)= .bool (decide (a≠b)):=by
 by_cases h:a=b<;>simp[h]
theorem bE (a b:Int):Value.bool (a==b)= .bool (decide (a=b)):=by
 by_cases h:a=b<;>simp[h]
theorem bN0 (s:Nat):Value.bool (((s:Nat):Int) !=0)= .bool (decide (s≠0)):=by
 rw[bN];congr 1;apply decide_eq_decide.2;omega
theorem bE0 (s:Nat):Value.bool (((s:Nat):Int)==0)= .bool (decide (s=0)):=by
 rw[bE];congr 1;apply decide_eq_decide.2;omega
theorem a4b (b s:Nat):a6D b s b=some (.cells #[uv s] 57 (0,0)):=PH.put_self _ _ _
theorem c5i {X:PH} {b s t:Nat} (h:X b=none):(X.or (a6D b s)).put b (.cells #[uv t] 57 (0,0))=X.or (a6D b t):=by
 rw[PH.or_put h];unfold a6D;rw[PH.put_put]
theorem a5u {X:PH} {b:Nat} (s:Nat) (h:X b=none):Disj X (a6D b s):=b0e (a5p X) h
theorem b9p {X:PH} {b s:Nat} (h:Disj X (a6D b s)):X b=none:=Disj.none h (b:=b) (by rw[a4b];exact fun h=>nomatch h)
abbrev nxs (s:Nat):List (List Value):=(els s).map fun x:Nat=>[ii (x:Int)]
theorem b9q {b s:Nat} {Ro:PH} (hs:s<M64) (hT:Tb Ro):ItC prog 279 [.pointer (some ⟨b,0,none⟩)] Ro (a6D b s) (fun pre xs=>∃x,(els s)[pre.length]? =some x/\xs=[ii (x:Nat)]/\pre=((els s).take pre.length).map fun x:Nat=>[ii (x:Int)]) (fun xs _=>xs=nxs s) (fun _ _=>True):=by
 intro l J Jx hRo hr X hX hd w hw
 refine(a0b (H:=X.or (a6D b s)) (V:=fun _ H'=>∃X' K',PH.le (X'.or K') H'/\Disj X' K'/\((∃xs,xs=nxs s/\J xs X')\/(∃pre,True/\Jx pre X'))) mixed c5b (by kernel_rfl) rfl ?_ w hw).mono fun e w' ⟨v,H',he,hst,hV⟩=>⟨v,H',he,hst,hV⟩
 refine a0o (α:=Nat×Nat×PH) (fun⟨k,s',X'⟩=>[]) (fun⟨k,s',X'⟩=>fun H'=>k<=(els s).length/\s'<M64/\els s'=(els s).drop k/\H'=X'.or (a6D b s')/\J (((els s).take k).map fun x:Nat=>[ii (x:Int)]) X'/\Disj X' (a6D b s')) (fun⟨k,s',X'⟩=>(els s).length-k) ((0,s,X)) rfl (⟨Nat.zero_le _,hs,rfl,rfl,hX,hd⟩) fun⟨k,s',X'⟩ H' hQ=> ?_
 simp only[cA,nA]
 obtain⟨hk,hs',he,rfl,hJ,hd'⟩:=hQ
 have hb:=PH.or_right hd' (a4b b s')
 refine a0g a7S rfl rfl hb rfl rfl ?_
 simp only[cA,nA]
 refine a0a ⟨_,rfl⟩ ?_
 refine a0f (b:=decide (s'≠0)) (bN0 s') (fun h=> ?_) (fun h=> ?_)
 ·replace h:=of_decide_eq_true h
  refine a0g a7S rfl rfl hb rfl rfl ?_
  simp only[cA,nA]
  obtain⟨x,r,hel⟩:∃x r,els s'=x::r:=by
   cases hel:els s' with
   |nil=>exact absurd (a4U hs' hel) h
   |cons x r=>exact⟨x,r,rfl⟩
  have htz:tz s'=x:=by simp[tz,hel]
  have hk':k<(els s).length:=by
   apply Nat.lt_of_not_le;intro hh
   rw[List.drop_eq_nil_of_le hh,hel]at he;cases he
  obtain⟨y,hy,hdy⟩:=a0t hk'
  rw[<-he,hel]at hdy
  obtain⟨rfl,hr'⟩:=List.cons.inj hdy
  refine a0q (b4D ((hT.mono (hRo _ _ hJ)).mono (PH.le_or _ _)) hs') rfl ?_
  simp only[cA,nA]
  rw[htz]
  refine a3X (hr _ [ii (x:Nat)] X' (a6D b s') ⟨x,by simp[Nat.min_eq_left hk,hy],rfl,by simp[Nat.min_eq_left hk]⟩ hJ hd') rfl rfl rfl rfl rfl fun v X2 hd2 hV=> ?_
  simp only[cA,nA]
  obtain⟨bb,rfl,hb1,hb2⟩:∃bb,v= .bool bb/\(bb=true->J ((((els s).take k).map fun x:Nat=>[ii (x:Int)])++[[ii (x:Nat)]]) X2)/\(bb=false->Jx ((((els s).take k).map fun x:Nat=>[ii (x:Int)])++[[ii (x:Nat)]]) X2):=by
   rcases hV with⟨rfl,h⟩|⟨rfl,h⟩
   ·exact⟨true,rfl,fun _=>h,(fun h=>nomatch h)⟩
   ·exact⟨false,rfl,(fun h=>nomatch h),fun _=>h⟩
  refine a0a ⟨_,rfl⟩ ?_
  refine a0f (b:= !bb) rfl (fun hbb=> ?_) (fun hbb=> ?_)
  ·skip
   exact a0c rfl ⟨X2,a6D b s',PH.le.refl _,hd2,.inr ⟨_,trivial,hb2 (by simpa using hbb)⟩⟩
  ·skip
   have hn2:=b9p hd2
   have hb2:=PH.or_right hd2 (a4b b s')
   refine a0g a7S rfl rfl hb2 rfl rfl ?_
   simp only[cA,nA]
   refine a0g a7S rfl rfl hb2 rfl rfl ?_
   simp only[cA,nA]
   refine a0a ⟨_,rfl⟩ ?_
   refine a0a ⟨_,rfl⟩ ?_
   refine a1f a7S rfl rfl rfl hb2 (by simp) rfl rfl (a0R rfl (a8B rfl (a9e (B:=1) rfl rfl hs' (by omega)) hs' (Nat.lt_of_le_of_lt (Nat.sub_le _ _) hs'))) (fun h=>(nomatch h)) ?_
   simp only[cA,nA]
   exact⟨(k+1,s'&&&(s'-1),X2),by show(els s).length-(k+1)<(els s).length-k;omega,rfl,⟨hk',a7O hs',by rw[b0f hs' hel,hr'],c5i hn2,by rw[take_snoc hy,List.map_append];exact hb1 (by simpa using hbb),a5u _ hn2⟩⟩
 ·replace h:=of_decide_eq_false h
  have h0:s'=0:=by omega
  rw[h0,a6L]at he
  have hk2:(els s).length<=k:=by
   apply Nat.le_of_not_lt;intro hh
   rw[List.drop_eq_getElem_cons hh]at he;cases he
  rw[List.take_of_length_le hk2]at hJ
  exact a0c rfl ⟨X',a6D b s',PH.le.refl _,hd',.inl ⟨_,rfl,hJ⟩⟩
end
end Go.Proofs.YtlmgkkjgdapnpaaGreatDoor
/- What can be reached. -/
namespace Go.GS
def adj (es:List (Nat×Nat)) (y z:Nat):Prop:=∃e∈es,(e.1=y/\e.2=z)\/(e.2=y/\e.1=z)
theorem adj.symm {es:List (Nat×Nat)} {y z:Nat} (h:adj es y z):adj es z y:=by
 obtain⟨e,he,h|h⟩:=h
 ·exact⟨e,he,.inr ⟨h.2,h.1⟩⟩
 ·exact⟨e,he,.inl ⟨h.2,h.1⟩⟩
inductive Rch (es:List (Nat×Nat)) (set x:Nat):Nat->Prop
 |base:Rch es set x x
 |step {y z:Nat}:Rch es set x y->adj es y z->bit set z=true->Rch es set x z
theorem Rch.trans {es:List (Nat×Nat)} {set x y z:Nat} (h1:Rch es set x y) (h2:Rch es set y z):Rch es set x z:=by
 induction h2 with
 |base=>exact h1
 |step _ ha hz ih=>exact ih.step ha hz
theorem Rch.mem {es:List (Nat×Nat)} {set x y:Nat} (h:Rch es set x y) (hx:bit set x=true):bit set y=true:=by
 cases h with
 |base=>exact hx
 |step _ _ hz=>exact hz
theorem Rch.symm {es:List (Nat×Nat)} {set x y:Nat} (h:Rch es set x y) (hx:bit set x=true):Rch es set y x:=by
 induction h with
 |base=>exact .base
 |step h1 ha hz ih=>exact((Rch.base.step ha.symm (h1.mem hx)).trans ih)
def CL (es:List (Nat×Nat)) (set x c:Nat):Prop:=c<M64/\∀y,bit c y=true↔Rch es set x y
def Cn (es:List (Nat×Nat)) (set:Nat):Prop:=∃x,bit set x=true/\∀y,bit set y=true->Rch es set x y
theorem Cn.all {es:List (Nat×Nat)} {set x y:Nat} (h:Cn es set) (hx:bit set x=true) (hy:bit set y=true):Rch es set x y:=by
 obtain⟨z,hz,h⟩:=h
 exact((h x hx).symm hz).trans (h y hy)
theorem b4G {n:Nat} {es:List (Nat×Nat)} (h:∀e∈es,e.1<e.2/\e.2<n) {x y:Nat}:bit (nb es x) y=true↔adj es x y:=by
 rw[d4H]
 constructor
 ·rintro⟨e,he,h1|h1⟩
  ·exact⟨e,he,.inl h1⟩
  ·exact⟨e,he,.inr h1.2⟩
 ·rintro⟨e,he,h1|h1⟩
  ·exact⟨e,he,.inl h1⟩
  ·exact⟨e,he,.inr ⟨by have:=h e he;omega,h1⟩⟩
def grow (es:List (Nat×Nat)) (set part:Nat) (l:List Nat):Nat:=l.foldl (fun s n=>s|||(nb es n&&&set)) part
theorem a7T (es:List (Nat×Nat)) (set part:Nat) (l:List Nat) (x:Nat):grow es set part (l++[x])=grow es set part l|||(nb es x&&&set):=by
 unfold grow;rw[List.foldl_append];rfl
theorem a5v {es:List (Nat×Nat)} {set part:Nat} (l:List Nat) (y:Nat):bit (grow es set part l) y=true↔bit part y=true\/∃x∈l,bit (nb es x) y=true/\bit set y=true:=by
 induction l using a6M with
 |nil=>simp[grow]
 |snoc l x ih=>
  rw[a7T,a2d,a2y,Bool.or_eq_true,ih,Bool.and_eq_true]
  simp only[List.mem_append,List.mem_singleton]
  constructor
  ·rintro((h|⟨a,h1,h2⟩)|h)
   ·exact .inl h
   ·exact .inr ⟨a,.inl h1,h2⟩
   ·exact .inr ⟨x,.inr rfl,h⟩
  ·rintro(h|⟨a,h1|rfl,h2⟩)
   ·exact .inl (.inl h)
   ·exact .inl (.inr ⟨a,h1,h2⟩)
   ·exact .inr h2
theorem b9r {es:List (Nat×Nat)} {set part:Nat} (hs:set<M64) (hp:part<M64) (l:List Nat):grow es set part l<M64:=by
 induction l using a6M with
 |nil=>exact hp
 |snoc l x ih=>rw[a7T];exact b9h ih (a5W hs)
theorem c5j {n:Nat} {es:List (Nat×Nat)} (h:∀e∈es,e.1<e.2/\e.2<n) {set part x:Nat} (hp:part<M64) (hx:bit part x=true) (hr:∀y,bit part y=true->Rch es set x y) (he:grow es set part (els part)=part):CL es set x part:=by
 refine⟨hp,fun y=>⟨hr y,fun hy=> ?_⟩⟩
 induction hy with
 |base=>exact hx
 | @step u v _ ha hz ih=>
  rw[<-he,a5v]
  exact .inr ⟨u,(a2Y hp).2 ih,(b4G h).2 ha,hz⟩
theorem c5k {n:Nat} {es:List (Nat×Nat)} (h:∀e∈es,e.1<e.2/\e.2<n) {set part x:Nat} (hp:part<M64) (hr:∀y,bit part y=true->Rch es set x y):∀y,bit (grow es set part (els part)) y=true->Rch es set x y:=by
 intro y hy
 rw[a5v]at hy
 rcases hy with hy|⟨z,h1,h2,h3⟩
 ·exact hr y hy
 ·exact(hr z ((a2Y hp).1 h1)).step ((b4G h).1 h2) h3
theorem b9s {p q:Nat->Bool} (hpq:∀y,p y=true->q y=true) {x:Nat} (hq:q x=true) (hp:p x=false):∀l:List Nat,x∈l->(l.filter p).length<(l.filter q).length:=by
 have hle:∀l:List Nat,(l.filter p).length<=(l.filter q).length:=by
  intro l
  induction l with
  |nil=>exact Nat.le_refl _
  |cons a l ih=>
   rw[List.filter_cons,List.filter_cons]
   split
   ·rename_i h;rw[if_pos (hpq a h)];simp;exact ih
   ·split
    ·simp;omega
    ·exact ih
 intro l
 induction l with
 |nil=>intro h;cases h
 |cons a l ih=>
  intro h
  rw[List.filter_cons,List.filter_cons]
  rcases List.mem_cons.1 h with rfl|h
  ·rw[if_neg (by simp[hp]),if_pos hq];have:=hle l;simp;omega
  ·have:=ih h
   split
   ·rename_i h;rw[if_pos (hpq a h)];simp;exact this
   ·split
    ·simp;omega
    ·exact this
theorem b0g {a b x:Nat} (h:∀y,bit a y=true->bit b y=true) (hb:bit b x=true) (ha:bit a x=false) (hx:x<64):card a<card b:=
 b9s h hb ha _ (List.mem_range.2 hx)
theorem a3g (a:Nat):card a<=64:=by
 have:=List.length_filter_le (bit a) (List.range 64);simpa[card,els]using this
theorem d4I {a b:Nat} (h:a≠b) (hab:∀y,bit a y=true->bit b y=true):∃x,bit b x=true/\bit a x=false:=by
 apply Classical.byContradiction
 intro hn
 apply h
 apply a3Y
 intro y
 cases hy:bit a y with
 |true=>rw[hab y hy]
 |false=>
  cases hb:bit b y with
  |false=>rfl
  |true=>exact absurd ⟨y,hb,hy⟩ hn
def CS (es:List (Nat×Nat)) (set rest k:Nat):Prop:=(k=0/\rest=set)\/(k=1/\∃x c,bit set x=true/\CL es set x c/\rest=sdf set c)\/(2<=k/\¬Cn es set)
theorem CS.end {es:List (Nat×Nat)} {set k:Nat} (h:CS es set 0 k):k=1↔Cn es set:=by
 rcases h with⟨rfl,h⟩|⟨rfl,x,c,hx,hc,h⟩|⟨h1,h2⟩
 ·subst h
  constructor
  ·intro h;cases h
  ·rintro⟨x,hx,_⟩;rw[a1N]at hx;cases hx
 ·refine⟨fun _=>⟨x,hx,fun y hy=> ?_⟩,fun _=>rfl⟩
  have:bit (sdf set c) y=false:=by rw[<-h,a1N]
  rw[a3y,hy]at this
  exact(hc.2 y).1 (by simpa using this)
 ·exact⟨fun h=>by omega,fun h=>absurd h h2⟩
theorem CS.next {es:List (Nat×Nat)} {set rest k x c:Nat} (h:CS es set rest k) (hx:bit rest x=true) (hxs:bit set x=true) (hc:CL es set x c):CS es set (sdf rest c) (k+1):=by
 rcases h with⟨rfl,rfl⟩|⟨rfl,y,d,hy,hd,rfl⟩|⟨h1,h2⟩
 ·exact .inr (.inl ⟨rfl,x,c,hxs,hc,rfl⟩)
 ·refine .inr (.inr ⟨by omega,fun hn=> ?_⟩)
  rw[a3y,(hd.2 x).2 (hn.all hy hxs)]at hx
  simp at hx
 ·exact .inr (.inr ⟨by omega,h2⟩)
end Go.GS
/- Chapter 32: graphs, part 3. -/
namespace Go.RX
open Go.RowKit
theorem a1a {P:Program} {ρ:List Value} {x:SV} {v:Value} (h:D P ρ x=v) (hc:v.cells= #[v]):D P ρ (.cell x 0 0 noI)=v:=by
 show(D P ρ x).cells.getD (0+0*a2G (D P ρ noI)) undef=v
 rw[h,hc,Nat.zero_mul];rfl
end Go.RX
namespace Go.Proofs.YtlmgkkjgdapnpaaGreatDoor
open Go.Proofs.Tryz
open Go.RowKit Go.RX Go.GS
section
variable {H:PH} {n:Nat} {w:Value} {es:List (Nat×Nat)} {set:Nat}
theorem b9t {n:Nat} (h:n<=64) {s:Nat} (hs:s<2^n):s<M64:=Nat.lt_of_lt_of_le hs (Nat.pow_le_pow_right (n:=2) (by decide) h)
theorem b6u {n s x:Nat} (hs:s<2^n) (h:bit s x=true):x<n:=by
 apply Nat.lt_of_not_le
 intro hn
 have:=Nat.testBit_lt_two_pow (Nat.lt_of_lt_of_le hs (Nat.pow_le_pow_right (n:=2) (by decide) hn))
 rw[bit,this]at h;cases h
set_option maxHeartbeats 1000000 in
theorem b9u (hT:Tb H) (hw:SG H w es) (hg:GV n es) (hs:set<2^n):Con prog 252 [gv n w,uv set] H fun u H'=>PH.le H H'/\∃l,SU H' u l/\(l.length=1↔Cn es set):=by
 refine a0b mixed c5a (by kernel_rfl) rfl ?_
 have hn:=hg.n64
 have hs':=b9t hn hs
 refine a0a (a2e hw) ?_
 refine a0a (el_u64.vcells set) ?_
 refine a0d (d0u hw hg) rfl ?_
 rintro u H1 ⟨l1,o1⟩
 refine⟨fun h=>(nomatch h),?_⟩
 simp only[cA,nA]
 have hu:=o1.se
 refine a0a hu.one ?_
 refine a0o (α:=Value×Nat×List Nat) (fun⟨v,rest,l⟩=>[v,uv rest,gv n w,uv set,u]) (fun⟨v,rest,l⟩=>fun H'=>PH.le H1 H'/\SO H1 H' 57 1 (fun s:Nat=>[uv s]) v l/\rest<M64/\(∀y,bit rest y=true->bit set y=true)/\CS es set rest l.length/\l.length+card rest<=64) (fun⟨v,rest,l⟩=>card rest) ((.slice none 0 0,set,[])) rfl (⟨PH.le.refl _,SO.nil _ _ _ _ _,hs',fun _ h=>h,.inl ⟨rfl,rfl⟩,by simpa using a3g set⟩) fun⟨v,rest,l⟩ H' hQ=> ?_
 simp only[cA,nA]
 obtain⟨l2,o2,hr,hrs,hC,hcl⟩:=hQ
 refine a0a ⟨_,rfl⟩ ?_
 refine a0f (b:=decide (rest≠0)) (bN0 rest) (fun h=> ?_) (fun h=> ?_)
 ·replace h:=of_decide_eq_true h
  obtain⟨x,r,hel⟩:∃x r,els rest=x::r:=by
   cases hel:els rest with
   |nil=>exact absurd (a4U hr hel) h
   |cons x r=>exact⟨x,r,rfl⟩
  obtain⟨hx,hx64,_⟩:=a1Y hel
  have hxs:=hrs x hx
  refine a0o (α:=Nat) (fun part=>[uv part,gv n w,uv set,u]) (fun part=>fun H''=>PH.le H' H''/\part<M64/\bit part x=true/\∀y,bit part y=true->Rch es set x y) (fun part=>64-card part) (2^x) (b6Z (by rw[a8B (B:=(M64-rest)%M64) rfl (b9l rfl hr) hr (Nat.mod_lt _ (by decide)),a5s hr hel]) rfl rfl rfl) (⟨PH.le.refl _,a2z hx64,by rw[a2i];simp,fun y hy=>by rw[a2i]at hy;simp at hy;subst hy;exact .base⟩) fun part H2 hQ2=> ?_
  simp only[cA,nA]
  obtain⟨l3,hp,hpx,hpr⟩:=hQ2
  refine a0a (el_u64.vcells part) ?_
  refine a0d (c5h (H:=H2) (s:=part)) rfl ?_
  rintro _ _ ⟨b,hb,rfl,rfl⟩
  refine⟨fun h=>(nomatch h),?_⟩
  simp only[cA,nA]
  have l4:PH.le H1 H2:=l2.trans l3
  have hu2:SU H2 u (nbs n es):=hu.mono l4
  have hpn:∀y,bit part y=true->y<n:=fun y hy=>b6u hs ((hpr y hy).mem hxs)
  refine a5q (X:=H2) (K:=a6D b part) (Ro:=H2) (fun pre vals X'=>X'=H2/\vals=[uv (grow es set part ((els part).take pre.length))]) (fun _ _ _=>False) (b9q hp ((hT.mono l1).mono l4)) b9o (a5u _ hb) rfl (fun _ _ _ h=>by rw[h.1];exact PH.le.refl _) ⟨rfl,rfl⟩ ?_ ?_ ?_
  ·rintro pre xs vals X' ⟨y,hy,rfl,hpre⟩ _ ⟨rfl,rfl⟩
   refine⟨rfl,?_⟩
   simp only[cA,nA]
   have hyp:bit part y=true:=(a2Y hp).1 (List.mem_of_getElem? hy)
   refine a0m el_u64 rfl rfl rfl rfl (fun _=>rfl) hu2 (a6u es (hpn y hyp)) (a0R (a1a rfl hu2.cells) rfl) (fun _=>rfl) fun _=> ?_
   simp only[cA,nA]
   have hgl:=b9r (es:=es) hs' hp ((els part).take pre.length)
   have hnb:=d0s hg.ed hn y
   refine a0a ⟨_,rfl⟩ ?_
   refine a0a ⟨_,rfl⟩ ?_
   refine a0a ⟨_,rfl⟩ ?_
   exact⟨rfl,by rw[List.length_append];simp only[List.length_cons,List.length_nil];rw[take_snoc hy,a7T];exact a1R (b6Y rfl (a8B rfl rfl hnb hs') hgl (a7O hnb))⟩
  ·rintro xs vals X' K' rfl hd _ ⟨rfl,rfl⟩
   rw[List.length_map,List.take_length]
   simp only[cA,nA]
   have hgl:=b9r (es:=es) hs' hp (els part)
   have l5:PH.le X' (X'.or K'):=PH.le_or _ _
   refine a0a ⟨_,rfl⟩ ?_
   refine a0a ⟨_,rfl⟩ ?_
   refine a0f (b:=decide (grow es set part (els part)=part)) (by show Value.bool (((grow es set part (els part):Nat):Int)==((part:Nat):Int))=_;rw[bE];congr 1;apply decide_eq_decide.2;omega) (fun h2=> ?_) (fun h2=> ?_)
   ·replace h2:=of_decide_eq_true h2
    have hcl2:=c5j hg.ed hp hpx hpr h2
    refine a0P el_u64 rfl rfl rfl (fun _=>rfl) (fun _=>rfl) (l4.trans l5) (o2.mono (l3.trans l5)) (by omega) rfl (fun _=>rfl) rfl fun p v2 H3 l6 o3=> ?_
    simp only[cA,nA]
    have hlt:card (sdf rest part)<card rest:=b0g (fun y hy=>by rw[a3y]at hy;exact(Bool.and_eq_true _ _ ▸ hy).1) hx (by rw[a3y,hpx];simp) hx64
    exact⟨(v2,sdf rest part,l++[part]),hlt,(by simp only[List.map_cons,List.map_nil];rw[a7Q rfl rfl hr hp];rfl),⟨l6,o3,a7N hr,fun y hy=>hrs y (by rw[a3y]at hy;exact(Bool.and_eq_true _ _ ▸ hy).1),by rw[List.length_append];exact hC.next hx hxs hcl2,by rw[List.length_append];simp only[List.length_cons,List.length_nil];omega⟩⟩
   ·replace h2:=of_decide_eq_false h2
    obtain⟨z,hz1,hz2⟩:=d4I (fun e=>h2 e.symm) (fun y hy=>by rw[a5v];exact .inl hy)
    have hlt:card part<card (grow es set part (els part)):=b0g (fun y hy=>by rw[a5v];exact .inl hy) hz1 hz2 (b9f hgl hz1)
    have hc64:=a3g (grow es set part (els part))
    exact⟨grow es set part (els part),by omega,rfl,⟨l3.trans l5,hgl,by rw[a5v];exact .inl hpx,c5k hg.ed hp hpr⟩⟩
  ·exact fun _ _ _ _ _ _ _ h=>h.elim
 ·replace h:=of_decide_eq_false h
  have h0:rest=0:=by omega
  subst h0
  exact a0c rfl ⟨l1.trans l2,l,o2.se,hC.end⟩
end
end Go.Proofs.YtlmgkkjgdapnpaaGreatDoor

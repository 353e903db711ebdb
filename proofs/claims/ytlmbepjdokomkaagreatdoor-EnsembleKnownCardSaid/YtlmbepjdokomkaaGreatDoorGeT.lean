/- Lemmas: chapter 32. -/
import Derived.Test.YtlmbepjdokomkaaGreatDoorGsC
open Classical renaming propDecidable->kK
open List renaming any_append->kO,any_eq_true->mT,drop_eq_nil_of_le->jG,ext_getElem->mS,filter_cons->gK,foldl_append->jY,getElem?_set_ne->iJ,getElem?_set_self->jH,range->eT,replicate->eS
open Nat renaming le_of_not_lt->mZ,lt_of_not_le->mY
set_option linter.all false
namespace Go.Z
open Proofs.Tryz RowKit RX GS
def JM (x:Int):Det prog 204 [ii x] (.bool false):=by
 refine Cm mixed Y8 aB rfl (i6 ⟨_,rfl⟩ (Aa ?_ rfl));show Value.bool (x !=x)=_;simp
def Ft (x y:Int):Int:=if x<y then -1 else if x>y then 1 else 0
def c6C (x y:Int):Det prog 136 [ii x,ii y] (ii (Ft x y)):=by
 refine Cm mixed Y7 aB rfl (Da (JM x) rfl (Da (JM y) rfl ?_));refine i6 ⟨_,rfl⟩ (qq rfl (i6 ⟨_,rfl⟩ (qq rfl (i6 ⟨_,rfl⟩ (i6 ⟨_,rfl⟩ ?_)))));refine Af (b:=decide (x<y)) rfl (fun h=> ?_) (fun h=> ?_)
 ·have h:=oDt h;refine Aa ?_ rfl;unfold Ft;rw[if_pos h];rfl
 ·have h:=oDf h;refine Af (b:=decide (x>y)) rfl (fun h'=>Aa ?_ rfl) (fun h'=>Aa ?_ rfl)
  ·have h':=oDt h';unfold Ft;rw[if_neg h,if_pos h'];rfl
  ·have h':=oDf h';unfold Ft;rw[if_neg h,if_neg h'];rfl
abbrev SI (H:PH) (v:Value) (l:List Int):Prop:=SE H 1 (fun z:Int=>[ii z]) v l
abbrev SU (H:PH) (v:Value) (l:List Nat):Prop:=SE H 1 (fun s:Nat=>[uv s]) v l
def If:List Int->List Int->Int
 |[],[]=>0
 |[],_::_=> -1
 |_::_,[]=>1
 |x::l,y::m=>if Ft x y≠0 then Ft x y else If l m
def u6 {α:Type} {l:List α} {i:Nat} (h:i<l.length):∃x,l[i]? =some x/\l.drop i=x::l.drop (i+1):=
 ⟨l[i],aG h,dP h⟩
section
variable {H:PH} {u v:Value} {l m:List Int}
def c6D (hu:SI H u l) (hv:SI H v m):Asks prog 88 [u,v] H (ii (If l m)):=by
 refine g9 mixed Y6 ?_;have hl:=hu.len;have hm:=hv.len;refine r8 el_int hu ?_;refine Jg (α:=Nat×Int) (fun⟨i,p⟩=>[ii p,ii (i:Nat)]) (fun⟨i,p⟩=>i<=l.length/\If (l.drop i) (m.drop i)=If l m) (fun⟨i,p⟩=>l.length-i) ((0,0)) rfl (⟨bJ _,rfl⟩) fun⟨i,p⟩ hQ=> ?_;simp only[cA,nA];obtain⟨hi,hc⟩:=hQ;refine b9 (b9 ?_);refine g8 (b:=decide (((i:Nat):Int)<(l.length:Nat))) rfl (fun h=> ?_) (fun h=> ?_)
 ·replace h:=oDt h;have pO:i<l.length:=aA;obtain⟨x,hx,tL⟩:=u6 pO;refine r6 el_int hu hx fun _=> ?_;simp only[cA,nA];refine r8 el_int hv ?_;refine b9 ?_;refine g8 (b:=decide (((i:Nat):Int)≥(m.length:Nat))) rfl (fun h2=> ?_) (fun h2=> ?_)
  ·replace h2:=oDt h2;have:m.drop i=[]:=jG aA;rw[tL,this]at hc;exact c9 rfl ⟨rfl,by rw[<-hc];rfl⟩
  ·replace h2:=oDf h2;obtain⟨y,hy,yI⟩:=u6 (l:=m) (i:=i) aA;refine r6 el_int hv hy fun _=> ?_;simp only[cA,nA];rw[tL,yI]at hc;refine Bn (c6C x y) rfl ?_;simp only[cA,nA];refine b9 ?_;refine y7 (p:=(Ft x y≠0)) (by show Value.bool (Ft x y !=0)=_;congr 1;by_cases e:Ft x y=0<;>simp[e]) (fun h3=> ?_) fun h3=> ?_
   ·exact c9 rfl ⟨rfl,by rw[<-hc];simp only[If];rw[if_pos h3];rfl⟩
   ·exact⟨(i+1,p),by show l.length-(i+1)<l.length-i;omega,(j0 rfl (p6 rfl aA)),⟨⟨by show i+1<=_;omega,by rw[<-hc];simp only[If];rw[if_neg h3]⟩,rfl⟩⟩
 ·replace h:=oDf h;have oW:i=l.length:=aA;subst oW;rw[List.drop_length]at hc;refine r8 el_int hu ?_;refine r8 el_int hv ?_;refine b9 (b9 ?_);refine g8 (b:=decide (((l.length:Nat):Int)<(m.length:Nat))) rfl (fun h2=> ?_) (fun h2=> ?_)
  ·replace h2:=oDt h2;obtain⟨y,hy,yI⟩:=u6 (l:=m) (i:=l.length) aA;rw[yI]at hc;exact c9 rfl ⟨rfl,by rw[<-hc];rfl⟩
  ·replace h2:=oDf h2;have:m.drop l.length=[]:=jG aA;rw[this]at hc;exact c9 rfl ⟨rfl,by rw[<-hc];rfl⟩
end
end Go.Z
namespace Go.GS
def elt (a b:Nat×Nat):Prop:=a.1<b.1\/(a.1=b.1/\a.2<b.2)
structure GV (n:Nat) (es:List (Nat×Nat)):Prop where
 n1:1<=n
 n64:n<=64
 len:es.length<=200
 ed:∀e∈es,e.1<e.2/\e.2<n
 ord:es.Pairwise elt
def GV.next {n:Nat} {es:List (Nat×Nat)} (h:GV n es) {i:Nat} {a b:Nat×Nat} (ha:es[i]? =some a) (hb:es[i+1]? =some b):elt a b:=by
 obtain⟨h1,rfl⟩:=aH.1 ha;obtain⟨h2,rfl⟩:=aH.1 hb;exact cS.1 h.ord i (i+1) h1 h2 aA
def GV.mem {n:Nat} {es:List (Nat×Nat)} (h:GV n es) {i:Nat} {a:Nat×Nat} (ha:es[i]? =some a):a.1<a.2/\a.2<n:=h.ed a (aJ ha)
end Go.GS
namespace Go.Z
open Proofs.Tryz RowKit RX GS
def bT {p:Prop} [Decidable p] (h:p):Value.bool (decide p)= .bool true:=by rw[oDd h]
def bF {p:Prop} [Decidable p] (h:¬p):Value.bool (decide p)= .bool false:=by rw[decide_eq_false h]
def gv (n:Nat) (w:Value):Value:= .agg #[ii n,w]
abbrev SG (H:PH) (w:Value) (es:List (Nat×Nat)):Prop:=SE H 2 ec w es
def Be {H:PH} {n:Nat} {w:Value} {es:List (Nat×Nat)} (h:SG H w es):(gv n w).cells.size=2/\i8 (gv n w).cells:=by
 refine⟨rfl,fun c hc=> ?_⟩;rw[gv,Iw]at hc;simp only[aX,bV,or_false]at hc;rcases hc with rfl|rfl
 ·rfl
 ·exact h.one.2 _ (by rw[h.cells];simp)
def sc_int:Sc prog 3:=⟨aB,aB,aB⟩
def Ig:Sc prog 42:=⟨aB,aB,aB⟩
def ar_2:Ar prog 54 3 2:=⟨aB,aB,aB,aB,sc_int⟩
def gd:Ag prog 54 2:=⟨aB,aB,aB⟩
def z_2:j3 prog 54= .agg #[ii 0,ii 0]:=aB
def JO:(j3 prog 54).cells= #[ii 0,ii 0]:=by rw[z_2];rfl
def bef (es:List (Nat×Nat)):Nat->Int×Int
 |0=>(-1,-1)
 |i+1=>match es[i]? with|some e=>(e.1,e.2)|none=>(-1,-1)
def e2n {a b c d:Int} (h:a<c\/a=c/\b<d):If [a,b] [c,d]<0:=by
 rcases h with h|⟨rfl,h⟩
 ·have e:Ft a c= -1:=if_pos h;simp only[If,e];rw[if_pos aC];decide
 ·have e:Ft a a=0:=by unfold Ft;rw[if_neg aA,if_neg aA]
  have e2:Ft b d= -1:=if_pos h;simp only[If,e,e2];rw[if_neg aC,if_pos aC];decide
def d7i {n:Nat} {es:List (Nat×Nat)} (h:GV n es) {i:Nat} {a:Nat×Nat} (ha:es[i]? =some a):If [(bef es i).1,(bef es i).2] [(a.1:Int),(a.2:Int)]<0:=by
 apply e2n;cases i with
 |zero=>exact .inl (by simp only[bef];omega)
 |succ i=>
  obtain⟨hi,_⟩:=aH.1 ha;have hb:es[i]? =some es[i]:=aG aA;have:=h.next hb ha;simp only[bef,hb];rcases this with h1|⟨h1,h2⟩
  ·exact .inl aA
  ·exact .inr ⟨aA,aA⟩
def e2o (ρ:List Value):D prog ρ (.put (.put (.z 54) 0 1 (kI (-1)) 0 noI) 1 1 (kI (-1)) 0 noI)= .agg #[ii (-1),ii (-1)]:=by
 show Value.agg (spl (Value.agg (spl (j3 prog 54).cells 0 [ii (-1)])).cells 1 [ii (-1)])=_;rw[z_2];rfl
section
variable {H:PH} {n:Nat} {w:Value} {es:List (Nat×Nat)}
def Fv (hw:SG H w es) (hg:GV n es):j5 prog 52 [gv n w] H (ii 0):=by
 refine g9 mixed JG ?_;have h1:=hg.n1;have h2:=hg.n64;have h3:=hg.len;refine b4 (Be hw) ?_;refine b9 ?_;refine j1 (bF (p:=((n:Nat):Int)<1) aA) ?_;refine j1 (bF (p:=((n:Nat):Int)>64) aA) ?_;refine r8 el_edge hw ?_;refine b9 ?_;refine j1 (bF (p:=((es.length:Nat):Int)>200) aA) ?_;refine o0 (cs:= #[ii 0,ii 0]) JO fun b hb=> ?_;simp only[cA,nA];refine Yi (vs:=[ii (-1),ii (-1)]) gd rfl rfl rfl (PH.put_self _ _ _) rfl (by intro c hc;simp at hc;rcases hc with rfl|rfl<;>rfl) (j0 rfl (e2o _)) (fun h=>(nomatch h)) ?_;simp only[cA,nA];have l1:=PH.le_put2 hb (.cells #[ii 0,ii 0] 54 (0,0)) (.cells #[ii (-1),ii (-1)] 54 (0,0));have b1:=PH.put_self (H.put b (.cells #[ii 0,ii 0] 54 (0,0))) b (.cells #[ii (-1),ii (-1)] 54 (0,0));generalize (H.put b (.cells #[ii 0,ii 0] 54 (0,0))).put b (.cells #[ii (-1),ii (-1)] 54 (0,0))=H1 at l1 b1;refine r8 el_edge (hw.mono l1) ?_;refine t6 (α:=Nat×Int) (fun⟨i,p⟩=>[ii p,ii (i:Nat)]) (fun⟨i,p⟩=>fun H'=>i<=es.length/\Pl H H'/\H' b=some (.cells #[ii (bef es i).1,ii (bef es i).2] 54 (0,0))) (fun⟨i,p⟩=>es.length-i) ((0,0)) rfl (⟨bJ _,l1,b1⟩) fun⟨i,p⟩ H' hQ=> ?_;simp only[cA,nA];obtain⟨hi,l2,b2⟩:=hQ;refine b9 (b9 ?_);refine g8 (b:=decide (((i:Nat):Int)<(es.length:Nat))) rfl (fun h=> ?_) (fun h=> ?_)
 ·replace h:=oDt h;have pO:i<es.length:=aA;obtain⟨x,hx,tL⟩:=u6 pO;obtain⟨rG,rA⟩:=hg.mem hx;refine r6 el_edge (hw.mono l2) hx fun _=> ?_;simp only[cA,nA];refine o0 (cs:= #[ii 0,ii 0]) JO fun c hc=> ?_;simp only[cA,nA];refine Yi (vs:=(ec x)) gd rfl rfl rfl (PH.put_self _ _ _) rfl (el_edge.one x) rfl (fun h=>(nomatch h)) ?_;simp only[cA,nA];have l3:=PH.le_put2 hc (.cells #[ii 0,ii 0] 54 (0,0)) (.cells (ec x).toArray 54 (0,0));have b3:=PH.put_self (H'.put c (.cells #[ii 0,ii 0] 54 (0,0))) c (.cells (ec x).toArray 54 (0,0));have pS:=l3 _ _ b2;generalize (H'.put c (.cells #[ii 0,ii 0] 54 (0,0))).put c (.cells (ec x).toArray 54 (0,0))=H2 at l3 b3 pS;refine fu (m:=0) ar_2 rfl rfl rfl rfl rfl b3 aC rfl rfl rfl ?_;simp only[cA,nA];refine b9 ?_;refine j1 (bF (p:=((x.1:Nat):Int)<0) aA) ?_;refine fu (m:=0) ar_2 rfl rfl rfl rfl rfl b3 aC rfl rfl rfl ?_;simp only[cA,nA];refine fu (m:=1) ar_2 rfl rfl rfl rfl rfl b3 aC rfl rfl rfl ?_;simp only[cA,nA];refine b9 (b9 ?_);refine j1 (bF (p:=((x.1:Nat):Int)≥(x.2:Nat)) aA) ?_;refine fu (m:=1) ar_2 rfl rfl rfl rfl rfl b3 aC rfl rfl rfl ?_;simp only[cA,nA];refine b9 ?_;refine j1 (bF (p:=((x.2:Nat):Int)≥(n:Nat)) aA) ?_;refine j6 ((eu rfl rfl ar_2.und sc_int.has).rds _) rfl ?_;simp only[cA,nA];refine j6 ((eu rfl rfl ar_2.und sc_int.has).rds _) rfl ?_;simp only[cA,nA];refine s7 (c6D (l:=[(bef es i).1,(bef es i).2]) (m:=[(x.1:Int),(x.2:Int)]) (JL pS rfl rfl (show 2<=maxLen by decide)) (JL b3 rfl rfl (show 2<=maxLen by decide))) rfl ?_;simp only[cA,nA];have oV:=d7i hg hx;refine b9 ?_;refine j1 (bF (p:=If [(bef es i).1,(bef es i).2] [(x.1:Int),(x.2:Int)]≥0) aA) ?_;refine s5 (vs:=ec x) gd rfl rfl b3 rfl aD rfl ?_;simp only[cA,nA];refine Yi (vs:=(ec x)) gd rfl rfl rfl pS rfl (el_edge.one x) rfl (fun h=>(nomatch h)) ?_;simp only[cA,nA];exact⟨(i+1,p),by show es.length-(i+1)<es.length-i;omega,(j0 rfl (p6 rfl aA)),⟨by show i+1<=_;omega,PH.le_put_of (l2.trans l3) hb,by simp only[bef,hx];exact PH.put_self _ _ _⟩⟩
 ·replace h:=oDf h;exact c9 rfl ⟨l2,rfl⟩
end
end Go.Z
namespace Go.GS
def gg {α:Type} {p:List α->Prop} (nil:p []) (snoc:∀l a,p l->p (l++[a])) (l:List α):p l:=by
 have:∀l:List α,p l.reverse:=by
  intro l;induction l with
  |nil=>exact nil
  |cons a l ih=>rw[List.reverse_cons];exact snoc _ _ ih
 have h:=this l.reverse
 rwa[List.reverse_reverse]at h
def nb (es:List (Nat×Nat)) (x:Nat):Nat:=es.foldl (fun s e=>if e.1=x then s|||2^e.2 else if e.2=x then s|||2^e.1 else s) 0
def vw (es:List (Nat×Nat)) (e:Nat×Nat) (x:Nat):nb (es++[e]) x=if e.1=x then nb es x|||2^e.2 else if e.2=x then nb es x|||2^e.1 else nb es x:=by
 unfold nb;rw[jY];rfl
def nbs (n:Nat) (es:List (Nat×Nat)):List Nat:=(eT n).map (nb es)
def JP (n:Nat):nbs n []=eS n 0:=by
 unfold nbs;apply mS
 ·simp
 ·intro i h1 h2;simp[nb]
def Oc (n:Nat) (es:List (Nat×Nat)):(nbs n es).length=n:=by simp[nbs]
def Oe {n x:Nat} (es:List (Nat×Nat)) (h:x<n):(nbs n es)[x]? =some (nb es x):=by simp[nbs,h]
def JQ (n:Nat) (es:List (Nat×Nat)) (e:Nat×Nat) (h:e.1<e.2):((nbs n es).set e.1 (nb es e.1|||2^e.2)).set e.2 (nb es e.2|||2^e.1)=nbs n (es++[e]):=by
 apply bG;intro i;by_cases hi:i<n
 ·rw[Oe _ hi,vw];by_cases h2:e.2=i
  ·subst h2;rw[jH (by simp[Oc,hi]),if_neg aA,if_pos rfl]
  ·rw[iJ h2];by_cases h1:e.1=i
   ·subst h1;rw[jH (by simp[Oc,hi]),if_pos rfl]
   ·rw[iJ h1,Oe _ hi,if_neg h1,if_neg h2]
 ·rw[aP (by simp[Oc];omega),aP (by simp[Oc];omega)]
def d7j (es:List (Nat×Nat)) (x y:Nat):bit (nb es x) y=true↔∃e∈es,(e.1=x/\e.2=y)\/(e.1≠x/\e.2=x/\e.1=y):=by
 induction es using gg with
 |nil=>simp[nb,bit]
 |snoc es e ih=>
  rw[vw];simp only[bC,bA];constructor
  ·intro h;split at h
   ·rename_i h1;rw[Ap,Bj,cV]at h;rcases h with h|h
    ·obtain⟨a,h2,h3⟩:=ih.1 h;exact⟨a,.inl h2,h3⟩
    ·exact⟨e,.inr rfl,.inl ⟨h1,by simpa using h⟩⟩
   ·split at h
    ·rename_i h1 h2;rw[Ap,Bj,cV]at h;rcases h with h|h
     ·obtain⟨a,h3,h4⟩:=ih.1 h;exact⟨a,.inl h3,h4⟩
     ·exact⟨e,.inr rfl,.inr ⟨h1,h2,by simpa using h⟩⟩
    ·obtain⟨a,h2,h3⟩:=ih.1 h;exact⟨a,.inl h2,h3⟩
  ·rintro⟨a,h2|rfl,h3⟩
   ·have:=ih.2 ⟨a,h2,h3⟩;split
    ·rw[Ap,this];rfl
    ·split
     ·rw[Ap,this];rfl
     ·exact this
   ·rcases h3 with⟨h3,h4⟩|⟨h3,h4,h5⟩
    ·rw[if_pos h3,Ap,Bj];simp[h4]
    ·rw[if_neg h3,if_pos h4,Ap,Bj];simp[h5]
def wa {n:Nat} {es:List (Nat×Nat)} (h:∀e∈es,e.1<e.2/\e.2<n) (hn:n<=64) (x:Nat):nb es x<M64:=by
 induction es using gg with
 |nil=>exact(aC:0<M64)
 |snoc es e ih=>
  have ih:=ih fun a ha=>h a (List.mem_append_left _ ha);have he:=h e (List.mem_append_right _ (bA.2 rfl));rw[vw];split
  ·exact Ql ih (Df aA)
  ·split
   ·exact Ql ih (Df aA)
   ·exact ih
end Go.GS
namespace Go.Z
open Proofs.Tryz RowKit RX GS
def gh:j3 prog 42=uv 0:=aB
def wb:j3 prog 3=ii 0:=aB
def take_snoc {α:Type} {l:List α} {i:Nat} {x:α} (h:l[i]? =some x):l.take (i+1)=l.take i++[x]:=by rw[cK,h];rfl
section
variable {H:PH} {n:Nat} {w:Value} {es:List (Nat×Nat)}
def d2z (hw:SG H w es) (hg:GV n es):Con prog 242 [gv n w] H fun u H'=>Pl H H'/\SO H H' 42 1 (fun s:Nat=>[uv s]) u (nbs n es):=by
 refine g9 mixed Z6 ?_;have h1:=hg.n1;have h2:=hg.n64;have h3:=hg.len;have oV:∀i x,nb (es.take i) x<M64:=fun i x=>wa (fun e he=>hg.ed e (List.mem_of_mem_take he)) h2 x;refine b4 (Be hw) ?_;refine Nz el_u64 (z:=(0:Nat)) gh rfl rfl rfl aA rfl fun v H1 l1 o1 _=> ?_;simp only[cA,nA];rw[<-JP]at o1;refine r8 el_edge (hw.mono l1) ?_;refine t6 (α:=Nat) (fun i=>[ii (i:Nat)]) (fun i=>fun H'=>i<=es.length/\Pl H H'/\SO H H' 42 1 (fun s:Nat=>[uv s]) v (nbs n (es.take i))) (fun i=>es.length-i) (0) rfl (⟨bJ _,l1,o1⟩) fun i H' hQ=> ?_;simp only[cA,nA];obtain⟨hi,l2,o2⟩:=hQ;refine b9 (b9 ?_);refine g8 (b:=decide (((i:Nat):Int)<(es.length:Nat))) rfl (fun h=> ?_) (fun h=> ?_)
 ·replace h:=oDt h;have pO:i<es.length:=aA;obtain⟨x,hx,tL⟩:=u6 pO;obtain⟨rG,rA⟩:=hg.mem hx;refine r6 el_edge (hw.mono l2) hx fun _=> ?_;simp only[cA,nA];refine b4 (el_edge.vcells x) ?_;refine By el_u64 rfl rfl rfl rfl aF o2.se (Oe _ (show x.1<n by omega)) rfl aF fun _=> ?_;simp only[cA,nA];refine b4 ⟨_,_,rfl⟩ ?_;refine b4 (by show(0:Int)<=((x.2:Nat):Int);omega) ?_;refine b9 ?_;refine Dl el_u64 (a:=nb (es.take i) x.1|||2^x.2) rfl rfl rfl rfl aF aF l2 o2 (by rw[Oc];omega) rfl (fun _=>j0 rfl (Fq rfl (Gv rfl aA) (oV _ _) (Df aA))) rfl fun p u H2 l3 o3 _=> ?_;simp only[cA,nA];refine By el_u64 rfl rfl rfl rfl aF o3.se (show _=some (nb (es.take i) x.2) by rw[iJ aA,Oe _ aA]) rfl aF fun _=> ?_;simp only[cA,nA];refine b4 ⟨_,_,rfl⟩ ?_;refine b4 (by show(0:Int)<=((x.1:Nat):Int);omega) ?_;refine b9 ?_;refine Dl el_u64 (a:=nb (es.take i) x.2|||2^x.1) rfl rfl rfl rfl aF aF l3 o3 (by rw[cD,Oc];omega) rfl (fun _=>j0 rfl (Fq rfl (Gv rfl aA) (oV _ _) (Df aA))) rfl fun p2 u2 H3 l4 o4 _=> ?_;simp only[cA,nA];rw[JQ n _ x rG,<-take_snoc hx]at o4;exact⟨i+1,aA,(j7 (p6 rfl aA)),⟨aA,l4,o4⟩⟩
 ·replace h:=oDf h;rw[aI aA]at o2;exact c9 rfl ⟨l2,o2⟩
def c0P:q8 prog 283=true:=aB
def Ax (b s:Nat):PH:=PH.nil.put b (.cells #[uv s] 42 (0,0))
def c6F {s:Nat}:Con prog 243 [uv s] H fun u H'=>∃b,H b=none/\H'=H.or (Ax b s)/\u= .func (.func 283) #[] #[.pointer (some ⟨b,0,none⟩)]:=by
 refine g9 mixed Z8 ?_;refine b4 (el_u64.vcells s) ?_;refine o0 (cs:= #[uv s]) rfl fun b hb=> ?_;simp only[cA,nA];refine x5 (Ai (vs:=[.pointer (some ⟨b,0,none⟩)]) rfl rfl) rfl ?_;simp only[cA,nA];exact c9 rfl ⟨b,hb,PH.put_or hb,rfl⟩
def bN (a b:Int):Value.bool (a !=b)= .bool (decide (a≠b)):=by
 by_cases h:a=b<;>simp[h]
def bE (a b:Int):Value.bool (a==b)= .bool (decide (a=b)):=by
 by_cases h:a=b<;>simp[h]
def bN0 (s:Nat):Value.bool (((s:Nat):Int) !=0)= .bool (decide (s≠0)):=by
 rw[bN];congr 1;apply decide_eq_decide.2;omega
def bE0 (s:Nat):Value.bool (((s:Nat):Int)==0)= .bool (decide (s=0)):=by
 rw[bE];congr 1;apply decide_eq_decide.2;omega
def Yk (b s:Nat):Ax b s b=some (.cells #[uv s] 42 (0,0)):=PH.put_self _ _ _
def c6G {X:PH} {b s t:Nat} (h:X b=none):(X.or (Ax b s)).put b (.cells #[uv t] 42 (0,0))=X.or (Ax b t):=by
 rw[PH.or_put h];unfold Ax;rw[PH.put_put]
def gj {X:PH} {b:Nat} (s:Nat) (h:X b=none):Disj X (Ax b s):=fl (Ue X) h
def c0Q {X:PH} {b s:Nat} (h:Disj X (Ax b s)):X b=none:=Disj.none h (b:=b) (by rw[Yk];exact fun h=>nomatch h)
abbrev nxs (s:Nat):List (List Value):=(els s).map fun x:Nat=>[ii (x:Int)]
def c0R {b s:Nat} {Ro:PH} (hs:s<M64) (hT:Tb Ro):ItC prog 283 [.pointer (some ⟨b,0,none⟩)] Ro (Ax b s) (fun pre xs=>∃x,(els s)[pre.length]? =some x/\xs=[ii (x:Nat)]/\pre=((els s).take pre.length).map fun x:Nat=>[ii (x:Int)]) (fun xs _=>xs=nxs s) (fun _ _=>True):=by
 intro l J Jx uH hr X hX hd w hw;refine(t8 (H:=X.or (Ax b s)) (V:=fun _ H'=>∃X' K',Pl (X'.or K') H'/\Disj X' K'/\((∃xs,xs=nxs s/\J xs X')\/(∃pre,True/\Jx pre X'))) mixed Z9 aB rfl ?_ w hw).mono fun e w' ⟨v,H',he,pU,hV⟩=>⟨v,H',he,pU,hV⟩;refine t6 (α:=Nat×Nat×PH) (fun⟨k,s',X'⟩=>[]) (fun⟨k,s',X'⟩=>fun H'=>k<=(els s).length/\s'<M64/\els s'=(els s).drop k/\H'=X'.or (Ax b s')/\J (((els s).take k).map fun x:Nat=>[ii (x:Int)]) X'/\Disj X' (Ax b s')) (fun⟨k,s',X'⟩=>(els s).length-k) ((0,s,X)) rfl (⟨bJ _,hs,rfl,rfl,hX,hd⟩) fun⟨k,s',X'⟩ H' hQ=> ?_;simp only[cA,nA];obtain⟨hk,pX,he,rfl,hJ,pL⟩:=hQ;have hb:=PH.or_right pL (Yk b s');refine i7 Ig rfl rfl hb rfl rfl ?_;simp only[cA,nA];refine b9 ?_;refine y7 (p:=(s'≠0)) (bN0 s') (fun h=> ?_) fun h=> ?_
 ·refine i7 Ig rfl rfl hb rfl rfl ?_;simp only[cA,nA];obtain⟨x,r,qP⟩:∃x r,els s'=x::r:=by
   cases qP:els s' with
   |nil=>exact absurd (Oa pX qP) h
   |cons x r=>exact⟨x,r,rfl⟩
  have htz:tz s'=x:=by simp[tz,qP]
  have pW:k<(els s).length:=by
   apply mY;intro hh;rw[jG hh,qP]at he;cases he
  obtain⟨y,hy,yI⟩:=u6 pW;rw[<-he,qP]at yI;obtain⟨rfl,hr'⟩:=List.cons.inj yI;refine s7 (Yg ((hT.mono (uH _ _ hJ)).mono (PH.le_or _ _)) pX) rfl ?_;simp only[cA,nA];rw[htz];refine Uf (hr _ [ii (x:Nat)] X' (Ax b s') ⟨x,by simp[cH hk,hy],rfl,by simp[cH hk]⟩ hJ pL) rfl rfl rfl rfl rfl fun v X2 pE hV=> ?_;simp only[cA,nA];obtain⟨bb,rfl,pV,pS⟩:∃bb,v= .bool bb/\(bb=true->J ((((els s).take k).map fun x:Nat=>[ii (x:Int)])++[[ii (x:Nat)]]) X2)/\(bb=false->Jx ((((els s).take k).map fun x:Nat=>[ii (x:Int)])++[[ii (x:Nat)]]) X2):=by
   rcases hV with⟨rfl,h⟩|⟨rfl,h⟩
   ·exact⟨true,rfl,fun _=>h,(fun h=>nomatch h)⟩
   ·exact⟨false,rfl,(fun h=>nomatch h),fun _=>h⟩
  refine b9 ?_;refine g8 (b:= !bb) rfl (fun qC=> ?_) (fun qC=> ?_)
  ·skip
   exact c9 rfl ⟨X2,Ax b s',Pl.refl _,pE,.inr ⟨_,trivial,pS (by simpa using qC)⟩⟩
  ·skip
   have uG:=c0Q pE;have pS:=PH.or_right pE (Yk b s');refine i7 Ig rfl rfl pS rfl rfl ?_;simp only[cA,nA];refine i7 Ig rfl rfl pS rfl rfl ?_;simp only[cA,nA];refine b9 (b9 ?_);refine Ek Ig rfl rfl rfl pS aD rfl rfl (j0 rfl (Ic rfl (Ui (B:=1) rfl rfl pX aA) pX (aR (Nat.sub_le _ _) pX))) (fun h=>(nomatch h)) ?_;simp only[cA,nA];exact⟨(k+1,s'&&&(s'-1),X2),by show(els s).length-(k+1)<(els s).length-k;omega,rfl,⟨pW,Qm pX,by rw[vj pX qP,hr'],c6G uG,by rw[take_snoc hy,bI];exact pV (by simpa using qC),gj _ uG⟩⟩
 ·have h0:s'=0:=aA;rw[h0,fm]at he;have rM:(els s).length<=k:=by
   apply mZ;intro hh;rw[dP hh]at he;cases he
  rw[aI rM]at hJ;exact c9 rfl ⟨X',Ax b s',Pl.refl _,pL,.inl ⟨_,rfl,hJ⟩⟩
end
end Go.Z
namespace Go.GS
def adj (es:List (Nat×Nat)) (y z:Nat):Prop:=∃e∈es,(e.1=y/\e.2=z)\/(e.2=y/\e.1=z)
def adj.symm {es:List (Nat×Nat)} {y z:Nat} (h:adj es y z):adj es z y:=by
 obtain⟨e,he,h|h⟩:=h
 ·exact⟨e,he,.inr ⟨h.2,h.1⟩⟩
 ·exact⟨e,he,.inl ⟨h.2,h.1⟩⟩
inductive Rch (es:List (Nat×Nat)) (set x:Nat):Nat->Prop
 |base:Rch es set x x
 |step {y z:Nat}:Rch es set x y->adj es y z->bit set z=true->Rch es set x z
def Rch.trans {es:List (Nat×Nat)} {set x y z:Nat} (h1:Rch es set x y) (h2:Rch es set y z):Rch es set x z:=by
 induction h2 with
 |base=>exact h1
 |step _ ha hz ih=>exact ih.step ha hz
def Rch.mem {es:List (Nat×Nat)} {set x y:Nat} (h:Rch es set x y) (hx:bit set x=true):bit set y=true:=by
 cases h with
 |base=>exact hx
 |step _ _ hz=>exact hz
def Rch.symm {es:List (Nat×Nat)} {set x y:Nat} (h:Rch es set x y) (hx:bit set x=true):Rch es set y x:=by
 induction h with
 |base=>exact .base
 |step h1 ha hz ih=>exact((Rch.base.step ha.symm (h1.mem hx)).trans ih)
def CL (es:List (Nat×Nat)) (set x c:Nat):Prop:=c<M64/\∀y,bit c y=true↔Rch es set x y
def Cn (es:List (Nat×Nat)) (set:Nat):Prop:=∃x,bit set x=true/\∀y,bit set y=true->Rch es set x y
def Cn.all {es:List (Nat×Nat)} {set x y:Nat} (h:Cn es set) (hx:bit set x=true) (hy:bit set y=true):Rch es set x y:=by
 obtain⟨z,hz,h⟩:=h;exact((h x hx).symm hz).trans (h y hy)
def gm {n:Nat} {es:List (Nat×Nat)} (h:∀e∈es,e.1<e.2/\e.2<n) {x y:Nat}:bit (nb es x) y=true↔adj es x y:=by
 rw[d7j];constructor
 ·rintro⟨e,he,h1|h1⟩
  ·exact⟨e,he,.inl h1⟩
  ·exact⟨e,he,.inr h1.2⟩
 ·rintro⟨e,he,h1|h1⟩
  ·exact⟨e,he,.inl h1⟩
  ·exact⟨e,he,.inr ⟨by have:=h e he;omega,h1⟩⟩
def grow (es:List (Nat×Nat)) (set part:Nat) (l:List Nat):Nat:=l.foldl (fun s n=>s|||(nb es n&&&set)) part
def wc (es:List (Nat×Nat)) (set part:Nat) (l:List Nat) (x:Nat):grow es set part (l++[x])=grow es set part l|||(nb es x&&&set):=by
 unfold grow;rw[jY];rfl
def Yl {es:List (Nat×Nat)} {set part:Nat} (l:List Nat) (y:Nat):bit (grow es set part l) y=true↔bit part y=true\/∃x∈l,bit (nb es x) y=true/\bit set y=true:=by
 induction l using gg with
 |nil=>simp[grow]
 |snoc l x ih=>
  rw[wc,Ap,Ia,cV,ih,aT];simp only[bC,bA];constructor
  ·rintro((h|⟨a,h1,h2⟩)|h)
   ·exact .inl h
   ·exact .inr ⟨a,.inl h1,h2⟩
   ·exact .inr ⟨x,.inr rfl,h⟩
  ·rintro(h|⟨a,h1|rfl,h2⟩)
   ·exact .inl (.inl h)
   ·exact .inl (.inr ⟨a,h1,h2⟩)
   ·exact .inr h2
def JR {es:List (Nat×Nat)} {set part:Nat} (hs:set<M64) (hp:part<M64) (l:List Nat):grow es set part l<M64:=by
 induction l using gg with
 |nil=>exact hp
 |snoc l x ih=>rw[wc];exact Ql ih (Uh hs)
def c6H {n:Nat} {es:List (Nat×Nat)} (h:∀e∈es,e.1<e.2/\e.2<n) {set part x:Nat} (hp:part<M64) (hx:bit part x=true) (hr:∀y,bit part y=true->Rch es set x y) (he:grow es set part (els part)=part):CL es set x part:=by
 refine⟨hp,fun y=>⟨hr y,fun hy=> ?_⟩⟩;induction hy with
 |base=>exact hx
 | @step u v _ ha hz ih=>
  rw[<-he,Yl];exact .inr ⟨u,(Kw hp).2 ih,(gm h).2 ha,hz⟩
def c6I {n:Nat} {es:List (Nat×Nat)} (h:∀e∈es,e.1<e.2/\e.2<n) {set part x:Nat} (hp:part<M64) (hr:∀y,bit part y=true->Rch es set x y):∀y,bit (grow es set part (els part)) y=true->Rch es set x y:=by
 intro y hy;rw[Yl]at hy;rcases hy with hy|⟨z,h1,h2,h3⟩
 ·exact hr y hy
 ·exact(hr z ((Kw hp).1 h1)).step ((gm h).1 h2) h3
def c0T {p q:Nat->Bool} (hpq:∀y,p y=true->q y=true) {x:Nat} (hq:q x=true) (hp:p x=false):∀l:List Nat,x∈l->(l.filter p).length<(l.filter q).length:=by
 have oW:∀l:List Nat,(l.filter p).length<=(l.filter q).length:=by
  intro l;induction l with
  |nil=>exact aS _
  |cons a l ih=>
   rw[gK,gK];split
   ·rename_i h;rw[if_pos (hpq a h)];simp;exact ih
   ·split
    ·simp;omega
    ·exact ih
 intro l;induction l with
 |nil=>intro h;cases h
 |cons a l ih=>
  intro h;rw[gK,gK];rcases aX.1 h with rfl|h
  ·rw[if_neg (by simp[hp]),if_pos hq];have:=oW l;simp;omega
  ·have:=ih h;split
   ·rename_i h;rw[if_pos (hpq a h)];simp;exact this
   ·split
    ·simp;omega
    ·exact this
def Ym {a b x:Nat} (h:∀y,bit a y=true->bit b y=true) (hb:bit b x=true) (ha:bit a x=false) (hx:x<64):card a<card b:=
 c0T h hb ha _ (bH.2 hx)
def Uj (a:Nat):card a<=64:=by
 have:=List.length_filter_le (bit a) (eT 64);simpa[card,els]using this
def gq {a b:Nat} (h:a≠b) (tY:∀y,bit a y=true->bit b y=true):∃x,bit b x=true/\bit a x=false:=by
 apply bW;intro hn;apply h;apply Gu;intro y;cases hy:bit a y with
 |true=>rw[tY y hy]
 |false=>
  cases hb:bit b y with
  |false=>rfl
  |true=>exact absurd ⟨y,hb,hy⟩ hn
def CS (es:List (Nat×Nat)) (set rest k:Nat):Prop:=(k=0/\rest=set)\/(k=1/\∃x c,bit set x=true/\CL es set x c/\rest=sdf set c)\/(2<=k/\¬Cn es set)
def CS.end {es:List (Nat×Nat)} {set k:Nat} (h:CS es set 0 k):k=1↔Cn es set:=by
 rcases h with⟨rfl,h⟩|⟨rfl,x,c,hx,hc,h⟩|⟨h1,h2⟩
 ·subst h;constructor
  ·intro h;cases h
  ·rintro⟨x,hx,_⟩;rw[Ej]at hx;cases hx
 ·refine⟨fun _=>⟨x,hx,fun y hy=> ?_⟩,fun _=>rfl⟩;have:bit (sdf set c) y=false:=by rw[<-h,Ej]
  rw[Jf,hy]at this;exact(hc.2 y).1 (by simpa using this)
 ·exact⟨fun h=>aA,fun h=>absurd h h2⟩
def CS.next {es:List (Nat×Nat)} {set rest k x c:Nat} (h:CS es set rest k) (hx:bit rest x=true) (zC:bit set x=true) (hc:CL es set x c):CS es set (sdf rest c) (k+1):=by
 rcases h with⟨rfl,rfl⟩|⟨rfl,y,d,hy,hd,rfl⟩|⟨h1,h2⟩
 ·exact .inr (.inl ⟨rfl,x,c,zC,hc,rfl⟩)
 ·refine .inr (.inr ⟨aA,fun hn=> ?_⟩);rw[Jf,(hd.2 x).2 (hn.all hy zC)]at hx;simp at hx
 ·exact .inr (.inr ⟨aA,h2⟩)
end Go.GS
namespace Go.RX
open RowKit
def Bz {P:Program} {ρ:List Value} {x:SV} {v:Value} (h:D P ρ x=v) (hc:v.cells= #[v]):D P ρ (.cell x 0 0 noI)=v:=by
 show(D P ρ x).cells.getD (0+0*x4 (D P ρ noI)) undef=v;rw[h,hc,bY];rfl
end Go.RX
namespace Go.Z
open Proofs.Tryz RowKit RX GS
section
variable {H:PH} {n:Nat} {w:Value} {es:List (Nat×Nat)} {set:Nat}
def we {n:Nat} (h:n<=64) {s:Nat} (hs:s<2^n):s<M64:=aM hs (bB (n:=2) aC h)
def Uk {n s x:Nat} (hs:s<2^n) (h:bit s x=true):x<n:=by
 apply mY;intro hn;have:=Nat.testBit_lt_two_pow (aM hs (bB (n:=2) aC hn));rw[bit,this]at h;cases h
set_option maxHeartbeats 1000000 in
def c0U (hT:Tb H) (hw:SG H w es) (hg:GV n es) (hs:set<2^n):Con prog 184 [gv n w,uv set] H fun u H'=>Pl H H'/\∃l,SU H' u l/\(l.length=1↔Cn es set):=by
 refine g9 mixed Z7 ?_;have hn:=hg.n64;have pX:=we hn hs;refine b4 (Be hw) ?_;refine b4 (el_u64.vcells set) ?_;refine g5 (d2z hw hg) rfl ?_;rintro u H1 ⟨l1,o1⟩;refine nmI ?_;simp only[cA,nA];have hu:=o1.se;refine b4 hu.one ?_;refine t6 (α:=Value×Nat×List Nat) (fun⟨v,rest,l⟩=>[v,uv rest,gv n w,uv set,u]) (fun⟨v,rest,l⟩=>fun H'=>Pl H1 H'/\SO H1 H' 42 1 (fun s:Nat=>[uv s]) v l/\rest<M64/\(∀y,bit rest y=true->bit set y=true)/\CS es set rest l.length/\l.length+card rest<=64) (fun⟨v,rest,l⟩=>card rest) ((.slice none 0 0,set,[])) rfl (⟨Pl.refl _,SO.nil _ _ _ _ _,pX,fun _ h=>h,.inl ⟨rfl,rfl⟩,by simpa using Uj set⟩) fun⟨v,rest,l⟩ H' hQ=> ?_;simp only[cA,nA];obtain⟨l2,o2,hr,hrs,hC,rZ⟩:=hQ;refine b9 ?_;refine y7 (p:=(rest≠0)) (bN0 rest) (fun h=> ?_) fun h=> ?_
 ·obtain⟨x,r,qP⟩:∃x r,els rest=x::r:=by
   cases qP:els rest with
   |nil=>exact absurd (Oa hr qP) h
   |cons x r=>exact⟨x,r,rfl⟩
  obtain⟨hx,tM,_⟩:=Ib qP;have zC:=hrs x hx;refine t6 (α:=Nat) (fun part=>[uv part,gv n w,uv set,u]) (fun part=>fun H''=>Pl H' H''/\part<M64/\bit part x=true/\∀y,bit part y=true->Rch es set x y) (fun part=>64-card part) (2^x) (Ie (by rw[Ic (B:=(M64-rest)%M64) rfl (Yj rfl hr) hr (cO _ aC),fq hr qP]) rfl rfl rfl) (⟨Pl.refl _,Df tM,by rw[Bj];simp,fun y hy=>by rw[Bj]at hy;simp at hy;subst hy;exact .base⟩) fun part H2 hQ2=> ?_;simp only[cA,nA];obtain⟨l3,hp,hpx,vA⟩:=hQ2;refine b4 (el_u64.vcells part) ?_;refine g5 (c6F (H:=H2) (s:=part)) rfl ?_;rintro _ _ ⟨b,hb,rfl,rfl⟩;refine nmI ?_;simp only[cA,nA];have l4:Pl H1 H2:=l2.trans l3;have qW:SU H2 u (nbs n es):=hu.mono l4;have tG:∀y,bit part y=true->y<n:=fun y hy=>Uk hs ((vA y hy).mem zC);refine Hz (X:=H2) (K:=Ax b part) (Ro:=H2) (fun pre vals X'=>X'=H2/\vals=[uv (grow es set part ((els part).take pre.length))]) (fun _ _ _=>False) (c0R hp ((hT.mono l1).mono l4)) c0P (gj _ hb) rfl (fun _ _ _ h=>by rw[h.1];exact Pl.refl _) ⟨rfl,rfl⟩ ?_ ?_ ?_
  ·rintro pre xs vals X' ⟨y,hy,rfl,pA⟩ _ ⟨rfl,rfl⟩;refine⟨rfl,?_⟩;simp only[cA,nA];have hyp:bit part y=true:=(Kw hp).1 (aJ hy);refine By el_u64 rfl rfl rfl rfl aF qW (Oe es (tG y hyp)) (j0 (Bz rfl qW.cells) rfl) aF fun _=> ?_;simp only[cA,nA];have hgl:=JR (es:=es) pX hp ((els part).take pre.length);have qH:=wa hg.ed hn y;refine b9 (b9 (b9 ?_));exact⟨rfl,by rw[aL];simp only[aO,bR];rw[take_snoc hy,wc];exact j7 (Fq rfl (Ic rfl rfl qH pX) hgl (Qm qH))⟩
  ·rintro xs vals X' K' rfl hd _ ⟨rfl,rfl⟩;rw[aW,dV];simp only[cA,nA];have hgl:=JR (es:=es) pX hp (els part);have l5:Pl X' (X'.or K'):=PH.le_or _ _;refine b9 (b9 ?_);refine y7 (p:=(grow es set part (els part)=part)) (by show Value.bool (((grow es set part (els part):Nat):Int)==((part:Nat):Int))=_;rw[bE];congr 1;apply decide_eq_decide.2;omega) (fun h2=> ?_) fun h2=> ?_
   ·have a2f:=c6H hg.ed hp hpx vA h2;refine Hy el_u64 rfl rfl rfl aF aF (l4.trans l5) (o2.mono (l3.trans l5)) aA rfl aF rfl fun p v2 H3 l6 o3=> ?_;simp only[cA,nA];have oV:card (sdf rest part)<card rest:=Ym (fun y hy=>by rw[Jf]at hy;exact(aT _ _ ▸ hy).1) hx (by rw[Jf,hpx];simp) tM;exact⟨(v2,sdf rest part,l++[part]),oV,(by simp only[aU,cN];rw[Qn rfl rfl hr hp];rfl),⟨l6,o3,Qk hr,fun y hy=>hrs y (by rw[Jf]at hy;exact(aT _ _ ▸ hy).1),by rw[aL];exact hC.next hx zC a2f,by rw[aL];simp only[aO,bR];omega⟩⟩
   ·obtain⟨z,hz1,yF⟩:=gq (fun e=>h2 e.symm) (fun y hy=>by rw[Yl];exact .inl hy);have oV:card part<card (grow es set part (els part)):=Ym (fun y hy=>by rw[Yl];exact .inl hy) hz1 yF (Ug hgl hz1);have a0n:=Uj (grow es set part (els part));exact⟨grow es set part (els part),aA,rfl,⟨l3.trans l5,hgl,by rw[Yl];exact .inl hpx,c6I hg.ed hp vA⟩⟩
  ·exact fun _ _ _ _ _ _ _ h=>h.elim
 ·have h0:rest=0:=aA;subst h0;exact c9 rfl ⟨l1.trans l2,l,o2.se,hC.end⟩
end
end Go.Z
namespace Go.GS
def LabOk (p:List Int) (k:Int):Prop:=(∀x∈p,0<=x/\x<k)/\0<p.length/\p.length<=64
instance (p:List Int) (k:Int):Decidable (LabOk p k):=inferInstanceAs (Decidable (_/\_/\_))
def mkN (p:List Int) (d:Int) (m:Nat):Nat:=(eT m).foldl (fun s i=>if p[i]? =some d then s|||2^i else s) 0
def JS (p:List Int) (d:Int) (m:Nat):mkN p d (m+1)=if p[m]? =some d then mkN p d m|||2^m else mkN p d m:=by
 unfold mkN;rw[List.range_succ,jY];rfl
def gu (p:List Int) (d:Int) (m i:Nat):bit (mkN p d m) i=(decide (i<m)&&decide (p[i]? =some d)):=by
 induction m with
 |zero=>simp[mkN,bit]
 |succ m ih=>
  rw[JS];split
  ·rename_i h;rw[Ap,Bj,ih];by_cases e:m=i
   ·subst e;simp[h]
   ·simp[e,show(i<m+1)=(i<m)from by apply propext;omega]
  ·rename_i h;rw[ih];by_cases e:i=m
   ·subst e;simp[h]
   ·simp[show(i<m+1)=(i<m)from by apply propext;omega]
def gw (p:List Int) (d:Int) {m:Nat} (h:m<=64):mkN p d m<2^m:=by
 apply Nat.lt_pow_two_of_testBit;intro i hi;have:=gu p d m i;unfold bit at this;rw[this];simp[show ¬i<m by omega]
def wi (p:List Int) (d:Int) {m:Nat} (h:m<=64):mkN p d m<M64:=aM (gw p d h) (bB (n:=2) aC h)
def Fz (p:List Int) (d:Int):Nat:=mkN p d p.length
def Gw (p:List Int) (k m:Nat):List Nat:=(eT k).map fun d:Nat=>mkN p d m
def ic (p:List Int) (k m:Nat):(Gw p k m).length=k:=by simp[Gw]
def Ul (p:List Int) (m:Nat) {k d:Nat} (h:d<k):(Gw p k m)[d]? =some (mkN p d m):=by simp[Gw,h]
def c0W (p:List Int) (k:Nat):Gw p k 0=eS k 0:=by
 apply mS
 ·simp[Gw]
 ·intro i h1 h2;simp[Gw,mkN]
def c0X (p:List Int) (k:Nat) {m d:Nat} (h:p[m]? =some (d:Int)):(Gw p k m).set d (mkN p d m|||2^m)=Gw p k (m+1):=by
 apply bG;intro i;by_cases hi:i<k
 ·rw[Ul _ _ hi,JS];by_cases e:d=i
  ·subst e;rw[jH (by simp[ic,hi]),if_pos h]
  ·rw[iJ e,Ul _ _ hi,if_neg (by rw[h];simp;omega)]
 ·rw[aP (by simp[ic];omega),aP (by simp[ic];omega)]
def Em (p:List Int) (k:Nat):List Nat:=Gw p k p.length
def Cb (p:List Int) (k:Nat):Prop:=∀d,d<k->Fz p (d:Nat)≠0
instance (p:List Int) (k:Nat):Decidable (Cb p k):=inferInstanceAs (Decidable (∀d,d<k->_))
def plE (n:Nat) (p:List Int) (k:Int):Int:=if k<1\/k>8 then 2 else if p.length=n/\LabOk p k/\Cb p k.toNat then 0 else 210
def LabOk.at {p:List Int} {k:Int} (h:LabOk p k) {i:Nat} {x:Int} (hx:p[i]? =some x):0<=x/\x<k:=h.1 x (aJ hx)
noncomputable def cnB (es:List (Nat×Nat)) (set:Nat):Bool:= @decide (Cn es set) (kK _)
def cnB_iff {es:List (Nat×Nat)} {set:Nat}:cnB es set=true↔Cn es set:= @decide_eq_true_iff _ (kK _)
def JU {n:Nat} {p:List Int} {k:Int} (h:plE n p k=0):1<=k/\k<=8/\p.length=n/\LabOk p k/\Cb p k.toNat:=by
 unfold plE at h;split at h
 ·cases h
 ·split at h
  ·rename_i h1 h2;exact⟨aA,aA,h2⟩
  ·cases h
def c6J {p:List Int} {k s:Nat} (h:s∈Em p k) (hp:p.length<=64):s<2^p.length:=by
 simp only[Em,Gw,bK]at h;obtain⟨d,_,rfl⟩:=h;exact gw p d hp
end Go.GS
namespace Go.Z
open Proofs.Tryz RowKit RX GS
abbrev Slc:=Option Addr×Nat×Nat
def vs (s:Slc):Value:= .slice s.1 s.2.1 s.2.2
def JV {H:PH} {sz:Nat} {α:Type} {ce:α->List Value} {v:Value} {l:List α} (h:SE H sz ce v l):∃s,v=vs s:=by
 obtain⟨_,a,c,h2,_⟩:=h;exact⟨(a,l.length,c),h2⟩
def Yn:El prog 125 49 1 false (fun s:Slc=>[vs s]) vs where
 und:=aB
 has:=aB
 cel:=aB
 agg:=aB
 pos:=aC
 one1:=fun _=>rfl
 small:=aC
 inf:=⟨(prog.info? 49).getD default,vs (none,0,0),aB,aB,aB,rfl,oDt aB⟩
 len:=fun _=>rfl
 val:=fun _=>rfl
 cells:=fun _=>rfl
 one:=fun x c hc=>by simp at hc;subst hc;rfl
section
variable {H:PH} {u v:Value} {l:List Int}
def c6K {f:FuncId} {caps:List Value} {q:Int->Bool} (hu:SI H u l) (qZ:q8 prog f=true) (hf:∀H' x,Pl H H'->x∈l->j5 prog f (ii x::caps) H' (.bool (q x))):Con prog 140 [u,.func (.func f) #[] caps.toArray] H fun r H'=>Pl H H'/\∃z:Int,r=ii z/\decide (z≥0)=l.any q:=by
 refine g9 mixed Z2 ?_;have hl:=hu.len;refine r8 el_int hu ?_;refine t6 (α:=Nat×Int) (fun⟨i,p⟩=>[ii p,ii (i:Nat)]) (fun⟨i,p⟩=>fun H'=>i<=l.length/\Pl H H'/\(l.take i).any q=false) (fun⟨i,p⟩=>l.length-i) ((0,0)) rfl (⟨bJ _,Pl.refl _,rfl⟩) fun⟨i,p⟩ H' hQ=> ?_;simp only[cA,nA];obtain⟨hi,l1,hq⟩:=hQ;refine b9 (b9 ?_);refine g8 (b:=decide (((i:Nat):Int)<(l.length:Nat))) rfl (fun h=> ?_) (fun h=> ?_)
 ·replace h:=oDt h;have pO:i<l.length:=aA;obtain⟨x,hx,tL⟩:=u6 pO;refine r6 el_int (hu.mono l1) hx fun _=> ?_;simp only[cA,nA];refine j4 (Bh (f:=f) (caps:=caps.toArray) (vs:=[ii x]) rfl rfl rfl qZ (hf _ x l1 (aJ hx))) rfl ?_;rintro _ H2 ⟨l2,rfl⟩;refine nmI ?_;simp only[cA,nA];refine b9 ?_;refine g8 (b:=q x) rfl (fun hqx=> ?_) (fun hqx=> ?_)
  ·skip
   exact c9 rfl ⟨l1.trans l2,_,rfl,by rw[mT.2 ⟨x,aJ hx,hqx⟩];exact oDd aA⟩
  ·skip
   exact⟨(i+1,p),by show l.length-(i+1)<l.length-i;omega,(j0 rfl (p6 rfl aA)),⟨pO,l1.trans l2,by rw[take_snoc hx,kO,hq];simp[hqx]⟩⟩
 ·replace h:=oDf h;rw[aI aA]at hq;exact c9 rfl ⟨l1,_,rfl,by rw[hq];rfl⟩
def ig {f:FuncId} {caps:List Value} {q:Int->Bool} (hu:SI H u l) (qZ:q8 prog f=true) (hf:∀H' x,Pl H H'->x∈l->j5 prog f (ii x::caps) H' (.bool (q x))):j5 prog 91 [u,.func (.func f) #[] caps.toArray] H (.bool (l.any q)):=by
 refine g9 mixed Z0 ?_;refine g5 (c6K hu qZ hf) rfl ?_;rintro _ H1 ⟨l1,z,rfl,hz⟩;refine nmI ?_;simp only[cA,nA];refine b9 ?_;exact c9 rfl ⟨l1,hz ▸ rfl⟩
end
section
variable {H:PH} {u v:Value} {l:List Nat}
def c6L {f:FuncId} {caps:List Value} {q:Nat->Bool} (hu:SU H u l) (qZ:q8 prog f=true) (hf:∀H' x,Pl H H'->x∈l->j5 prog f (uv x::caps) H' (.bool (q x))):Con prog 165 [u,.func (.func f) #[] caps.toArray] H fun r H'=>Pl H H'/\∃z:Int,r=ii z/\decide (z≥0)=l.any q:=by
 refine g9 mixed Z3 ?_;have hl:=hu.len;refine r8 el_u64 hu ?_;refine t6 (α:=Nat×Int) (fun⟨i,p⟩=>[ii p,ii (i:Nat)]) (fun⟨i,p⟩=>fun H'=>i<=l.length/\Pl H H'/\(l.take i).any q=false) (fun⟨i,p⟩=>l.length-i) ((0,0)) rfl (⟨bJ _,Pl.refl _,rfl⟩) fun⟨i,p⟩ H' hQ=> ?_;simp only[cA,nA];obtain⟨hi,l1,hq⟩:=hQ;refine b9 (b9 ?_);refine g8 (b:=decide (((i:Nat):Int)<(l.length:Nat))) rfl (fun h=> ?_) (fun h=> ?_)
 ·replace h:=oDt h;have pO:i<l.length:=aA;obtain⟨x,hx,tL⟩:=u6 pO;refine r6 el_u64 (hu.mono l1) hx fun _=> ?_;simp only[cA,nA];refine j4 (Bh (f:=f) (caps:=caps.toArray) (vs:=[uv x]) rfl rfl rfl qZ (hf _ x l1 (aJ hx))) rfl ?_;rintro _ H2 ⟨l2,rfl⟩;refine nmI ?_;simp only[cA,nA];refine b9 ?_;refine g8 (b:=q x) rfl (fun hqx=> ?_) (fun hqx=> ?_)
  ·skip
   exact c9 rfl ⟨l1.trans l2,_,rfl,by rw[mT.2 ⟨x,aJ hx,hqx⟩];exact oDd aA⟩
  ·skip
   exact⟨(i+1,p),by show l.length-(i+1)<l.length-i;omega,(j0 rfl (p6 rfl aA)),⟨pO,l1.trans l2,by rw[take_snoc hx,kO,hq];simp[hqx]⟩⟩
 ·replace h:=oDf h;rw[aI aA]at hq;exact c9 rfl ⟨l1,_,rfl,by rw[hq];rfl⟩
def c0Y {f:FuncId} {caps:List Value} {q:Nat->Bool} (hu:SU H u l) (qZ:q8 prog f=true) (hf:∀H' x,Pl H H'->x∈l->j5 prog f (uv x::caps) H' (.bool (q x))):j5 prog 104 [u,.func (.func f) #[] caps.toArray] H (.bool (l.any q)):=by
 refine g9 mixed Z1 ?_;refine g5 (c6L hu qZ hf) rfl ?_;rintro _ H1 ⟨l1,z,rfl,hz⟩;refine nmI ?_;simp only[cA,nA];refine b9 ?_;exact c9 rfl ⟨l1,hz ▸ rfl⟩
end
section
variable {H:PH} {n:Nat} {w:Value} {es:List (Nat×Nat)} {set:Nat}
def c6M (hw:SG H w es) (hg:GV n es) (hs:set<M64):j5 prog 183 [gv n w,uv set] H (ii (if set<2^n then 0 else 2)):=by
 refine g9 mixed Z4 ?_;refine b4 (Be hw) ?_;refine i9 (Fv hw hg) rfl fun H1 l1=> ?_;simp only[cA,nA];refine b9 ?_;refine j1 (bF (p:=(0:Int)≠0) aD) ?_;refine Bn (ep set hs) rfl ?_;simp only[cA,nA];refine b9 (b9 ?_);refine y7 (p:=(set≥2^n)) (by show Value.bool (decide (((Go.WD.blen set:Nat):Int)>((n:Nat):Int)))=_;congr 1;apply decide_eq_decide.2;constructor<;>intro hh<;>first|(have:=Go.WD.blen_ge hh;omega)|(apply mZ;intro h2;have:=Go.WD.blen_le h2;omega)) (fun h=> ?_) fun h=> ?_
 ·exact c9 rfl ⟨l1,by rw[if_neg aA];rfl⟩
 ·exact c9 rfl ⟨l1,by rw[if_pos aA];rfl⟩
noncomputable def Yo (n:Nat) (es:List (Nat×Nat)) (set:Nat):Value:=if set<2^n then .tuple #[.bool (cnB es set),ii 0]else .tuple #[.bool false,ii 2]
def JW (hT:Tb H) (hw:SG H w es) (hg:GV n es) (hs:set<M64):j5 prog 123 [gv n w,uv set] H (Yo n es set):=by
 refine g9 mixed Z5 ?_;have hn:=hg.n64;refine b4 (Be hw) ?_;refine i9 (c6M hw hg hs) rfl fun H1 l1=> ?_;simp only[cA,nA];refine b9 ?_;refine y7 (p:=(¬set<2^n)) (by show Value.bool ((if set<2^n then(0:Int)else 2) !=0)=_;by_cases hh:set<2^n<;>simp[hh]) (fun h=> ?_) fun h=> ?_
 ·exact c9 rfl ⟨l1,by unfold Yo;rw[if_neg h,if_neg h];rfl⟩
 ·have h:set<2^n:=bW h;refine g5 (c0U (hT.mono l1) (hw.mono l1) hg h) rfl ?_;rintro u H2 ⟨l2,l,hl,hc⟩;refine nmI ?_;simp only[cA,nA];have e:cnB es set=decide (l.length=1):=by rw[bS,cnB_iff,<-hc];simp
  refine r8 el_u64 hl ?_;refine b9 ?_;exact c9 rfl ⟨l1.trans l2,by rw[show Yo n es set= .tuple #[.bool (cnB es set),ii 0]from if_pos h,e];show Value.tuple #[.bool (((l.length:Nat):Int)==1),_]=_;rw[bE,show decide (((l.length:Nat):Int)=1)=decide (l.length=1)from decide_eq_decide.2 aA];rfl⟩
end
end Go.Z
namespace Go.RX
open RowKit
def JX {P:Program} {o:Oper} {x y:Operand} {vs:List Value} {t t' e:TypeId} {p:Option Addr} {n c:Nat} (ho:o.op= .binOp .eql t x y t') (hx:e8 [x,y] vs x= .slice p n c) (hy:e8 [x,y] vs y= .slice none 0 0) (hu:P.underlying t=some (.slice e)):Yld P o vs (.bool p.isNone):=fun w=>by
 have pD:o.op.operands.toList=[x,y]:=by simp[ho,Op.operands]
 rw[pD];have h:∀d:Nat,(Op.equalIn (d+1) t (.slice p n c) (.slice none 0 0)).run P w= .ok p.isNone w:=fun d=>by
  cases p<;>simp[Op.equalIn,run_underlying hu]
 have hb:(binOp .eql t (.slice p n c) (.slice none 0 0)).run P w= .ok (.bool p.isNone) w:=by
  simp only[binOp];simp[Op.equal,Op.maxDepth,h 9999]
 simp only[execOp,ho,hx,hy,Sem.run_bind,eqGuard];simp[hb]
end Go.RX
namespace Go.Z
open Proofs.Tryz RowKit RX
set_option maxRecDepth 100000
def d2A:g6 prog [] [] [] [] 89=some (.call false 137 [V0,(.k (.bool false))]
(.rq (.bool V1) (.ret [(.nt V1)]))):=aB
def d2B:g6 prog [5] [] [] [] 139=some (.rq (.cells 1 V2) (.pub 3 V2
(.pm f139 1 1 [V0]
(.ri V4
(.ri V1
(.br (.io .eql V4 V1)
(.ef false f139 1 6 [V3]
(.call false 91 [V0,V5]
(.rq (.bool V6) (.ret [(.nt V6)])))) (.ret [(.k (.bool false))]))))))):=aB
def c6N:g6 prog [] [] [] [] 213=some (.ri V0
(.br (.io .lss V0 (.ki 0)) (.ret [(.k (.bool true))])
(.pm f213 1 4 [V1]
(.ri V2
(.ret [(.io .gtr V0 V2)]))))):=aB
def JY:g6 prog [] [] [⟨2,8,[5,6],[]⟩] [⟨4,[0,1,3,0,8,24,56,0,128,384,896,0,2048,6144,0,16384,0,114688,0,262144,0,1048576,0,4194304,16515968,0,33554432,0,134217728,0,1073480576,0,2147483648,0,8589934592,0,68719215488,137438953471,274877906943,549755813887],rDx 40 222050502050502505050005005012500150150,rDx 40 100000100100010001001000100010010,rAx 0 9++rAx 11 13++rAx 25 5++rAx 31 5++[9,10,24,30]++rAx 36 4,[]⟩] 90=some (.rq (.cells 4 V0) (.rq (.cells 6 V1) (.join 2
(.rq (.bool (.cell V1 5 0 noI)) (.br (.cell V1 5 0 noI) (.next 0 [(.ki 0),(.ki 0)]) (.next 0 [(.ki 1000000000),(.ki 63)])))
(.pm f90 4 2 [(.cell V1 0 0 noI),(.k (.string ⟨#[]⟩))]
(.pm f90 4 5 [(.cell V1 0 0 noI)]
(.ri V5
(.rq (.int .i64 (.cell V1 1 0 noI))
(.ri V2
(.call true 138 [(.cell V1 0 0 noI),(.k (.string ⟨#[65,66,67,68,69,70,71,72,73,74,75,76,77,78,79,80,81,82,83,84,85,86,87,88,89,90,97,98,99,100,101,102,103,104,105,106,107,108,109,110,111,112,113,114,115,116,117,118,119,120,121,122,48,49,50,51,52,53,54,55,56,57,45,95]⟩))]
(.pm f90 4 10 [V6,(.k (.string ⟨#[]⟩))]
(.call true 139 [(.cell V1 2 0 noI),(.cell V0 0 0 noI),(.cell V1 1 0 noI)]
(.call true 139 [(.cell V1 3 0 noI),(.cell V0 1 0 noI),V2]
(.call true 139 [(.cell V1 4 0 noI),(.cell V0 2 0 noI),V3]
(.ef true f90 4 37 [V4,(.io .leq V5 (.ki 12)),V7,(.io .geq (.cell V1 1 0 noI) (.ki 0)),(.io .leq (.cell V1 1 0 noI) V2),V8,V9,V10]
(.call true 89 [V11]
(.ret [V12])))))))))))))))):=aB
def JZ:g6 prog [] [] [⟨3,9,[68],[]⟩,⟨0,7,[],[]⟩] [⟨9,[0,0,3,0,0,16,56,120,0,256,775,1799,3847,7943,0,16384,50951,116487,247559,509703,1033991,2097151,4194303,8388607],rDx 18 5001500255++rDx 6 22005,rDx 18 1000100010++rDx 6 1,[0,1]++rAx 3 7++[14,15,2]++rAx 10 4++rAx 16 8,[]⟩] 53=some (.rq (.cells 4 V0)
(.pm f53 1 2 [(.cell V0 3 0 noI)]
(.rq (.int .i64 (.cell V0 0 0 noI)) (.rq (.int .i64 (.cell V0 1 0 noI)) (.rq (.int .i64 (.cell V0 2 0 noI))
(.ri V1
(.ef false f53 2 22 [(.io .geq (.cell V0 0 0 noI) (.ki 0)),(.io .leq (.cell V0 0 0 noI) (.ki 6)),(.io .geq (.cell V0 1 0 noI) (.ki 0)),(.io .leq (.cell V0 1 0 noI) (.ki 12)),(.io .geq (.cell V0 2 0 noI) (.ki 0)),(.io .leq (.cell V0 2 0 noI) (.ki 3)),(.io .gtr V1 (.ki 0)),(.io .leq V1 (.ki 64))]
(.call false 89 [V2]
(.rq (.bool V3) (.br (.nt V3) (.ret [(.ki 161)])
(.ef false f53 4 0 []
(.pm f53 6 2 [(.cell V0 3 0 noI)]
(.loop [(.ki 0),(.k (.bool false)),(.ki 0)]
(.ri V8
(.ri V5
(.br (.io .lss V8 V5)
(.pm f53 8 1 [(.cell V0 3 0 noI),V8]
(.pm f53 8 2 [V9]
(.rq (.cells 6 V10) (.join 1
(.pm f53 9 6 [V4,(.cell V10 0 0 noI)]
(.rq (.bool V11) (.call true 90 [(.ag V0),(.ag V10)]
(.rq (.bool (.cell V10 5 0 noI)) (.br (.cell V10 5 0 noI) (.br (.io .gtr V8 (.ki 0))
(.ef true f53 9 21 [V12,(.nt V11),(.k (.bool true)),(.k (.bool true))]
(.call true 89 [V13]
(.rq (.bool V14) (.next 1 [(.nt V14)]))))
(.ef true f53 9 21 [V12,(.nt V11),(.k (.bool true)),(.nt (.cell V10 5 0 noI))]
(.call true 89 [V13]
(.rq (.bool V14) (.next 1 [(.nt V14)]))))) (.rq (.bool V7) (.br (.io .gtr V8 (.ki 0))
(.ef true f53 9 21 [V12,(.nt V11),(.nt V7),(.k (.bool true))]
(.call true 89 [V13]
(.rq (.bool V14) (.next 1 [(.nt V14)]))))
(.ef true f53 9 21 [V12,(.nt V11),(.nt V7),(.nt (.cell V10 5 0 noI))]
(.call true 89 [V13]
(.rq (.bool V14) (.next 1 [(.nt V14)]))))))))))) (.rq (.bool V11) (.br V11
(.ret [(.ki 161)])
(.ef false f53 11 3 [V4,(.cell V10 0 0 noI),(.k (.bool true))]
(.next 0 [V6,(.cell V10 5 0 noI),(.io .add V8 (.ki 1))])))))))) (.ret [(.ki 0)]))))))))))))))))):=aB
def d2C:g6 prog [] [] [] [] 137=some (.call false 205 [V0,V1]
(.ri V2
(.ret [(.io .geq V2 (.ki 0))]))):=aB
def d2D:g6 prog [] [] [⟨0,2,[],[]⟩] [] 205=some (.pm f205 1 1 [V0]
(.loop [(.ki 0),(.ki 0)]
(.ri V4
(.ri V2
(.br (.io .lss V4 V2)
(.pm f205 4 3 [V0,V4]
(.pm f205 4 4 [V5]
(.rq (.bool V1) (.rq (.bool V6) (.br (.eqb false V1 V6) (.ret [V4]) (.next 0 [V3,(.io .add V4 (.ki 1))])))))) (.ret [(kI (-1))])))))):=aB
def d7l:g6 prog [] [] [] [] 141=some (.call false 142 [V0]
(.ret [V1])):=aB
def d2E:g6 prog [] [] [] [] 216=some (.pm f216 1 1 [V0,(.k (.slice none 0 0))]
(.rq (.bool V1) (.br V1
(.ret [(.k (.slice none 0 0))])
(.ef false f216 3 0 []
(.ef false f216 3 2 [V2,V0]
(.ret [V3])))))):=aB
def KA:g6 prog [] [] [] [] 54=some (.rq (.cells 2 V0) (.rq (.cells 4 V1) (.call false 52 [(.ag V0)]
(.ri V2
(.br (.io .neq V2 (.ki 0)) (.ret [V2]) (.rq (.int .i64 (.cell V0 0 0 noI)) (.br (.io .gtr (.cell V0 0 0 noI) (.ki 12)) (.ret [(.ki 3)])
(.pm f54 6 2 [(.cell V1 0 0 noI)]
(.ri V3
(.br (.io .neq V3 (.cell V0 0 0 noI)) (.ret [(.ki 2)]) (.call false 91 [(.cell V1 0 0 noI),(.k (.func (.func 92) #[] #[]))]
(.rq (.bool V4) (.br V4
(.ret [(.ki 2)]) (.rq (.int .i64 (.cell V1 3 0 noI)) (.br (.io .lss (.cell V1 3 0 noI) (.ki 1)) (.ret [(.ki 2)]) (.br (.io .gtr (.cell V1 3 0 noI) (.ki 8)) (.ret [(.ki 2)]) (.rq (.int .i64 (.cell V1 1 0 noI)) (.br (.io .lss (.cell V1 1 0 noI) (.ki 0)) (.ret [(.ki 2)]) (.rq (.int .i64 (.cell V1 2 0 noI)) (.br (.io .lss (.cell V1 2 0 noI) (.cell V1 1 0 noI)) (.ret [(.ki 2)]) (.ret [(.ki 0)]))))))))))))))))))))):=aB
def c6O:g6 prog [] [] [] [] 92=some (.ri V0
(.br (.io .lss V0 (.ki 0)) (.ret [(.k (.bool true))]) (.ret [(.io .gtr V0 (.ki 1000000000))]))):=aB
def d2F:g6 prog [1] [] [] [] 144=some (.rq (.cells 1 V0) (.pub 42 V0
(.ef false f144 1 0 [V1]
(.ret [V2])))):=aB
def c6P:g6 prog [] [] [⟨0,2,[],[]⟩] [] 215=some (.pm f215 0 0 [V1]
(.loop [V2]
(.ef false f215 2 2 [V0,V3]
(.rq (.bool V4) (.br (.nt V4) (.ret [])
(.ru V3
(.br (.uo .eql V3 (kU 0)) (.ret [])
(.pm f215 1 2 [V1]
(.ru V5
(.next 0 [(.uo .and (.uo .sub V3 (kU 1)) V5)])))))))))):=aB
@[reducible] def z0_:SV:= .io .shl (.ki 1) (.cn V0 0)
def d2G:g6 prog [7,18,19,33] [] [⟨0,7,[],[]⟩,⟨0,14,[],[]⟩,⟨0,20,[],[]⟩] [⟨4,[0,1,0,4,12,28,63,127,0,511],rDx 10 8330205050,rPx 10 0,rAx 0 9,[9]⟩,⟨9,[0,0,2,7,15,0,32,96,255,511,1023],rDx 11 81005011500,rDx 11 2000200,rAx 0 10,[10]⟩,⟨10,[0,0,2,7,15,0,32,96,255,511,1023],rDx 11 81005011500,rDx 11 2000200,rAx 0 10,[10]⟩,⟨17,rPx 5 0++[16,56,124,252,0,512,0,3584,7680,16380,32767,65535],rDx 17 81011050110000000,rPx 10 0++rDx 7 1,rAx 0 16,[16]⟩,⟨18,[0,0,3,7,0,16,63,127,255,255,1023,2047,255,4351,16383,32767],rDx 16 50110000501100,rDx 16 10000000100000,rAx 0 16,[]⟩,⟨19,[0,1,0,4,3,31],[0,0,0,0,0,0],[0,0,0,0,0,0],[0,1,2,3,4,5],[]⟩] 94=some (.rq (.cells 2 V0) (.rq (.cells 4 V1) (.call false 54 [(.ag V0),(.ag V1)]
(.ri V2
(.br (.io .neq V2 (.ki 0)) (.ret [(.k (.pointer none)),V2]) (.rq (.num (.cell V0 0 0 noI)) (.rq (.nn (.cell V0 0 0 noI))
(.ef true f94 4 5 [z0_,z0_]
(.rq (.cells 1 (.cell V0 0 0 noI)) (.rq (.cells 1 V3) (.pub 239 (.put (.cat (.cell V0 0 0 noI) 1 (.cat (.z 232) 1 (.z 237))) 1 1 V3 0 noI) (.pub 175 (.z 175)
(.ef false f94 4 9 [V5,V4]
(.ef false f94 5 2 [(.cell V0 0 0 noI),(.cell V0 0 0 noI)]
(.pm f94 6 2 [(.cell V0 1 0 noI)]
(.loop [(.ki 0)]
(.ri V9
(.ri V8
(.br (.io .lss V9 V8)
(.pm f94 8 0 [(.cell V0 1 0 noI),V9]
(.pm f94 8 1 [V10]
(.rq (.cells 2 V11)
(.pm f94 9 3 [V7,(.cell V11 0 0 noI)]
(.pm f94 9 4 [V12]
(.rq (.num (.cell V11 1 0 noI)) (.rq (.nn (.cell V11 1 0 noI))
(.ru V13
(.pm f94 9 9 [V7,(.cell V11 0 0 noI)]
(.ef false f94 9 10 [V14,(.uo .or V13 (.uo .shl (kU 1) (.cell V11 1 0 noI)))]
(.pm f94 10 3 [V7,(.cell V11 1 0 noI)]
(.pm f94 10 4 [V16]
(.rq (.num (.cell V11 0 0 noI)) (.rq (.nn (.cell V11 0 0 noI))
(.ru V17
(.pm f94 10 9 [V7,(.cell V11 1 0 noI)]
(.ef false f94 10 10 [V18,(.uo .or V17 (.uo .shl (kU 1) (.cell V11 0 0 noI)))]
(.next 0 [(.io .add V9 (.ki 1))]))))))))))))))))))
(.ef false f94 12 3 [z0_,z0_]
(.loop [(.ki 1)]
(.ri V11
(.br (.io .lss V11 z0_) (.call false 141 [(.cv .u64 V11)]
(.pm f94 17 7 [V10,(.io .and V11 (.io .sub V11 (.ki 1)))]
(.pm f94 17 8 [V13]
(.pm f94 17 12 [(.cell V1 0 0 noI),V12]
(.pm f94 17 13 [V15]
(.ri V14
(.ri V16
(.pm f94 17 15 [V10,V11]
(.ef false f94 17 16 [V17,(.io .add V14 V16)]
(.pm f94 18 2 [V10,V11]
(.pm f94 18 3 [V19]
(.ri V20
(.rq (.int .i64 (.cell V1 1 0 noI)) (.br (.io .lss V20 (.cell V1 1 0 noI)) (.next 1 [(.io .add V11 (.ki 1))])
(.pm f94 18 10 [V10,V11]
(.pm f94 18 11 [V21]
(.ri V22
(.rq (.int .i64 (.cell V1 2 0 noI)) (.br (.io .gtr V22 (.cell V1 2 0 noI)) (.next 1 [(.io .add V11 (.ki 1))]) (.rq (.num V12) (.rq (.nn V12) (.loop [(.uo .shl (kU 1) V12),(.uo .shl (kU 1) V12)]
(.ru V24
(.br (.uo .neq V24 (kU 0)) (.call false 142 [V24]
(.pm f94 23 2 [V7,V25]
(.pm f94 23 3 [V26]
(.ru V27
(.ru V23
(.next 2 [(.uo .or V23 (.uo .andNot (.uo .and V27 (.cv .u64 V11)) V23)),(.uo .or (.uo .and V24 (.uo .sub V24 (kU 1))) (.uo .andNot (.uo .and V27 (.cv .u64 V11)) V23))]))))))
(.pm f94 26 0 [V5]
(.pm f94 26 1 [V25]
(.pm f94 26 2 [V26]
(.pm f94 26 3 [V27]
(.ru V23
(.pm f94 26 9 [V28,V11]
(.ef false f94 26 10 [V29,(.uo .eql V23 (.cv .u64 V11))]
(.next 1 [(.io .add V11 (.ki 1))]))))))))))))))))))))))))))))))))
(.ef false f94 27 0 []
(.pub 241 (.z 241)
(.ef false f94 27 2 [V13,V12]
(.pub 242 (.z 242)
(.ef false f94 29 0 [V13,V5,V15]
(.ef false f94 29 1 [V15,V16]
(.pm f94 30 0 [V5]
(.ef false f94 30 1 [V15,V5]
(.pm f94 30 2 [V18]
(.pm f94 30 3 [V20]
(.ef false f94 30 4 [V21,V19]
(.pm f94 31 0 [V5]
(.ret [V23,(.ki 0)])))))))))))))))))))))))))))))))))))):=aB
@[reducible] def z1_:SV:= .uo .and (.cn V0 0) (.op1 .neg .u64 (.cn V0 0))
def c6Q:g6 prog [999999] [] [⟨4,12,[],[3]⟩] [⟨9,[0,0,2,7,0,0,48,127],rDx 8 88330055,rPx 6 0++[3,3],[0,1,2,3,4,5],[6,7]⟩,⟨12,[0,1,3,7,0,0,48,127,255],rDx 9 110501111,rDx 9 400000,rAx 0 9,[]⟩,⟨13,[0,0,0,0,12,0,60,0,128,510,1023,2047],rDx 12 608050500515,rDx 12 300010400003,rAx 0 9,[9,10,11]⟩] 143=some (.rq (.cells 1 V0) (.rq (.cells 1 V1) (.rq (.int .u64 (.cell V0 0 0 noI)) (.br (.uo .eql (.cell V0 0 0 noI) (kU 0)) (.rq (.int .i64 (.cell V1 0 0 noI)) (.br (.io .eql (.cell V1 0 0 noI) (.ki 0)) (.ret [(.ki 1)]) (.ret [(.ki 0)]))) (.rq (.int .i64 (.cell V1 0 0 noI)) (.br (.io .eql (.cell V1 0 0 noI) (.ki 0)) (.ret [(.ki 0)]) (.rq (.cells 1 (.cell V0 0 0 noI))
(.pm f143 6 0 [V2]
(.pm f143 6 2 [V5,(.put (.put (.z 243) 0 1 (.cell V0 0 0 noI) 0 noI) 1 1 (.cv .u64 (.cell V1 0 0 noI)) 0 noI)]
(.rq (.tup 0 V6) (.rq (.tup 1 V6) (.rq (.bool (.pj V6 1)) (.br (.pj V6 1) (.ret [(.pj V6 0)]) (.call false 144 [(.uo .andNot (.cell V0 0 0 noI) z1_)]
(.rf V7 1 [(.ki 0)]
(.pm f143 12 0 [V3]
(.pm f143 12 1 [V10]
(.pm f143 12 2 [V11]
(.pm f143 12 3 [V12]
(.ru V8
(.pm f143 12 7 [V13,(.uo .or V8 z1_)]
(.pm f143 12 8 [V14]
(.rq (.bool V15) (.br V15
(.pm f143 13 1 [V4]
(.ef false f143 13 9 [V16,(.uo .andNot (.uo .andNot (.cell V0 0 0 noI) V8) z1_),(.io .sub (.cell V1 0 0 noI) (.ki 1))]
(.rq (.int .i64 (.cell V9 0 0 noI))
(.ri V17
(.next 0 [(.io .add (.cell V9 0 0 noI) V17)]))))) (.next 0 [V9]))))))))))
(.pm f143 14 0 [V2]
(.ef false f143 14 3 [V9,(.put (.put (.z 243) 0 1 (.cell V0 0 0 noI) 0 noI) 1 1 (.cv .u64 (.cell V1 0 0 noI)) 0 noI),(.cell V8 0 0 noI)]
(.ret [(.cell V8 0 0 noI)]))) (.dead 818)))))))))))))))):=aB
def KB:g6 prog [999999] [] [⟨4,7,[],[3]⟩] [⟨7,[0,1,3,7,0,16,48,0,240,511,1023],rDx 11 11001151111,rPx 11 0,rAx 0 11,[]⟩,⟨8,[0,0,2,6,14,0,32,0,0,384,0,1024,4094,8191,16383],rDx 15 608050051511115,rDx 15 300020010000003,rAx 0 12,[12,13,14]⟩] 145=some (.rq (.cells 1 V0) (.rq (.cells 1 V1) (.rq (.cells 1 V2)
(.pm f145 1 1 [(.cell V0 0 0 noI)]
(.ri V5
(.br (.io .eql V5 (.ki 0))
(.pm f145 2 0 [V3]
(.ef false f145 2 3 [V6,(.cell V1 0 0 noI),(.cell V2 0 0 noI)]
(.ret [V7])))
(.pm f145 4 1 [(.cell V0 0 0 noI)]
(.ri V6
(.rq (.int .i64 (.cell V2 0 0 noI)) (.br (.io .leq V6 (.cell V2 0 0 noI)) (.call false 144 [(.cell V1 0 0 noI)]
(.rf V7 1 [(.ki 0)]
(.pm f145 7 0 [V4]
(.pm f145 7 1 [V10]
(.pm f145 7 2 [V11]
(.pm f145 7 3 [V12]
(.pm f145 7 5 [(.cell V0 0 0 noI),(.ki 0)]
(.pm f145 7 6 [V14]
(.ru V15
(.ru V8
(.pm f145 7 9 [V13,(.uo .or V15 V8)]
(.pm f145 7 10 [V16]
(.rq (.bool V17) (.br V17
(.pm f145 8 1 [V4]
(.pm f145 8 2 [V18]
(.pm f145 8 3 [V19]
(.pm f145 8 4 [V20]
(.pm f145 8 6 [(.cell V0 0 0 noI),(.ki 1)]
(.rq (.int .u64 (.cell V1 0 0 noI))
(.ef false f145 8 12 [V21,V22,(.uo .andNot (.cell V1 0 0 noI) V8),(.io .sub (.cell V2 0 0 noI) (.ki 1))]
(.rq (.int .i64 (.cell V9 0 0 noI))
(.ri V23
(.next 0 [(.io .add (.cell V9 0 0 noI) V23)])))))))))) (.next 0 [V9]))))))))))))) (.ret [(.cell V8 0 0 noI)]) (.dead 818))) (.ret [(.ki 0)]))))))))))):=aB
def b2x:(opr f145 8 6).op= .slice 140 (.tmp 41) (some (.const (.int .i64 (1)))) none none:=aB
def d2H:g6 prog [] [] [] [⟨4,[0,0,3,7,0,16,63,127,255],rDx 9 810001100,rPx 9 0,rAx 0 8,[8]⟩] 146=some (.call false 216 [V0]
(.pm f146 2 2 [V3]
(.ri V2
(.ri V4
(.br (.io .eql V2 V4)
(.ef false f146 3 1 [(kU 0)]
(.ef false f146 3 2 [V3,V5]
(.pm f146 4 2 [V6,V2]
(.pm f146 4 3 [V7]
(.rq (.num V1) (.rq (.nn V1)
(.ru V8
(.pm f146 4 7 [V6,V2]
(.ef false f146 4 8 [V9,(.uo .or V8 (.uo .shl (kU 1) V1))]
(.ret [V6]))))))))))
(.pm f146 4 2 [V3,V2]
(.pm f146 4 3 [V5]
(.rq (.num V1) (.rq (.nn V1)
(.ru V6
(.pm f146 4 7 [V3,V2]
(.ef false f146 4 8 [V7,(.uo .or V6 (.uo .shl (kU 1) V1))]
(.ret [V3]))))))))))))):=aB
def d2I:g6 prog [] [] [⟨0,4,[],[]⟩,⟨0,9,[],[]⟩] [⟨6,[0,1,3,7,15,0,32,96,255,511],rDx 10 1110,rPx 10 0,rAx 0 10,[]⟩] 96=some (.pm f96 3 1 [V0]
(.pm f96 3 2 [V3]
(.pm f96 3 3 [V4]
(.loop [(.k (.slice none 0 0)),(.k (.slice none 0 0)),V2,(.ki 0)]
(.ri V9
(.ri V5
(.br (.io .lss V9 V5)
(.pm f96 6 1 [V0]
(.pm f96 6 2 [V10]
(.pm f96 6 3 [V11]
(.rq (.num V12) (.rq (.nn V12) (.rq (.nn (.io .add V9 (.ki 1))) (.loop [V6,V7,V8,(.ki 0)]
(.call false 146 [V14,V9,V16]
(.pm f96 10 1 [V0]
(.pm f96 10 2 [V18]
(.pm f96 10 3 [V19]
(.ef false f96 10 7 [V20,V17,(.uo .sub (.uo .shl (kU 1) V12) (.uo .shl (kU 1) (.io .add V9 (.ki 1)))),V1]
(.ri V15
(.ri V21
(.br (.io .lss V15 V21)
(.ef false f96 12 2 [V16]
(.ef false f96 12 3 [V13,V22]
(.next 0 [V23,V17,V15,(.io .add V9 (.ki 1))])))
(.ri V16
(.next 1 [V13,V14,(.io .sub V15 V21),(.io .add V16 (.ki 1))]))))))))))))))))) (.ret [V6])))))))):=aB
def d2J:g6 prog [999999] [] [] [⟨1,[0,1,3,7,0,16,48,112,240,496,0,2047,4095],rDx 13 800011101110,rPx 13 0,rAx 0 11,[11,12]⟩] 95=some (.pm f95 1 1 [V0]
(.pm f95 1 2 [V2]
(.pm f95 1 3 [V3]
(.pm f95 1 5 [V0]
(.pm f95 1 6 [V5]
(.pm f95 1 7 [V6]
(.rq (.num V7) (.rq (.nn V7)
(.ef false f95 1 11 [V4,(.k (.slice none 0 0)),(.uo .sub (.uo .shl (kU 1) V7) (kU 1)),V1]
(.ret [V8])))))))))):=aB
def KC:g6 prog [] [] [⟨0,9,[],[]⟩] [] 58=some (.rq (.cells 2 V0) (.rq (.cells 4 V1) (.call false 94 [(.ag V0),(.ag V1)]
(.rq (.tup 0 V2) (.rq (.tup 1 V2) (.rq (.int .i64 (.pj V2 1)) (.br (.io .neq (.pj V2 1) (.ki 0)) (.ret [(.k (.slice none 0 0)),(.pj V2 1)]) (.call false 95 [(.pj V2 0),(.cell V1 3 0 noI)]
(.ri V3
(.br (.io .gtr V3 (.ki 400)) (.ret [(.k (.slice none 0 0)),(.ki 3)]) (.loop [(.k (.slice none 0 0)),(.ki 0)]
(.ri V5
(.br (.io .lss V5 V3) (.call false 96 [(.pj V2 0),(.cell V1 3 0 noI),V5]
(.ef false f58 11 6 [V6]
(.ef false f58 11 7 [V4,V7]
(.next 0 [V8,(.io .add V5 (.ki 1))])))) (.ret [V4,(.ki 0)])))))))))))))):=aB
end Go.Z

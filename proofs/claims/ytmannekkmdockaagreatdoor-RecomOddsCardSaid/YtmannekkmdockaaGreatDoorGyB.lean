/- Search by rounds over all edges. -/
import Derived.Test.YtmannekkmdockaaGreatDoorGaH
import Derived.Test.YtmannekkmdockaaGreatDoorGtT
import Derived.Test.YtmannekkmdockaaGreatDoorGyA
open Go.Result renaming andThen_ok->eH
open Go.Sem renaming run_bind->eI,run_pure->eJ
open List renaming filter_congr->gG,filter_cons->eO,map_toArray->gY,mem_append_left->mQ,mem_append_right->mJ,nodup_range->iD,range->eP,replicate->eK
open List.Pairwise renaming filter->nG
open Nat renaming and_le_left->jG,le_total->iC,lt_succ_self->eL,max_eq_left->gI,max_eq_right->fU,min_eq_right->gZ,sub_self->jI
namespace Go.GS
def rst (set s:Nat) (e:Nat×Nat):Nat:=if bit set e.1&&bit set e.2&&(bit s e.1||bit s e.2)then s|||2^e.1|||2^e.2 else s
def rnd (set:Nat) (L:List (Nat×Nat)) (s:Nat):Nat:=L.foldl (rst set) s
def Ab (set:Nat) (L:List (Nat×Nat)):Nat->Nat->Nat
 |0,s=>s
 |n+1,s=>rnd set L (Ab set L n s)
def Clo (set:Nat) (L:List (Nat×Nat)) (s:Nat):Prop:=∀e∈L,bit set e.1=true->bit set e.2=true->(bit s e.1=true\/bit s e.2=true)->bit s e.1=true/\bit s e.2=true
theorem Zs {set s:Nat} {e:Nat×Nat} {y:Nat} (h:bit s y=true):bit (rst set s e) y=true:=by
 unfold rst;split
 ·rw[Ac,Ac,h];rfl
 ·exact h
theorem d7J {set s:Nat} {e:Nat×Nat} (h:s<M64) (h1:e.1<64) (h2:e.2<64):rst set s e<M64:=by
 unfold rst;split
 ·exact Hy (Hy h (Aq h1)) (Aq h2)
 ·exact h
theorem Pv {set:Nat} {L:List (Nat×Nat)}:∀{s y:Nat},bit s y=true->bit (rnd set L s) y=true:=by
 induction L with
 |nil=>intro s y h;exact h
 |cons e L ih=>intro s y h;exact ih (Zs h)
theorem Zt {set:Nat} {L:List (Nat×Nat)} (hL:∀e∈L,e.1<64/\e.2<64):∀{s:Nat},s<M64->rnd set L s<M64:=by
 induction L with
 |nil=>intro s h;exact h
 |cons e L ih=>intro s h;exact ih (fun a ha=>hL a (cF _ ha)) (d7J h (hL e aD).1 (hL e aD).2)
theorem c9e {set s:Nat} {e:Nat×Nat} (h:rst set s e=s) (h1:bit set e.1=true) (h2:bit set e.2=true) (h3:bit s e.1=true\/bit s e.2=true):bit s e.1=true/\bit s e.2=true:=by
 unfold rst at h;rw[if_pos (by rcases h3 with h3|h3<;>simp[h1,h2,h3])]at h;rw[<-h];simp[Ac,Ah]
theorem zk {set:Nat} {L:List (Nat×Nat)}:∀{s:Nat},rnd set L s=s->Clo set L s:=by
 induction L with
 |nil=>intro s _ e he;cases he
 |cons e L ih=>
  intro s h;have h1:rst set s e=s:=by
   apply Ao;intro y;cases hy:bit s y with
   |true=>exact Zs hy
   |false=>
    cases hz:bit (rst set s e) y with
    |false=>rfl
    |true=>
     have:bit (rnd set (e::L) s) y=true:=Pv (L:=L) hz;rw[h,hy]at this;cases this
  have h2:rnd set L s=s:=by
   have:rnd set (e::L) s=rnd set L (rst set s e):=rfl;rw[this,h1]at h;exact h
  intro a ha;rcases aP.1 ha with rfl|ha
  ·exact c9e h1
  ·exact ih h2 a ha
theorem MZ {set:Nat} {L:List (Nat×Nat)} {s:Nat} (h:Clo set L s):rnd set L s=s:=by
 induction L with
 |nil=>rfl
 |cons e L ih=>
  have h1:rst set s e=s:=by
   unfold rst;split
   ·rename_i hc;simp only[bA,dB]at hc;obtain⟨h2,h3⟩:=h e aD hc.1.1 hc.1.2 hc.2;apply Ao;intro y;rw[Ac,Ac,Ah,Ah];by_cases e1:e.1=y
    ·subst e1;simp[h2]
    ·by_cases e2:e.2=y
     ·subst e2;simp[h3]
     ·simp[e1,e2]
   ·rfl
  show rnd set L (rst set s e)=s;rw[h1];exact ih fun a ha=>h a (cF _ ha)
def ins (L:List (Nat×Nat)) (s:Nat):Nat:=(L.filter fun e=>bit s e.1&&bit s e.2).length
theorem NA {α:Type} {p q:α->Bool} (h:∀x,p x=true->q x=true) (l:List α):(l.filter p).length<=(l.filter q).length:=by
 induction l with
 |nil=>exact aS _
 |cons a l ih=>
  rw[eO,eO];split
  ·rename_i hp;rw[if_pos (h a hp)];simp;exact ih
  ·split
   ·simp;omega
   ·exact ih
theorem d7K {α:Type} {p q:α->Bool} (h:∀x,p x=true->q x=true) {x:α} (hq:q x=true) (hp:p x=false):∀l:List α,x∈l->(l.filter p).length<(l.filter q).length:=by
 intro l;induction l with
 |nil=>intro h;cases h
 |cons a l ih=>
  intro hx;rw[eO,eO];rcases aP.1 hx with rfl|hx
  ·rw[if_neg (by simp[hp]),if_pos hq];have:=NA h l;simp;omega
  ·have:=ih hx;split
   ·rename_i hpa;rw[if_pos (h a hpa)];simp;exact this
   ·split
    ·simp;omega
    ·exact this
theorem d4p {L:List (Nat×Nat)} {s:Nat} (h:L.length<=ins L s):∀e∈L,bit s e.1=true/\bit s e.2=true:=by
 have:(L.filter fun e=>bit s e.1&&bit s e.2).length=L.length:=Nat.le_antisymm (cC _ _) h;rw[List.length_filter_eq_length_iff]at this;intro e he;simpa using this e he
theorem d4q {set:Nat} {L0:List (Nat×Nat)}:∀{L:List (Nat×Nat)} {s:Nat},(∀e∈L,e∈L0)->rnd set L s=s\/ins L0 s<ins L0 (rnd set L s):=by
 intro L;induction L with
 |nil=>intro s _;exact .inl rfl
 |cons e L ih=>
  intro s hL;have hm:∀x:Nat×Nat,(bit s x.1&&bit s x.2)=true->(bit (rst set s e) x.1&&bit (rst set s e) x.2)=true:=by
   intro x hx;rw[bA]at hx⊢;exact⟨Zs hx.1,Zs hx.2⟩
  by_cases h1:rst set s e=s
  ·have:rnd set (e::L) s=rnd set L s:=by show rnd set L (rst set s e)=_;rw[h1]
   rw[this];exact ih fun a ha=>hL a (cF _ ha)
  ·right;have h2:(bit s e.1&&bit s e.2)=false:=by
    cases hc:(bit s e.1&&bit s e.2)with
    |false=>rfl
    |true=>
     exfalso;apply h1;rw[bA]at hc;apply Ao;intro y;cases hy:bit s y with
     |true=>exact Zs hy
     |false=>
      unfold rst;split
      ·rw[Ac,Ac,Ah,Ah,hy];by_cases e1:e.1=y
       ·rw[<-e1,hc.1]at hy;cases hy
       ·by_cases e2:e.2=y
        ·rw[<-e2,hc.2]at hy;cases hy
        ·simp[e1,e2]
      ·exact hy
   have h3:(bit (rst set s e) e.1&&bit (rst set s e) e.2)=true:=by
    unfold rst;split
    ·simp[Ac,Ah]
    ·rename_i hc;exact absurd (by unfold rst;rw[if_neg hc]) h1
   have h4:ins L0 s<ins L0 (rst set s e):=d7K hm h3 h2 L0 (hL e aD);have h5:ins L0 (rst set s e)<=ins L0 (rnd set L (rst set s e)):=NA (fun x hx=>by
    rw[bA]at hx⊢;exact⟨Pv hx.1,Pv hx.2⟩) L0
   exact aU h4 h5
theorem c9f (set:Nat) (L:List (Nat×Nat)) (s:Nat):∀n,Clo set L (Ab set L n s)\/n<=ins L (Ab set L n s):=by
 intro n;induction n with
 |zero=>exact .inr (bI _)
 |succ n ih=>
  rcases ih with h|h
  ·left;show Clo set L (rnd set L _);rw[MZ h];exact h
  ·rcases d4q (set:=set) (L0:=L) (L:=L) (s:=Ab set L n s) (fun _ h=>h)with h1|h1
   ·left;show Clo set L (rnd set L _);rw[h1];exact zk h1
   ·right;show n+1<=ins L (rnd set L _);omega
theorem NB (set:Nat) (L:List (Nat×Nat)) (s:Nat):Clo set L (Ab set L L.length s):=by
 rcases c9f set L s L.length with h|h
 ·exact h
 ·exact fun e he _ _ _=>d4p h e he
theorem Nj {set:Nat} {L:List (Nat×Nat)} (hL:∀e∈L,e.1<64/\e.2<64) {s:Nat} (hs:s<M64):∀n,Ab set L n s<M64/\(Clo set L (Ab set L n s)\/n<=card (Ab set L n s)):=by
 intro n;induction n with
 |zero=>exact⟨hs,.inr (bI _)⟩
 |succ n ih=>
  refine⟨Zt hL ih.1,?_⟩;rcases ih.2 with h|h
  ·left;show Clo set L (rnd set L _);rw[MZ h];exact h
  ·by_cases h1:rnd set L (Ab set L n s)=Ab set L n s
   ·left;show Clo set L (rnd set L _);rw[h1];exact zk h1
   ·right;obtain⟨x,tX,rG⟩:=Zn (fun e=>h1 e.symm) (fun y hy=>Pv (set:=set) (L:=L) hy);have:=kz (fun y hy=>Pv (set:=set) (L:=L) hy) tX rG (Bz (Zt hL ih.1) tX);show n+1<=card (rnd set L _);omega
theorem c3q {set:Nat} {L:List (Nat×Nat)} {s y:Nat} (h:bit s y=true):∀n,bit (Ab set L n s) y=true:=by
 intro n;induction n with
 |zero=>exact h
 |succ n ih=>exact Pv ih
theorem d4r {es:List (Nat×Nat)} {set s x:Nat} {e:Nat×Nat} (he:e∈es) (h:∀y,bit s y=true->Rch es set x y):∀y,bit (rst set s e) y=true->Rch es set x y:=by
 intro y hy;unfold rst at hy;split at hy
 ·rename_i hc;simp only[bA,dB]at hc;have a1:adj es e.1 e.2:=⟨e,he,.inl ⟨rfl,rfl⟩⟩;have r1:Rch es set x e.1:=hc.2.elim (h _) fun h2=>(h _ h2).step a1.symm hc.1.1;have r2:Rch es set x e.2:=hc.2.elim (fun h1=>(h _ h1).step a1 hc.1.2) (h _);rw[Ac,Ac,Ah,Ah,dB,dB]at hy;rcases hy with(hy|hy)|hy
  ·exact h y hy
  ·have:=oDt hy;subst this;exact r1
  ·have:=oDt hy;subst this;exact r2
 ·exact h y hy
theorem d4s {es:List (Nat×Nat)} {set x:Nat}:∀{L:List (Nat×Nat)} {s:Nat},(∀e∈L,e∈es)->(∀y,bit s y=true->Rch es set x y)->∀y,bit (rnd set L s) y=true->Rch es set x y:=by
 intro L;induction L with
 |nil=>intro s _ h;exact h
 |cons e L ih=>intro s hL h;exact ih (fun a ha=>hL a (cF _ ha)) (d4r (hL e aD) h)
theorem lz {es:List (Nat×Nat)} {set x n:Nat} (hx:bit set x=true) (rM:Ab set es n (2^x)<M64) (hc:Clo set es (Ab set es n (2^x))):CL es set x (Ab set es n (2^x)):=by
 refine⟨rM,fun y=>⟨?_,fun hy=> ?_⟩⟩
 ·have:∀m y,bit (Ab set es m (2^x)) y=true->Rch es set x y:=by
   intro m;induction m with
   |zero=>intro y hy;have hy:bit (2^x) y=true:=hy;rw[Ah]at hy;have:=oDt hy;subst this;exact .base
   |succ m ih=>exact d4s (fun _ h=>h) ih
  exact this n y
 ·induction hy with
  |base=>exact c3q (by rw[Ah];simp) n
  | @step u v h1 ha hz ih=>
   have hu:=h1.mem hx;obtain⟨e,he,⟨rfl,rfl⟩|⟨rfl,rfl⟩⟩:=ha
   ·exact(hc e he hu hz (.inl ih)).2
   ·exact(hc e he hz hu (.inr ih)).1
def Bg (f:Nat->Nat) (e:Nat×Nat):Nat->Nat:=fun x=>if f x=max (f e.1) (f e.2)then min (f e.1) (f e.2)else f x
def lab (L:List (Nat×Nat)):Nat->Nat:=L.foldl Bg id
theorem Sm (L:List (Nat×Nat)) (e:Nat×Nat):lab (L++[e])=Bg (lab L) e:=by
 unfold lab;rw[dZ];rfl
theorem NC {f:Nat->Nat} {e:Nat×Nat} (h:f e.1=f e.2):Bg f e=f:=by
 funext x;unfold Bg;rw[h,Nat.max_self,Nat.min_self];split
 ·rename_i h;exact h.symm
 ·rfl
structure Lb (f:Nat->Nat):Prop where
 idm:∀x,f (f x)=f x
 le:∀x,f x<=x
theorem Lb.join {f:Nat->Nat} (h:Lb f) (e:Nat×Nat):Lb (Bg f e):=by
 by_cases uD:f e.1=f e.2
 ·rw[NC uD];exact h
 have ha:=h.idm e.1;have hb:=h.idm e.2;refine⟨fun x=> ?_,fun x=> ?_⟩
 ·unfold Bg;generalize f e.1=a at*;generalize f e.2=b at*;by_cases hx:f x=max a b
  ·rw[if_pos hx];by_cases a2x:a<=b
   ·rw[fU a2x,bY a2x,ha,if_neg uD]
   ·rw[gI aA,gZ aA,hb,if_neg (fun h=>uD h.symm)]
  ·rw[if_neg hx,h.idm,if_neg hx]
 ·unfold Bg;split
  ·rename_i hx;have:=h.le x;omega
  ·exact h.le x
theorem Lb.lab (L:List (Nat×Nat)):Lb (lab L):=by
 induction L using Po with
 |nil=>exact⟨fun _=>rfl,fun _=>aS _⟩
 |snoc L e ih=>rw[Sm];exact ih.join e
def Inn (set:Nat) (L:List (Nat×Nat)):Prop:=∀e∈L,bit set e.1=true/\bit set e.2=true
theorem Iq {set:Nat} {L:List (Nat×Nat)} (h:Inn set L):∀x,bit set x=true->bit set (lab L x)=true:=by
 induction L using Po with
 |nil=>exact fun _ h=>h
 |snoc L e ih=>
  have ih:=ih fun a ha=>h a (mQ _ ha);have he:=h e (mJ _ (aL.2 rfl));intro x hx;rw[Sm];unfold Bg;split
  ·rcases iC (lab L e.1) (lab L e.2)with hh|hh
   ·rw[bY hh];exact ih _ he.1
   ·rw[gZ hh];exact ih _ he.2
  ·exact ih x hx
def cnt (f:Nat->Nat) (set:Nat):Nat:=((eP 64).filter fun x=>bit set x&&decide (f x=x)).length
theorem ND {p q:Nat->Bool} {x:Nat} (hx:p x=true) (hq:∀y,q y=(p y&&decide (y≠x))):∀l:List Nat,x∈l->l.Nodup->(l.filter q).length+1=(l.filter p).length:=by
 intro l;induction l with
 |nil=>intro h;cases h
 |cons a l ih=>
  intro hm hn;rw[List.nodup_cons]at hn;rcases aP.1 hm with rfl|hm
  ·have:l.filter q=l.filter p:=by
    apply gG;intro y hy;rw[hq];have:y≠x:=fun e=>hn.1 (e ▸ hy);simp[this]
   rw[eO,eO,if_pos hx,if_neg (by rw[hq];simp),this];rfl
  ·have hax:a≠x:=fun e=>hn.1 (e ▸ hm);have:=ih hm hn.2;have hqa:q a=p a:=by rw[hq];simp[hax]
   rw[eO,eO,hqa];split
   ·simp only[aO];omega
   ·exact this
theorem c9g {f:Nat->Nat} (h:Lb f) {set:Nat} {e:Nat×Nat} (h1:bit set (f e.1)=true) (h2:bit set (f e.2)=true) (hs:set<M64) (qC:f e.1≠f e.2):cnt (Bg f e) set+1=cnt f set:=by
 have hm:bit set (max (f e.1) (f e.2))=true:=by
  rcases iC (f e.1) (f e.2)with hh|hh
  ·rw[fU hh];exact h2
  ·rw[gI hh];exact h1
 have hfm:f (max (f e.1) (f e.2))=max (f e.1) (f e.2):=by
  rcases iC (f e.1) (f e.2)with hh|hh
  ·rw[fU hh];exact h.idm _
  ·rw[gI hh];exact h.idm _
 refine ND (x:=max (f e.1) (f e.2)) (by simp[hm,hfm]) (fun y=> ?_) _ (bR.2 (Bz hs hm)) iD;cases hy:bit set y with
 |false=>rfl
 |true=>
  simp only[Bool.true_and];rw[bC];simp only[decide_eq_true_eq,bA];unfold Bg;constructor
  ·intro hj;split at hj
   ·rename_i zD;have:=h.idm e.1;have:=h.idm e.2;exfalso;rcases iC (f e.1) (f e.2)with hh|hh
    ·rw[bY hh]at hj;rw[fU hh,<-hj,h.idm]at zD;exact qC zD
    ·rw[gZ hh]at hj;rw[gI hh,<-hj,h.idm]at zD;exact qC zD.symm
   ·rename_i zD;exact⟨hj,fun e2=>zD (by rw[hj,e2])⟩
  ·rintro⟨h3,h4⟩;rw[if_neg (by rw[h3];exact h4)];exact h3
theorem d7L (set:Nat):cnt id set=card set:=by
 unfold cnt card els;congr 1;apply gG;intro x _;simp
def Sr:List (Nat×Nat)->Nat->Nat
 |_,0=>0
 |L,n+1=>Sr L n+match L[n]? with|some e=>if lab (L.take n) e.1=lab (L.take n) e.2 then 0 else 1|none=>0
theorem zl (L:List (Nat×Nat)):∀n,Sr L n<=n:=by
 intro n;induction n with
 |zero=>exact aS _
 |succ n ih=>
  unfold Sr;split
  ·split<;>omega
  ·omega
def Acy (L:List (Nat×Nat)) (n:Nat):Prop:=∀i e,i<n->L[i]? =some e->lab (L.take i) e.1≠lab (L.take i) e.2
theorem ma {L:List (Nat×Nat)}:∀n,n<=L.length->(Sr L n=n↔Acy L n):=by
 intro n;induction n with
 |zero=>intro _;exact⟨fun _ i e hi=>aA,fun _=>rfl⟩
 |succ n ih=>
  intro hn;have ih:=ih aA;have pY:=zl L n;have he:L[n]? =some L[n]:=aJ hn;unfold Sr;rw[he];simp only;constructor
  ·intro h;split at h
   ·omega
   ·rename_i qC;intro i e hi uZ;rcases Nat.lt_succ_iff_lt_or_eq.1 hi with hi|rfl
    ·exact ih.1 aA i e hi uZ
    ·rw[he]at uZ;cases uZ;exact qC
  ·intro h;rw[if_neg (h n _ aA he),ih.2 fun i e hi=>h i e aA]
theorem Zu {L:List (Nat×Nat)} {set:Nat} (hs:set<M64) (h:Inn set L):∀n,n<=L.length->cnt (lab (L.take n)) set+Sr L n=card set:=by
 intro n;induction n with
 |zero=>intro _;rw[List.take_zero];exact d7L set
 |succ n ih=>
  intro hn;have ih:=ih aA;have he:L[n]? =some L[n]:=aJ hn;have qP:=h _ (dS hn);have hI:Inn set (L.take n):=fun a ha=>h a (cG ha);have ht:L.take (n+1)=L.take n++[L[n]]:=by rw[List.take_add_one,he];rfl
  rw[ht,Sm];unfold Sr;rw[he];simp only;split
  ·rename_i heq;rw[NC heq];omega
  ·rename_i qC;have:=c9g (Lb.lab (L.take n)) (Iq hI _ qP.1) (Iq hI _ qP.2) hs qC;omega
def One (f:Nat->Nat) (set:Nat):Prop:=∀x y,bit set x=true->bit set y=true->f x=f y
theorem e1t {l:List Nat} (h:l.length=1):∃x,l=[x]:=by
 match l,h with
 |[x],_=>exact⟨x,rfl⟩
theorem Zv {f:Nat->Nat} (h:Lb f) {set:Nat} (hs:set<M64) (h0:set≠0) (qP:∀x,bit set x=true->bit set (f x)=true):cnt f set=1↔One f set:=by
 have sB:∀x,x∈((eP 64).filter fun x=>bit set x&&decide (f x=x))↔bit set x=true/\f x=x:=by
  intro x;rw[bT,bR];simp only[bA,decide_eq_true_eq];exact⟨fun h=>h.2,fun h=>⟨Bz hs h.1,h⟩⟩
 constructor
 ·intro hc;obtain⟨c,hl⟩:=e1t hc;have key:∀x,bit set x=true->f x=c:=by
   intro x hx;have:=(sB (f x)).2 ⟨qP x hx,h.idm x⟩;rw[hl]at this;simpa using this
  intro x y hx hy;rw[key x hx,key y hy]
 ·intro h1;obtain⟨x,hx⟩:∃x,bit set x=true:=by
   apply bB;intro hn;exact h0 (Ao fun y=>by rw[Dc];cases hy:bit set y with|false=>rfl|true=>exact absurd ⟨y,hy⟩ hn)
  have hc:=(sB (f x)).2 ⟨qP x hx,h.idm x⟩;unfold cnt;have tM:((eP 64).filter fun x=>bit set x&&decide (f x=x)).Nodup:=nG _ iD;generalize hg:((eP 64).filter fun x=>bit set x&&decide (f x=x))=l at*
  match l,hc with
  |[a],_=>rfl
  |a::b::r,_=>
   exfalso;have ha:=(sB a).1 aD;have hb:=(sB b).1 aD;have:a=b:=by rw[<-ha.2,<-hb.2];exact h1 a b ha.1 hb.1
   subst this;simp at tM
theorem zm {L:List (Nat×Nat)} {set:Nat} (hs:set<M64) (h0:set≠0) (h:Inn set L) (hl:L.length+1=card set):Acy L L.length↔One (lab L) set:=by
 have h1:=Zu hs h L.length (aS _);rw[List.take_length]at h1;rw[<-ma _ (aS _),<-Zv (Lb.lab L) hs h0 (Iq h)];have:=zl L L.length;omega
theorem Px {L:List (Nat×Nat)} {set:Nat} (h:Inn set L) {x y:Nat} (hx:bit set x=true) (hy:bit set y=true):lab L x=lab L y↔Rch L set x y:=by
 constructor
 ·--each node reaches its label
  have key:∀L0:List (Nat×Nat),(∀e∈L0,e∈L)->∀z,bit set z=true->Rch L set z (lab L0 z):=by
   intro L0;induction L0 using Po with
   |nil=>intro _ z _;exact .base
   |snoc L0 e ih=>
    intro hL z hz;have ih:=ih fun a ha=>hL a (mQ _ ha);have he:=hL e (mJ _ (aL.2 rfl));have uZ:=h e he;rw[Sm];unfold Bg;split
    ·rename_i hf;have a1:adj L e.1 e.2:=⟨e,he,.inl ⟨rfl,rfl⟩⟩;have r1:=ih e.1 uZ.1;have r2:=ih e.2 uZ.2;have sE:=ih z hz;have e12:Rch L set e.1 e.2:=Rch.base.step a1 uZ.2;rcases iC (lab L0 e.1) (lab L0 e.2)with hh|hh
     ·rw[fU hh]at hf;rw[bY hh];rw[hf]at sE;exact sE.trans ((r2.symm uZ.2).trans ((e12.symm uZ.1).trans r1))
     ·rw[gI hh]at hf;rw[gZ hh];rw[hf]at sE;exact sE.trans ((r1.symm uZ.1).trans (e12.trans r2))
    ·exact ih z hz
  intro e;have h1:=key L (fun _ h=>h) x hx;have h2:=key L (fun _ h=>h) y hy;rw[e]at h1;exact h1.trans (h2.symm hy)
 ·intro hr;have a5j:∀a b,adj L a b->lab L a=lab L b:=by
   have key:∀(L0:List (Nat×Nat)) (f:Nat->Nat),(∀a b,f a=f b->(L0.foldl Bg f) a=(L0.foldl Bg f) b)/\∀e∈L0,(L0.foldl Bg f) e.1=(L0.foldl Bg f) e.2:=by
    intro L0;induction L0 with
    |nil=>intro f;exact⟨fun _ _ h=>h,fun e he=>by cases he⟩
    |cons e L0 ih=>
     intro f;have hk:∀a b,f a=f b->Bg f e a=Bg f e b:=fun a b uD=>by unfold Bg;rw[uD]
     refine⟨fun a b uD=>(ih (Bg f e)).1 a b (hk a b uD),fun a ha=> ?_⟩;rcases aP.1 ha with rfl|ha
     ·apply(ih (Bg f a)).1;unfold Bg;by_cases uD:f a.1<=f a.2
      ·rw[fU uD,bY uD,if_pos rfl];split<;>rfl
      ·rw[gI aA,gZ aA,if_pos rfl];split<;>rfl
     ·exact(ih (Bg f e)).2 a ha
   rintro a b ⟨e,he,⟨rfl,rfl⟩|⟨rfl,rfl⟩⟩
   ·exact(key L id).2 e he
   ·exact((key L id).2 e he).symm
  clear hy;induction hr with
  |base=>rfl
  |step h1 ha hz ih=>rw[ih,a5j _ _ ha]
structure Par (p:List Nat) (f:Nat->Nat):Prop where
 len:p.length=64
 lb:Lb f
 le:∀x y:Nat,p[x]? =some y->y<=x
 up:∀x y:Nat,p[x]? =some y->f y=f x
 fix:∀x y:Nat,p[x]? =some y->(y=x↔f x=x)
theorem Par.at {p:List Nat} {f:Nat->Nat} (h:Par p f) {x:Nat} (hx:x<64):∃y,p[x]? =some y:=⟨_,aJ (by rw[h.len];exact hx)⟩
theorem Par.id:Par (eP 64) id where
 len:=aD
 lb:=⟨fun _=>rfl,fun _=>aS _⟩
 le:=fun x y h=>by rw[aH]at h;obtain⟨_,rfl⟩:=h;simp
 up:=fun x y h=>by rw[aH]at h;obtain⟨_,rfl⟩:=h;simp
 fix:=fun x y h=>by rw[aH]at h;obtain⟨_,rfl⟩:=h;simp
theorem Par.join {p:List Nat} {f:Nat->Nat} (h:Par p f) {e:Nat×Nat} (h1:e.1<64) (h2:e.2<64):Par (p.set (max (f e.1) (f e.2)) (min (f e.1) (f e.2))) (Bg f e):=by
 have la:=h.lb.le e.1;have lb:=h.lb.le e.2;have ia:=h.lb.idm e.1;have ib:=h.lb.idm e.2;have yW:=h.lb.join e;unfold Bg at yW⊢;generalize f e.1=a at*;generalize f e.2=b at*;have hm:f (min a b)=min a b:=by rcases iC a b with hh|hh;rw[bY hh,ia];rw[gZ hh,ib]
 have hM:f (max a b)=max a b:=by rcases iC a b with hh|hh;rw[fU hh,ib];rw[gI hh,ia]
 have pY:min a b<=max a b:=aA;have hMl:max a b<p.length:=by rw[h.len];omega
 generalize max a b=M at*;generalize min a b=m at*;refine⟨by rw[cJ];exact h.len,yW,?_,?_,?_⟩
 ·intro x y hy;rw[dH]at hy;split at hy
  ·rename_i e;subst e;cases hy;exact pY
  ·exact h.le x y hy
 ·intro x y hy;rw[dH]at hy;split at hy
  ·rename_i e;subst e;cases hy;rw[hm,if_pos hM];split<;>rfl
  ·rw[h.up x y hy]
 ·intro x y hy;rw[dH]at hy;split at hy
  ·rename_i e;subst e;cases hy;rw[if_pos hM]
  ·rename_i qC;rw[h.fix x y hy];split
   ·rename_i hfx;constructor
    ·intro h1;exact absurd (hfx.symm.trans h1) qC
    ·intro h1;subst h1;rw[hm]at hfx;exact absurd hfx.symm qC
   ·exact Iff.rfl
end Go.GS
namespace Go.Z
open Proofs.Tryz
theorem d4t {i:Nat} (h:i<64):(eP i++eK (64-i) 0).set i i=eP (i+1)++eK (64-(i+1)) 0:=by
 obtain⟨k,hk⟩:∃k,64-i=k+1:=⟨64-i-1,aA⟩;rw[hk,show 64-(i+1)=k by omega,List.replicate_succ,List.range_succ,bH];simp[List.set_append]
open Go.RowKit Go.RX Go.GS
theorem Vi:El prog 193 3 1 false (fun x:Nat=>[ii (x:Nat)]) (fun x:Nat=>ii (x:Nat)) where
 und:=aB
 has:=aB
 cel:=aB
 agg:=aB
 pos:=aC
 one1:=fun _=>rfl
 small:=aC
 inf:=⟨(prog.info? 3).getD default,ii 0,aB,aB,aB,rfl,oDt aB⟩
 len:=fun _=>rfl
 val:=fun _=>rfl
 cells:=fun _=>rfl
 one:=fun x c hc=>by simp at hc;subst hc;rfl
abbrev PO (H0 H:PH) (v:Value) (p:List Nat):Prop:=SO H0 H 3 1 (fun x:Nat=>[ii (x:Nat)]) v p
abbrev PS (H:PH) (v:Value) (p:List Nat):Prop:=SE H 1 (fun x:Nat=>[ii (x:Nat)]) v p
section
variable {H H0:PH} {u v w wts:Value} {p:List Nat} {wl:List Int} {n:Nat} {es:List (Nat×Nat)} {lo hi ds:Int} {set x:Nat} {f:Nat->Nat} {e:Nat×Nat}
theorem NE:Con prog 118 [] H fun r H'=>Pl H H'/\∃v,r= .agg #[v]/\PO H H' v (eP 64):=by
 refine i9 mixed d4e ?_;refine Uu Vi (z:=(0:Nat)) Vd rfl rfl rfl (m:=64) aA rfl fun v H1 l1 o1 _=> ?_;refine Ji Vi rfl rfl o1.se rfl ?_;refine s8 (α:=Nat) (fun i=>[ii (i:Nat)]) (fun i=>fun H'=>i<=64/\Pl H H'/\PO H H' v (eP i++eK (64-i) 0)) (fun i=>64-i) (0) rfl (⟨bI _,l1,o1⟩) fun i H' hQ=> ?_;obtain⟨hi,l2,o2⟩:=hQ;refine d9 (d9 ?_);refine g7 (b:=decide (((i:Nat):Int)<64)) rfl (fun h=> ?_) (fun h=> ?_)
 ·replace h:=oDt h;refine Dp Vi (a:=i) rfl rfl rfl rfl aE aE l2 o2 (by simp;omega) rfl aE rfl fun q u H3 l3 o3 _=> ?_;exact⟨i+1,aA,(z8 (i6 rfl aA)),⟨aA,l3,by rw[d4t aA]at o3;exact o3⟩⟩
 ·replace h:=oDf h;have he:i=64:=aA;subst he;refine d4 o2.se.one ?_;exact g6 rfl ⟨l2,v,by show Value.agg v.cells=_;rw[o2.se.cells],by rw[jI,List.replicate_zero,bQ]at o2;exact o2⟩
theorem Vj (hp:PS H v p) (h:Par p f) (hx:x<64):Asks prog 121 [v,ii (x:Nat)] H (ii (f x:Nat)):=by
 refine i9 mixed d4f ?_;refine Bf (α:=Nat) (fun y=>[ii (y:Nat)]) (fun y=>y<64/\f y=f x) (fun y=>y) (x) rfl (⟨hx,rfl⟩) fun y hQ=> ?_;obtain⟨hy,hf⟩:=hQ;obtain⟨z,hz⟩:=h.at hy;refine j4 Vi hp hz fun _=> ?_;refine d9 (d9 ?_);refine j8 (p:=(z≠y)) (by show Value.bool (((z:Nat):Int) !=((y:Nat):Int))=_;rw[bN];congr 1;apply decide_eq_decide.2;omega) (fun h2=> ?_) fun h2=> ?_
 ·refine j4 Vi hp hz fun _=> ?_;have pY:=h.le y z hz;exact⟨z,aA,rfl,⟨⟨aA,by rw[h.up y z hz,hf]⟩,rfl⟩⟩
 ·have hzy:z=y:=bB h2;have:=(h.fix y z hz).1 hzy;exact g6 rfl ⟨rfl,by rw[<-hf,this];rfl⟩
theorem zn {o:Oper} {x y:Operand} {t u:TypeId} {a b:Int} {vs:List Value} (ho:o.op= .call ⟨.builtin .min,#[x,y],#[t,u]⟩) (hx:g8 [x,y] vs x= .int .i64 a) (hy:g8 [x,y] vs y= .int .i64 b):Yld prog o vs (.int .i64 (if b<a then b else a)):=fun w=>by
 have qK:o.op.operands.toList=[x,y]:=by simp[ho,Op.operands,Call.operands]
 rw[qK];simp only[execOp,ho,resolve,invoke,eI,eJ,eH,gY,aN,bJ,hx,hy];simp only[builtin,eI,run_min_int2,eH];rfl
theorem zo {o:Oper} {x y:Operand} {t u:TypeId} {a b:Int} {vs:List Value} (ho:o.op= .call ⟨.builtin .max,#[x,y],#[t,u]⟩) (hx:g8 [x,y] vs x= .int .i64 a) (hy:g8 [x,y] vs y= .int .i64 b):Yld prog o vs (.int .i64 (if b>a then b else a)):=fun w=>by
 have qK:o.op.operands.toList=[x,y]:=by simp[ho,Op.operands,Call.operands]
 rw[qK];simp only[execOp,ho,resolve,invoke,eI,eJ,eH,gY,aN,bJ,hx,hy];simp only[builtin,eI,run_max_int2,eH];rfl
theorem NF (pY:Pl H0 H) (hp:PO H0 H v p) (h:Par p f) (h1:e.1<64) (h2:e.2<64):Con prog 120 [.agg #[v],ev2 e] H fun r H'=>r= .bool (decide (f e.1≠f e.2))/\Pl H0 H'/\∃q,PO H0 H' v q/\Par q (Bg f e):=by
 refine i9 mixed d4g ?_;have tH:=hp.se;have la:=h.lb.le e.1;have lb:=h.lb.le e.2;have emin:(if((f e.2:Nat):Int)<(f e.1:Nat)then((f e.2:Nat):Int)else(f e.1:Nat))=((min (f e.1) (f e.2):Nat):Int):=by split<;>omega
 have emax:(if((f e.2:Nat):Int)>(f e.1:Nat)then((f e.2:Nat):Int)else(f e.1:Nat))=((max (f e.1) (f e.2):Nat):Int):=by split<;>omega
 refine d4 ⟨rfl,fun c hc=>by have hc:c∈[v]:=hc;rw[aL]at hc;subst hc;exact u0 tH⟩ ?_;refine d4 (el_edge.vcells e) ?_;refine s6 (Vj tH h h1) rfl ?_;refine s6 (Vj tH h h2) rfl ?_;refine j7 ((zo (vs:=[ii (f e.1:Nat),ii (f e.2:Nat)]) rfl rfl rfl).rds _) rfl ?_;refine j7 ((zn (vs:=[ii (f e.1:Nat),ii (f e.2:Nat)]) rfl rfl rfl).rds _) rfl ?_;rw[emin,emax];refine Dp Vi (a:=min (f e.1) (f e.2)) rfl rfl rfl rfl aE aE pY hp (by rw[h.len];omega) rfl aE rfl fun q u H3 l3 o3 _=> ?_;refine d9 (d9 ?_);exact g6 rfl ⟨by show Value.bool (((f e.1:Nat):Int) !=((f e.2:Nat):Int))=_;rw[bN];exact congrArg Value.bool (decide_eq_decide.2 aA),l3,_,o3,h.join h1 h2⟩
theorem NG (hs:set<M64) (h1:e.1<=64) (h2:e.2<=64):Asks prog 137 [uv set,ev2 e] H (.bool (bit set e.1&&bit set e.2)):=by
 refine i9 mixed d4h ?_;refine d4 (el_edge.vcells e) ?_;refine d9 ?_;refine d4 ⟨_,_,rfl⟩ ?_;refine d4 (by show(0:Int)<=((e.1:Nat):Int);omega) ?_;refine g7 (b:=bit set e.1) (Va rfl hs rfl h1) (fun b1=> ?_) (fun b1=> ?_)
 ·skip
  refine d4 ⟨_,_,rfl⟩ ?_;refine d4 (by show(0:Int)<=((e.2:Nat):Int);omega) ?_;exact g6 rfl ⟨rfl,by rw[b1];exact(Va rfl hs rfl h2)⟩
 ·skip
  exact g6 rfl ⟨rfl,by rw[b1];rfl⟩
theorem NH (hw:SG H w es) (hg:GV n es) (hs:set<M64):Ae prog 70 [gv n w,uv set] H (ii (if set≠0/\set<2^n then 0 else 2)):=by
 refine i9 mixed d7I ?_;refine d4 (t8 hw) ?_;refine y9 (kr hw hg) rfl fun H1 l1=> ?_;refine d9 ?_;refine r9 (bF (p:=(0:Int)≠0) aD) ?_;refine d9 ?_;refine j8 (p:=(set=0)) (bE0 _) (fun h0=> ?_) fun h0=> ?_
 ·exact g6 rfl ⟨l1,by rw[if_neg (fun e=>e.1 h0)];rfl⟩
 ·refine y8 (wk set hs) rfl ?_;refine d9 (d9 ?_);refine j8 (p:=(set≥2^n)) (by show Value.bool (decide (((Go.WD.blen set:Nat):Int)>((n:Nat):Int)))=_;congr 1;apply decide_eq_decide.2;constructor<;>intro hh<;>first|(have:=Go.WD.blen_ge hh;omega)|(apply Nat.le_of_not_lt;intro h2;have:=Go.WD.blen_le h2;omega)) (fun h=> ?_) fun h=> ?_
  ·exact g6 rfl ⟨l1,by rw[if_neg aA];rfl⟩
  ·exact g6 rfl ⟨l1,by rw[if_pos ⟨h0,aA⟩];rfl⟩
end
section
variable {H:PH}
theorem NI:Da prog 190=true:=aB
theorem c3s:Da prog 203=true:=aB
def Bh (p:Nat):Nat:=p&&&((M64-p)%M64)
def Hj (rest least:Nat):Nat->Nat->List Nat
 |0,_=>[]
 |n+1,part=>if part=0 then[]else((part-1)&&&rest|||least)::Hj rest least n ((part-1)&&&rest)
def Aj (p:Nat):List Nat:=Hj (sdf p (Bh p)) (Bh p) (sdf p (Bh p)+1) (sdf p (Bh p))
theorem c3t {p:Nat} (h:p<M64):Bh p<M64:=aZ jG h
theorem sdf_lt {a b:Nat} (h:a<M64):sdf a b<M64:=Nat.xor_lt_two_pow (n:=64) h (aZ jG h)
theorem c3u {b p:Nat} {Ro:PH} (hp:p<M64):ItC prog 203 [.pointer (some ⟨b,0,none⟩)] Ro (Df b p) (fun pre xs=>∃y,(Aj p)[pre.length]? =some y/\xs=[uv y]) (fun xs _=>xs.length=(Aj p).length) (fun _ _=>True):=by
 intro l J Jx hRo hr X hX hd w hw;refine(s9 (H:=X.or (Df b p)) (V:=fun _ H'=>∃X' K',Pl (X'.or K') H'/\Disj X' K'/\((∃xs,xs.length=(Aj p).length/\J xs X')\/(∃pre,True/\Jx pre X'))) mixed c8X aB rfl ?_ w hw).mono fun e w' ⟨v,H',he,qI,hV⟩=>⟨v,H',he,qI,hV⟩;have hb:=PH.or_right hd (ku b p);have hL:=c3t hp;have hR:sdf p (Bh p)<M64:=sdf_lt hp;refine Bn Nc rfl rfl hb rfl rfl ?_;refine Bn Nc rfl rfl hb rfl rfl ?_;refine d9 (d9 ?_);refine Bn Nc rfl rfl hb rfl rfl ?_;refine d9 ?_;refine s8 (α:=Nat×Nat×List Nat×PH) (fun a=>[uv a.1]) (fun a H'=>a.1<M64/\a.1<a.2.1/\H'=a.2.2.2.or (Df b p)/\Disj a.2.2.2 (Df b p)/\a.2.2.1++Hj (sdf p (Bh p)) (Bh p) a.2.1 a.1=Aj p/\J (a.2.2.1.map fun y:Nat=>[uv y]) a.2.2.2) (fun a=>a.2.1) (sdf p (Bh p),sdf p (Bh p)+1,[],X)
  (z8 (Uy rfl (Gn rfl (yp rfl hp) hp (cO _ aC)) hp hL)) ⟨hR,eL _,rfl,hd,rfl,hX⟩ fun a H' hQ=> ?_
 obtain⟨part,fu,pre,X'⟩:=a;obtain⟨h1,h2,rfl,qZ,qG,hJ⟩:=hQ;simp only at h1 h2 qZ qG hJ;simp only[cA,nA];refine d9 ?_;obtain⟨fu,rfl⟩:∃m,fu=m+1:=⟨fu-1,aA⟩;refine j8 (p:=(part≠0)) (bN0 part) (fun h=> ?_) fun h=> ?_
 ·simp only[Hj,if_neg h]at qG;have hq:(part-1)&&&sdf p (Bh p)<M64:=aZ Nat.and_le_right hR;have pY:(part-1)&&&sdf p (Bh p)<=part-1:=jG;have dL:∀{ρ:List Value},D prog ρ (.v 2)=uv p->D prog ρ (.v 3)=uv p->D prog ρ (.op2 .and .u64 (.v 2) (.op1 .neg .u64 (.v 3)))=uv (Bh p):=fun h2 h3=>Gn h2 (yp h3 hp) hp (cO _ aC);have dR:∀{ρ:List Value},D prog ρ (.v 2)=uv p->D prog ρ (.v 3)=uv p->D prog ρ (.v 4)=uv p->D prog ρ (.op2 .andNot .u64 (.v 4) (.op2 .and .u64 (.v 2) (.op1 .neg .u64 (.v 3))))=uv (sdf p (Bh p)):=fun h2 h3 h4=>Uy h4 (dL h2 h3) hp hL;have dQ:∀{ρ:List Value},D prog ρ (.v 2)=uv p->D prog ρ (.v 3)=uv p->D prog ρ (.v 4)=uv p->D prog ρ (.v 5)=uv part->D prog ρ (.op2 .and .u64 (.op2 .sub .u64 (.v 5) (.k (.int .u64 1))) (.op2 .andNot .u64 (.v 4) (.op2 .and .u64 (.v 2) (.op1 .neg .u64 (.v 3)))))=uv ((part-1)&&&sdf p (Bh p)):=fun h2 h3 h4 h5=>Gn (Zg (B:=1) h5 rfl h1 aA) (dR h2 h3 h4) aA hR;refine yd (hr _ [uv ((part-1)&&&sdf p (Bh p)|||Bh p)] X' (Df b p) ⟨_,by rw[<-qG,aX,bV (aS _),jI];rfl,rfl⟩ hJ qZ) rfl rfl rfl (i7 rfl (Du (dQ rfl rfl rfl rfl) (dL rfl rfl) hq hL)) rfl fun v X2 qL hV=> ?_;obtain⟨bb,rfl,qX,rE⟩:∃bb,v= .bool bb/\(bb=true->J ((pre.map fun y:Nat=>[uv y])++[[uv ((part-1)&&&sdf p (Bh p)|||Bh p)]]) X2)/\(bb=false->Jx ((pre.map fun y:Nat=>[uv y])++[[uv ((part-1)&&&sdf p (Bh p)|||Bh p)]]) X2):=by
   rcases hV with⟨rfl,h⟩|⟨rfl,h⟩
   ·exact⟨true,rfl,fun _=>h,(fun h=>nomatch h)⟩
   ·exact⟨false,rfl,(fun h=>nomatch h),fun _=>h⟩
  refine d9 ?_;refine g7 (b:= !bb) rfl (fun sD=> ?_) (fun sD=> ?_)
  ·exact g6 rfl ⟨X2,Df b p,Pl.refl _,qL,.inr ⟨_,trivial,rE (by simpa using sD)⟩⟩
  ·exact⟨((part-1)&&&sdf p (Bh p),fu,pre++[(part-1)&&&sdf p (Bh p)|||Bh p],X2),eL _,z8 (dQ rfl rfl rfl rfl),⟨hq,by show(part-1)&&&sdf p (Bh p)<fu;omega,rfl,qL,by rw[bH];exact qG,by rw[aT];exact qX (by simpa using sD)⟩⟩
 ·have h0:part=0:=aA;subst h0;simp only[Hj,if_true,bQ]at qG;exact g6 rfl ⟨X',Df b p,Pl.refl _,qZ,.inl ⟨_,by rw[aX,qG],hJ⟩⟩
theorem e0l:FA prog 37 1 1:=⟨aB,oDt aB,aB,aB,oDt aB⟩
theorem e0m:Sc prog 35:=⟨aB,aB,aB⟩
def Bj (set:Nat):Nat->List (Nat×Nat)->List (Nat×(Nat×Nat))
 |_,[]=>[]
 |i,e::r=>if(bit set e.1&&bit set e.2)=true then(i,e)::Bj set (i+1) r else Bj set (i+1) r
def Hk (b j:Nat) (x v:Value) (T:TypeId) (s:Nat):PH:=(PH.nil.put b (.cells #[x,v] T (0,0))).put j (.cells #[uv s] 54 (0,0))
theorem NJ {b j s:Nat} {x v:Value} {T:TypeId} {es:List (Nat×Nat)} {Ro:PH} (hs:s<M64) (hbj:b≠j) (he:∀e∈es,e.1<=64/\e.2<=64) (hes:es.length<=1000000) (hv:SE Ro 2 (fun e:Nat×Nat=>[ii (e.1:Nat),ii (e.2:Nat)]) v es) (hvc:v.cells= #[v]):
  ItC prog 190 [.pointer (some ⟨b,0,none⟩),.pointer (some ⟨j,0,none⟩)] Ro (Hk b j x v T s) (fun pre xs=>∃y,(Bj s 0 es)[pre.length]? =some y/\xs=[ii (y.1:Nat),ev2 y.2]) (fun xs _=>xs.length=(Bj s 0 es).length) (fun _ _=>True):=by
 intro l J Jx hRo hr X hX hd w hw;refine(s9 (H:=X.or (Hk b j x v T s)) (V:=fun _ H'=>∃X' K',Pl (X'.or K') H'/\Disj X' K'/\((∃xs,xs.length=(Bj s 0 es).length/\J xs X')\/(∃pre,True/\Jx pre X'))) mixed c9c aB rfl ?_ w hw).mono fun e w' ⟨v,H',he,qI,hV⟩=>⟨v,H',he,qI,hV⟩;have kb:Hk b j x v T s b=some (.cells #[x,v] T (0,0)):=by unfold Hk;rw[PH.put_ne _ _ hbj];exact PH.put_self _ _ _
 have kj:Hk b j x v T s j=some (.cells #[uv s] 54 (0,0)):=PH.put_self _ _ _;have hb:=PH.or_right hd kb;refine Hf e0l ?_;refine Bn e0m rfl rfl hb (u:=v) (by rfl) rfl ?_;have hsl:∀{pre X'},J pre X'->SE (X'.or (Hk b j x v T s)) 2 (fun e:Nat×Nat=>[ii (e.1:Nat),ii (e.2:Nat)]) v es:=fun hJ=>hv.mono ((hRo _ _ hJ).trans (PH.le_or _ _));refine j1 el_edge (hsl hX) ?_;refine s8 (α:=Nat×List (Nat×Nat×Nat)×PH) (fun a=>[ii (a.1:Nat)]) (fun a H'=>a.1<=es.length/\H'=a.2.2.or (Hk b j x v T s)/\Disj a.2.2 (Hk b j x v T s)/\a.2.1++Bj s a.1 (es.drop a.1)=Bj s 0 es/\J (a.2.1.map fun y:Nat×Nat×Nat=>[ii (y.1:Int),ev2 y.2]) a.2.2) (fun a=>es.length-a.1) (0,[],X)
  rfl ⟨bI _,rfl,hd,rfl,hX⟩ fun a H' hQ=> ?_
 obtain⟨i,pre,X'⟩:=a;obtain⟨hi,rfl,qZ,qG,hJ⟩:=hQ;simp only at hi qZ qG hJ;simp only[cA,nA];refine d9 (d9 ?_);refine g7 (b:=decide (((i:Nat):Int)<(es.length:Nat))) rfl (fun h=> ?_) (fun h=> ?_)
 ·replace h:=oDt h;have qB:i<es.length:=aA;obtain⟨e,hx,tK⟩:=m7 qB;obtain⟨he1,he2⟩:=he e (aG hx);have xF:=PH.or_right qZ kj;refine j4 el_edge (hsl hJ) hx fun _=> ?_;refine d4 (el_edge.vcells e) ?_;refine Bn Nc rfl rfl xF rfl rfl ?_;refine s6 (NG hs he1 he2) rfl ?_;refine d9 ?_;rw[tK]at qG;refine g7 (b:=bit s e.1&&bit s e.2) rfl (fun sZ=> ?_) (fun sZ=> ?_)
  ·simp only[Bj,sZ,if_true]at qG;refine yd (hr _ [ii (i:Nat),ev2 e] X' (Hk b j x v T s) ⟨(i,e),by rw[<-qG,aX,bV (aS _),jI];rfl,rfl⟩ hJ qZ) rfl rfl rfl rfl rfl fun v2 X2 qL hV=> ?_;obtain⟨bb,rfl,qX,rE⟩:∃bb,v2= .bool bb/\(bb=true->J ((pre.map fun y:Nat×Nat×Nat=>[ii (y.1:Int),ev2 y.2])++[[ii (i:Nat),ev2 e]]) X2)/\(bb=false->Jx ((pre.map fun y:Nat×Nat×Nat=>[ii (y.1:Int),ev2 y.2])++[[ii (i:Nat),ev2 e]]) X2):=by
    rcases hV with⟨rfl,h⟩|⟨rfl,h⟩
    ·exact⟨true,rfl,fun _=>h,(fun h=>nomatch h)⟩
    ·exact⟨false,rfl,(fun h=>nomatch h),fun _=>h⟩
   refine d9 ?_;refine g7 (b:= !bb) rfl (fun sD=> ?_) (fun sD=> ?_)
   ·exact g6 rfl ⟨X2,_,Pl.refl _,qL,.inr ⟨_,trivial,rE (by simpa using sD)⟩⟩
   ·exact⟨(i+1,pre++[(i,e)],X2),by show es.length-(i+1)<es.length-i;omega,z8 (i6 rfl aA),⟨by show i+1<=es.length;omega,rfl,qL,by rw[bH];exact qG,by rw[aT];exact qX (by simpa using sD)⟩⟩
  ·simp only[Bj,sZ]at qG;exact⟨(i+1,pre,X'),by show es.length-(i+1)<es.length-i;omega,z8 (i6 rfl aA),⟨by show i+1<=es.length;omega,rfl,qZ,by simpa using qG,hJ⟩⟩
 ·replace h:=oDf h;rw[eD aA]at qG;simp only[Bj,bQ]at qG;exact g6 rfl ⟨X',_,Pl.refl _,qZ,.inl ⟨_,by rw[aX,qG],hJ⟩⟩
end
section
variable {H:PH} {w:Value} {n x c set left bw:Nat} {es:List (Nat×Nat)}
theorem bEn (a b:Nat):Value.bool (((a:Nat):Int)==((b:Nat):Int))= .bool (decide (a=b)):=by
 rw[bE];congr 1;apply decide_eq_decide.2;omega
end
end Go.Z

/- Concrete runs: what the evaluator leans on, for this program. -/
import Derived.Test.YtkcjbfoejpfbbaaGreatDoorRzU
import Derived.Test.YtkcjbfoejpfbbaaGreatDoorRzM
import Derived.Test.YtkcjbfoejpfbbaaGreatDoorGaD
import Derived.Test.YtkcjbfoejpfbbaaGreatDoorWdR
namespace Go.GS
theorem c7c:∀(n s:Nat),s≠0->s<2^n->Go.Proofs.YtkcjbfoejpfbbaaGreatDoor.tzR n s<n/\s.testBit (Go.Proofs.YtkcjbfoejpfbbaaGreatDoor.tzR n s)=true/\∀y,y<Go.Proofs.YtkcjbfoejpfbbaaGreatDoor.tzR n s->s.testBit y=false
 |0,s,h,hs=>by simp at hs;omega
 |n+1,s,h,hs=>by
  rw[Nat.pow_succ]at hs
  unfold Go.Proofs.YtkcjbfoejpfbbaaGreatDoor.tzR
  cases hb:Nat.beq (Nat.mod s 2) 1 with
  |true=>
   have hm:s%2=1:=Nat.eq_of_beq_eq_true hb
   simp only[cond_true]
   exact⟨by omega,by rw[Nat.testBit_zero];simp[hm],fun y hy=>by omega⟩
  |false=>
   have hm:s%2≠1:=fun e=>by rw[show Nat.mod s 2=1 from e]at hb;simp at hb
   have hd:s/2≠0:=by omega
   obtain⟨h1,h2,h3⟩:=c7c n (s/2) hd (by omega)
   simp only[cond_false]
   refine⟨Nat.succ_lt_succ h1,?_,fun y hy=> ?_⟩
   ·rw[Nat.succ_eq_add_one,Nat.testBit_succ];exact h2
   ·cases y with
    |zero=>rw[Nat.testBit_zero];simp[hm]
    |succ y=>rw[Nat.testBit_succ];exact h3 y (Nat.lt_of_succ_lt_succ hy)
theorem d3Q {s:Nat} (h:s≠0) (hs:s<M64):Go.Proofs.YtkcjbfoejpfbbaaGreatDoor.tzR 64 s=Go.Proofs.YtkcjbfoejpfbbaaGreatDoor.tz s:=by
 obtain⟨h1,h2,h3⟩:=c7c 64 s h hs
 unfold Go.Proofs.YtkcjbfoejpfbbaaGreatDoor.tz
 cases he:els s with
 |nil=>exact absurd (a4M hs he) h
 |cons x r=>
  obtain⟨b1,b2,b3⟩:=a3x he
  show _=x
  rcases Nat.lt_trichotomy (Go.Proofs.YtkcjbfoejpfbbaaGreatDoor.tzR 64 s) x with hlt|heq|hgt
  ·have:=b3 _ hlt;unfold bit at this;rw[h2]at this;cases this
  ·exact heq
  ·have:=h3 _ hgt;unfold bit at b1;rw[b1]at this;cases this
end Go.GS
namespace Go.RZ
open Go.RowKit Go.RX Go.GS
def a7n (H:PH) (b:Nat):PH:=fun k=>if k=b then none else H k
theorem Inv.cut {P:Program} {σ:Rl} {s:S} {wm k:Nat} {H0 H:PH} {o:AO} (h:Inv P σ s wm H0 H) (hk:s.get k=some o) (hw:wm<=k):Inv P σ (s.del k) wm H0 (a7n H (σ k).1):=by
 have h':=h.del k
 refine⟨fun{j o'} hj=> ?_,fun hi hj he=>h'.inj hi hj he,fun b x hb=> ?_,fun hj hwj=>h'.fr hj hwj⟩
 ·obtain⟨h1,h2,h3⟩:=h'.ob hj
  refine⟨h1,h2,RO.ext (fun _ _=>rfl) h1 ?_ h2 h3⟩
  unfold a7n
  rw[if_neg]
  intro e
  rw[S.get_del]at hj
  split at hj
  ·cases hj
  ·rename_i hjk;exact hjk (h.inj hj hk e)
 ·unfold a7n
  rw[if_neg]
  ·exact h.le _ _ hb
  ·intro e;subst e;rw[h.fr hk hw]at hb;cases hb
theorem c7d {H:PH} {b:Nat} {ob:Obj} (h:H b=some ob):H=(a7n H b).or (PH.nil.put b ob):=by
 funext k
 unfold PH.or a7n PH.put PH.nil
 by_cases e:k=b
 ·subst e;simp[h]
 ·simp only[if_neg e];cases H k<;>rfl
theorem b4X {H:PH} {b:Nat} {ob:Obj}:Disj (a7n H b) (PH.nil.put b ob):=fun k hk=>by
 unfold a7n at hk
 unfold PH.put PH.nil
 by_cases e:k=b
 ·rw[if_pos e]at hk;exact absurd rfl hk
 ·rw[if_neg e]
theorem d0A {H:PH} {b j:Nat} {ob oj:Obj} (hbj:b≠j) (h:H b=some ob) (h':H j=some oj):H=(a7n (a7n H b) j).or ((PH.nil.put b ob).put j oj):=by
 funext k
 unfold PH.or a7n PH.put PH.nil
 by_cases e:k=j
 ·subst e;simp[h']
 ·by_cases e2:k=b
  ·subst e2;simp[e,h]
  ·simp only[if_neg e,if_neg e2];cases H k<;>rfl
theorem c1L {H:PH} {b j:Nat} {ob oj:Obj}:Disj (a7n (a7n H b) j) ((PH.nil.put b ob).put j oj):=fun k hk=>by
 unfold a7n at hk
 unfold PH.put PH.nil
 by_cases e:k=j
 ·rw[if_pos e]at hk;exact absurd rfl hk
 ·rw[if_neg e]at hk
  by_cases e2:k=b
  ·rw[if_pos e2]at hk;exact absurd rfl hk
  ·rw[if_neg e,if_neg e2]
end Go.RZ
namespace Go.Proofs.YtkcjbfoejpfbbaaGreatDoor
open Go.Proofs.Tryz
open Go.RowKit Go.RX Go.GS Go.RZ
theorem d3R:∀t,kty t=true->a7R prog t:=fun t h=>by
 have big:6<=(prog).types.size+1:=of_decide_eq_true (by kernel_rfl)
 simp only[kty,Bool.or_eq_true]at h
 rcases h with((h|h)|h)|h<;>obtain rfl:=a1E h<;>exact⟨by kernel_rfl,by kernel_rfl,by kernel_rfl,by kernel_rfl,by kernel_rfl,big⟩
theorem d3S:∀g vs v,own g vs=some v->∀σ,Own prog g (rzs σ vs) (rz σ v)/\∀n,lts n vs->lt n v:=fun g vs v h σ=>by
 unfold own at h
 split at h
 ·rename_i x y c
  cases hc:Nat.blt x 18446744073709551616&&Nat.blt y 18446744073709551616&&Nat.ble c 1 with
  |false=>rw[hc]at h;cases h
  |true=>
   rw[hc]at h
   simp only[cond_true]at h
   simp only[Bool.and_eq_true]at hc
   obtain⟨⟨h1,h2⟩,h3⟩:=hc
   cases ha:Nat.beq g 242 with
   |true=>
    rw[ha]at h
    simp only[cond_true,Option.some.injEq]at h;subst h
    rw[a1E ha]
    exact⟨by simp only[rzs,rz];exact a4p x y c (a2R h1) (a2R h2) (a3g h3),fun n _=>by simp[lt,lts]⟩
   |false=>
    rw[ha]at h
    simp only[cond_false]at h
    cases hs:Nat.beq g 243 with
    |true=>
     rw[hs]at h
     simp only[cond_true,Option.some.injEq]at h;subst h
     rw[a1E hs]
     refine⟨?_,fun n _=>by simp[lt,lts]⟩
     have:=a6A x y c (a3g h3)
     have e:(bif Nat.blt x (Nat.add y c)then 1 else 0)=(if x<y+c then 1 else 0):=by
      by_cases hh:x<y+c
      ·rw[if_pos hh,show Nat.blt x (Nat.add y c)=true from by simpa[Nat.blt_eq]using hh];rfl
      ·rw[if_neg hh,show Nat.blt x (Nat.add y c)=false from Bool.eq_false_iff.2 fun e=>hh (a2R e)];rfl
     simp only[rzs,rz,e]
     exact this
    |false=>rw[hs]at h;cases h
 ·cases h
theorem a1a {α:Type} {b:Bool} {x y:Option α} {v:α} (h:(bif b then x else y)=some v):(b=true/\x=some v)\/(b=false/\y=some v):=by
 cases b
 ·exact .inr ⟨rfl,h⟩
 ·exact .inl ⟨rfl,h⟩
def Orc (K0:PH) (g:FuncId) (vs:List AV) (v:AV):Prop:=∀σ H,PH.le K0 H->(Con prog g (rzs σ vs) H fun u H'=>u=rz σ v/\H'=H)/\∀n,lt n v
theorem d6m {K0:PH} (hT:Tb K0) {vs:List AV} {v:AV} (h:d6g vs=some v):Orc K0 101 vs v:=fun σ H hl=>by
 unfold d6g at h
 split at h
 ·rename_i s
  rcases a1a h with⟨hc,h'⟩|⟨_,h'⟩
  ·simp only[Bool.and_eq_true]at hc
   have h0:s≠0:=by have:=a2R hc.1;omega
   have hs:s<M64:=a2R hc.2
   simp only[Option.some.injEq]at h';subst h'
   refine⟨(b0O (hT.mono hl) hs).mono fun u H' ⟨h1,h2⟩=>⟨?_,h1⟩,fun n=>by simp[lt]⟩
   rw[h2,<-d3Q h0 hs,rz];rfl
  ·cases h'
 ·cases h
theorem d6n {K0:PH} {vs:List AV} {v:AV} (h:d6h vs=some v):Orc K0 160 vs v:=fun σ H hl=>by
 unfold d6h at h
 split at h
 ·rename_i s
  rcases a1a h with⟨hc,h'⟩|⟨_,h'⟩
  ·simp only[Option.some.injEq]at h';subst h'
   refine⟨?_,fun n=>by simp[lt]⟩
   have e:d6f s=Go.WD.blen s:=by
    unfold d6f Go.WD.blen
    cases hb:Nat.beq s 0 with
    |true=>have:=a1E hb;subst this;rfl
    |false=>rw[if_neg (fun e=>by subst e;simp at hb)];rfl
   have:=(a4r s (a2R hc)).con H
   simp only[rzs,rz,e]
   exact this
  ·cases h'
 ·cases h
theorem d6o {K0:PH} {vs:List AV} {v:AV} (h:d6i vs=some v):Orc K0 128 vs v:=fun σ H hl=>by
 unfold d6i at h
 split at h
 ·rename_i s
  rcases a1a h with⟨hc,h'⟩|⟨_,h'⟩
  ·simp only[Option.some.injEq]at h';subst h'
   refine⟨?_,fun n=>by simp[lt]⟩
   have:=(b4g (s:=s) (a2R hc)).con H
   simp only[rzs,rz]
   exact this
  ·cases h'
 ·cases h
theorem d6p {K0:PH} {vs:List AV} {v:AV} (h:d6j vs=some v):Orc K0 260 vs v:=fun σ H hl=>by
 unfold d6j at h
 split at h
 ·rename_i x y
  rcases a1a h with⟨hc,h'⟩|⟨_,h'⟩
  ·simp only[Bool.and_eq_true]at hc
   simp only[Option.some.injEq]at h';subst h'
   refine⟨?_,fun n=>by simp[lt,lts]⟩
   have:=(b0w x y (a2R hc.1) (a2R hc.2)).con H
   simp only[rzs,rz]
   exact this
  ·cases h'
 ·cases h
theorem d6q {K0:PH} {vs:List AV} {v:AV} (h:d6k vs=some v):Orc K0 261 vs v:=fun σ H hl=>by
 unfold d6k at h
 split at h
 ·rename_i hi lo y
  rcases a1a h with⟨hc,h'⟩|⟨_,h'⟩
  ·simp only[Bool.and_eq_true]at hc
   simp only[Option.some.injEq]at h';subst h'
   refine⟨?_,fun n=>by simp[lt,lts]⟩
   have:=(b0z hi lo y (a2R hc.1.1) (a2R hc.1.2) (a2R hc.2)).con H
   simp only[rzs,rz]
   exact this
  ·cases h'
 ·cases h
theorem d3T {K0:PH} (hT:Tb K0) {g:FuncId} {vs:List AV} {v:AV} (h:orv g vs=some v):Orc K0 g vs v:=by
 unfold orv at h
 rcases a1a h with⟨hg,h⟩|⟨_,h⟩
 ·rw[a1E hg];exact d6m hT h
 rcases a1a h with⟨hg,h⟩|⟨_,h⟩
 ·rw[a1E hg];exact d6n h
 rcases a1a h with⟨hg,h⟩|⟨_,h⟩
 ·rw[a1E hg];exact d6o h
 rcases a1a h with⟨hg,h⟩|⟨_,h⟩
 ·rw[a1E hg];exact d6p h
 rcases a1a h with⟨hg,h⟩|⟨_,h⟩
 ·rw[a1E hg];exact d6q h
 cases h
theorem c1M {σ:Rl}:∀{l:List AV} {el:List (Nat×Nat)},d3E l=some el->rzs σ l=el.flatMap (fun e:Nat×Nat=>[ii (e.1:Nat),ii (e.2:Nat)])/\∀e∈el,e.1<=64/\e.2<=64
 |l,el,h=>by
  unfold d3E at h
  split at h
  ·simp only[Option.some.injEq]at h;subst h;exact⟨rfl,fun e he=>absurd he (by simp)⟩
  ·rename_i a b r
   obtain⟨hg,h⟩:=a0p h
   rw[Bool.and_eq_true]at hg
   split at h
   ·rename_i q hq
    simp only[Option.some.injEq]at h;subst h
    obtain⟨h1,h2⟩:=c1M (σ:=σ) hq
    refine⟨by rw[List.flatMap_cons,<-h1];simp only[rzs,rz];rfl,fun e he=> ?_⟩
    rcases List.mem_cons.1 he with rfl|he
    ·exact⟨a3g hg.1,a3g hg.2⟩
    ·exact h2 e he
   ·cases h
  ·cases h
theorem c1N:∀el:List (Nat×Nat),(el.flatMap (fun e:Nat×Nat=>[ii (e.1:Nat),ii (e.2:Nat)])).length=el.length*2
 |[]=>rfl
 |e::r=>by rw[List.flatMap_cons,List.length_append,c1N r,List.length_cons];simp;omega
theorem d0B {σ:Rl} (y:Nat×(Nat×Nat)):rzs σ (d3F y)=[ii (y.1:Nat),ev2 y.2]:=by simp only[d3F,rzs,rz];rfl
theorem d0C (n:Nat) (y:Nat×(Nat×Nat)):lts n (d3F y):=by simp[d3F,lts,lt]
def d4Z (h:FuncId) (cs:List AV) (s:S) (ys:List (List AV)) (ks ls:List Nat) (K0:PH):Prop:=∀σ wm H0 H s',PH.le K0 H0->lts s.n cs->Inv prog σ s wm H0 H->a3c s wm ks=some s'->∃X K Ro E S Sp,
  H=X.or K/\Disj X K/\Inv prog σ s' wm H0 X/\a7q prog h=true/\ItC prog h (rzs σ cs) Ro K E S Sp/\(∀X',PH.le K0 X'->(∀k∈ls,X' (σ k).1=X (σ k).1)->PH.le Ro X')/\
  (∀pre xs,E pre xs->∃y,ys[pre.length]? =some y/\xs=rzs σ y)/\(∀l K',S l K'->l.length=ys.length)/\∀y∈ys,lts s.n y
theorem d7a {s s':S} {wm k:Nat} (h:a3c s wm [k]=some s'):wm<=k/\s'=s.del k:=by
 simp only[a3c]at h
 obtain⟨h1,h⟩:=a0p h
 split at h
 ·simp only[Option.some.injEq]at h;exact⟨a3g h1,h.symm⟩
 ·cases h
theorem d7k {s s':S} {wm k j:Nat} (h:a3c s wm [k,j]=some s'):wm<=k/\wm<=j/\s'=(s.del k).del j/\∃o,(s.del k).get j=some o:=by
 simp only[a3c]at h
 obtain⟨h1,h⟩:=a0p h
 split at h
 ·obtain⟨h2,h⟩:=a0p h
  split at h
  ·rename_i o ho
   simp only[Option.some.injEq]at h;exact⟨a3g h1,a3g h2,h.symm,o,ho⟩
  ·cases h
 ·cases h
theorem d3U {K0:PH} (hT:Tb K0) {s:S} {k:Nat} {ys:List (List AV)} {ks ls:List Nat} (h:d0t s k=some (ys,ks,ls)):d4Z 220 [.ptr k 0] s ys ks ls K0:=by
 intro σ wm H0 H s' hK hlc hI hdel
 unfold d0t at h
 split at h
 ·rename_i p T hk
  obtain⟨hg,h⟩:=a0p h
  rw[Bool.and_eq_true]at hg
  obtain⟨g1,g2⟩:=hg
  have g1:=a1E g1
  have hp:p<M64:=a2R g2
  simp only[Option.some.injEq,Prod.mk.injEq]at h
  obtain⟨rfl,rfl,rfl⟩:=h
  obtain⟨hw,rfl⟩:=d7a hdel
  have hR:=(hI.ob hk).2.2
  simp only[RO,rzs,rz,g1]at hR
  refine⟨a7n H (σ k).1,a5M (σ k).1 p,K0,_,_,_,c7d hR,b4X,hI.cut hk hw,b0P,by simp only[rzs,rz];exact b0R hp hT,fun X' hX _=>hX,fun pre xs hE=> ?_,fun l K' hl=> ?_,fun y hy=> ?_⟩
  ·obtain⟨x,h1,rfl,_⟩:=hE
   exact⟨_,by rw[List.getElem?_map,h1];rfl,by simp only[rzs,rz];rfl⟩
  ·rw[hl,List.length_map,List.length_map]
  ·obtain⟨x,_,rfl⟩:=List.mem_map.1 hy
   simp[lts,lt]
 ·cases h
theorem d3V {K0:PH} {s:S} {k:Nat} {ys:List (List AV)} {ks ls:List Nat} (h:d0v s k=some (ys,ks,ls)):d4Z 233 [.ptr k 0] s ys ks ls K0:=by
 intro σ wm H0 H s' hK hlc hI hdel
 unfold d0v at h
 split at h
 ·rename_i p T hk
  obtain⟨hg,h⟩:=a0p h
  rw[Bool.and_eq_true]at hg
  obtain⟨g1,g2⟩:=hg
  have g1:=a1E g1
  have hp:p<M64:=a2R g2
  simp only[Option.some.injEq,Prod.mk.injEq]at h
  obtain⟨rfl,rfl,rfl⟩:=h
  obtain⟨hw,rfl⟩:=d7a hdel
  have hR:=(hI.ob hk).2.2
  simp only[RO,rzs,rz,g1]at hR
  refine⟨a7n H (σ k).1,a5M (σ k).1 p,K0,_,_,_,c7d hR,b4X,hI.cut hk hw,c0R,by simp only[rzs,rz];exact c0U hp,fun X' hX _=>hX,fun pre xs hE=> ?_,fun l K' hl=> ?_,fun y hy=> ?_⟩
  ·obtain⟨x,h1,rfl⟩:=hE
   exact⟨_,by rw[List.getElem?_map,h1];rfl,by simp only[rzs,rz];rfl⟩
  ·rw[hl,List.length_map]
  ·obtain⟨x,_,rfl⟩:=List.mem_map.1 hy
   simp[lts,lt]
 ·cases h
theorem d3W {K0:PH} {s:S} {k j:Nat} {ys:List (List AV)} {ks ls:List Nat} (h:d0u s k j=some (ys,ks,ls)):d4Z 168 [.ptr k 0,.ptr j 0] s ys ks ls K0:=by
 intro σ wm H0 H s' hK hlc hI hdel
 unfold d0u at h
 split at h
 ·rename_i x es T p T2 hk hj
  obtain⟨hg,h'⟩:=a0p h
  clear h
  simp only[Bool.and_eq_true,Bool.not_eq_true']at hg
  obtain⟨⟨⟨⟨g1,g2⟩,g3⟩,g4⟩,g6⟩:=hg
  have g1:=a1E g1
  have hp:p<M64:=a2R g2
  have hkj:k≠j:=fun e=>by subst e;simp at g3
  split at h'
  ·rename_i l hl
   split at h'
   ·rename_i el hel
    obtain⟨g5,h⟩:=a0p h'
    clear h'
    have g5:el.length<=1000000:=by have:=a3g g5;rwa[a0K]at this
    simp only[Option.some.injEq,Prod.mk.injEq]at h
    obtain⟨rfl,rfl,rfl⟩:=h
    obtain⟨hw,hwj,rfl,oj,hoj⟩:=d7k hdel
    have hR:=(hI.ob hk).2.2
    have hRj:=(hI.ob hj).2.2
    simp only[RO,rzs,rz]at hR
    simp only[RO,rzs,rz,g1]at hRj
    have hbj:(σ k).1≠(σ j).1:=fun e=>hkj (hI.inj hk hj e)
    obtain⟨he1,he2⟩:=c1M (σ:=σ) hel
    have hIc:=(hI.cut hk hw).cut hoj hwj
    have h2:(prog).cellsOf 100=2:=by kernel_rfl
    have hsl:∃Ro:PH,SE Ro 2 (fun e:Nat×Nat=>[ii (e.1:Nat),ii (e.2:Nat)]) (rz σ es) el/\∀X',(∀q∈d1K es,X' (σ q).1=(a7n (a7n H (σ k).1) (σ j).1) (σ q).1)->(∀q∈d1K es,(a7n (a7n H (σ k).1) (σ j).1) (σ q).1=H (σ q).1)->PH.le Ro X':=by
     cases es
     case nsl=>
      simp only[rdS,Option.some.injEq]at hl
      subst hl
      unfold d3E at hel
      simp only[Option.some.injEq]at hel
      subst hel
      exact⟨PH.nil,⟨rfl,none,0,by rw[rz];rfl,Nat.le_refl _,Nat.zero_le _,.inl rfl⟩,fun X' _ _ b o hb=>by cases hb⟩
     case sl q o n c=>
      simp only[d4Y,Bool.and_eq_true]at g4
      have c1:=a3g g4.1
      have c2:=a3g g4.2
      obtain⟨_,hs⟩:=b3W (σ:=σ) hl hI
      obtain⟨k3,q3,n3,c3,e3,l3,len3,cs3,T3,hH3,ht3⟩:=hs.resolve_left (fun h=>by cases h.1)
      rw[rz]at e3
      injection e3 with e3 e4 e5
      subst e4;subst e5
      injection e3 with e3
      injection e3 with e3 e6
      subst e6
      rw[h2]at len3 ht3
      have hlen:el.length=n:=by
       have:=congrArg List.length he1
       rw[a0w,len3,c1N]at this
       omega
      refine⟨fun b=>if b=(σ q).1 then H b else none,⟨by rw[<-he1,a0w,len3,hlen],some ⟨(σ q).1,o,none⟩,c,by rw[rz,hlen],by omega,by simp only[maxLen];omega,.inr ⟨(σ q).1,o,cs3,T3,(0,0),rfl,by show(if(σ q).1=(σ q).1 then H (σ q).1 else none)=_;rw[if_pos rfl,e3];exact hH3,by rw[hlen,<-he1];exact ht3⟩⟩,fun X' h1 h3 b ob hb=> ?_⟩
      simp only at hb
      split at hb
      ·rename_i e;subst e
       rw[h1 q (by simp[d1K]),h3 q (by simp[d1K])];exact hb
      ·cases hb
     all_goals exact absurd g4 (by simp[d4Y])
    obtain⟨Ro,hse,hro⟩:=hsl
    have hvc:(rz σ es).cells= #[rz σ es]:=by
     cases es
     case nsl=>simp[rz,Value.cells]
     case sl=>simp[rz,Value.cells]
     all_goals exact absurd g4 (by simp[d4Y])
    refine⟨a7n (a7n H (σ k).1) (σ j).1,b1x (σ k).1 (σ j).1 (rz σ x) (rz σ es) T p,Ro,_,_,_,d0A hbj hR hRj,c1L,hIc,a4y,by simp only[rzs,rz];exact a4z hp hbj he2 g5 hse hvc,fun X' _ hX=>hro X' hX fun q hq=> ?_,fun pre xs hE=> ?_,fun l K' hl=> ?_,fun y hy=> ?_⟩
    ·have hne:∃o,s.get q=some o/\q≠k/\q≠j:=by
      cases es
      case sl q' o n c=>
       obtain rfl:=List.mem_singleton.1 hq
       simp only[d6Y,Bool.and_eq_true,Bool.not_eq_true']at g6
       simp only[rdS]at hl
       have hlive:∃o',s.get q=some o':=by
        cases e:s.get q with
        |none=>simp[pkL,e]at hl
        |some o'=>exact⟨o',rfl⟩
       obtain⟨o',ho'⟩:=hlive
       exact⟨o',ho',fun e=>by subst e;simp at g6,fun e=>by subst e;simp at g6⟩
      all_goals exact absurd hq (by simp[d1K])
     obtain⟨o,ho,n1,n2⟩:=hne
     unfold a7n
     rw[if_neg (fun e=>n2 (hI.inj ho hj e)),if_neg (fun e=>n1 (hI.inj ho hk e))]
    ·obtain⟨y,h1,rfl⟩:=hE
     exact⟨_,by rw[List.getElem?_map,h1];rfl,(d0B y).symm⟩
    ·rw[hl,List.length_map]
    ·obtain⟨y,_,rfl⟩:=List.mem_map.1 hy
     exact d0C _ y
   ·cases h'
  ·cases h'
 ·cases h
theorem d3X {K0:PH} (hT:Tb K0):∀h cs s ys ks ls,itb h cs s=some (ys,ks,ls)->d4Z h cs s ys ks ls K0:=fun f cs s ys ks ls h=>by
 unfold itb at h
 split at h
 ·rename_i k
  rcases a1a h with⟨hg,h⟩|⟨_,h⟩
  ·rw[a1E hg];exact d3U hT h
  rcases a1a h with⟨hg,h⟩|⟨_,h⟩
  ·rw[a1E hg];exact d3V h
  cases h
 ·rename_i k j
  rcases a1a h with⟨hg,h⟩|⟨_,h⟩
  ·rw[a1E hg];exact d3W h
  cases h
 ·cases h
theorem sup {K0:PH} (hT:Tb K0):Sup prog kty tab orc own itb K0 where
 mix:=a0r
 key:=d3R
 tab:=d3G
 orc:=fun g vs s wm a0H h σ H0 H hK hl hI=>by
  unfold orc at h
  split at h
  ·rename_i v hv
   simp only[Option.some.injEq]at h;subst h
   obtain⟨h1,h2⟩:=d3T hT hv σ H (hK.trans hI.le)
   exact h1.mono fun u H' ⟨hu,hH⟩=>⟨_,List.mem_singleton.2 rfl,σ,hu,h2 _,by rw[hH];exact hI,Ex.refl _ _⟩
  ·cases h
 own:=d3S
 itb:=d3X hT
theorem d0D {H:PH}:Inv prog (fun _=>(0,0)) ⟨0,.nil⟩ 0 H H where
 ob:=fun{k o} h=>by have h:none=some o:=h;cases h
 inj:=fun{j k o o'} h=>by have h:none=some o:=h;cases h
 le:=PH.le.refl _
 fr:=fun{k o} h=>by have h:none=some o:=h;cases h
end Go.Proofs.YtkcjbfoejpfbbaaGreatDoor
/- works() of chapter 32, evaluated. -/
namespace Go.Proofs.YtkcjbfoejpfbbaaGreatDoor
open Go.Proofs.Tryz
open Go.RowKit Go.RX Go.RZ
noncomputable def d5a:List (AV×S)->Bool
 |[]=>true
 |p::r=>eqV p.1 (.bool true)&&d5a r
noncomputable def d7l:Option (List (AV×S))->Bool
 |some l=>d5a l
 |none=>false
theorem c1O:d7l (ev prog kty tab pur orc own itb 100000 a6S [] [] 0 ⟨0,.nil⟩ 0)=true:=by kernel_rfl
end Go.Proofs.YtkcjbfoejpfbbaaGreatDoor
/- works() of chapter 32 returns true. -/
namespace Go.Proofs.YtkcjbfoejpfbbaaGreatDoor
open Go.Proofs.Tryz
open Go.RowKit Go.RX Go.GS Go.RZ
theorem c1P:∀{l:List (AV×S)},d5a l=true->∀p∈l,p.1= .bool true
 |q::r,h,p,hp=>by
  simp only[d5a,Bool.and_eq_true]at h
  rcases List.mem_cons.1 hp with rfl|hp
  ·exact b0J _ _ h.1
  ·exact c1P h.2 p hp
theorem c5o {H:PH} (hT:Tb H):a8O prog 7 [] H (.bool true):=by
 have hrun:=c1O
 generalize ho:ev prog kty tab pur orc own itb 100000 a6S [] [] 0 ⟨0,.nil⟩ 0=o at hrun
 cases o with
 |none=>cases hrun
 |some a0H=>
  have:=b8K (f:=100000) (vs:=[]) (s:=⟨0,.nil⟩) (wm:=0) (H0:=H) (σ:=fun _=>(0,0)) (pur:=pur) (sup hT) (g:=7) (np:=0) (tg:=a6S) (by kernel_rfl) rfl ho (by simp[lts]) (PH.le.refl _) d0D
  refine this.mono fun u H' ⟨h1,p,hp,σ',hu,_⟩=> ?_
  rw[c1P hrun p hp,rz]at hu
  exact⟨h1,hu⟩
end Go.Proofs.YtkcjbfoejpfbbaaGreatDoor

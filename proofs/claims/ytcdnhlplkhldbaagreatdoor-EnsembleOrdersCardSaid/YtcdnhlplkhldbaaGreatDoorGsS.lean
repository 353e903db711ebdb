/- Chapter 32: library, part 3. -/
import Derived.Test.YtcdnhlplkhldbaaGreatDoorGsG
open Go.Result renaming andThen_ok->eJ
open Go.Sem renaming run_bind->eK,run_pure->eL
open List renaming any_append->lF,any_eq_true->kV,drop_eq_nil_of_le->iN,filter_cons->gJ,map_toArray->fR,mem_cons_of_mem->gB,range->eO,replicate->eS,sum_cons->eP
open Nat renaming le_of_not_lt->jW,le_total->pK,max_eq_left->oM,max_eq_right->nZ,min_eq_right->jX
set_option linter.all false
namespace Go.Z
open Proofs.Tryz RowKit RX GS
abbrev Slc:=Option Addr×Nat×Nat
def vs (s:Slc):Value:= .slice s.1 s.2.1 s.2.2
def Lx {H:PH} {sz:Nat} {α:Type} {ce:α->List Value} {v:Value} {l:List α} (h:SE H sz ce v l):∃s,v=vs s:=by
 obtain⟨_,a,c,h2,_⟩:=h;exact⟨(a,l.length,c),h2⟩
def Pe:El prog 64 40 1 false (fun s:Slc=>[vs s]) vs where
 und:=aB
 has:=aB
 cel:=aB
 agg:=aB
 pos:=aC
 one1:=fun _=>rfl
 small:=aC
 inf:=⟨(prog.info? 40).getD default,vs (none,0,0),aB,aB,aB,rfl,oDt aB⟩
 len:=fun _=>rfl
 val:=fun _=>rfl
 cells:=fun _=>rfl
 one:=fun x c hc=>by simp at hc;subst hc;rfl
section
variable {H:PH} {u v:Value} {l:List Int}
def c8G {f:FuncId} {caps:List Value} {q:Int->Bool} (hu:SI H u l) (rZ:n8 prog f=true) (hf:∀H' x,Pl H H'->x∈l->j4 prog f (ii x::caps) H' (.bool (q x))):Con prog 180 [u,.func (.func f) #[] caps.toArray] H fun r H'=>Pl H H'/\∃z:Int,r=ii z/\decide (z≥0)=l.any q:=by
 refine g5 mixed d4w ?_;have hl:=hu.len;refine m9 el_int hu ?_;refine r7 (α:=Nat×Int) (fun⟨i,p⟩=>[ii p,ii (i:Nat)]) (fun⟨i,p⟩=>fun H'=>i<=l.length/\Pl H H'/\(l.take i).any q=false) (fun⟨i,p⟩=>l.length-i) ((0,0)) rfl (⟨bK _,Pl.refl _,rfl⟩) fun⟨i,p⟩ H' hQ=> ?_;obtain⟨hi,l1,hq⟩:=hQ;refine b9 (b9 ?_);refine g6 (b:=decide (((i:Nat):Int)<(l.length:Nat))) rfl (fun h=> ?_) (fun h=> ?_)
 ·replace h:=oDt h;have qG:i<l.length:=aA;obtain⟨x,hx,wW⟩:=q8 qG;refine n9 el_int (hu.mono l1) hx fun _=> ?_;refine j1 (Aj (f:=f) (caps:=caps.toArray) (vs:=[ii x]) rfl rfl rfl rZ (hf _ x l1 (aK hx))) rfl ?_;rintro _ H2 ⟨l2,rfl⟩;refine nmI ?_;refine b9 ?_;refine g6 (b:=q x) rfl (fun hqx=> ?_) (fun hqx=> ?_)
  ·skip
   exact d4 rfl ⟨l1.trans l2,_,rfl,by rw[kV.2 ⟨x,aK hx,hqx⟩];exact oDd aA⟩
  ·skip
   exact⟨(i+1,p),by show l.length-(i+1)<l.length-i;omega,(i0 rfl (j5 rfl aA)),⟨qG,l1.trans l2,by rw[take_snoc hx,lF,hq];simp[hqx]⟩⟩
 ·replace h:=oDf h;rw[aI aA]at hq;exact d4 rfl ⟨l1,_,rfl,by rw[hq];rfl⟩
def zw {f:FuncId} {caps:List Value} {q:Int->Bool} (hu:SI H u l) (rZ:n8 prog f=true) (hf:∀H' x,Pl H H'->x∈l->j4 prog f (ii x::caps) H' (.bool (q x))):j4 prog 130 [u,.func (.func f) #[] caps.toArray] H (.bool (l.any q)):=by
 refine g5 mixed d4u ?_;refine f0 (c8G hu rZ hf) rfl ?_;rintro _ H1 ⟨l1,z,rfl,hz⟩;refine nmI ?_;refine b9 ?_;exact d4 rfl ⟨l1,hz ▸ rfl⟩
end
section
variable {H:PH} {u v:Value} {l:List Nat}
def c8H {f:FuncId} {caps:List Value} {q:Nat->Bool} (hu:SU H u l) (rZ:n8 prog f=true) (hf:∀H' x,Pl H H'->x∈l->j4 prog f (uv x::caps) H' (.bool (q x))):Con prog 203 [u,.func (.func f) #[] caps.toArray] H fun r H'=>Pl H H'/\∃z:Int,r=ii z/\decide (z≥0)=l.any q:=by
 refine g5 mixed d4x ?_;have hl:=hu.len;refine m9 el_u64 hu ?_;refine r7 (α:=Nat×Int) (fun⟨i,p⟩=>[ii p,ii (i:Nat)]) (fun⟨i,p⟩=>fun H'=>i<=l.length/\Pl H H'/\(l.take i).any q=false) (fun⟨i,p⟩=>l.length-i) ((0,0)) rfl (⟨bK _,Pl.refl _,rfl⟩) fun⟨i,p⟩ H' hQ=> ?_;obtain⟨hi,l1,hq⟩:=hQ;refine b9 (b9 ?_);refine g6 (b:=decide (((i:Nat):Int)<(l.length:Nat))) rfl (fun h=> ?_) (fun h=> ?_)
 ·replace h:=oDt h;have qG:i<l.length:=aA;obtain⟨x,hx,wW⟩:=q8 qG;refine n9 el_u64 (hu.mono l1) hx fun _=> ?_;refine j1 (Aj (f:=f) (caps:=caps.toArray) (vs:=[uv x]) rfl rfl rfl rZ (hf _ x l1 (aK hx))) rfl ?_;rintro _ H2 ⟨l2,rfl⟩;refine nmI ?_;refine b9 ?_;refine g6 (b:=q x) rfl (fun hqx=> ?_) (fun hqx=> ?_)
  ·skip
   exact d4 rfl ⟨l1.trans l2,_,rfl,by rw[kV.2 ⟨x,aK hx,hqx⟩];exact oDd aA⟩
  ·skip
   exact⟨(i+1,p),by show l.length-(i+1)<l.length-i;omega,(i0 rfl (j5 rfl aA)),⟨qG,l1.trans l2,by rw[take_snoc hx,lF,hq];simp[hqx]⟩⟩
 ·replace h:=oDf h;rw[aI aA]at hq;exact d4 rfl ⟨l1,_,rfl,by rw[hq];rfl⟩
def c2h {f:FuncId} {caps:List Value} {q:Nat->Bool} (hu:SU H u l) (rZ:n8 prog f=true) (hf:∀H' x,Pl H H'->x∈l->j4 prog f (uv x::caps) H' (.bool (q x))):j4 prog 144 [u,.func (.func f) #[] caps.toArray] H (.bool (l.any q)):=by
 refine g5 mixed d4v ?_;refine f0 (c8H hu rZ hf) rfl ?_;rintro _ H1 ⟨l1,z,rfl,hz⟩;refine nmI ?_;refine b9 ?_;exact d4 rfl ⟨l1,hz ▸ rfl⟩
end
section
variable {H:PH} {n:Nat} {w:Value} {es:List (Nat×Nat)} {set:Nat}
def c8I (hw:SG H w es) (hg:GV n es) (hs:set<M64):j4 prog 226 [gv n w,uv set] H (ii (if set<2^n then 0 else 2)):=by
 refine g5 mixed d9G ?_;refine b4 (Ci hw) ?_;refine i8 (Lu hw hg) rfl fun H1 l1=> ?_;refine b9 ?_;refine i7 (bF (p:=(0:Int)≠0) aD) ?_;refine Db (ja set hs) rfl ?_;refine b9 (b9 ?_);refine y5 (p:=(set≥2^n)) (by show Value.bool (decide (((Go.WD.blen set:Nat):Int)>((n:Nat):Int)))=_;congr 1;apply decide_eq_decide.2;constructor<;>intro hh<;>first|(have:=Go.WD.blen_ge hh;omega)|(apply jW;intro h2;have:=Go.WD.blen_le h2;omega)) (fun h=> ?_) fun h=> ?_
 ·exact d4 rfl ⟨l1,by rw[if_neg aA];rfl⟩
 ·exact d4 rfl ⟨l1,by rw[if_pos aA];rfl⟩
noncomputable def kh (n:Nat) (es:List (Nat×Nat)) (set:Nat):Value:=if set<2^n then .tuple #[.bool (cnB es set),ii 0]else .tuple #[.bool false,ii 2]
def c2i (hT:Tb H) (hw:SG H w es) (hg:GV n es) (hs:set<M64):j4 prog 170 [gv n w,uv set] H (kh n es set):=by
 refine g5 mixed d4z ?_;have hn:=hg.n64;refine b4 (Ci hw) ?_;refine i8 (c8I hw hg hs) rfl fun H1 l1=> ?_;refine b9 ?_;refine y5 (p:=(¬set<2^n)) (by show Value.bool ((if set<2^n then(0:Int)else 2) !=0)=_;by_cases hh:set<2^n<;>simp[hh]) (fun h=> ?_) fun h=> ?_
 ·exact d4 rfl ⟨l1,by unfold kh;rw[if_neg h,if_neg h];rfl⟩
 ·have h:set<2^n:=cL h;refine f0 (c2e (hT.mono l1) (hw.mono l1) hg h) rfl ?_;rintro u H2 ⟨l2,l,hl,hc⟩;refine nmI ?_;have e:cnB es set=decide (l.length=1):=by rw[bY,cnB_iff,<-hc];simp
  refine m9 el_u64 hl ?_;refine b9 ?_;exact d4 rfl ⟨l1.trans l2,by rw[show kh n es set= .tuple #[.bool (cnB es set),ii 0]from if_pos h,e];show Value.tuple #[.bool (((l.length:Nat):Int)==1),_]=_;rw[bE,show decide (((l.length:Nat):Int)=1)=decide (l.length=1)from decide_eq_decide.2 aA];rfl⟩
end
section
variable {H:PH} {u v w:Value} {p:List Int} {n:Nat} {es:List (Nat×Nat)}
def zx (hu:SI H u p) (k:Int):Asks prog 164 [u,ii k] H (.bool (decide (LabOk p k))):=by
 refine g5 mixed d4B ?_;have hl:=hu.len;refine m9 z6 hu ?_;refine Df (α:=Nat×Value) (fun⟨i,z⟩=>[z,ii (i:Nat)]) (fun⟨i,z⟩=>i<=p.length/\∀x∈p.take i,0<=x/\x<k) (fun⟨i,z⟩=>p.length-i) ((0,.bool false)) rfl (⟨bK _,fun x hx=>by cases hx⟩) fun⟨i,z⟩ hQ=> ?_;obtain⟨hi,hq⟩:=hQ;refine b9 (b9 ?_);refine g6 (b:=decide (((i:Nat):Int)<(p.length:Nat))) rfl (fun h=> ?_) (fun h=> ?_)
 ·replace h:=oDt h;have qG:i<p.length:=aA;obtain⟨x,hx,wW⟩:=q8 qG;refine n9 z6 hu hx fun _=> ?_;have hxm:=aK hx;refine b9 ?_;refine g6 (b:=decide (x<0)) rfl (fun h2=> ?_) (fun h2=> ?_)
  ·replace h2:=oDt h2;exact d4 rfl ⟨rfl,by rw[decide_eq_false (fun e=>by have:=e.1 x hxm;omega)];rfl⟩
  ·replace h2:=oDf h2;refine b9 ?_;refine g6 (b:=decide (x≥k)) rfl (fun h3=> ?_) (fun h3=> ?_)
   ·replace h3:=oDt h3;exact d4 rfl ⟨rfl,by rw[decide_eq_false (fun e=>by have:=e.1 x hxm;omega)];rfl⟩
   ·replace h3:=oDf h3;exact⟨(i+1,z),by show p.length-(i+1)<p.length-i;omega,(i0 rfl (j5 rfl aA)),⟨⟨qG,by rw[take_snoc hx];intro y hy;rw[aV,bB]at hy;rcases hy with hy|rfl;(exact hq y hy);omega⟩,rfl⟩⟩
 ·replace h:=oDf h;rw[aI aA]at hq;refine m9 z6 hu ?_;refine b9 ?_;refine g6 (b:=decide (((p.length:Nat):Int)>0)) rfl (fun h4=> ?_) (fun h4=> ?_)
  ·replace h4:=oDt h4;refine m9 z6 hu ?_;refine b9 ?_;exact d4 rfl ⟨rfl,congrArg Value.bool (decide_eq_decide.2 ⟨fun h5=>⟨hq,aA,by have h6:((p.length:Nat):Int)<=64:=h5;omega⟩,fun h5=>by have:=h5.2.2;show((p.length:Nat):Int)<=64;omega⟩)⟩
  ·replace h4:=oDf h4;exact d4 rfl ⟨rfl,by rw[decide_eq_false (fun e=>by have:=e.2.1;omega)];rfl⟩
def zy {k:Nat} (hk:k<=8) (hu:SI H u p) (hL:LabOk p (k:Int)):Con prog 165 [u,ii (k:Nat)] H fun r H'=>Pl H H'/\∃z,r= .tuple #[z,.bool (decide (Ez p k))]/\(Ez p k->SU H' z (Ey p k)):=by
 refine g5 mixed d4C ?_;have hl:=hu.len;have a1e:=hL.2.2;refine Ot el_u64 (z:=(0:Nat)) zf rfl rfl rfl aA rfl fun v H1 l1 o1 _=> ?_;rw[<-c2f p]at o1;refine m9 z6 (hu.mono l1) ?_;refine r7 (α:=Nat) (fun i=>[ii (i:Nat)]) (fun i=>fun H'=>i<=p.length/\Pl H H'/\SO H H' 49 1 (fun s:Nat=>[uv s]) v (Ho p k i)) (fun i=>p.length-i) (0) rfl (⟨bK _,l1,o1⟩) fun i H' hQ=> ?_;obtain⟨hi,l2,o2⟩:=hQ;refine b9 (b9 ?_);refine g6 (b:=decide (((i:Nat):Int)<(p.length:Nat))) rfl (fun h=> ?_) (fun h=> ?_)
 ·replace h:=oDt h;have qG:i<p.length:=aA;obtain⟨x,hx,wW⟩:=q8 qG;refine n9 z6 (hu.mono l2) hx fun _=> ?_;have hxk:=hL.at hx;obtain⟨d,rfl⟩:∃d:Nat,x=(d:Int):=⟨x.toNat,aA⟩;refine Ac el_u64 rfl rfl rfl rfl aF o2.se (kg p i (show d<k by omega)) rfl aF fun _=> ?_;refine b4 ⟨_,_,rfl⟩ ?_;refine b4 (by show(0:Int)<=((i:Nat):Int);omega) ?_;refine b9 ?_;refine Ee el_u64 (a:=mkN p (d:Nat) i|||2^i) rfl rfl rfl rfl aF aF l2 o2 (by rw[kf];omega) rfl (fun _=>i0 rfl (Hk rfl (Hl rfl aA) (NB _ _ aA) (Dp aA))) rfl fun p' u' H3 l4 o4 _=> ?_;rw[c2g p k hx]at o4;exact⟨i+1,aA,(p6 (j5 rfl aA)),⟨qG,l4,o4⟩⟩
 ·replace h:=oDf h;have he:i=p.length:=aA;subst he;refine r7 (α:=Nat×Value×Value) (fun⟨d,z1,z2⟩=>[z1,z2,ii (d:Nat)]) (fun⟨d,z1,z2⟩=>fun H2=>H2=H'/\d<=k/\∀j,j<d->Dq p (j:Nat)≠0) (fun⟨d,z1,z2⟩=>k-d) ((0,.slice none 0 0,.bool false)) rfl (⟨rfl,bK _,fun j hj=>by cases hj⟩) fun⟨d,z1,z2⟩ H2 wX=> ?_;obtain⟨rfl,hd,hq⟩:=wX;refine b9 (b9 ?_);refine g6 (b:=decide (((d:Nat):Int)<(k:Nat))) rfl (fun h2=> ?_) (fun h2=> ?_)
  ·replace h2:=oDt h2;refine Ac el_u64 rfl rfl rfl rfl aF o2.se (kg p _ (show d<k by omega)) rfl aF fun _=> ?_;refine b9 ?_;refine y5 (p:=(mkN p (d:Nat) p.length=0)) (bE0 _) (fun h3=> ?_) fun h3=> ?_
   ·exact d4 rfl ⟨l2,_,by rw[decide_eq_false (fun e=>e d aA h3)];rfl,fun e=>absurd h3 (e d aA)⟩
   ·exact⟨(d+1,z1,z2),by show k-(d+1)<k-d;omega,(By rfl rfl (j5 rfl aA)),⟨rfl,by show d+1<=k;omega,fun j hj=>by rcases Nat.lt_succ_iff_lt_or_eq.1 hj with hj|rfl;(exact hq j hj);exact h3⟩⟩
  ·replace h2:=oDf h2;have he:d=k:=aA;subst he;exact d4 rfl ⟨l2,v,by rw[oDd (p:=Ez p d) hq];rfl,fun _=>o2.se⟩
def c8J (hw:SG H w es) (hg:GV n es) (hu:SI H u p) (k:Int):Con prog 163 [gv n w,u,ii k] H fun r H'=>Pl H H'/\∃q,r= .tuple #[q,ii (plE n p k)]:=by
 refine g5 mixed LX ?_;refine b4 (Ci hw) ?_;refine i8 (Lu hw hg) rfl fun H1 l1=> ?_;refine b9 ?_;refine i7 (bF (p:=(0:Int)≠0) aD) ?_;refine b9 ?_;refine g6 (b:=decide (k<1)) rfl (fun h=> ?_) (fun h=> ?_)
 ·replace h:=oDt h;exact d4 rfl ⟨l1,_,by rw[show plE n p k=2 from if_pos (.inl h)];rfl⟩
 ·replace h:=oDf h;refine g6 (b:=decide (k>8)) rfl (fun h2=> ?_) (fun h2=> ?_)
  ·replace h2:=oDt h2;exact d4 rfl ⟨l1,_,by rw[show plE n p k=2 from if_pos (.inr h2)];rfl⟩
  ·replace h2:=oDf h2;have hk:¬(k<1\/k>8):=aA;obtain⟨m,rfl⟩:∃m:Nat,k=(m:Int):=⟨k.toNat,aA⟩;refine m9 z6 (hu.mono l1) ?_;refine b9 (b9 ?_);refine y5 (p:=(p.length≠n)) (by show Value.bool (((p.length:Nat):Int) !=((n:Nat):Int))=_;rw[bN];congr 1;apply decide_eq_decide.2;omega) (fun h3=> ?_) fun h3=> ?_
   ·exact d4 rfl ⟨l1,_,by rw[show plE n p (m:Nat)=210 from(if_neg hk).trans (if_neg fun e=>h3 e.1)];rfl⟩
   ·refine j9 (zx (hu.mono l1) (m:Nat)) rfl ?_;refine b9 ?_;refine g6 (b:= !decide (LabOk p (m:Nat))) rfl (fun h4=> ?_) (fun h4=> ?_)
    ·skip
     exact d4 rfl ⟨l1,_,by rw[show plE n p (m:Nat)=210 from(if_neg hk).trans (if_neg fun e=>by simp[e.2.1]at h4)];rfl⟩
    ·skip
     have hL:LabOk p (m:Nat):=by simpa using h4
     refine f0 (zy aA (hu.mono l1) hL) rfl ?_;rintro _ H2 ⟨l2,z,rfl,hz⟩;refine nmI ?_;refine g7 (g7 (b9 ?_));refine g6 (b:= !decide (Ez p m)) rfl (fun h5=> ?_) (fun h5=> ?_)
     ·skip
      exact d4 rfl ⟨l1.trans l2,_,by rw[show plE n p (m:Nat)=210 from(if_neg hk).trans (if_neg fun e=>by have:=e.2.2;rw[bU]at this;simp[this]at h5)];rfl⟩
     ·skip
      have hU:Ez p m:=by simpa using h5
      refine b4 ((hu.mono l1).one) ?_;refine b4 ((hz hU).one) ?_;refine o0 (cs:=_) rfl fun b hb=> ?_;exact d4 rfl ⟨(l1.trans l2).trans (PH.le_put hb _),_,by rw[show plE n p (m:Nat)=0 from(if_neg hk).trans (if_pos ⟨aA,hL,by rw[bU];exact hU⟩)];rfl⟩
def AA (hw:SG H w es) (hg:GV n es) (hu:SI H u p) (k:Int):j4 prog 119 [gv n w,u,ii k] H (ii (plE n p k)):=by
 refine g5 mixed d4D ?_;refine b4 (Ci hw) ?_;refine f0 (c8J hw hg hu k) rfl ?_;rintro _ H1 ⟨l1,q,rfl⟩;refine nmI ?_;refine g7 (g7 ?_);exact d4 rfl ⟨l1,rfl⟩
def NC (hu:SI H u p) (k:Nat) (h1:1<=k) (h8:k<=8) (hL:LabOk p (k:Nat)) (hU:Ez p k):Con prog 120 [u,ii (k:Nat)] H fun r H'=>Pl H H'/\∃z,r= .tuple #[z,ii 0]/\SU H' z (Ey p k):=by
 refine g5 mixed d4E ?_;refine b9 ?_;refine i7 (bF (p:=((k:Nat):Int)<1) aA) ?_;refine i7 (bF (p:=((k:Nat):Int)>8) aA) ?_;refine j9 (zx hu (k:Nat)) rfl ?_;refine b9 ?_;refine i7 (by show Value.bool (!decide (LabOk p (k:Nat)))=_;rw[oDd hL];rfl) ?_;refine f0 (zy h8 hu hL) rfl ?_;rintro _ H2 ⟨l2,z,rfl,hz⟩;refine nmI ?_;refine g7 (g7 (b9 ?_));refine i7 (by show Value.bool (!decide (Ez p k))=_;rw[oDd hU];rfl) ?_;exact d4 rfl ⟨l2,z,rfl,hz hU⟩
end
end Go.Z
namespace Go.GS
def Bd (wl:List Int) (s:Nat):Int:=((els s).map fun x=>wl.getD x 0).sum
def Pg (wl:List Int):Prop:=∀x∈wl,0<=x/\x<=1000000000
instance (wl:List Int):Decidable (Pg wl):=inferInstanceAs (Decidable (∀x∈wl,_))
def bdE (n:Nat) (wl:List Int) (lo hi ds:Int):Int:=if wl.length=n/\0<=lo/\lo<=hi/\1<=ds/\ds<=8/\Pg wl then 0 else 320
noncomputable def alB (es:List (Nat×Nat)) (wl:List Int) (lo hi:Int) (set:Nat):Bool:=Go.GS.cnB es set&&(decide (Bd wl set≥lo)&&decide (Bd wl set<=hi))
noncomputable def Fo (n:Nat) (es:List (Nat×Nat)) (wl:List Int) (lo hi ds:Int) (p:List Int):Bool:=decide (plE n p ds=0)&&(Ey p ds.toNat).all (alB es wl lo hi)
def d9R {n:Nat} {wl:List Int} {lo hi ds:Int} (h:bdE n wl lo hi ds=0):wl.length=n/\0<=lo/\lo<=hi/\1<=ds/\ds<=8/\Pg wl:=by
 unfold bdE at h;split at h
 ·assumption
 ·cases h
def ND:∀(l:List Int),(∀x∈l,0<=x/\x<=1000000000)->0<=l.sum/\l.sum<=1000000000*l.length:=by
 intro l;induction l with
 |nil=>intro _;simp
 |cons a l ih=>
  intro h;have h1:=h a aD;have h2:=ih fun x hx=>h x (gB _ hx);rw[eP,aP];omega
end Go.GS
namespace Go.Z
open Proofs.Tryz RowKit RX
set_option maxRecDepth 100000
def d4O:d9 prog [] [] [] [] 99=some (.rq (.cells 2 V0) (.rq (.cells 4 V1) (.call false 79 [(.ag V0)]
(.ri V2
(.br (.io .neq V2 (.ki 0)) (.ret [V2])
(.pm f99 4 2 [(.cell V1 0 0 noI)]
(.ri V3
(.rq (.int .i64 (.cell V0 0 0 noI)) (.br (.io .neq V3 (.cell V0 0 0 noI)) (.ret [(.ki 320)]) (.rq (.int .i64 (.cell V1 1 0 noI)) (.br (.io .lss (.cell V1 1 0 noI) (.ki 0)) (.ret [(.ki 320)]) (.rq (.int .i64 (.cell V1 2 0 noI)) (.br (.io .gtr (.cell V1 1 0 noI) (.cell V1 2 0 noI)) (.ret [(.ki 320)]) (.rq (.int .i64 (.cell V1 3 0 noI)) (.br (.io .lss (.cell V1 3 0 noI) (.ki 1)) (.ret [(.ki 320)]) (.br (.io .gtr (.cell V1 3 0 noI) (.ki 8)) (.ret [(.ki 320)]) (.call false 130 [(.cell V1 0 0 noI),(.k (.func (.func 143) #[] #[]))]
(.rq (.bool V4) (.br V4
(.ret [(.ki 320)]) (.ret [(.ki 0)])))))))))))))))))))):=aB
def c8K:d9 prog [] [] [] [] 143=some (.ri V0
(.br (.io .lss V0 (.ki 0)) (.ret [(.k (.bool true))]) (.ret [(.io .gtr V0 (.ki 1000000000))]))):=aB
def d4P:d9 prog [2] [] [] [] 100=some (.rq (.cells 6 V0) (.pub 188 V0
(.pm f100 1 0 [V2]
(.pm f100 1 1 [V3]
(.pm f100 1 3 [V2]
(.pm f100 1 4 [V5]
(.pm f100 1 5 [V6]
(.call false 119 [V4,V1,V7]
(.ri V8
(.br (.io .neq V8 (.ki 0)) (.ret [(.k (.bool false))])
(.pm f100 3 1 [V2]
(.pm f100 3 2 [V9]
(.pm f100 3 3 [V10]
(.call false 120 [V1,V11]
(.rq (.tup 0 V12) (.rq (.tup 1 V12)
(.ef false f100 4 1 [V2]
(.call false 144 [(.pj V12 0),V13]
(.rq (.bool V14) (.ret [(.nt V14)])))))))))))))))))))):=aB
def c8L:d9 prog [] [] [] [] 145=some (.pm f145 1 0 [V1]
(.call false 146 [V2,V0]
(.rq (.bool V3) (.ret [(.nt V3)])))):=aB
def d4Q:d9 prog [2] [] [] [] 146=some (.rq (.cells 6 V0) (.pub 188 V0
(.ef false f146 1 1 [V2]
(.call false 204 [V1,V3]
(.pm f146 2 0 [V2]
(.pm f146 2 1 [V5]
(.call false 170 [V6,V1]
(.rq (.tup 0 V7) (.rq (.tup 1 V7) (.rq (.bool (.pj V7 0)) (.br (.pj V7 0)
(.pm f146 3 3 [V2]
(.pm f146 3 4 [V8]
(.pm f146 3 5 [V9]
(.ri V4
(.ri V10
(.br (.io .geq V4 V10)
(.pm f146 3 10 [V2]
(.pm f146 3 11 [V11]
(.pm f146 3 12 [V12]
(.ri V13
(.ret [(.io .leq V4 V13)]))))) (.ret [(.k (.bool false))]))))))) (.ret [(.k (.bool false))])))))))))))):=aB
def c8M:d9 prog [] [] [] [] 205=some (.pm f205 1 0 [V1]
(.pm f205 1 1 [V2]
(.pm f205 1 2 [V3]
(.pm f205 1 4 [V4,V0]
(.pm f205 1 5 [V5]
(.ret [V6])))))):=aB
def d4R:d9 prog [] [] [⟨0,2,[],[]⟩] [] 204=some (.loop [(.ki 0),V0]
(.ru V3
(.br (.uo .neq V3 (kU 0)) (.call false 113 [V3]
(.ef false f204 4 4 [V1,V4]
(.ri V2
(.ri V5
(.next 0 [(.io .add V2 V5),(.uo .and V3 (.uo .sub V3 (kU 1)))]))))) (.ret [V2])))):=aB
def d4S:d9 prog [] [] [] [] 51=some (.rq (.cells 2 V0) (.rq (.cells 4 V1) (.call false 99 [(.ag V0),(.ag V1)]
(.ri V3
(.br (.io .neq V3 (.ki 0)) (.ret [(.k (.bool false)),V3]) (.call false 100 [(.cat (.ag V1) 4 (.ag V0)),V2]
(.ret [V4,(.ki 0)]))))))):=aB
open Go.GS
def bv (wts:Value) (lo hi ds:Int):Value:= .agg #[wts,ii lo,ii hi,ii ds]
def chv (wts:Value) (lo hi ds:Int) (n:Nat) (w:Value):Value:= .agg #[wts,ii lo,ii hi,ii ds,ii n,w]
def t8 {H:PH} {sz:Nat} {α:Type} {ce:α->List Value} {v:Value} {l:List α} (h:SE H sz ce v l):y6 v=true:=h.one.2 v (by rw[h.cells];simp)
def Wb {wts:Value} (h:y6 wts=true) (lo hi ds:Int):(bv wts lo hi ds).cells.size=4/\j0 (bv wts lo hi ds).cells:=by
 refine⟨rfl,fun c hc=> ?_⟩;rw[bv,Gh]at hc;simp only[bG,cF,or_false]at hc;rcases hc with rfl|rfl|rfl|rfl
 ·exact h
 all_goals rfl
def NE {wts w:Value} (h:y6 wts=true) (h2:y6 w=true) (lo hi ds:Int) (n:Nat):(chv wts lo hi ds n w).cells.size=6/\j0 (chv wts lo hi ds n w).cells:=by
 refine⟨rfl,fun c hc=> ?_⟩;rw[chv,Gh]at hc;simp only[bG,cF,or_false]at hc;rcases hc with rfl|rfl|rfl|rfl|rfl|rfl
 ·exact h
 ·rfl
 ·rfl
 ·rfl
 ·rfl
 ·exact h2
def ac:FA prog 188 0 0:=⟨aB,oDt aB,aB,aB,oDt aB⟩
def NF:FA prog 188 1 4:=⟨aB,oDt aB,aB,aB,oDt aB⟩
def e2P:FA prog 68 0 0:=⟨aB,oDt aB,aB,aB,oDt aB⟩
def e2Q:FA prog 68 1 1:=⟨aB,oDt aB,aB,aB,oDt aB⟩
def e2R:FA prog 68 2 2:=⟨aB,oDt aB,aB,aB,oDt aB⟩
def NG:FA prog 68 3 3:=⟨aB,oDt aB,aB,aB,oDt aB⟩
def Dt:Sc prog 39:=⟨aB,aB,aB⟩
def NH:Ag prog 33 2:=⟨aB,aB,aB⟩
def e2S:Ag prog 188 6:=⟨aB,aB,aB⟩
def c2l:n8 prog 143=true:=aB
def c2m:n8 prog 205=true:=aB
def c2n:n8 prog 145=true:=aB
section
variable {H:PH} {u v w wts:Value} {p wl:List Int} {n:Nat} {es:List (Nat×Nat)} {lo hi ds:Int} {set:Nat}
def c2o (x:Int):Asks prog 143 [ii x] H (.bool (decide (x<0)||decide (x>1000000000))):=by
 refine g5 mixed c8K ?_;refine b9 ?_;refine g6 (b:=decide (x<0)) rfl (fun h=> ?_) (fun h=> ?_)
 ·replace h:=oDt h;exact d4 rfl ⟨rfl,by rw[oDd h];rfl⟩
 ·replace h:=oDf h;exact d4 rfl ⟨rfl,by rw[decide_eq_false h];rfl⟩
def Wc {h:¬(wl.length=n/\0<=lo/\lo<=hi/\1<=ds/\ds<=8/\Pg wl)}:bdE n wl lo hi ds=320:=if_neg h
def c2p (hw:SG H w es) (hg:GV n es) (rG:SI H wts wl):j4 prog 99 [gv n w,bv wts lo hi ds] H (ii (bdE n wl lo hi ds)):=by
 refine g5 mixed d4O ?_;refine b4 (Ci hw) ?_;refine b4 (Wb (t8 rG) _ _ _) ?_;refine i8 (Lu hw hg) rfl fun H1 l1=> ?_;refine b9 ?_;refine i7 (bF (p:=(0:Int)≠0) aD) ?_;refine m9 el_int (rG.mono l1) ?_;refine b9 (b9 ?_);refine y5 (p:=(wl.length≠n)) (by show Value.bool (((wl.length:Nat):Int) !=((n:Nat):Int))=_;rw[bN];congr 1;apply decide_eq_decide.2;omega) (fun h=> ?_) fun h=> ?_
 ·exact d4 rfl ⟨l1,by rw[Wc (h:=fun e=>h e.1)];rfl⟩
 ·refine b9 ?_;refine g6 (b:=decide (lo<0)) rfl (fun h2=> ?_) (fun h2=> ?_)
  ·replace h2:=oDt h2;exact d4 rfl ⟨l1,by rw[Wc (h:=fun e=>aA)];rfl⟩
  ·replace h2:=oDf h2;refine b9 ?_;refine g6 (b:=decide (lo>hi)) rfl (fun h3=> ?_) (fun h3=> ?_)
   ·replace h3:=oDt h3;exact d4 rfl ⟨l1,by rw[Wc (h:=fun e=>aA)];rfl⟩
   ·replace h3:=oDf h3;refine b9 ?_;refine g6 (b:=decide (ds<1)) rfl (fun h4=> ?_) (fun h4=> ?_)
    ·replace h4:=oDt h4;exact d4 rfl ⟨l1,by rw[Wc (h:=fun e=>aA)];rfl⟩
    ·replace h4:=oDf h4;refine g6 (b:=decide (ds>8)) rfl (fun h5=> ?_) (fun h5=> ?_)
     ·replace h5:=oDt h5;exact d4 rfl ⟨l1,by rw[Wc (h:=fun e=>aA)];rfl⟩
     ·replace h5:=oDf h5;refine i8 (zw (caps:=[]) (q:=fun x=>decide (x<0)||decide (x>1000000000)) (rG.mono l1) c2l (fun H' x _ _=>(c2o x).give)) rfl fun H2 l2=> ?_;refine b9 ?_;refine g6 (b:=wl.any fun x=>decide (x<0)||decide (x>1000000000)) rfl (fun h6=> ?_) (fun h6=> ?_)
      ·skip
       rw[kV]at h6;obtain⟨x,sN,sD⟩:=h6;exact d4 rfl ⟨l1.trans l2,by rw[Wc (h:=fun e=>by have:=e.2.2.2.2.2 x sN;simp at sD;omega)];rfl⟩
      ·skip
       have hW:Pg wl:=by
        intro x hx;rw[List.any_eq_false]at h6;have:=h6 x hx;simp at this;omega
       exact d4 rfl ⟨l1.trans l2,by rw[show bdE n wl lo hi ds=0 from if_pos ⟨aA,aA,aA,aA,aA,hW⟩];rfl⟩
def b9b {b:Nat} {T:TypeId} {x:Nat} {y:Int} (hb:H b=some (.cells #[wts,ii lo,ii hi,ii ds,ii n,w] T (0,0))) (rG:SI H wts wl) (hx:wl[x]? =some y):j4 prog 205 [ii (x:Nat),.pointer (some ⟨b,0,none⟩)] H (ii y):=by
 refine g5 mixed c8M ?_;refine g8 ac ?_;refine g8 e2P ?_;refine g9 Dt rfl rfl hb rfl rfl ?_;refine n9 el_int rG hx fun _=> ?_;exact d4 rfl ⟨Pl.refl _,rfl⟩
def c2q {f:FuncId} {caps:List Value} (hT:Tb H) (hs:set<M64) (hwl:Pg wl) (wF:∀x,bit set x=true->x<wl.length) (rZ:n8 prog f=true) (hf:∀H' x y,Pl H H'->wl[x]? =some y->j4 prog f (ii (x:Nat)::caps) H' (ii y)):j4 prog 204 [uv set,.func (.func f) #[] caps.toArray] H (ii (Bd wl set)):=by
 refine g5 mixed d4R ?_;refine r7 (α:=Nat×Nat) (fun⟨k,s⟩=>[ii (((els set).take k).map fun x=>wl.getD x 0).sum,uv s]) (fun⟨k,s⟩=>fun H'=>Pl H H'/\s<M64/\k<=(els set).length/\els s=(els set).drop k) (fun⟨k,s⟩=>(els set).length-k) ((0,set)) rfl (⟨Pl.refl _,hs,bK _,rfl⟩) fun⟨k,s⟩ H' hQ=> ?_;simp only[cA,nA];obtain⟨l1,rD,hk,he⟩:=hQ;refine b9 ?_;refine y5 (p:=(s≠0)) (bN0 s) (fun h=> ?_) fun h=> ?_
 ·obtain⟨x,r,rY⟩:∃x r,els s=x::r:=by
   cases rY:els s with
   |nil=>exact absurd (Ov rD rY) h
   |cons x r=>exact⟨x,r,rfl⟩
  have htz:tz s=x:=by simp[tz,rY]
  have rA:k<(els set).length:=by
   apply Nat.lt_of_not_le;intro hh;rw[iN hh,rY]at he;cases he
  obtain⟨y,hy,hdy⟩:=q8 rA;rw[<-he,rY]at hdy;obtain⟨rfl,hr'⟩:=List.cons.inj hdy;have sQ:=wF x ((Ju hs).1 (aK hy));have hwx:wl[x]? =some wl[x]:=aG sQ;refine j9 (Zw (hT.mono l1) rD) rfl ?_;simp only[cA,nA];rw[htz];refine j1 (Aj (f:=f) (caps:=caps.toArray) (vs:=[ii (x:Nat)]) rfl rfl rfl rZ (hf _ x _ l1 hwx)) rfl ?_;rintro _ H2 ⟨l2,rfl⟩;refine nmI ?_;simp only[cA,nA];have wP:=ND (((els set).take k).map fun x=>wl.getD x 0) (by
   intro z hz;rw[aZ]at hz;obtain⟨a,ha,rfl⟩:=hz;have vD:=wF a ((Ju hs).1 (cM ha));rw[aJ,aG vD];exact hwl _ (dL vD))
  have sM:=Vy set;have wY:((((els set).take k).map fun x=>wl.getD x 0)).length<=64:=by
   rw[aR,bH];unfold card at sM;omega
  have hy2:=hwl _ (dL sQ);refine b9 (b9 ?_);exact⟨(k+1,s&&&(s-1)),by show(els set).length-(k+1)<(els set).length-k;omega,(i0 (by rw[Hm rfl rfl aA aA];show ii _=ii (((els set).take (k+1)).map fun x=>wl.getD x 0).sum;rw[take_snoc hy,bM,List.sum_append,bI,bR,eP,List.sum_nil,Int.add_zero,aJ,hwx];rfl) (Io rfl (Vx (B:=1) rfl rfl rD aA) rD (bO (Nat.sub_le _ _) rD))),⟨l1.trans l2,Su rD,rA,by rw[yy rD rY,hr']⟩⟩
 ·have h0:s=0:=aA;rw[h0,jq]at he;have tL:(els set).length<=k:=by
   apply jW;intro hh;rw[dY hh]at he;cases he
  exact d4 rfl ⟨l1,by rw[aI tL];rfl⟩
structure Chn (H:PH) (n:Nat) (w wts:Value) (es:List (Nat×Nat)) (wl:List Int):Prop where
 tb:Tb H
 gr:SG H w es
 ok:GV n es
 wt:SI H wts wl
 len:wl.length=n
 wok:Pg wl
def Chn.mono {H':PH} (h:Chn H n w wts es wl) (hl:Pl H H'):Chn H' n w wts es wl:=⟨h.tb.mono hl,h.gr.mono hl,h.ok,h.wt.mono hl,h.len,h.wok⟩
def c2r (hc:Chn H n w wts es wl) (hs:set<2^n):j4 prog 146 [chv wts lo hi ds n w,uv set] H (.bool (alB es wl lo hi set)):=by
 refine g5 mixed d4Q ?_;have rD:=MZ hc.ok.n64 hs;refine b4 (NE (t8 hc.wt) (t8 hc.gr) _ _ _ _) ?_;refine o0 (cs:= #[wts,ii lo,ii hi,ii ds,ii n,w]) rfl fun b hb=> ?_;simp only[cA,nA];have l1:=PH.le_put hb (.cells #[wts,ii lo,ii hi,ii ds,ii n,w] 188 (0,0));have b1:=PH.put_self H b (.cells #[wts,ii lo,ii hi,ii ds,ii n,w] 188 (0,0));generalize H.put b (.cells #[wts,ii lo,ii hi,ii ds,ii n,w] 188 (0,0))=H1 at l1 b1;have rX:=hc.mono l1;refine y8 (Ai (vs:=[.pointer (some ⟨b,0,none⟩)]) rfl rfl) rfl ?_;simp only[cA,nA];refine i8 (c2q (caps:=[.pointer (some ⟨b,0,none⟩)]) (wl:=wl) rX.tb rD hc.wok (fun x hx=>by rw[hc.len];exact Vz hs hx) c2m (fun H' x y hl hx=>b9b (hl _ _ b1) (rX.wt.mono hl) hx)) rfl fun H2 l2=> ?_;simp only[cA,nA];have rR:=rX.mono l2;have b2:=l2 _ _ b1;refine g8 NF ?_;simp only[cA,nA];refine x5 (vs:=[ii n,w]) NH rfl rfl b2 rfl aD rfl ?_;simp only[cA,nA];refine i8 (c2i rR.tb rR.gr hc.ok rD) rfl fun H3 l3=> ?_;simp only[cA,nA];have b3:=l3 _ _ b2;rw[show kh n es set= .tuple #[.bool (cnB es set),ii 0]from if_pos hs];refine g7 (g7 (b9 ?_));refine g6 (b:=cnB es set) rfl (fun h1=> ?_) (fun h1=> ?_)
 ·skip
  refine g8 ac ?_;simp only[cA,nA];refine g8 e2Q ?_;simp only[cA,nA];refine g9 sc_int rfl rfl b3 rfl rfl ?_;simp only[cA,nA];refine b9 (b9 ?_);refine g6 (b:=decide (Bd wl set≥lo)) rfl (fun h2=> ?_) (fun h2=> ?_)
  ·replace h2:=oDt h2;refine g8 ac ?_;simp only[cA,nA];refine g8 e2R ?_;simp only[cA,nA];refine g9 sc_int rfl rfl b3 rfl rfl ?_;simp only[cA,nA];refine b9 ?_;exact d4 rfl ⟨(l1.trans l2).trans l3,by unfold alB;rw[h1,oDd h2];rfl⟩
  ·replace h2:=oDf h2;exact d4 rfl ⟨(l1.trans l2).trans l3,by unfold alB;rw[h1,decide_eq_false h2];rfl⟩
 ·skip
  exact d4 rfl ⟨(l1.trans l2).trans l3,by unfold alB;rw[h1];rfl⟩
def b9c {b:Nat} {T:TypeId} (hc:Chn H n w wts es wl) (hb:H b=some (.cells #[wts,ii lo,ii hi,ii ds,ii n,w] T (0,0))) (hs:set<2^n):j4 prog 145 [uv set,.pointer (some ⟨b,0,none⟩)] H (.bool (!alB es wl lo hi set)):=by
 refine g5 mixed c8L ?_;refine x5 (vs:=[wts,ii lo,ii hi,ii ds,ii n,w]) e2S rfl rfl hb rfl aD rfl ?_;simp only[cA,nA];refine i8 (c2r hc hs) rfl fun H1 l1=> ?_;simp only[cA,nA];refine b9 ?_;exact d4 rfl ⟨l1,rfl⟩
def c2s (hc:Chn H n w wts es wl) (hu:SI H u p):j4 prog 100 [chv wts lo hi ds n w,u] H (.bool (Fo n es wl lo hi ds p)):=by
 refine g5 mixed d4P ?_;refine b4 (NE (t8 hc.wt) (t8 hc.gr) _ _ _ _) ?_;refine o0 (cs:= #[wts,ii lo,ii hi,ii ds,ii n,w]) rfl fun b hb=> ?_;have l1:=PH.le_put hb (.cells #[wts,ii lo,ii hi,ii ds,ii n,w] 188 (0,0));have b1:=PH.put_self H b (.cells #[wts,ii lo,ii hi,ii ds,ii n,w] 188 (0,0));generalize H.put b (.cells #[wts,ii lo,ii hi,ii ds,ii n,w] 188 (0,0))=H1 at l1 b1;have rX:=hc.mono l1;refine g8 NF ?_;refine x5 (vs:=[ii n,w]) NH rfl rfl b1 rfl aD rfl ?_;refine g8 ac ?_;refine g8 NG ?_;refine g9 sc_int rfl rfl b1 rfl rfl ?_;refine i8 (AA rX.gr hc.ok (hu.mono l1) ds) rfl fun H2 l2=> ?_;refine b9 ?_;refine y5 (p:=(plE n p ds≠0)) (bN _ _) (fun h=> ?_) fun h=> ?_
 ·exact d4 rfl ⟨l1.trans l2,by unfold Fo;rw[decide_eq_false h];rfl⟩
 ·have h0:plE n p ds=0:=cL h;have wU:=d9Q h0;have rR:=rX.mono l2;have b2:=l2 _ _ b1;refine g8 ac ?_;refine g8 NG ?_;refine g9 sc_int rfl rfl b2 rfl rfl ?_;obtain⟨k,rfl⟩:∃k:Nat,ds=(k:Int):=⟨ds.toNat,aA⟩;rw[bU]at wU;refine f0 (NC (hu.mono (l1.trans l2)) k aA aA wU.2.2.2.1 wU.2.2.2.2) rfl ?_;rintro _ H3 ⟨l3,z,rfl,hz⟩;refine nmI ?_;have uU:=rR.mono l3;have b3:=l3 _ _ b2;refine g7 (g7 ?_);refine y8 (Ai (vs:=[.pointer (some ⟨b,0,none⟩)]) rfl rfl) rfl ?_;refine i8 (c2h (caps:=[.pointer (some ⟨b,0,none⟩)]) (q:=fun s=> !alB es wl lo hi s) hz c2n (fun H' s hl hsm=>b9c (uU.mono hl) (hl _ _ b3) (by have:=c8F hsm wU.2.2.2.1.2.2;rw[wU.2.2.1]at this;exact this))) rfl fun H4 l4=> ?_;refine b9 ?_;exact d4 rfl ⟨((l1.trans l2).trans l3).trans l4,by unfold Fo;rw[oDd h0,bU,Bool.true_and];show Value.bool (!((Ey p k).any fun s=> !alB es wl lo hi s))=_;rw[List.all_eq_not_any_not]⟩
def NI (hT:Tb H) (hw:SG H w es) (hg:GV n es) (rG:SI H wts wl) (hu:SI H u p):j4 prog 51 [gv n w,bv wts lo hi ds,u] H (.tuple #[.bool (decide (bdE n wl lo hi ds=0)&&Fo n es wl lo hi ds p),ii (bdE n wl lo hi ds)]):=by
 refine g5 mixed d4S ?_;refine b4 (Ci hw) ?_;refine b4 (Wb (t8 rG) _ _ _) ?_;refine i8 (c2p hw hg rG) rfl fun H1 l1=> ?_;refine b9 ?_;refine y5 (p:=(bdE n wl lo hi ds≠0)) (bN _ _) (fun h=> ?_) fun h=> ?_
 ·exact d4 rfl ⟨l1,by rw[decide_eq_false h];rfl⟩
 ·have h0:bdE n wl lo hi ds=0:=cL h;have hb:=d9R h0;refine i8 (c2s (lo:=lo) (hi:=hi) (ds:=ds) (p:=p) (u:=u) ⟨hT.mono l1,hw.mono l1,hg,rG.mono l1,hb.1,hb.2.2.2.2.2⟩ (hu.mono l1)) rfl fun H2 l2=> ?_;exact d4 rfl ⟨l1.trans l2,by rw[oDd h0,h0];rfl⟩
end
end Go.Z
namespace Go.GS
def rst (set s:Nat) (e:Nat×Nat):Nat:=if bit set e.1&&bit set e.2&&(bit s e.1||bit s e.2)then s|||2^e.1|||2^e.2 else s
def rnd (set:Nat) (L:List (Nat×Nat)) (s:Nat):Nat:=L.foldl (rst set) s
def Ei (set:Nat) (L:List (Nat×Nat)):Nat->Nat->Nat
 |0,s=>s
 |n+1,s=>rnd set L (Ei set L n s)
def Clo (set:Nat) (L:List (Nat×Nat)) (s:Nat):Prop:=∀e∈L,bit set e.1=true->bit set e.2=true->(bit s e.1=true\/bit s e.2=true)->bit s e.1=true/\bit s e.2=true
def ae {set s:Nat} {e:Nat×Nat} {y:Nat} (h:bit s y=true):bit (rst set s e) y=true:=by
 unfold rst;split
 ·rw[Ba,Ba,h];rfl
 ·exact h
def d9V {set s:Nat} {e:Nat×Nat} (h:s<M64) (h1:e.1<64) (h2:e.2<64):rst set s e<M64:=by
 unfold rst;split
 ·exact Ss (Ss h (Dp h1)) (Dp h2)
 ·exact h
def We {set:Nat} {L:List (Nat×Nat)}:∀{s y:Nat},bit s y=true->bit (rnd set L s) y=true:=by
 induction L with
 |nil=>intro s y h;exact h
 |cons e L ih=>intro s y h;exact ih (ae h)
def NJ {set:Nat} {L:List (Nat×Nat)} (hL:∀e∈L,e.1<64/\e.2<64):∀{s:Nat},s<M64->rnd set L s<M64:=by
 induction L with
 |nil=>intro s h;exact h
 |cons e L ih=>intro s h;exact ih (fun a ha=>hL a (gB _ ha)) (d9V h (hL e aD).1 (hL e aD).2)
def c8N {set s:Nat} {e:Nat×Nat} (h:rst set s e=s) (h1:bit set e.1=true) (h2:bit set e.2=true) (h3:bit s e.1=true\/bit s e.2=true):bit s e.1=true/\bit s e.2=true:=by
 unfold rst at h;rw[if_pos (by rcases h3 with h3|h3<;>simp[h1,h2,h3])]at h;rw[<-h];simp[Ba,Bw]
def NK {set:Nat} {L:List (Nat×Nat)}:∀{s:Nat},rnd set L s=s->Clo set L s:=by
 induction L with
 |nil=>intro s _ e he;cases he
 |cons e L ih=>
  intro s h;have h1:rst set s e=s:=by
   apply Hj;intro y;cases hy:bit s y with
   |true=>exact ae hy
   |false=>
    cases hz:bit (rst set s e) y with
    |false=>rfl
    |true=>
     have:bit (rnd set (e::L) s) y=true:=We (L:=L) hz;rw[h,hy]at this;cases this
  have h2:rnd set L s=s:=by
   have:rnd set (e::L) s=rnd set L (rst set s e):=rfl;rw[this,h1]at h;exact h
  intro a ha;rcases bG.1 ha with rfl|ha
  ·exact c8N h1
  ·exact ih h2 a ha
def NL {set:Nat} {L:List (Nat×Nat)} {s:Nat} (h:Clo set L s):rnd set L s=s:=by
 induction L with
 |nil=>rfl
 |cons e L ih=>
  have h1:rst set s e=s:=by
   unfold rst;split
   ·rename_i hc;simp only[aQ,cO]at hc;obtain⟨h2,h3⟩:=h e aD hc.1.1 hc.1.2 hc.2;apply Hj;intro y;rw[Ba,Ba,Bw,Bw];by_cases e1:e.1=y
    ·subst e1;simp[h2]
    ·by_cases e2:e.2=y
     ·subst e2;simp[h3]
     ·simp[e1,e2]
   ·rfl
  show rnd set L (rst set s e)=s;rw[h1];exact ih fun a ha=>h a (gB _ ha)
def ins (L:List (Nat×Nat)) (s:Nat):Nat:=(L.filter fun e=>bit s e.1&&bit s e.2).length
def NM {α:Type} {p q:α->Bool} (h:∀x,p x=true->q x=true) (l:List α):(l.filter p).length<=(l.filter q).length:=by
 induction l with
 |nil=>exact aS _
 |cons a l ih=>
  rw[gJ,gJ];split
  ·rename_i hp;rw[if_pos (h a hp)];simp;exact ih
  ·split
   ·simp;omega
   ·exact ih
def d9W {α:Type} {p q:α->Bool} (h:∀x,p x=true->q x=true) {x:α} (hq:q x=true) (hp:p x=false):∀l:List α,x∈l->(l.filter p).length<(l.filter q).length:=by
 intro l;induction l with
 |nil=>intro h;cases h
 |cons a l ih=>
  intro hx;rw[gJ,gJ];rcases bG.1 hx with rfl|hx
  ·rw[if_neg (by simp[hp]),if_pos hq];have:=NM h l;simp;omega
  ·have:=ih hx;split
   ·rename_i hpa;rw[if_pos (h a hpa)];simp;exact this
   ·split
    ·simp;omega
    ·exact this
def d4T {L:List (Nat×Nat)} {s:Nat} (h:L.length<=ins L s):∀e∈L,bit s e.1=true/\bit s e.2=true:=by
 have:(L.filter fun e=>bit s e.1&&bit s e.2).length=L.length:=Nat.le_antisymm (List.length_filter_le _ _) h;rw[List.length_filter_eq_length_iff]at this;intro e he;simpa using this e he
def d4U {set:Nat} {L0:List (Nat×Nat)}:∀{L:List (Nat×Nat)} {s:Nat},(∀e∈L,e∈L0)->rnd set L s=s\/ins L0 s<ins L0 (rnd set L s):=by
 intro L;induction L with
 |nil=>intro s _;exact .inl rfl
 |cons e L ih=>
  intro s hL;have hm:∀x:Nat×Nat,(bit s x.1&&bit s x.2)=true->(bit (rst set s e) x.1&&bit (rst set s e) x.2)=true:=by
   intro x hx;rw[aQ]at hx⊢;exact⟨ae hx.1,ae hx.2⟩
  by_cases h1:rst set s e=s
  ·have:rnd set (e::L) s=rnd set L s:=by show rnd set L (rst set s e)=_;rw[h1]
   rw[this];exact ih fun a ha=>hL a (gB _ ha)
  ·right;have h2:(bit s e.1&&bit s e.2)=false:=by
    cases hc:(bit s e.1&&bit s e.2)with
    |false=>rfl
    |true=>
     exfalso;apply h1;rw[aQ]at hc;apply Hj;intro y;cases hy:bit s y with
     |true=>exact ae hy
     |false=>
      unfold rst;split
      ·rw[Ba,Ba,Bw,Bw,hy];by_cases e1:e.1=y
       ·rw[<-e1,hc.1]at hy;cases hy
       ·by_cases e2:e.2=y
        ·rw[<-e2,hc.2]at hy;cases hy
        ·simp[e1,e2]
      ·exact hy
   have h3:(bit (rst set s e) e.1&&bit (rst set s e) e.2)=true:=by
    unfold rst;split
    ·simp[Ba,Bw]
    ·rename_i hc;exact absurd (by unfold rst;rw[if_neg hc]) h1
   have h4:ins L0 s<ins L0 (rst set s e):=d9W hm h3 h2 L0 (hL e aD);have h5:ins L0 (rst set s e)<=ins L0 (rnd set L (rst set s e)):=NM (fun x hx=>by
    rw[aQ]at hx⊢;exact⟨We hx.1,We hx.2⟩) L0
   exact aU h4 h5
def c8O (set:Nat) (L:List (Nat×Nat)) (s:Nat):∀n,Clo set L (Ei set L n s)\/n<=ins L (Ei set L n s):=by
 intro n;induction n with
 |zero=>exact .inr (bK _)
 |succ n ih=>
  rcases ih with h|h
  ·left;show Clo set L (rnd set L _);rw[NL h];exact h
  ·rcases d4U (set:=set) (L0:=L) (L:=L) (s:=Ei set L n s) (fun _ h=>h)with h1|h1
   ·left;show Clo set L (rnd set L _);rw[h1];exact NK h1
   ·right;show n+1<=ins L (rnd set L _);omega
def c8P (set:Nat) (L:List (Nat×Nat)) (s:Nat):Clo set L (Ei set L L.length s):=by
 rcases c8O set L s L.length with h|h
 ·exact h
 ·exact fun e he _ _ _=>d4T h e he
def c2v {set:Nat} {L:List (Nat×Nat)} (hL:∀e∈L,e.1<64/\e.2<64) {s:Nat} (hs:s<M64):∀n,Ei set L n s<M64/\(Clo set L (Ei set L n s)\/n<=card (Ei set L n s)):=by
 intro n;induction n with
 |zero=>exact⟨hs,.inr (bK _)⟩
 |succ n ih=>
  refine⟨NJ hL ih.1,?_⟩;rcases ih.2 with h|h
  ·left;show Clo set L (rnd set L _);rw[NL h];exact h
  ·by_cases h1:rnd set L (Ei set L n s)=Ei set L n s
   ·left;show Clo set L (rnd set L _);rw[h1];exact NK h1
   ·right;obtain⟨x,sN,sD⟩:=MY (fun e=>h1 e.symm) (fun y hy=>We (set:=set) (L:=L) hy);have:=ab (fun y hy=>We (set:=set) (L:=L) hy) sN sD (Vv (NJ hL ih.1) sN);show n+1<=card (rnd set L _);omega
def c2w {set:Nat} {L:List (Nat×Nat)} {s y:Nat} (h:bit s y=true):∀n,bit (Ei set L n s) y=true:=by
 intro n;induction n with
 |zero=>exact h
 |succ n ih=>exact We ih
def d4V {es:List (Nat×Nat)} {set s x:Nat} {e:Nat×Nat} (he:e∈es) (h:∀y,bit s y=true->Rch es set x y):∀y,bit (rst set s e) y=true->Rch es set x y:=by
 intro y hy;unfold rst at hy;split at hy
 ·rename_i hc;simp only[aQ,cO]at hc;have a1:adj es e.1 e.2:=⟨e,he,.inl ⟨rfl,rfl⟩⟩;have r1:Rch es set x e.1:=hc.2.elim (h _) fun h2=>(h _ h2).step a1.symm hc.1.1;have r2:Rch es set x e.2:=hc.2.elim (fun h1=>(h _ h1).step a1 hc.1.2) (h _);rw[Ba,Ba,Bw,Bw,cO,cO]at hy;rcases hy with(hy|hy)|hy
  ·exact h y hy
  ·have:=oDt hy;subst this;exact r1
  ·have:=oDt hy;subst this;exact r2
 ·exact h y hy
def d4W {es:List (Nat×Nat)} {set x:Nat}:∀{L:List (Nat×Nat)} {s:Nat},(∀e∈L,e∈es)->(∀y,bit s y=true->Rch es set x y)->∀y,bit (rnd set L s) y=true->Rch es set x y:=by
 intro L;induction L with
 |nil=>intro s _ h;exact h
 |cons e L ih=>intro s hL h;exact ih (fun a ha=>hL a (gB _ ha)) (d4V (hL e aD) h)
def d9X {es:List (Nat×Nat)} {set x n:Nat} (hx:bit set x=true) (sM:Ei set es n (2^x)<M64) (hc:Clo set es (Ei set es n (2^x))):CL es set x (Ei set es n (2^x)):=by
 refine⟨sM,fun y=>⟨?_,fun hy=> ?_⟩⟩
 ·have:∀m y,bit (Ei set es m (2^x)) y=true->Rch es set x y:=by
   intro m;induction m with
   |zero=>intro y hy;have hy:bit (2^x) y=true:=hy;rw[Bw]at hy;have:=oDt hy;subst this;exact .base
   |succ m ih=>exact d4W (fun _ h=>h) ih
  exact this n y
 ·induction hy with
  |base=>exact c2w (by rw[Bw];simp) n
  | @step u v h1 ha hz ih=>
   have hu:=h1.mem hx;obtain⟨e,he,⟨rfl,rfl⟩|⟨rfl,rfl⟩⟩:=ha
   ·exact(hc e he hu hz (.inl ih)).2
   ·exact(hc e he hz hu (.inr ih)).1
def Jv (f:Nat->Nat) (e:Nat×Nat):Nat->Nat:=fun x=>if f x=max (f e.1) (f e.2)then min (f e.1) (f e.2)else f x
def lab (L:List (Nat×Nat)):Nat->Nat:=L.foldl Jv id
def c8Q (L:List (Nat×Nat)) (e:Nat×Nat):lab (L++[e])=Jv (lab L) e:=by
 unfold lab;rw[List.foldl_append];rfl
def b9d {f:Nat->Nat} {e:Nat×Nat} (h:f e.1=f e.2):Jv f e=f:=by
 funext x;unfold Jv;rw[h,Nat.max_self,Nat.min_self];split
 ·rename_i h;exact h.symm
 ·rfl
structure Lb (f:Nat->Nat):Prop where
 idm:∀x,f (f x)=f x
 le:∀x,f x<=x
def Lb.join {f:Nat->Nat} (h:Lb f) (e:Nat×Nat):Lb (Jv f e):=by
 by_cases tP:f e.1=f e.2
 ·rw[b9d tP];exact h
 have ha:=h.idm e.1;have hb:=h.idm e.2;refine⟨fun x=> ?_,fun x=> ?_⟩
 ·unfold Jv;generalize f e.1=a at*;generalize f e.2=b at*;by_cases hx:f x=max a b
  ·rw[if_pos hx];by_cases a2r:a<=b
   ·rw[nZ a2r,cD a2r,ha,if_neg tP]
   ·rw[oM aA,jX aA,hb,if_neg (fun h=>tP h.symm)]
  ·rw[if_neg hx,h.idm,if_neg hx]
 ·unfold Jv;split
  ·rename_i hx;have:=h.le x;omega
  ·exact h.le x
def Acy (L:List (Nat×Nat)) (n:Nat):Prop:=∀i e,i<n->L[i]? =some e->lab (L.take i) e.1≠lab (L.take i) e.2
structure Par (p:List Nat) (f:Nat->Nat):Prop where
 len:p.length=64
 lb:Lb f
 le:∀x y:Nat,p[x]? =some y->y<=x
 up:∀x y:Nat,p[x]? =some y->f y=f x
 fix:∀x y:Nat,p[x]? =some y->(y=x↔f x=x)
def Par.at {p:List Nat} {f:Nat->Nat} (h:Par p f) {x:Nat} (hx:x<64):∃y,p[x]? =some y:=⟨_,aG (by rw[h.len];exact hx)⟩
def Par.id:Par (eO 64) id where
 len:=aD
 lb:=⟨fun _=>rfl,fun _=>aS _⟩
 le:=fun x y h=>by rw[aH]at h;obtain⟨_,rfl⟩:=h;simp
 up:=fun x y h=>by rw[aH]at h;obtain⟨_,rfl⟩:=h;simp
 fix:=fun x y h=>by rw[aH]at h;obtain⟨_,rfl⟩:=h;simp
def Par.join {p:List Nat} {f:Nat->Nat} (h:Par p f) {e:Nat×Nat} (h1:e.1<64) (h2:e.2<64):Par (p.set (max (f e.1) (f e.2)) (min (f e.1) (f e.2))) (Jv f e):=by
 have la:=h.lb.le e.1;have lb:=h.lb.le e.2;have ia:=h.lb.idm e.1;have ib:=h.lb.idm e.2;have vB:=h.lb.join e;unfold Jv at vB⊢;generalize f e.1=a at*;generalize f e.2=b at*;have hm:f (min a b)=min a b:=by rcases pK a b with hh|hh;rw[cD hh,ia];rw[jX hh,ib]
 have hM:f (max a b)=max a b:=by rcases pK a b with hh|hh;rw[nZ hh,ib];rw[oM hh,ia]
 have pY:min a b<=max a b:=aA;have hMl:max a b<p.length:=by rw[h.len];omega
 generalize max a b=M at*;generalize min a b=m at*;refine⟨by rw[cX];exact h.len,vB,?_,?_,?_⟩
 ·intro x y hy;rw[dF]at hy;split at hy
  ·rename_i e;subst e;cases hy;exact pY
  ·exact h.le x y hy
 ·intro x y hy;rw[dF]at hy;split at hy
  ·rename_i e;subst e;cases hy;rw[hm,if_pos hM];split<;>rfl
  ·rw[h.up x y hy]
 ·intro x y hy;rw[dF]at hy;split at hy
  ·rename_i e;subst e;cases hy;rw[if_pos hM]
  ·rename_i qJ;rw[h.fix x y hy];split
   ·rename_i hfx;constructor
    ·intro h1;exact absurd (hfx.symm.trans h1) qJ
    ·intro h1;subst h1;rw[hm]at hfx;exact absurd hfx.symm qJ
   ·exact Iff.rfl
end Go.GS
namespace Go.Z
open Proofs.Tryz
def d4X {i:Nat} (h:i<64):(eO i++eS (64-i) 0).set i i=eO (i+1)++eS (64-(i+1)) 0:=by
 obtain⟨k,hk⟩:∃k,64-i=k+1:=⟨64-i-1,aA⟩;rw[hk,show 64-(i+1)=k by omega,List.replicate_succ,List.range_succ,bL];simp[List.set_append]
open Go.RowKit Go.RX Go.GS
def Wg:El prog 325 3 1 false (fun x:Nat=>[ii (x:Nat)]) (fun x:Nat=>ii (x:Nat)) where
 und:=aB
 has:=aB
 cel:=aB
 agg:=aB
 pos:=aC
 one1:=fun _=>rfl
 small:=aC
 inf:=⟨(prog.info? 3).getD default,ii 0,aB,aB,aB,rfl,oDt aB⟩
 len:=fun _=>rfl
 val:=fun _=>rfl
 cells:=fun _=>rfl
 one:=fun x c hc=>by simp at hc;subst hc;rfl
abbrev PO (H0 H:PH) (v:Value) (p:List Nat):Prop:=SO H0 H 3 1 (fun x:Nat=>[ii (x:Nat)]) v p
abbrev PS (H:PH) (v:Value) (p:List Nat):Prop:=SE H 1 (fun x:Nat=>[ii (x:Nat)]) v p
section
variable {H H0:PH} {u v w wts:Value} {p:List Nat} {wl:List Int} {n:Nat} {es:List (Nat×Nat)} {lo hi ds:Int} {set x:Nat} {f:Nat->Nat} {e:Nat×Nat}
def c8R:Con prog 219 [] H fun r H'=>Pl H H'/\∃v,r= .agg #[v]/\PO H H' v (eO 64):=by
 refine g5 mixed d4i ?_;refine Ot Wg (z:=(0:Nat)) MH rfl rfl rfl (m:=64) aA rfl fun v H1 l1 o1 _=> ?_;refine Dc Wg rfl rfl o1.se rfl ?_;refine r7 (α:=Nat) (fun i=>[ii (i:Nat)]) (fun i=>fun H'=>i<=64/\Pl H H'/\PO H H' v (eO i++eS (64-i) 0)) (fun i=>64-i) (0) rfl (⟨bK _,l1,o1⟩) fun i H' hQ=> ?_;obtain⟨hi,l2,o2⟩:=hQ;refine b9 (b9 ?_);refine g6 (b:=decide (((i:Nat):Int)<64)) rfl (fun h=> ?_) (fun h=> ?_)
 ·replace h:=oDt h;refine Ee Wg (a:=i) rfl rfl rfl rfl aF aF l2 o2 (by simp;omega) rfl aF rfl fun q u H3 l3 o3 _=> ?_;exact⟨i+1,aA,(p6 (j5 rfl aA)),⟨aA,l3,by rw[d4X aA]at o3;exact o3⟩⟩
 ·replace h:=oDf h;have he:i=64:=aA;subst he;refine b4 o2.se.one ?_;exact d4 rfl ⟨l2,v,by show Value.agg v.cells=_;rw[o2.se.cells],by rw[dS,List.replicate_zero,cC]at o2;exact o2⟩
def Wh (hp:PS H v p) (h:Par p f) (hx:x<64):Asks prog 222 [v,ii (x:Nat)] H (ii (f x:Nat)):=by
 refine g5 mixed d4j ?_;refine Df (α:=Nat) (fun y=>[ii (y:Nat)]) (fun y=>y<64/\f y=f x) (fun y=>y) (x) rfl (⟨hx,rfl⟩) fun y hQ=> ?_;obtain⟨hy,hf⟩:=hQ;obtain⟨z,hz⟩:=h.at hy;refine n9 Wg hp hz fun _=> ?_;refine b9 (b9 ?_);refine y5 (p:=(z≠y)) (by show Value.bool (((z:Nat):Int) !=((y:Nat):Int))=_;rw[bN];congr 1;apply decide_eq_decide.2;omega) (fun h2=> ?_) fun h2=> ?_
 ·refine n9 Wg hp hz fun _=> ?_;have pY:=h.le y z hz;exact⟨z,aA,rfl,⟨⟨aA,by rw[h.up y z hz,hf]⟩,rfl⟩⟩
 ·have hzy:z=y:=cL h2;have:=(h.fix y z hz).1 hzy;exact d4 rfl ⟨rfl,by rw[<-hf,this];rfl⟩
def c8S {o:Oper} {x y:Operand} {t u:TypeId} {a b:Int} {vs:List Value} (ho:o.op= .call ⟨.builtin .min,#[x,y],#[t,u]⟩) (hx:e8 [x,y] vs x= .int .i64 a) (hy:e8 [x,y] vs y= .int .i64 b):Yld prog o vs (.int .i64 (if b<a then b else a)):=fun w=>by
 have qE:o.op.operands.toList=[x,y]:=by simp[ho,Op.operands,Call.operands]
 rw[qE];simp only[execOp,ho,resolve,invoke,eK,eL,eJ,fR,bI,bR,hx,hy];simp only[builtin,eK,run_min_int2,eJ];rfl
def c8T {o:Oper} {x y:Operand} {t u:TypeId} {a b:Int} {vs:List Value} (ho:o.op= .call ⟨.builtin .max,#[x,y],#[t,u]⟩) (hx:e8 [x,y] vs x= .int .i64 a) (hy:e8 [x,y] vs y= .int .i64 b):Yld prog o vs (.int .i64 (if b>a then b else a)):=fun w=>by
 have qE:o.op.operands.toList=[x,y]:=by simp[ho,Op.operands,Call.operands]
 rw[qE];simp only[execOp,ho,resolve,invoke,eK,eL,eJ,fR,bI,bR,hx,hy];simp only[builtin,eK,run_max_int2,eJ];rfl
def c8U (pY:Pl H0 H) (hp:PO H0 H v p) (h:Par p f) (h1:e.1<64) (h2:e.2<64):Con prog 221 [.agg #[v],ev2 e] H fun r H'=>r= .bool (decide (f e.1≠f e.2))/\Pl H0 H'/\∃q,PO H0 H' v q/\Par q (Jv f e):=by
 refine g5 mixed d4k ?_;have uH:=hp.se;have la:=h.lb.le e.1;have lb:=h.lb.le e.2;have emin:(if((f e.2:Nat):Int)<(f e.1:Nat)then((f e.2:Nat):Int)else(f e.1:Nat))=((min (f e.1) (f e.2):Nat):Int):=by split<;>omega
 have emax:(if((f e.2:Nat):Int)>(f e.1:Nat)then((f e.2:Nat):Int)else(f e.1:Nat))=((max (f e.1) (f e.2):Nat):Int):=by split<;>omega
 refine b4 ⟨rfl,fun c hc=>by have hc:c∈[v]:=hc;rw[bB]at hc;subst hc;exact t8 uH⟩ ?_;refine b4 (el_edge.vcells e) ?_;refine j9 (Wh uH h h1) rfl ?_;refine j9 (Wh uH h h2) rfl ?_;refine j8 ((c8T (vs:=[ii (f e.1:Nat),ii (f e.2:Nat)]) rfl rfl rfl).rds _) rfl ?_;refine j8 ((c8S (vs:=[ii (f e.1:Nat),ii (f e.2:Nat)]) rfl rfl rfl).rds _) rfl ?_;rw[emin,emax];refine Ee Wg (a:=min (f e.1) (f e.2)) rfl rfl rfl rfl aF aF pY hp (by rw[h.len];omega) rfl aF rfl fun q u H3 l3 o3 _=> ?_;refine b9 (b9 ?_);exact d4 rfl ⟨by show Value.bool (((f e.1:Nat):Int) !=((f e.2:Nat):Int))=_;rw[bN];exact congrArg Value.bool (decide_eq_decide.2 aA),l3,_,o3,h.join h1 h2⟩
def c8V (hs:set<M64) (h1:e.1<=64) (h2:e.2<=64):Asks prog 276 [uv set,ev2 e] H (.bool (bit set e.1&&bit set e.2)):=by
 refine g5 mixed d4l ?_;refine b4 (el_edge.vcells e) ?_;refine b9 ?_;refine b4 ⟨_,_,rfl⟩ ?_;refine b4 (by show(0:Int)<=((e.1:Nat):Int);omega) ?_;refine g6 (b:=bit set e.1) (zc rfl hs rfl h1) (fun b1=> ?_) (fun b1=> ?_)
 ·skip
  refine b4 ⟨_,_,rfl⟩ ?_;refine b4 (by show(0:Int)<=((e.2:Nat):Int);omega) ?_;exact d4 rfl ⟨rfl,by rw[b1];exact(zc rfl hs rfl h2)⟩
 ·skip
  exact d4 rfl ⟨rfl,by rw[b1];rfl⟩
def c8W (hw:SG H w es) (hg:GV n es) (hs:set<M64):j4 prog 166 [gv n w,uv set] H (ii (if set≠0/\set<2^n then 0 else 2)):=by
 refine g5 mixed d9F ?_;refine b4 (Ci hw) ?_;refine i8 (Lu hw hg) rfl fun H1 l1=> ?_;refine b9 ?_;refine i7 (bF (p:=(0:Int)≠0) aD) ?_;refine b9 ?_;refine y5 (p:=(set=0)) (bE0 _) (fun h0=> ?_) fun h0=> ?_
 ·exact d4 rfl ⟨l1,by rw[if_neg (fun e=>e.1 h0)];rfl⟩
 ·refine Db (ja set hs) rfl ?_;refine b9 (b9 ?_);refine y5 (p:=(set≥2^n)) (by show Value.bool (decide (((Go.WD.blen set:Nat):Int)>((n:Nat):Int)))=_;congr 1;apply decide_eq_decide.2;constructor<;>intro hh<;>first|(have:=Go.WD.blen_ge hh;omega)|(apply jW;intro h2;have:=Go.WD.blen_le h2;omega)) (fun h=> ?_) fun h=> ?_
  ·exact d4 rfl ⟨l1,by rw[if_neg aA];rfl⟩
  ·exact d4 rfl ⟨l1,by rw[if_pos ⟨h0,aA⟩];rfl⟩
end
section
variable {H:PH}
def NN:n8 prog 275=true:=aB
def e2T:FA prog 33 1 1:=⟨aB,oDt aB,aB,aB,oDt aB⟩
def e2U:Sc prog 31:=⟨aB,aB,aB⟩
def Am (set:Nat):Nat->List (Nat×Nat)->List (Nat×(Nat×Nat))
 |_,[]=>[]
 |i,e::r=>if(bit set e.1&&bit set e.2)=true then(i,e)::Am set (i+1) r else Am set (i+1) r
def Fp (b j:Nat) (x v:Value) (T:TypeId) (s:Nat):PH:=(PH.nil.put b (.cells #[x,v] T (0,0))).put j (.cells #[uv s] 49 (0,0))
def NP {b j s:Nat} {x v:Value} {T:TypeId} {es:List (Nat×Nat)} {Ro:PH} (hs:s<M64) (hbj:b≠j) (he:∀e∈es,e.1<=64/\e.2<=64) (hes:es.length<=1000000) (hv:SE Ro 2 (fun e:Nat×Nat=>[ii (e.1:Nat),ii (e.2:Nat)]) v es) (hvc:v.cells= #[v]):
  ItC prog 275 [.pointer (some ⟨b,0,none⟩),.pointer (some ⟨j,0,none⟩)] Ro (Fp b j x v T s) (fun pre xs=>∃y,(Am s 0 es)[pre.length]? =some y/\xs=[ii (y.1:Nat),ev2 y.2]) (fun xs _=>xs.length=(Am s 0 es).length) (fun _ _=>True):=by
 intro l J Jx uV hr X hX hd w hw;refine(s7 (H:=X.or (Fp b j x v T s)) (V:=fun _ H'=>∃X' K',Pl (X'.or K') H'/\Disj X' K'/\((∃xs,xs.length=(Am s 0 es).length/\J xs X')\/(∃pre,True/\Jx pre X'))) mixed c8o aB rfl ?_ w hw).mono fun e w' ⟨v,H',he,rB,hV⟩=>⟨v,H',he,rB,hV⟩;have kb:Fp b j x v T s b=some (.cells #[x,v] T (0,0)):=by unfold Fp;rw[PH.put_ne _ _ hbj];exact PH.put_self _ _ _
 have kj:Fp b j x v T s j=some (.cells #[uv s] 49 (0,0)):=PH.put_self _ _ _;have hb:=PH.or_right hd kb;refine g8 e2T ?_;refine g9 e2U rfl rfl hb (u:=v) (by rfl) rfl ?_;have hsl:∀{pre X'},J pre X'->SE (X'.or (Fp b j x v T s)) 2 (fun e:Nat×Nat=>[ii (e.1:Nat),ii (e.2:Nat)]) v es:=fun hJ=>hv.mono ((uV _ _ hJ).trans (PH.le_or _ _));refine m9 el_edge (hsl hX) ?_;refine r7 (α:=Nat×List (Nat×Nat×Nat)×PH) (fun a=>[ii (a.1:Nat)]) (fun a H'=>a.1<=es.length/\H'=a.2.2.or (Fp b j x v T s)/\Disj a.2.2 (Fp b j x v T s)/\a.2.1++Am s a.1 (es.drop a.1)=Am s 0 es/\J (a.2.1.map fun y:Nat×Nat×Nat=>[ii (y.1:Int),ev2 y.2]) a.2.2) (fun a=>es.length-a.1) (0,[],X)
  rfl ⟨bK _,rfl,hd,rfl,hX⟩ fun a H' hQ=> ?_
 obtain⟨i,pre,X'⟩:=a;obtain⟨hi,rfl,qS,qD,hJ⟩:=hQ;simp only at hi qS qD hJ;simp only[cA,nA];refine b9 (b9 ?_);refine g6 (b:=decide (((i:Nat):Int)<(es.length:Nat))) rfl (fun h=> ?_) (fun h=> ?_)
 ·replace h:=oDt h;have qG:i<es.length:=aA;obtain⟨e,hx,wW⟩:=q8 qG;obtain⟨he1,he2⟩:=he e (aK hx);have vQ:=PH.or_right qS kj;refine n9 el_edge (hsl hJ) hx fun _=> ?_;refine b4 (el_edge.vcells e) ?_;refine g9 Ox rfl rfl vQ rfl rfl ?_;refine j9 (c8V hs he1 he2) rfl ?_;refine b9 ?_;rw[wW]at qD;refine g6 (b:=bit s e.1&&bit s e.2) rfl (fun a1j=> ?_) (fun a1j=> ?_)
  ·simp only[Am,a1j,if_true]at qD;refine Vu (hr _ [ii (i:Nat),ev2 e] X' (Fp b j x v T s) ⟨(i,e),by rw[<-qD,aR,aN (aS _),dS];rfl,rfl⟩ hJ qS) rfl rfl rfl rfl rfl fun v2 X2 qH hV=> ?_;obtain⟨bb,rfl,qU,qZ⟩:∃bb,v2= .bool bb/\(bb=true->J ((pre.map fun y:Nat×Nat×Nat=>[ii (y.1:Int),ev2 y.2])++[[ii (i:Nat),ev2 e]]) X2)/\(bb=false->Jx ((pre.map fun y:Nat×Nat×Nat=>[ii (y.1:Int),ev2 y.2])++[[ii (i:Nat),ev2 e]]) X2):=by
    rcases hV with⟨rfl,h⟩|⟨rfl,h⟩
    ·exact⟨true,rfl,fun _=>h,(fun h=>nomatch h)⟩
    ·exact⟨false,rfl,(fun h=>nomatch h),fun _=>h⟩
   refine b9 ?_;refine g6 (b:= !bb) rfl (fun qM=> ?_) (fun qM=> ?_)
   ·exact d4 rfl ⟨X2,_,Pl.refl _,qH,.inr ⟨_,trivial,qZ (by simpa using qM)⟩⟩
   ·exact⟨(i+1,pre++[(i,e)],X2),by show es.length-(i+1)<es.length-i;omega,p6 (j5 rfl aA),⟨by show i+1<=es.length;omega,rfl,qH,by rw[bL];exact qD,by rw[bM];exact qU (by simpa using qM)⟩⟩
  ·simp only[Am,a1j]at qD;exact⟨(i+1,pre,X'),by show es.length-(i+1)<es.length-i;omega,p6 (j5 rfl aA),⟨by show i+1<=es.length;omega,rfl,qS,by simpa using qD,hJ⟩⟩
 ·replace h:=oDf h;rw[iN aA]at qD;simp only[Am,cC]at qD;exact d4 rfl ⟨X',_,Pl.refl _,qS,.inl ⟨_,by rw[aR,qD],hJ⟩⟩
end
section
variable {H:PH} {w:Value} {n x c set left bw:Nat} {es:List (Nat×Nat)}
def bEn (a b:Nat):Value.bool (((a:Nat):Int)==((b:Nat):Int))= .bool (decide (a=b)):=by
 rw[bE];congr 1;apply decide_eq_decide.2;omega
end
end Go.Z
namespace Go.RX
open RowKit
section
variable {P:Program} {o:Oper}
def c2x {fn:Fn} {t:Nat} {v:Value} (ho:o.op= .makeFunc fn #[.tmp t] #[]):Run P o [v] (.func fn #[v] #[]):=fun w=>by
 have qE:o.op.operands.toList=[.tmp t]:=by rw[ho];rfl
 unfold Stp;rw[qE];simp only[execOp,ho,eK,Instr.makeFunc,eL,eJ];exact⟨by simp[e8,Oe],Ext.refl _⟩
variable {G Xp:Value->PH->Prop} {nx:List (List Value->PH->Prop)} {ρ:List Value} {H:PH} {t:Tree} {id i b q:Nat} {x y:Operand} {T T':TypeId} {cs:Array Value} {args:List SV} {pf:Bool}
end
end Go.RX
namespace Go.Z
open Proofs.Tryz RowKit RX GS
def cut_le (H:PH) (b:Nat):Pl (Bm H b) H:=fun k o hk=>by
 unfold Bm at hk;by_cases e:k=b
 ·rw[if_pos e]at hk;cases hk
 ·rw[if_neg e]at hk;exact hk
end Go.Z
namespace Go.GS
def Ed (es:List (Nat×Nat)) (i:Int):Nat×Nat:=es.getD i.toNat (0,0)
def etl (es:List (Nat×Nat)) (t:List Int):List (Nat×Nat):=t.map (Ed es)
def Acy.snoc {L:List (Nat×Nat)} {e:Nat×Nat} (h:Acy L L.length) (he:lab L e.1≠lab L e.2):Acy (L++[e]) (L.length+1):=by
 intro i a hi ha;by_cases hl:i<L.length
 ·rw[aM hl]at ha;rw[dG aA];exact h i a hl ha
 ·have hi:i=L.length:=aA;subst hi;rw[aN (aS _),dS]at ha;cases ha;rw[List.take_left']
  ·exact he
  ·rfl
def e2V {set:Nat} (hs:set<M64) (h0:set≠0):∃x r,els set=x::r/\bit set x=true/\x<64/\∀j,j<x->bit set j=false:=by
 cases h:els set with
 |nil=>exact absurd (Ov hs h) h0
 |cons x r=>obtain⟨h1,h2,h3⟩:=Im h;exact⟨x,r,rfl,h1,h2,h3⟩
def inB (set:Nat) (e:Nat×Nat):Bool:=bit set e.1&&bit set e.2
section
variable {C:Type}
def dx (c:C) (d:List (C->Int)->Int):List (C->Int)->List (C->Int)->Int
 |_,[]=>0
 |pre,x::l=>x c*d (pre++l)-dx c d (pre++[x]) l
def dt:List C->List (C->Int)->Int
 |[],[]=>1
 |[],_::_=>0
 |c::cs,l=>dx c (dt cs) [] l
def d9Y {l:List (C->Int)} (h:l≠[]):dt [] l=0:=by
 match l,h with
 |_::_,_=>rfl
def ko (l1 l2:List (C->Int)) (x:C->Int):dt [] (l1++x::l2)=0:=d9Y aD
def d9Z {c:C} {d:List (C->Int)->Int} {x r s:C->Int} {t:Int} (h:x c=r c+t*s c) (hd:∀l1 l2,d (l1++x::l2)=d (l1++r::l2)+t*d (l1++s::l2)):∀(l1 l2 pre:List (C->Int)),dx c d pre (l1++x::l2)=dx c d pre (l1++r::l2)+t*dx c d pre (l1++s::l2):=by
 have hb:∀(l p1 p2:List (C->Int)),dx c d (p1++x::p2) l=dx c d (p1++r::p2) l+t*dx c d (p1++s::p2) l:=fun l=>by
  induction l with
  |nil=>intro p1 p2;simp[dx]
  |cons y l ih=>
   intro p1 p2;simp only[dx];have h1:=hd p1 (p2++l);have h2:=ih p1 (p2++[y]);simp only[bL,dM]at h1 h2⊢;rw[h1,h2]
   grind
 intro l1;induction l1 with
 |nil=>
  intro l2 pre;have h2:=hb l2 pre [];simp only[dA,dx];have h3:=h2;rw[h2,h];have h4:=hd pre l2
  grind
 |cons y l1 ih=>
  intro l2 pre;simp only[dM,dx];have h1:=hd (pre++l1) l2;simp only[bL]at h1;rw[ih l2 (pre++[y]),h1]
  grind
def Iq {x r s:C->Int} {t:Int}:∀{cs:List C} (_:∀c∈cs,x c=r c+t*s c) (l1 l2:List (C->Int)),dt cs (l1++x::l2)=dt cs (l1++r::l2)+t*dt cs (l1++s::l2)
 |[],_,l1,l2=>by rw[ko,ko,ko];simp
 |c::cs,h,l1,l2=>d9Z (h c aD) (fun a b=>Iq (fun e he=>h e (by simp[he])) a b) l1 l2 []
def c2y {x r:C->Int} {cs:List C} (h:∀c∈cs,x c=r c) (l1 l2:List (C->Int)):dt cs (l1++x::l2)=dt cs (l1++r::l2):=by
 have:=Iq (x:=x) (r:=r) (s:=r) (t:=0) (fun c hc=>by rw[h c hc];simp) l1 l2;simpa using this
def e0a {c:C} {d:List (C->Int)->Int} {x y:C->Int} (h:x c=y c) (hd:∀l1 l2,d (l1++x::y::l2)=0) (he:∀l1 l2,d (l1++x::l2)=d (l1++y::l2)):∀(l1 l2 pre:List (C->Int)),dx c d pre (l1++x::y::l2)=0:=by
 have hb:∀(l p1 p2:List (C->Int)),dx c d (p1++x::y::p2) l=0:=fun l=>by
  induction l with
  |nil=>intro p1 p2;simp[dx]
  |cons z l ih=>
   intro p1 p2;simp only[dx];have h1:=hd p1 (p2++l);have h2:=ih p1 (p2++[z]);simp only[bL,dM]at h1 h2⊢;rw[h1,h2];simp
 intro l1;induction l1 with
 |nil=>
  intro l2 pre;have h2:=hb l2 pre [];simp only[dA,dx,bL,dM]at h2⊢;rw[h2,h,he pre l2]
  grind
 |cons z l1 ih=>
  intro l2 pre;simp only[dM,dx];have h1:=hd (pre++l1) l2;simp only[bL]at h1;rw[ih l2 (pre++[z]),h1];simp
def af {x y:C->Int}:∀{cs:List C} (_:∀c∈cs,x c=y c) (l1 l2:List (C->Int)),dt cs (l1++x::y::l2)=0
 |[],_,l1,l2=>ko _ _ _
 |c::cs,h,l1,l2=>e0a (h c aD) (fun a b=>af (fun e he=>h e (by simp[he])) a b) (fun a b=>c2y (fun e he=>h e (by simp[he])) a b) l1 l2 []
def AB (cs:List C) (x y:C->Int) (l1 l2:List (C->Int)):dt cs (l1++x::y::l2)= -dt cs (l1++y::x::l2):=by
 have hz:∀c∈cs,(fun c=>x c+y c) c=x c+1*y c:=fun c _=>by simp
 have h0:=af (x:=fun c=>x c+y c) (y:=fun c=>x c+y c) (cs:=cs) (fun _ _=>rfl) l1 l2;rw[Iq hz]at h0;have h1:=Iq hz (l1++[x]) l2;have h2:=Iq hz (l1++[y]) l2;simp only[bL,dM,dA]at h1 h2;rw[h1,h2,af (x:=x) (y:=x) (fun _ _=>rfl),af (x:=y) (y:=y) (fun _ _=>rfl)]at h0;omega
def kq {x y:C->Int} {cs:List C} (h:∀c∈cs,x c=y c) (l3:List (C->Int)):∀(l2 l1:List (C->Int)),dt cs (l1++x::(l2++y::l3))=0
 |[],l1=>af h l1 l3
 |w::l2,l1=>by
  rw[dM,AB];have:=kq h l3 l2 (l1++[w]);simp only[bL,dM,dA]at this;rw[this];simp
def AC {x y z:C->Int} {t:Int} {cs:List C} (h:∀c∈cs,z c=x c+t*y c) (l1 l2 l3:List (C->Int)):dt cs (l1++z::(l2++y::l3))=dt cs (l1++x::(l2++y::l3)):=by
 rw[Iq h,kq (fun _ _=>rfl)];simp
def NQ {x y z:C->Int} {t:Int} {cs:List C} (h:∀c∈cs,z c=x c+t*y c) (l1 l2 l3:List (C->Int)):dt cs (l1++y::(l2++z::l3))=dt cs (l1++y::(l2++x::l3)):=by
 have h1:=Iq h (l1++y::l2) l3;simp only[bL,dM]at h1;rw[h1,kq (fun _ _=>rfl)];simp
def ex (r:C->Int) (l:List (C->Int)):List C->List C->Int
 |_,[]=>0
 |pre,c::cs=>r c*dt (pre++cs) l-ex r l (pre++[c]) cs
def NR {c:C} {d e g:List (C->Int)->Int} {t:Int} (h:∀l,g l=t*d l-e l):∀(l pre:List (C->Int)),dx c g pre l=t*dx c d pre l-dx c e pre l
 |[],_=>by simp[dx]
 |x::l,pre=>by
  simp only[dx];rw[NR h l (pre++[x]),h]
  grind
def NS {c:C}:∀(l pre:List (C->Int)),dx c (fun _=>0) pre l=0
 |[],_=>rfl
 |x::l,pre=>by simp only[dx];rw[NS l];simp
def NT {c:C} {d:List (C->Int)->Int} (r:C->Int):∀(l pre:List (C->Int)),dx c d (r::pre) l=dx c (fun m=>d (r::m)) pre l
 |[],_=>rfl
 |x::l,pre=>by
  simp only[dx];rw[<-NT r l (pre++[x])];rfl
def NU {c:C} {r:C->Int} (l:List (C->Int)):∀(cs pre:List C),dx c (fun m=>ex r m pre cs) [] l=ex r l (c::pre) cs
 |[],pre=>by simp only[ex];exact NS l []
 |e::cs,pre=>by
  rw[NR (g:=fun m=>ex r m pre (e::cs)) (d:=dt (pre++cs)) (e:=fun m=>ex r m (pre++[e]) cs) (t:=r e) (fun m=>rfl),NU l cs (pre++[e])];rfl
def kr (r:C->Int):∀(cs:List C) (l:List (C->Int)),dt cs (r::l)=ex r l [] cs
 |[],_=>rfl
 |c::cs,l=>by
  show dx c (dt cs) [] (r::l)=_;simp only[dx,ex,dA];have h:=NT (c:=c) (d:=dt cs) r l [];rw[h,show(fun m=>dt cs (r::m))=fun m=>ex r m [] cs from funext fun m=>kr r cs m,NU]
end
def NV {R C:Type} (f:R->C->Int) (r:R) (l:List R) (ih:∀cs:List C,dt cs (l.map f)=dt l (cs.map fun c s=>f s c)):∀(cs pre:List C),ex (f r) (l.map f) pre cs=dx r (dt l) (pre.map fun c s=>f s c) (cs.map fun c s=>f s c)
 |[],_=>rfl
 |c::cs,pre=>by
  simp only[ex,bI,dx];rw[ih,NV f r l ih cs (pre++[c]),bM,bM];rfl
def NW {R C:Type} (f:R->C->Int):∀(l:List R) (cs:List C),dt cs (l.map f)=dt l (cs.map fun c s=>f s c)
 |[],[]=>rfl
 |[],c::cs=>rfl
 |r::l,cs=>by
  rw[bI,kr];exact NV f r l (fun cs=>NW f l cs) cs []
def ah {C:Type} (l:List (C->Int)) (cs:List C):dt cs l=dt l (cs.map fun c s=>s c):=by
 have:=NW (fun(x:C->Int) c=>x c) l cs;simpa using this
section
variable {C:Type}
def d4Y {l:List (C->Int)} {a b:C} (h:∀r∈l,r a=r b) (c1 c2 c3:List C):dt (c1++a::(c2++b::c3)) l=0:=by
 rw[ah];simp only[bM,bI];exact kq (fun r hr=>h r hr) _ _ _
def d4Z {l:List (C->Int)} {a b z:C} (h:∀r∈l,r z=r a+r b) (c1 c2 c3:List C):dt (c1++z::(c2++b::c3)) l=dt (c1++a::(c2++b::c3)) l:=by
 rw[ah,ah l];simp only[bM,bI];exact AC (t:=1) (fun r hr=>by simp[h r hr]) _ _ _
def c8X {l:List (C->Int)} {a b z:C} (h:∀r∈l,r z=r a+r b) (c1 c2 c3:List C):dt (c1++b::(c2++z::c3)) l=dt (c1++b::(c2++a::c3)) l:=by
 rw[ah,ah l];simp only[bM,bI];exact NQ (t:=1) (fun r hr=>by simp[h r hr]) _ _ _
def sg:Nat->Int
 |0=>1
 |n+1=> -sg n
def NX:∀n,sg n*sg n=1
 |0=>rfl
 |n+1=>by simp only[sg];have:=NX n;grind
def NY (cs:List C) (x:C->Int) (r2:List (C->Int)):∀(r1 p:List (C->Int)),dt cs (p++(r1++x::r2))=sg r1.length*dt cs (p++x::(r1++r2))
 |[],p=>by simp[sg]
 |y::r1,p=>by
  have h:=NY cs x r2 r1 (p++[y]);simp only[bL,dM,dA]at h⊢;rw[h,AB];simp only[aP,sg]
  grind
def AD {r:C->Int} {l:List (C->Int)}:∀{cs:List C} (_:∀c∈cs,r c=0) (pre:List C),ex r l pre cs=0
 |[],_,_=>rfl
 |c::cs,h,pre=>by
  simp only[ex];rw[h c aD,AD (fun e he=>h e (by simp[he]))];simp
def NZ {r:C->Int} {l:List (C->Int)} {w:C} {c2:List C} (h2:∀c∈c2,r c=0):∀{c1:List C} (_:∀c∈c1,r c=0) (pre:List C),ex r l pre (c1++w::c2)=sg c1.length*(r w*dt (pre++(c1++c2)) l)
 |[],_,pre=>by
  simp only[dA,ex,sg,bX];rw[AD h2];simp
 |c::c1,h,pre=>by
  simp only[dM,ex,aP,sg];rw[h c aD,NZ h2 (fun e he=>h e (by simp[he])) (pre++[c])];simp only[bL,dM,dA]
  grind
def d5a {r:C->Int} {w:C} {c1 c2:List C} {r1 r2:List (C->Int)} (h1:∀c∈c1,r c=0) (h2:∀c∈c2,r c=0) (hl:r1.length=c1.length):dt (c1++w::c2) (r1++r::r2)=r w*dt (c1++c2) (r1++r2):=by
 have h:=NY (c1++w::c2) r r2 r1 [];simp only[dA]at h;rw[h,kr,NZ h2 h1,hl];have:=NX c1.length;simp only[dA]
 grind
def Du:List Int->List (C->Int)->C->Int
 |w::ws,x::l,c=>w*x c+Du ws l c
 |_,_,_=>0
def OA (d:List (C->Int)->Int):∀(l pre:List (C->Int)),∃ws:List Int,ws.length=l.length/\∀c,dx c d pre l=Du ws l c
 |[],_=>⟨[],rfl,fun _=>rfl⟩
 |x::l,pre=>by
  obtain⟨ws,hl,hw⟩:=OA d l (pre++[x]);refine⟨d (pre++l)::ws.map (fun w=> -w),by simp[hl],fun c=> ?_⟩;simp only[dx,Du];rw[hw];have hn:∀(us:List Int) (m:List (C->Int)),Du (us.map fun w=> -w) m c= -Du us m c:=fun us=>by
   induction us with
   |nil=>intro m;simp[Du]
   |cons u us ih=>
    intro m;cases m with
    |nil=>simp[Du]
    |cons y m=>simp only[bI,Du];rw[ih];grind
  rw[hn]
  grind
def OB {cs:List C} {t:Int}:∀(m p l1:List (C->Int)) (ws:List Int) (r z:C->Int) (_:ws.length=m.length) (_:∀c∈cs,z c=t*r c+Du ws m c),dt cs (l1++z::(p++m))=t*dt cs (l1++r::(p++m))
 |[],p,l1,ws,r,z,hl,h=>by
  have h0:=Iq (x:=z) (r:=fun _=>0) (s:=r) (t:=t) (cs:=cs) (fun c hc=>by rw[h c hc];cases ws<;>simp[Du]) l1 (p++[]);have h1:=Iq (x:=fun _:C=>0) (r:=fun _=>0) (s:=fun _=>0) (t:=1) (cs:=cs) (fun c hc=>aD) l1 (p++[]);rw[h0];omega
 |a::m,p,l1,w::ws,r,z,hl,h=>by
  have h1:=OB (cs:=cs) (t:=t) m (p++[a]) l1 ws r (fun c=>t*r c+Du ws m c) (by simpa using hl) (fun _ _=>rfl);simp only[bL,dM,dA]at h1;rw[<-h1];refine AC (t:=w) (fun c hc=> ?_) l1 p m;rw[h c hc];simp only[Du];grind
def d5b (B:List C) (A:List (C->Int)) (r s:C->Int) (c d:C):dt B A*dt (d::c::B) (s::r::A)=dt (c::B) (r::A)*dt (d::B) (s::A)-dt (d::B) (r::A)*dt (c::B) (s::A):=by
 obtain⟨ws,hl,hw⟩:=OA (dt B) A [r];have hg:∀e,dt (e::B) (r::A)=dt B A*r e+Du (ws.map fun w=> -w) A e:=fun e=>by
  show dx e (dt B) [] (r::A)=_;simp only[dx,dA];rw[hw];have hn:∀(us:List Int) (m:List (C->Int)),Du (us.map fun w=> -w) m e= -Du us m e:=fun us=>by
   induction us with
   |nil=>intro m;simp[Du]
   |cons u us ih=>
    intro m;cases m with
    |nil=>simp[Du]
    |cons y m=>simp only[bI,Du];rw[ih];grind
  rw[hn];grind
 have h1:=OB (cs:=d::c::B) (t:=dt B A) A [] [s] (ws.map fun w=> -w) r (fun e=>dt (e::B) (r::A)) (by simpa using hl) (fun e _=>hg e);simp only[dA,dM]at h1;rw[<-h1];have hz:∀e∈B,dt (e::B) (r::A)=0:=fun e he=>by
  obtain⟨b1,b2,rfl⟩:=List.append_of_mem he;exact d4Y (a:=e) (b:=e) (fun _ _=>rfl) [] b1 b2
 have h2:=AB (d::c::B) s (fun e=>dt (e::B) (r::A)) [] A;simp only[dA]at h2;rw[h2,kr];simp only[ex,dA,dM];rw[AD hz]
 grind
end
end Go.GS

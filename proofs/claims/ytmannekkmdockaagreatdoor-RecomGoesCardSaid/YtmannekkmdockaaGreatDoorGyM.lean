/- Lemmas: chapter 32. -/
import Derived.Test.YtmannekkmdockaaGreatDoorGvB
open Bool renaming and_eq_true->aF,eq_iff_iff->bH
open Classical renaming byContradiction->aP,not_not->jB,propDecidable->dU
open Int renaming toNat_natCast->bB
open List renaming all_eq_true->dJ,append_assoc->bG,getD_eq_getElem?_getD->aB,getElem?_append_right->cQ,getElem?_eq_getElem->aA,getElem?_eq_some_iff->aC,getElem?_map->aO,getElem_mem->eH,length_append->aJ,length_cons->bA,length_nil->dM,mem_append->aV,mem_iff_getElem?->bP,mem_map->aH,mem_of_getElem?->aI,mem_singleton->aQ
open Nat renaming le_refl->aN,le_total->fL,lt_of_le_of_lt->aY,ne_of_gt->jF,sub_self->iQ
open Option renaming some->bZ
open Option.some renaming injEq->aD
open Prod renaming ext->lK
open Prod.mk renaming injEq->eB
namespace Go.GS
open Go.RX
def Ties (p q:List Int) (i:Nat) (L:List (Int×Int)):Prop:=∀x y,(x,y)∈L↔∃j:Nat,j<i/\p[j]? =some x/\q[j]? =some y
theorem Ties.nil (p q:List Int):Ties p q 0 []:=fun x y=>by simp
theorem mlk (L:List (Int×Int)) (k:Int):∃(b:Bool) (u:Int),(b=false/\u=0/\k∉L.map (·.1))\/(b=true/\(k,u)∈L):=by
 by_cases h:k∈L.map (·.1)
 ·obtain⟨⟨a,u⟩,h1,rfl⟩:=aH.1 h;exact⟨true,u,.inr ⟨rfl,h1⟩⟩
 ·exact⟨false,0,.inl ⟨rfl,rfl,h⟩⟩
theorem CM {L:List (Int×Int)} (hn:(L.map (·.1)).Nodup) {k a b:Int} (h1:(k,a)∈L) (h2:(k,b)∈L):a=b:=by
 obtain⟨i1,m1⟩:=bP.1 h1;obtain⟨i2,m2⟩:=bP.1 h2;have l1:=(aC.1 m1).1;have:i1=i2:=(List.getElem?_inj (by simpa using l1) hn).1 (by rw[aO,aO,m1,m2];rfl);subst this;rw[m1]at m2;simp only[aD,eB,true_and]at m2;exact m2
theorem Ties.step {p q:List Int} {i:Nat} {L:List (Int×Int)} {x y:Int} (h:Ties p q i L) (hn:(L.map (·.1)).Nodup) (hx:p[i]? =some x) (hy:q[i]? =some y) (pS:x∉L.map (·.1)\/(x,y)∈L):Ties p q (i+1) (Dw L x y):=fun a b=>by
 rw[MY hn,h];constructor
 ·rintro(⟨rfl,rfl⟩|⟨_,j,hj,h1,h2⟩)
  ·exact⟨i,by omega,hx,hy⟩
  ·exact⟨j,by omega,h1,h2⟩
 ·rintro⟨j,hj,h1,h2⟩;by_cases e:j=i
  ·subst e;rw[hx]at h1;rw[hy]at h2;cases h1;cases h2;exact .inl ⟨rfl,rfl⟩
  ·have hm:(a,b)∈L:=(h a b).2 ⟨j,by omega,h1,h2⟩;by_cases ea:a=x
   ·subst ea;rcases pS with pS|pS
    ·exact absurd (aH.2 ⟨_,hm,rfl⟩) pS
    ·exact .inl ⟨rfl,CM hn hm pS⟩
   ·exact .inr ⟨ea,j,by omega,h1,h2⟩
theorem Ties.not_key {p q:List Int} {i:Nat} {L:List (Int×Int)} {x:Int} (h:Ties p q i L) (hl:q.length=p.length) (hi:i<=p.length) (hx:x∉L.map (·.1)) {j:Nat} (hj:j<i):p[j]?≠some x:=fun e=>by
 have hq:j<q.length:=by omega
 exact hx (aH.2 ⟨_,(h x _).2 ⟨j,hj,e,aA hq⟩,rfl⟩)
theorem Ties.break {p q:List Int} {i:Nat} {L:List (Int×Int)} {x y u:Int} (h:Ties p q i L) (hl:q.length=p.length) (hi:i<p.length) (hx:p[i]? =some x) (hy:q[i]? =some y) (hm:(x,u)∈L) (pT:u≠y):¬SamD p q:=fun hs=>by
 obtain⟨j,hj,h1,h2⟩:=(h x u).1 hm;have:=(hs j i (by omega) hi).1 (h1.trans hx.symm);rw[h2,hy]at this;cases this;exact pT rfl
theorem c4Y {p q:List Int} {L M:List (Int×Int)} (h:Ties p q p.length L) (h2:Ties q p p.length M) (hn:(L.map (·.1)).Nodup) (rW:(M.map (·.1)).Nodup) (hl:q.length=p.length):SamD p q:=fun i j hi hj=>by
 have a1:=aA hi;have a2:=aA hj;have b1:=aA (l:=q) (i:=i) (by omega);have b2:=aA (l:=q) (i:=j) (by omega);constructor
 ·intro e;have e:p[i]=p[j]:=by rw[a1,a2]at e;exact bZ.inj e
  have m1:=(h _ _).2 ⟨i,hi,a1,b1⟩;have m2:=(h _ _).2 ⟨j,hj,a2,b2⟩;rw[e]at m1;rw[b1,b2,CM hn m1 m2]
 ·intro e;have e:q[i]=q[j]:=by rw[b1,b2]at e;exact bZ.inj e
  have m1:=(h2 _ _).2 ⟨i,hi,b1,a1⟩;have m2:=(h2 _ _).2 ⟨j,hj,b2,a2⟩;rw[e]at m1;rw[a1,a2,CM rW m1 m2]
theorem Pz {H H':PH} {r:Nat} {ob:Obj} (h:PH.le H H') (hr:H r=none):PH.le H (H'.put r ob):=fun c cb hc=>by
 rw[PH.put_ne _ _ (fun e=>by subst e;rw[hr]at hc;cases hc)];exact h _ _ hc
end Go.GS
namespace Go.Proofs.Z
open Go.Proofs.Tryz
open Go.RowKit Go.RX Go.GS
section
variable {H:PH} {u v:Value} {p q:List Int}
theorem c9l (hu:SI H u p) (hv:SI H v q) (hL:LabOk p 8) (tK:LabOk q 8) (hl:q.length=p.length):Asks prog 64 [u,v] H (ii 0):=by
 refine j3 mixed d5H ?_;refine Aq (Zi hu 8) rfl ?_;refine d4 ?_;refine t6 (by show Value.bool (!decide (LabOk p 8))=_;rw[oDd hL];rfl) ?_;refine Aq (Zi hv 8) rfl ?_;refine d4 ?_;refine t6 (by show Value.bool (!decide (LabOk q 8))=_;rw[oDd tK];rfl) ?_;refine j7 el_plan hu ?_;refine j7 el_plan hv ?_;refine d4 (d4 ?_);refine t6 (by show Value.bool (((p.length:Nat):Int) !=((q.length:Nat):Int))=_;rw[hl];simp) ?_;exact g8 rfl ⟨rfl,rfl⟩
theorem c9m (hu:SI H u p) (hv:SI H v q) (hL:LabOk p 8) (tK:LabOk q 8) (hl:q.length=p.length):Con prog 22 [u,v] H fun r H'=>PH.le H H'/\∃b:Bool,r= .tuple #[.bool b,ii 0]/\(b=true↔SamD p q):=by
 refine j3 mixed d5G ?_;have wG:=hL.2.2;refine Aq (c9l hu hv hL tK hl) rfl ?_;refine d4 ?_;refine t6 rfl ?_;refine r4 (UQ rfl) rfl ?_;rintro _ Ha ⟨r1,rfl,zD,la,⟨oa,hoa⟩,ma⟩;refine nmI ?_;refine r4 (UQ rfl) rfl ?_;rintro _ Hb ⟨r2,rfl,hr2,lb,⟨ob,sC⟩,mb⟩;refine nmI ?_;obtain⟨E1,c1,he1⟩:=ma.eq;have pT:r1≠r2:=fun e=>by subst e;rw[he1]at hr2;cases hr2
 have a0h:H r2=none:=by
  cases e:H r2 with
  |none=>rfl
  |some o=>rw[la _ _ e]at hr2;cases hr2
 have ma':MS Hb r1 []:=by rw[sC];exact ma.put pT
 refine j7 el_plan (hu.mono (la.trans lb)) ?_;refine s9 (α:=Nat×List (Int×Int)×List (Int×Int)) (fun⟨i,L,M⟩=>[.bool false,ii 0,ii (i:Nat)]) (fun⟨i,L,M⟩=>fun H'=>i<=p.length/\PH.le H H'/\MS H' r1 L/\MS H' r2 M/\Ties p q i L/\Ties q p i M) (fun⟨i,L,M⟩=>p.length-i) ((0,[],[])) rfl ⟨Nat.zero_le _,la.trans lb,ma',mb,Ties.nil _ _,Ties.nil _ _⟩ fun⟨i,L,M⟩ H' hQ=> ?_;obtain⟨hi,l3,m1,m2,t1,t2⟩:=hQ;refine d4 (d4 ?_);refine i0 (b:=decide (((i:Nat):Int)<(p.length:Nat))) rfl (fun h=> ?_) (fun h=> ?_)
 ·replace h:=oDt h;have pW:i<p.length:=by omega
  obtain⟨x,hx⟩:∃x,p[i]? =some x:=⟨_,aA pW⟩;obtain⟨y,hy⟩:∃y,q[i]? =some y:=⟨_,aA (by omega)⟩;refine j8 el_plan (hu.mono l3) hx fun _=> ?_;obtain⟨b1,u1,qQ⟩:=mlk L x;refine r7 (Zv (vs:=[.map (some r1),ii x]) (m:= .map (some r1)) (k:=x) rfl rfl rfl Fq Gh Ko m1.mi qQ) rfl ?_;refine i8 (i8 ?_);refine j8 el_plan (hv.mono l3) hy fun _=> ?_;obtain⟨b2,u2,qR⟩:=mlk M y;refine r7 (Zv (vs:=[.map (some r2),ii y]) (m:= .map (some r2)) (k:=y) rfl rfl rfl Fq Gh Ko m2.mi qR) rfl ?_;simp only[cA,nA];refine i8 (i8 (d4 (d4 ?_)));have bad:¬SamD p q->PH.le H H'/\∃b:Bool,Value.tuple #[.bool false,ii 0]= .tuple #[.bool b,ii 0]/\(b=true↔SamD p q):=fun hn=>⟨l3,false,rfl,by simp[hn]⟩;refine i0 (b:=true !=(b1==b2)) rfl (fun hb=> ?_) (fun hb=> ?_)
  ·refine g8 rfl (bad fun hs=> ?_);rcases qQ with⟨rfl,_,tW⟩|⟨rfl,zR⟩<;>rcases qR with⟨rfl,_,rW⟩|⟨rfl,uM⟩
   ·cases hb
   ·obtain⟨j,hj,h1,h2⟩:=(t2 y u2).1 uM;have:=(hs j i (by omega) pW).2 (h1.trans hy.symm);exact t1.not_key hl hi tW hj (this.trans hx)
   ·obtain⟨j,hj,h1,h2⟩:=(t1 x u1).1 zR;have:=(hs j i (by omega) pW).1 (h1.trans hx.symm);exact t2.not_key hl.symm (by omega) rW hj (this.trans hy)
   ·cases hb
  ·refine i0 (b:=b1) rfl (fun hc=> ?_) (fun hc=> ?_)
   ·subst hc;have zR:(x,u1)∈L:=by rcases qQ with⟨h,_⟩|⟨_,h⟩;cases h;exact h
    have a2a:b2=true:=by cases b2<;>first|rfl|cases hb
    subst a2a;have uM:(y,u2)∈M:=by rcases qR with⟨h,_⟩|⟨_,h⟩;cases h;exact h
    refine j8 el_plan (hv.mono l3) hy fun _=> ?_;refine d4 (d4 ?_);refine i0 (b:=u1 !=y) rfl (fun hd=> ?_) (fun hd=> ?_)
    ·exact g8 rfl (bad (t1.break hl pW hx hy zR (by simpa using hd)))
    ·have hd:u1=y:=by simpa using hd
     subst hd;refine d4 (d4 ?_);refine i0 (b:=u2 !=x) rfl (fun he=> ?_) (fun he=> ?_)
     ·exact g8 rfl (bad fun hs=>t2.break hl.symm (by omega) hy hx uM (by simpa using he) (hs.symm hl))
     ·have he:u2=x:=by simpa using he
      subst he;refine j8 el_plan (hv.mono l3) hy fun _=> ?_;refine j8 el_plan (hv.mono l3) hy fun _=> ?_;refine r4 (og (vs:=[.map (some r1),ii u2]) rfl rfl rfl Fq Gh Ko m1) rfl ?_;rintro _ _ ⟨old1,s1,ob1,rfl,rfl,w1⟩;refine nmI ?_;refine i8 ?_;refine r4 (oh (vs:=[.map (some r1),.int .i64 (s1:Nat),ii u1]) rfl rfl rfl rfl w1) rfl ?_;rintro _ _ ⟨ob2,rfl,n1⟩;refine nmI ?_;have m2':=(m2.put (ob:=ob1) pT.symm).put (ob:=ob2) pT.symm;simp only[cA,nA];refine r4 (og (vs:=[.map (some r2),ii u1]) rfl rfl rfl Fq Gh Ko m2') rfl ?_;rintro _ _ ⟨old3,s3,ob3,rfl,rfl,w3⟩;refine nmI ?_;refine i8 ?_;refine r4 (oh (vs:=[.map (some r2),.int .i64 (s3:Nat),ii u2]) rfl rfl rfl rfl w3) rfl ?_;rintro _ _ ⟨ob4,rfl,n3⟩;refine nmI ?_;have n1':=(n1.put (ob:=ob3) pT).put (ob:=ob4) pT;exact⟨(i+1,Dw L u2 u1,Dw M u1 u2),by show p.length-(i+1)<p.length-i;omega,Cc rfl rfl (i9 rfl (by omega)),pW,Pz (Pz (Pz (Pz l3 zD) zD) a0h) a0h,n1',n3,t1.step m1.mi.1 hx hy (.inr zR),t2.step m2.mi.1 hy hx (.inr uM)⟩
   ·subst hc;have zR:x∉L.map (·.1):=by rcases qQ with⟨_,_,h⟩|⟨h,_⟩;exact h;cases h
    have a2a:b2=false:=by cases b2<;>first|rfl|cases hb
    subst a2a;have uM:y∉M.map (·.1):=by rcases qR with⟨_,_,h⟩|⟨h,_⟩;exact h;cases h
    refine j8 el_plan (hv.mono l3) hy fun _=> ?_;refine j8 el_plan (hv.mono l3) hy fun _=> ?_;refine r4 (og (vs:=[.map (some r1),ii x]) rfl rfl rfl Fq Gh Ko m1) rfl ?_;rintro _ _ ⟨old1,s1,ob1,rfl,rfl,w1⟩;refine nmI ?_;refine i8 ?_;refine r4 (oh (vs:=[.map (some r1),.int .i64 (s1:Nat),ii y]) rfl rfl rfl rfl w1) rfl ?_;rintro _ _ ⟨ob2,rfl,n1⟩;refine nmI ?_;have m2':=(m2.put (ob:=ob1) pT.symm).put (ob:=ob2) pT.symm;simp only[cA,nA];refine r4 (og (vs:=[.map (some r2),ii y]) rfl rfl rfl Fq Gh Ko m2') rfl ?_;rintro _ _ ⟨old3,s3,ob3,rfl,rfl,w3⟩;refine nmI ?_;refine i8 ?_;refine r4 (oh (vs:=[.map (some r2),.int .i64 (s3:Nat),ii x]) rfl rfl rfl rfl w3) rfl ?_;rintro _ _ ⟨ob4,rfl,n3⟩;refine nmI ?_;have n1':=(n1.put (ob:=ob3) pT).put (ob:=ob4) pT;exact⟨(i+1,Dw L x y,Dw M y x),by show p.length-(i+1)<p.length-i;omega,Cc rfl rfl (i9 rfl (by omega)),pW,Pz (Pz (Pz (Pz l3 zD) zD) a0h) a0h,n1',n3,t1.step m1.mi.1 hx hy (.inl zR),t2.step m2.mi.1 hy hx (.inl uM)⟩
 ·replace h:=oDf h;have he:i=p.length:=by omega
  subst he;exact g8 rfl ⟨l3,true,rfl,by simp[c4Y t1 t2 m1.mi.1 m2.mi.1 hl]⟩
end
end Go.Proofs.Z
/- Chapter 32: what is drawn by walks is a tree. -/
namespace Go.GS
section
variable {es:List (Nat×Nat)} {S n:Nat}
def CHn (es:List (Nat×Nat)) (S:Nat) (l:List Nat):Prop:=∀i a b,l[i]? =some a->l[i+1]? =some b->adj es a b/\bit S b=true
theorem CHn.one (x:Nat):CHn es S [x]:=fun i a b _ h=>by simp at h
theorem CHn.snoc {l:List Nat} {x y:Nat} (h:CHn es S (l++[x])) (ha:adj es x y) (hy:bit S y=true):CHn es S (l++[x]++[y]):=fun i a b h1 h2=>by
 by_cases hi:i+1<(l++[x]).length
 ·rw[List.getElem?_append_left (by omega)]at h1 h2;exact h i a b h1 h2
 ·have h3:=(aC.1 h2).1;simp only[aJ,bA,dM]at hi h3;have hi:i=l.length:=by omega
  subst hi;rw[bG,cQ (aN _),iQ]at h1;rw[bG,cQ (by omega),show l.length+1-l.length=1 by omega]at h2;cases h1;cases h2;exact⟨ha,hy⟩
theorem CHn.cons {l:List Nat} {x y:Nat} (h:CHn es S (y::l)) (ha:adj es x y) (hy:bit S y=true):CHn es S (x::y::l):=fun i a b h1 h2=>by
 cases i with
 |zero=>simp only[List.getElem?_cons_zero,aD,List.getElem?_cons_succ,Nat.zero_add]at h1 h2;subst h1;subst h2;exact⟨ha,hy⟩
 |succ i=>exact h i a b (by simpa using h1) (by simpa using h2)
theorem CN (hg:GV n es) (hs:S<M64) {x y:Nat}:y∈nbl es S x↔adj es x y/\bit S y=true:=by
 unfold nbl;have hM:nb es x&&&S<M64:=aY Nat.and_le_right hs;rw[Gf hM,Gq,aF,xw hg.ed]
theorem d5J (hg:GV n es) (hs:S<M64) (hC:Cn es S) (h2:2<=card S) {x:Nat} (hx:bit S x=true):(nbl es S x).length≠0:=fun h0=>by
 have he:nbl es S x=[]:=List.eq_nil_of_length_eq_zero h0;have qG:∀y,Rch es S x y->y=x:=fun y hy=>by
  induction hy with
  |base=>rfl
  |step _ ha hz ih=>
   subst ih;have:=(CN hg hs).2 ⟨ha,hz⟩;rw[he]at this;cases this
 have sB:∀y∈els S,y=x:=fun y hy=>qG y (hC.all hx ((Gf hs).1 hy));have:=ai (l:=els S) (m:=[x]) ((Vb S).imp fun h=>Nat.ne_of_lt h) (fun y hy=>by rw[sB y hy];simp);unfold card at h2;simp at this;omega
theorem UR (hg:GV n es) (hs:S<M64) {til:Nat}:∀(k:Nat) (pre:List Nat) (x c:Nat) {l:List Nat} {c' k':Nat},CHn es S (pre++[x])->Dj es S til k (pre++[x]) x c= .inr (l,c',k')->CHn es S l
 |0,pre,x,c,l,c',k',hc,h=>by
  simp only[Dj]at h;split at h
  ·cases h;exact hc
  ·cases h
 |k+1,pre,x,c,l,c',k',hc,h=>by
  simp only[Dj]at h;split at h
  ·cases h;exact hc
  ·split at h
   ·rename_i h0;have hm:(nbl es S x).getD (j9 c (nbl es S x).length).1 0∈nbl es S x:=by
     rw[aB,aA (Na h0)];exact eH _
    obtain⟨h1,h2⟩:=(CN hg hs).1 hm;exact UR hg hs k (pre++[x]) _ _ (hc.snoc h1 h2) h
   ·cases h
theorem ol {s m:Nat} (hm:m≠0) (h:(j9 s m).2.2≠0):(j9 s m).2.2=9:=by
 unfold j9 at h⊢;rw[if_neg hm]at h⊢;cases hf:Du m 200 s with
 |none=>rfl
 |some p=>rw[hf]at h;exact absurd rfl h
theorem US (hg:GV n es) (hs:S<M64) (hC:Cn es S) (h2:2<=card S) {til:Nat}:∀(k:Nat) (out:List Nat) (x c:Nat) {e:Nat},bit S x=true->Dj es S til k out x c= .inl e->e=9
 |0,out,x,c,e,hx,h=>by
  simp only[Dj]at h;split at h
  ·cases h
  ·cases h;rfl
 |k+1,out,x,c,e,hx,h=>by
  simp only[Dj]at h;split at h
  ·cases h
  ·split at h
   ·rename_i h0;have hm:(nbl es S x).getD (j9 c (nbl es S x).length).1 0∈nbl es S x:=by
     rw[aB,aA (Na h0)];exact eH _
    exact US hg hs hC h2 k _ _ _ ((CN hg hs).1 hm).2 h
   ·rename_i h0;cases h;exact ol (d5J hg hs hC h2 hx) h0
theorem UT {l:List Nat} (hc:CHn es S l):∀(f x j:Nat),Ep l l.length x=some j->CHn es S (x::Hj l f x)
 |0,x,j,_=>by simp only[Hj];exact CHn.one x
 |f+1,x,j,hj=>by
  by_cases hx:l[l.length-1]? =some x
  ·rw[zn hx];exact CHn.one x
  ·obtain⟨y,j',h1,h2,h3,_⟩:=zm hx hj;rw[zo hx hj h2];obtain⟨a,b⟩:=hc j x y (Ss hj).2.1 h1;exact(UT hc f y j' h3).cons a b
structure Way (es:List (Nat×Nat)) (S d:Nat) (w r:List Nat) (z:Nat):Prop where
 eq:w=r++[z]
 nd:w.Nodup
 new:∀y∈r,bit d y=false
 old:bit d z=true
 ch:CHn es S w
theorem d8R (hg:GV n es) (qK:n<=64) (hs:S<M64) {d left x c:Nat} (hx:x<n) {l:List Nat} {c' k':Nat} (h:Dj es S d left [x] x c= .inr (l,c',k')):∃r z,Way es S d (u0 l) r z/\(u0 l).head? =some x:=by
 have hch:=UR hg hs left [] x c (CHn.one x) h;have pV:∃t,l=x::t:=by
  have:∀(k:Nat) (out:List Nat) (y c:Nat) {l:List Nat} {c' k':Nat},Dj es S d k out y c= .inr (l,c',k')->∃t,l=out++t:=by
   intro k;induction k with
   |zero=>
    intro out y c l c' k' h;simp only[Dj]at h;split at h
    ·cases h;exact⟨[],by simp⟩
    ·cases h
   |succ k ih=>
    intro out y c l c' k' h;simp only[Dj]at h;split at h
    ·cases h;exact⟨[],by simp⟩
    ·split at h
     ·obtain⟨t,ht⟩:=ih _ _ _ h;exact⟨_,by rw[ht,bG]⟩
     ·cases h
  obtain⟨t,ht⟩:=this left [x] x c h;exact⟨t,by rw[ht];rfl⟩
 obtain⟨pre,z,rfl,h2,h3,h4,h5⟩:=OQ hg qK hs left [] x c (fun y hy=>by cases hy) (fun y hy=>by obtain rfl:=aQ.1 hy;exact hx) h;have pR:0<(pre++[z]).length:=by simp
 obtain⟨j,hj,_⟩:=Zz (aA pR) pR;have h0:(pre++[z]).getD 0 0=(pre++[z])[0]:=by rw[aB,aA pR];rfl
 obtain⟨g1,g2,r,g3,g4⟩:=OO (z:=z) h2 (pre++[z]).length _ j hj (by omega);have he:u0 (pre++[z])=(pre++[z])[0]::Hj (pre++[z]) (pre++[z]).length (pre++[z])[0]:=by unfold u0;rw[h0]
 refine⟨r,z,⟨by rw[he];exact g3,by rw[he];exact g1,g4,h3,by rw[he];exact UT hch _ _ j hj⟩,?_⟩;obtain⟨t,ht⟩:=pV;rw[he];simp only[ht,List.getElem_cons_zero,List.head?_cons]
end
section
variable {es:List (Nat×Nat)} {S n:Nat}
theorem UU (hg:GV n es) {a b:Nat} (h:adj es a b):0<=Il es (min b a,max b a)/\(Il es (min b a,max b a)).toNat<es.length/\Ed es (Il es (min b a,max b a))=(min b a,max b a):=by
 obtain⟨e,he,h⟩:=h;have h12:=hg.ed e he;have hm:(min b a,max b a)=e:=by
  rcases h with⟨h1,h2⟩|⟨h1,h2⟩
  ·exact lK (by show min b a=e.1;omega) (by show max b a=e.2;omega)
  ·exact lK (by show min b a=e.1;omega) (by show max b a=e.2;omega)
 rw[hm];unfold Il;rw[if_pos he];have hl:=List.idxOf_lt_length_of_mem he;refine⟨by omega,by omega,?_⟩;unfold Ed;rw[bB,aB,aA hl,List.getElem_idxOf hl];rfl
structure GT (es:List (Nat×Nat)) (S d:Nat) (tr:List Int):Prop where
 d0:d≠0
 sub:∀y,bit d y=true->bit S y=true
 ok:∀i∈tr,OkI es d i
 len:tr.length+1=card d
 one:∀x y,bit d x=true->bit d y=true->Rch (etl es tr) d x y
theorem edW_mem {w:List Nat} {i:Int}:∀{m:Nat},i∈edW es w m↔∃j,j<m/\j≠0/\i=Il es (min (w.getD j 0) (w.getD (j-1) 0),max (w.getD j 0) (w.getD (j-1) 0))
 |0=>by simp[edW]
 |m+1=>by
  rw[ky,aV,edW_mem (m:=m)];constructor
  ·rintro(⟨j,h1,h2,h3⟩|h)
   ·exact⟨j,by omega,h2,h3⟩
   ·split at h
    ·cases h
    ·rename_i h0;exact⟨m,by omega,h0,aQ.1 h⟩
  ·rintro⟨j,h1,h2,h3⟩;by_cases e:j=m
   ·subst e;right;rw[if_neg h2,h3];simp
   ·exact .inl ⟨j,by omega,h2,h3⟩
theorem GT.way (hg:GV n es) (hs:S<M64) {d:Nat} {tr:List Int} {w r:List Nat} {z:Nat} (h:GT es S d tr) (hw:Way es S d w r z) (hx:∀x,w.head? =some x->bit S x=true):GT es S (orL d w) (tr++edW es w w.length):=by
 have hdM:d<M64:=aY (sub_le h.sub) hs;have hwS:∀y∈w,bit S y=true:=fun y hy=>by
  obtain⟨i,hi⟩:=bP.1 hy;cases i with
  |zero=>exact hx y (by rw[List.head?_eq_getElem?];exact hi)
  |succ i=>
   have hil:=(aC.1 hi).1;exact(hw.ch i _ y (aA (show i<w.length by omega)) hi).2
 have hb:∀y,bit (orL d w) y=true↔bit d y=true\/y∈w:=fun y=>by rw[ac];simp
 have qM:∀y,bit (orL d w) y=true->bit S y=true:=fun y hy=>((hb y).1 hy).elim (h.sub y) (hwS y);have hM:orL d w<M64:=aY (sub_le qM) hs;have wY:∀y,bit d y=true->bit (orL d w) y=true:=fun y hy=>(hb y).2 (.inl hy);have hrl:r.length+1=w.length:=by rw[hw.eq];simp
 have vP:orL d w=orL d r:=Ax fun y=>by
  rw[bH,ac,ac,hw.eq];simp only[Bool.or_eq_true,oDi,aV,aQ];constructor
  ·rintro(h|h|h)
   ·exact .inl h
   ·exact .inr h
   ·subst h;exact .inl hw.old
  ·rintro(h|h)
   ·exact .inl h
   ·exact .inr (.inl h)
 have a0x:r.Nodup:=by have:=hw.nd;rw[hw.eq,List.nodup_append]at this;exact this.1
 have wX:card (orL d w)=card d+r.length:=by
  refine Nat.le_antisymm ?_ ?_
  ·rw[vP];have:∀r:List Nat,card (orL d r)<=card d+r.length:=by
    intro r;induction r using Hy with
    |nil=>exact aN _
    |snoc r y ih=>
     rw[Su,aJ];have:=d4A (s:=orL d r) (i:=y);simp only[bA,dM];omega
   exact this r
  ·rw[vP];exact kw r d a0x fun y hy=>⟨hw.new y hy,Db hs (hwS y (by rw[hw.eq];simp[hy]))⟩
 have a0s:∀j,j<w.length->j≠0->∃a b,w[j-1]? =some a/\w[j]? =some b/\adj es a b/\(min (w.getD j 0) (w.getD (j-1) 0),max (w.getD j 0) (w.getD (j-1) 0))=(min b a,max b a):=fun j hj h0=>by
  have h1:=aA hj;have h2:=aA (show j-1<w.length by omega);refine⟨_,_,h2,h1,(hw.ch (j-1) _ _ h2 (by rw[show j-1+1=j by omega];exact h1)).1,?_⟩;rw[aB,aB,h1,h2];rfl
 have a6w:∀i∈edW es w w.length,OkI es (orL d w) i:=fun i hi=>by
  obtain⟨j,hj,h0,rfl⟩:=edW_mem.1 hi;obtain⟨a,b,h1,h2,h3,h4⟩:=a0s j hj h0;rw[h4];obtain⟨i1,i2,i3⟩:=UU hg h3;have ha:=(hb a).2 (.inr (aI h1));have qZ:=(hb b).2 (.inr (aI h2));refine⟨i1,i2,?_⟩;rw[i3];rcases fL b a with hh|hh
  ·rw[Nat.min_eq_left hh,Nat.max_eq_right hh];exact⟨qZ,ha⟩
  ·rw[Nat.min_eq_right hh,Nat.max_eq_left hh];exact⟨ha,qZ⟩
 have hL1:∀e∈etl es tr,e∈etl es (tr++edW es w w.length):=fun e he=>by
  obtain⟨i,hi,rfl⟩:=Eu he;exact Ip (List.mem_append_left _ hi)
 have a1m:∀j a b,w[j]? =some a->w[j+1]? =some b->adj (etl es (tr++edW es w w.length)) a b:=fun j a b h1 h2=>by
  have hj:=(aC.1 h2).1;obtain⟨a',b',g1,g2,g3,g4⟩:=a0s (j+1) hj (by omega);rw[Nat.add_sub_cancel,h1]at g1;rw[h2]at g2;cases g1;cases g2;obtain⟨i1,i2,i3⟩:=UU hg g3;refine⟨(min b a,max b a),?_,?_⟩
  ·rw[<-i3];refine Ip (List.mem_append_right _ (edW_mem.2 ⟨j+1,hj,by omega,?_⟩));rw[g4]
  ·rcases fL b a with hh|hh
   ·right;exact⟨by show max b a=a;omega,by show min b a=b;omega⟩
   ·left;exact⟨by show min b a=a;omega,by show max b a=b;omega⟩
 have wB:w[r.length]? =some z:=by rw[hw.eq,cQ (aN _),iQ];rfl
 have hzw:bit (orL d w) z=true:=wY z hw.old;have a6x:∀m j a,r.length-j=m->w[j]? =some a->Rch (etl es (tr++edW es w w.length)) (orL d w) a z:=by
  intro m;induction m with
  |zero=>
   intro j a hm ha;have hj:=(aC.1 ha).1;have:j=r.length:=by omega
   subst this;rw[wB]at ha;cases ha;exact .base
  |succ m ih=>
   intro j a hm ha;have h2:=aA (show j+1<w.length by omega);have hba:=(hb _).2 (.inr (aI h2));exact(Rch.base.step (a1m j a _ ha h2) hba).trans (ih (j+1) _ (by omega) h2)
 have hto:∀y,bit (orL d w) y=true->Rch (etl es (tr++edW es w w.length)) (orL d w) y z:=fun y hy=>by
  rcases(hb y).1 hy with hy|hy
  ·exact(h.one y z hy hw.old).mono hL1 wY
  ·obtain⟨j,hj⟩:=bP.1 hy;exact a6x _ j y rfl hj
 refine⟨fun e=> ?_,qM,fun i hi=> ?_,?_,fun x y rZ sL=>(hto x rZ).trans ((hto y sL).symm sL)⟩
 ·rw[e,Bz]at hzw;cases hzw
 ·rcases aV.1 hi with hi|hi
  ·have:=h.ok i hi;exact⟨this.1,this.2.1,wY _ this.2.2.1,wY _ this.2.2.2⟩
  ·exact a6w i hi
 ·rw[aJ,ae,wX];have:=h.len;omega
theorem GT.tree (hs:S<M64) {tr:List Int} (h:GT es S S tr):TreeOk es S (Dc tr):=by
 obtain⟨hp,_⟩:=Wc tr;have pY:Inn S (etl es tr):=fun e he=>by
  obtain⟨i,hi,rfl⟩:=Eu he;exact(h.ok i hi).2.2
 have hl:(etl es tr).length=tr.length:=List.length_map _;have sB:One (lab (etl es tr)) S:=(Jl pY).2 h.one;have a6y:=(yg hs h.d0 pY (by rw[hl];exact h.len)).2 sB;have sJ:tr.Nodup:=by
  rw[List.Nodup,List.pairwise_iff_getElem];intro i j hi hj sA e;have h1:=a6y j (Ed es tr[j]) (by omega) (jo (aA hj));have hm:Ed es tr[j]∈(etl es tr).take j:=by
   rw[List.mem_take_iff_getElem];refine⟨i,by omega,?_⟩;simp only[etl,List.getElem_map,e]
  exact h1 (Go.Proofs.Z.lab_mem hm)
 refine nf hs h.d0 (RP sJ) (fun i hi=>h.ok i (hp.mem_iff.1 hi)) (by rw[hp.length_eq];exact h.len) ?_;have a6z:Inn S (etl es (Dc tr)):=fun e he=>by
  obtain⟨i,hi,rfl⟩:=Eu he;exact(h.ok i (hp.mem_iff.1 hi)).2.2
 refine(Jl a6z).2 fun x y hx hy=>(h.one x y hx hy).mono (fun e he=> ?_) fun z hz=>hz;obtain⟨i,hi,rfl⟩:=Eu he;exact Ip (hp.mem_iff.2 hi)
theorem CO (hg:GV n es) (qK:n<=64) (hs:S<M64) (hsn:S<2^n):∀(k d:Nat) (tr:List Int) (c left:Nat) {tr':List Int} {c':Nat},k<=n->GT es S d tr->(∀y,y<n-k->bit S y=true->bit d y=true)->Ea es S n k d tr c left= .inr (tr',c')->TreeOk es S (Dc tr')
 |0,d,tr,c,left,tr',c',_,hG,qG,h=>by
  simp only[Ea]at h;cases h;have:d=S:=Ax fun y=>by
   rw[bH];refine⟨hG.sub y,fun hy=>qG y ?_ hy⟩;rcases Nat.lt_or_ge y n with h|h
   ·omega
   ·have:S.testBit y=false:=Nat.testBit_lt_two_pow (Nat.lt_of_lt_of_le hsn (Nat.pow_le_pow_right (by decide) h));unfold bit at hy;rw[this]at hy;cases hy
  subst this;exact hG.tree hs
 |k+1,d,tr,c,left,tr',c',hk,hG,qG,h=>by
  simp only[Ea]at h;split at h
  ·rename_i vJ;split at h
   ·cases h
   ·rename_i l c2 left2 hw;obtain⟨r,z,hW,hhd⟩:=d8R hg qK hs (show n-(k+1)<n by omega) hw;have hx:∀x,(u0 l).head? =some x->bit S x=true:=fun x hx=>by rw[hhd]at hx;cases hx;exact vJ.1
    refine CO hg qK hs hsn k _ _ c2 left2 (by omega) (hG.way hg hs hW hx) (fun y hy hyS=> ?_) h;rw[ac];by_cases e:y=n-(k+1)
    ·subst e;have:n-(k+1)∈u0 l:=List.mem_of_mem_head? (by rw[hhd];simp);simp[this]
    ·rw[qG y (by omega) hyS];rfl
  ·rename_i vJ;refine CO hg qK hs hsn k d tr c left (by omega) hG (fun y hy hyS=> ?_) h;by_cases e:y=n-(k+1)
   ·subst e;cases hb:bit d (n-(k+1))with
    |true=>rfl
    |false=>exact absurd ⟨hyS,hb⟩ vJ
   ·exact qG y (by omega) hyS
theorem CP (hg:GV n es) (hs:S<M64) (hC:Cn es S) (h2:2<=card S):∀(k d:Nat) (tr:List Int) (c left:Nat) {e:Nat},Ea es S n k d tr c left= .inl e->e=9
 |0,d,tr,c,left,e,h=>by simp only[Ea]at h;cases h
 |k+1,d,tr,c,left,e,h=>by
  simp only[Ea]at h;split at h
  ·rename_i vJ;split at h
   ·rename_i e' hw;cases h;exact US hg hs hC h2 _ _ _ _ vJ.1 hw
   ·exact CP hg hs hC h2 k _ _ _ _ h
  ·exact CP hg hs hC h2 k _ _ _ _ h
theorem GT.start (hs:S<M64) (h0:S≠0):GT es S (2^lst S) []:=by
 have hx:=Nh hs h0;have hb:∀y,bit (2^lst S) y=true↔lst S=y:=fun y=>by rw[Ae,oDi]
 refine⟨by have:=Nat.two_pow_pos (lst S);omega,fun y hy=>(hb y).1 hy ▸ hx,(fun i hi=>by cases hi),?_,fun x y rZ sL=> ?_⟩
 ·have:els (2^lst S)=[lst S]:=wb (Vb _) (List.pairwise_singleton _ _) fun y=>by
   rw[Gf (An (Db hs hx)),hb];simp[eq_comm]
  unfold card;rw[this];rfl
 ·rw[<-(hb x).1 rZ,<-(hb y).1 sL];exact .base
theorem c5b (hg:GV n es) (qK:n<=64) (hs:S<M64) (hsn:S<2^n) (h0:S≠0) {c left c':Nat} {tr:List Int} (h:Ea es S n n (2^lst S) [] c left= .inr (tr,c')):TreeOk es S (Dc tr):=
 CO hg qK hs hsn n _ _ c left (aN _) (GT.start hs h0) (fun y hy=>by omega) h
end
end Go.GS
/- Chapter 32: the chain is reversible. -/
namespace Go.GS
theorem c9n {a b:Nat} (h:∀y,bit a y=true->bit b y=false):card (a|||b)=card a+card b:=by
 rw[AZ (S:=a|||b) (A:=a) (fun y hy=>e1j hy),BM h]
theorem UV {a:Nat} (hs:a<M64) (h0:a≠0):1<=card a:=by
 obtain⟨m,r,he,_⟩:=Je hs h0;unfold card;rw[he];simp
end Go.GS
namespace Go.Proofs.Z
open Go.Proofs.Tryz
open Go.RowKit Go.RX Go.GS Go.RZ
open Go.WD (BP Bf wd rs toI HM sgI Rb)
section
variable {es:List (Nat×Nat)} {wl:List Int} {lo hi:Int} {n k:Nat} {p:List Int}
theorem CQ (hf:y8 n es wl lo hi (k:Nat) p=true):∀m∈masks p k,alB es wl lo hi m=true:=by
 unfold y8 at hf;rw[aF,bB]at hf;exact dJ.1 hf.2
theorem UW (hL:LabOk p (k:Nat)) (hU:Ak p k) (hl:p.length=n) (h1:1<=k) (h8:k<=8) (h:∀m∈masks p k,alB es wl lo hi m=true):y8 n es wl lo hi (k:Nat) p=true:=by
 unfold y8;rw[aF,bB];refine⟨oDd ?_,dJ.2 h⟩;unfold plE;rw[if_neg (by omega),if_pos ⟨hl,hL,by rw[bB];exact hU⟩]
theorem SitO.fit (h:SitO es n k p) (h':∀m∈masks p k,alB es wl lo hi m=true):y8 n es wl lo hi (k:Nat) p=true:=UW h.lab h.used h.len h.k1 (by have:=h.k4;omega) h'
theorem SitO.fitn (h:SitO es n k p) (hf:∀m∈masks p k,alB es wl lo hi m=true) {x:(Nat×Nat)×Nat} (hx:x∈Em es wl lo hi k p):∀m∈masks (Bl p x.1 x.2) k,alB es wl lo hi m=true:=fun m hm=>by
 have hh:=h.hit hx;rcases(hh.prt.masks m).1 hm with rfl|rfl|⟨d,hd,_,_,rfl⟩
 ·exact hh.ala
 ·exact hh.alb
 ·exact hf _ (mem_masks.2 ⟨d,hd,rfl⟩)
end
end Go.Proofs.Z
/- Chapter 32: a step leads to a plan that has a probability. -/
namespace Go.Proofs.Z
open Go.Proofs.Tryz
open Go.RowKit Go.RX Go.GS Go.RZ
open Go.WD (BP Bf wd rs toI HM sgI Rb)
section
variable {es:List (Nat×Nat)} {wl:List Int} {lo hi:Int} {n k:Nat} {p:List Int}
def e1p (es:List (Nat×Nat)) (wl:List Int) (lo hi:Int) (n k:Nat) (p:List Int):Nat ⊕ (List Int×Bool×Nat)->Prop
 | .inl e=>e=9
 | .inr (q,mv,_)=>(q=p/\mv=false/\0<1-Ce es wl lo hi n k p)\/(mv=true/\∃x∈Em es wl lo hi k p,q=Bl p x.1 x.2)
theorem om {t:Rat} (h:t<1):0<1-t:=by grind
theorem SitO.stP (h:SitO es n k p) (c:Nat):e1p es wl lo hi n k p (stP n es wl lo hi k p c):=by
 have uI:n<=64:=by have:=h.n9;omega
 have pO:∀{pr:Nat×Nat},pr∈i7 k->_->Ce es wl lo hi n k p<1:=fun qT hh=>d8C h.lab h.used h.can h.len uI qT hh;unfold Go.GS.stP;split
 ·rename_i h1;refine .inl ⟨rfl,rfl,?_⟩;have e:Ce es wl lo hi n k p=0:=by
   unfold Ce;rw[h.odds];unfold Em;rw[h1,show i7 1=[]from by decide];rfl
  rw[e];decide+kernel
 ·rename_i tH;have sV:2<=k:=by have:=h.k1;omega
  have hm0:(i7 k).length≠0:=jF (PD ⟨k,by have:=h.k4;omega⟩ sV);split
  ·rename_i he;exact ol hm0 he
  ·rename_i he;have he:=jB.1 he;have zZ:=Na he;obtain⟨pr,qT,vK⟩:∃pr,(i7 k).getD (j9 c (i7 k).length).1 (0,0)=pr/\pr∈i7 k:=⟨_,rfl,by rw[aB,aA zZ];exact eH _⟩;rw[qT];have yJ:=Ta vK;have hP:=h.pr vK;have rW:=h.n2 vK;have hS:Av p pr=unP p pr:=rfl;rw[hS];have xH:∀y,bit (j5 p (pr.1:Nat)) y=true->bit (j5 p (pr.2:Nat)) y=false:=fun y hy=>by
    cases hb:bit (j5 p (pr.2:Nat)) y with
    |false=>rfl
    |true=>have:=bg hy hb;omega
   have hM:∀d:Nat,j5 p (d:Nat)<M64:=fun d=>Zh p _ (by have:=h.len;omega);have rD:2<=card (unP p pr):=by
    have e1:card (unP p pr)=_:=c9n xH;have a1:=UV (hM pr.1) (h.used pr.1 (by omega));have a2:=UV (hM pr.2) (h.used pr.2 yJ.2);omega
   generalize (j9 c (i7 k).length).2.1=c1;unfold stA;split
   ·rename_i tA;have hC:=cnB_iff.1 tA;have hts:=BQ (es:=es) hP.sM hP.s0 hC;split
    ·rename_i e hd;exact CP h.gv hP.sM hC rD _ _ _ _ _ hd
    ·rename_i tr c2 hd;have hT:=c5b h.gv uI hP.sM hP.s2 hP.s0 hd;generalize Dc tr=t at hT;have hsd:∀e,sdP es (unP p pr) t e=(y9 es (unP p pr) t e,sdf (unP p pr) (y9 es (unP p pr) t e)):=fun e=> @if_pos _ (dU _) hT _ _ _;have zK:=hT.len;unfold stB;split
     ·rename_i he2;exact ol (by omega) he2
     ·rename_i he2;have he2:=jB.1 he2;have hy:=Na he2;split
      ·rename_i pP;refine .inl ⟨rfl,rfl,om (pO vK ?_)⟩;by_cases a7a:card (unP p pr)<n
       ·exact .inr (.inl a7a)
       ·right;right;have hcd:=hP.cd;obtain⟨e,he,uU⟩:∃e∈t,¬(alB es wl lo hi (y9 es (unP p pr) t e)=true/\alB es wl lo hi (sdf (unP p pr) (y9 es (unP p pr) t e))=true):=by
         refine aP fun uU=> ?_;have qG:Gu es wl lo hi (unP p pr) t t=t:=List.filter_eq_self.2 fun e he=>by
          rw[hsd,aF];exact aP fun hh=>uU ⟨e,he,hh⟩
         rw[qG]at pP;omega
        refine BV hP hT he (.inl fun pY=>uU ?_);obtain⟨_,_,h3,h4,_⟩:=par_mem.1 pY;exact⟨h3,h4⟩
      ·rename_i pP;obtain⟨e,hee,sD⟩:∃e,(Gu es wl lo hi (unP p pr) t t).getD (j9 c2 (n-1)).1 0=e/\e∈Gu es wl lo hi (unP p pr) t t:=⟨_,rfl,by rw[aB,aA (by omega)];exact eH _⟩;rw[hee,hsd];obtain⟨het,a2b⟩:=List.mem_filter.1 sD;rw[hsd,aF]at a2b;have cut:=ng hP.sM hP.s0 hT het rfl;have pS:=hT.ok e het;have hbp:Br es (y9 es (unP p pr) t e) (sdf (unP p pr) (y9 es (unP p pr) t e))≠0:=by
        rw[<-BF];exact jF (List.length_pos_of_mem (crs_mem.2 ⟨pS.1,pS.2.1,cut.bt⟩))
       have hAS:y9 es (unP p pr) t e≠unP p pr:=fun e1=>cut.b0 (Ax fun y=>by
        rw[Ad,e1,Bz];cases bit (unP p pr) y<;>rfl)
       generalize hA:y9 es (unP p pr) t e=A at*;generalize (j9 c2 (n-1)).2.1=c3;unfold stC;simp only;split
       ·rename_i he3;exact ol hbp he3
       ·rename_i he3;have he3:=jB.1 he3;have hz:=Na he3;split
        ·rename_i uO;refine .inl ⟨rfl,rfl,om (pO vK (.inr (.inr ?_)))⟩;refine BV hP hT het (.inr ?_);rw[hA];omega
        ·have hq:n8 (Bj p (pr.1:Nat) (pr.2:Nat) A)=Bl p pr A:=rfl;rw[hq];by_cases hpq:p=Bl p pr A
         ·refine .inl ⟨hpq.symm,by rw[oDd hpq];rfl,om (pO vK (.inr (.inr ?_)))⟩;refine BV hP hT het (.inl fun pY=> ?_);rw[hA]at pY;exact(par_mem.1 pY).2.2.2.2 (by rw[<-hpq])
         ·refine .inr ⟨by rw[decide_eq_false hpq];rfl,(pr,A),idx_mem.2 ⟨vK,c4y hP.sM hP.s0 cut.sub cut.lst hAS,?_,a2b.1,a2b.2,fun e1=>hpq (QR (by rw[nr]) e1)⟩,rfl⟩;rw[Jo hP.sM hP.s0];omega
   ·rename_i tA;refine .inl ⟨rfl,rfl,om (pO vK (.inl ?_))⟩;exact aP fun ht=>tA (cnB_iff.2 (d5j hP.sM hP.s0 ht))
structure e1q (es:List (Nat×Nat)) (wl:List Int) (lo hi:Int) (n k:Nat) (p q:List Int) (mv:Bool):Prop where
 sit:SitO es n k q
 fit:y8 n es wl lo hi (k:Nat) q=true
 mv:mv= !decide (q=p)
 pos:0<vO (Ba es wl lo hi n k p) (m7 q)
 rb:Rb 256 (vO (Ba es wl lo hi n k p) (m7 q))
theorem SitO.step (h:SitO es n k p) (hf:y8 n es wl lo hi (k:Nat) p=true) {q:List Int} {mv:Bool} {c c':Nat} (hs:Go.GS.stP n es wl lo hi k p c= .inr (q,mv,c')):e1q es wl lo hi n k p q mv:=by
 have:=h.stP (wl:=wl) (lo:=lo) (hi:=hi) c;rw[hs]at this;rcases this with⟨rfl,rfl,qA⟩|⟨rfl,x,hx,rfl⟩
 ·refine⟨h,hf,by rw[oDd rfl];rfl,?_,?_⟩
  ·rw[h.stayv];exact qA
  ·rw[h.stayv];exact(h.stay).2.2
 ·have hh:=h.hit hx;have hn:=h.next hh.pr hh.pl;have hv:=h.val hx;refine⟨hn,hn.fit (h.fitn (CQ hf) hx),by rw[decide_eq_false (fun e=>hh.ne e.symm)];rfl,?_,?_⟩
  ·rw[h.hitv hx];exact hv.1
  ·rw[h.hitv hx];exact hv.2.2
end
end Go.Proofs.Z
/- Chapter 32: the law RecomSteps returns true. -/
namespace Go.Proofs.Z
open Go.Proofs.Tryz
open Go.RowKit Go.RX Go.GS
section
variable {H:PH} {n c:Nat} {w:Value} {es:List (Nat×Nat)}
def qOf:Int ⊕ (List Int×Bool×Nat)->List Int| .inl _=>[]| .inr x=>x.1
def e1r:Int ⊕ (List Int×Bool×Nat)->Bool| .inl _=>false| .inr x=>x.2.1
def cOf:Int ⊕ (List Int×Bool×Nat)->Nat| .inl _=>0| .inr x=>x.2.2
def eOf:Int ⊕ (List Int×Bool×Nat)->Int| .inl e=>e| .inr _=>0
theorem SteV.view {H:PH} {r:Value} {R:Int ⊕ (List Int×Bool×Nat)} (h:SteV H r R):∃v,r= .tuple #[v,.bool (e1r R),chV (cOf R),ii (eOf R)]/\SI H v (qOf R)/\cOf R<M64:=by
 cases R with
 |inl e=>exact⟨_,h.2,SE.nil _ _ _,Jy⟩
 |inr x=>obtain⟨q,mv,c⟩:=x;obtain⟨h1,v,h2,h3⟩:=h;exact⟨v,h2,h3,h1⟩
end
end Go.Proofs.Z

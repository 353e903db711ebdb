/- Trees of a set, and trees that are cut at an edge. -/
import Derived.Test.YtmannekkmdockaaGreatDoorGdE
import Derived.Test.YtmannekkmdockaaGreatDoorGyD
namespace Go.GS
variable {es:List (Nat×Nat)} {S A n:Nat}
theorem d5C {L:List (Nat×Nat)} (hs:S<M64) (h:Inn S L):∀e∈L,e.1<64/\e.2<64:=fun e he=>⟨a1r hs (h e he).1,a1r hs (h e he).2⟩
theorem a4i {L:List (Nat×Nat)} (h:Inn S L):One (lab L) S↔∀x y,bit S x=true->bit S y=true->Rch L S x y:=
 ⟨fun h1 x y hx hy=>(a4c h hx hy).1 (h1 x y hx hy),fun h1 x y hx hy=>(a4c h hx hy).2 (h1 x y hx hy)⟩
theorem b1C {L:List (Nat×Nat)} (hs:S<M64) (h0:S≠0) (h:Inn S L) (h1:One (lab L) S):card S<=L.length+1:=by
 have h3:=a6j hs h L.length (Nat.le_refl _)
 rw[List.take_length,(a8s (Lb.lab L) hs h0 (a3m h)).2 h1]at h3
 have:=b1i L L.length
 omega
theorem Rch.mono {L M:List (Nat×Nat)} {T x y:Nat} (hL:∀e∈L,e∈M) (hT:∀z,bit S z=true->bit T z=true) (h:Rch L S x y):Rch M T x y:=by
 induction h with
 |base=>exact .base
 |step _ ha hz ih=>
  obtain⟨e,he,h⟩:=ha
  exact ih.step ⟨e,hL e he,h⟩ (hT _ hz)
theorem a6s (hA:∀y,bit A y=true->bit S y=true):card S=card A+card (sdf S A):=by
 have h1:els A=(els S).filter (bit A):=by
  unfold els
  rw[List.filter_filter]
  refine List.filter_congr fun x _=> ?_
  cases h:bit A x with
  |false=>rfl
  |true=>rw[hA x h];rfl
 have h2:els (sdf S A)=(els S).filter fun x=> !bit A x:=by
  unfold els
  rw[List.filter_filter]
  refine List.filter_congr fun x _=> ?_
  rw[a0p,Bool.and_comm]
 have:=(List.filter_append_perm (bit A) (els S)).length_eq
 unfold card
 rw[h1,h2,<-this,List.length_append]
def inI (es:List (Nat×Nat)) (A:Nat) (i:Int):Bool:=inB A (Ed es i)
theorem d2d {t:List Int} {k:Int} (hn:t.Nodup) (hk:k∈t):t.Perm (k::t.filter fun i=>decide (i≠k)):=by
 have h:=List.perm_cons_erase hk
 rw[hn.erase_eq_filter k]at h
 have e:t.filter (fun x=>x !=k)=t.filter fun i=>decide (i≠k):=List.filter_congr fun x _=>by
  by_cases h:x=k<;>simp[h]
 rw[e]at h
 exact h
theorem TreeOk.nd {t:List Int} (h:TreeOk es S t):t.Nodup:=h.asc.imp fun h=>Int.ne_of_lt h
theorem TreeOk.one {t:List Int} (hs:S<M64) (h0:S≠0) (h:TreeOk es S t):One (lab (etl es t)) S:=by
 have hl:(etl es t).length=t.length:=List.length_map _
 refine(b5Z hs h0 h.inn (by rw[hl];exact h.len)).1 ?_
 rw[hl];exact h.acy
theorem b4H {t:List Int} (hs:S<M64) (h0:S≠0) (ha:t.Pairwise (· < ·)) (hok:∀i∈t,OkI es S i) (hl:t.length+1=card S) (h1:One (lab (etl es t)) S):TreeOk es S t:=by
 have hl':(etl es t).length=t.length:=List.length_map _
 have hin:Inn S (etl es t):=fun e he=>by
  unfold etl at he
  obtain⟨i,hi,rfl⟩:=List.mem_map.1 he
  exact(hok i hi).2.2
 have:=(b5Z hs h0 hin (by rw[hl'];exact hl)).2 h1
 rw[hl']at this
 exact⟨ha,hok,this,hl⟩
theorem a3H {t:List Int} {i:Int} (h:i∈t):Ed es i∈etl es t:=List.mem_map.2 ⟨i,h,rfl⟩
theorem a1S {t:List Int} {e:Nat×Nat} (h:e∈etl es t):∃i∈t,Ed es i=e:=List.mem_map.1 h
theorem b6S {t:List Int} {k:Int} (hs:S<M64) (h0:S≠0) (hok:∀i∈t,OkI es S i) (y:Nat):bit (a2V es S t k) y=true↔Rch (etl es (t.filter fun i=>decide (i≠k))) S (lst S) y:=by
 have hin:Inn S (etl es (t.filter fun i=>decide (i≠k))):=fun e he=>by
  obtain⟨i,hi,rfl⟩:=a1S he
  exact(hok i (List.mem_filter.1 hi).1).2.2
 have hx:=a6O hs h0
 rw[<-a5z hs hin hx]
 exact(a2N (d5C hs hin) (a1r hs hx)).2 y
structure Cut (es:List (Nat×Nat)) (S A:Nat) (t:List Int) (k:Int):Prop where
 sub:∀y,bit A y=true->bit S y=true
 lst:bit A (lst S)=true
 b0:sdf S A≠0
 perm:t.Perm (k::(t.filter (inI es A)++t.filter (inI es (sdf S A))))
 ta:TreeOk es A (t.filter (inI es A))
 tb:TreeOk es (sdf S A) (t.filter (inI es (sdf S A)))
 bt:btB A (sdf S A) (Ed es k)=true
theorem a8H {t:List Int} {k:Int} (hs:S<M64) (h0:S≠0) (hT:TreeOk es S t) (hk:k∈t) (hA:a2V es S t k=A):Cut es S A t k:=by
 have hx:=a6O hs h0
 have hsub:∀y,bit A y=true->bit S y=true:=by subst hA;exact b1l hs h0 hT k
 have hbit:∀y,bit A y=true↔Rch (etl es (t.filter fun i=>decide (i≠k))) S (lst S) y:=fun y=>by subst hA;exact b6S hs h0 hT.ok y
 clear hA
 generalize hR:(t.filter fun i=>decide (i≠k))=R at hbit
 have hRt:∀i,i∈R↔i∈t/\i≠k:=fun i=>by rw[<-hR,List.mem_filter];simp
 have hpR:t.Perm (k::R):=by rw[<-hR];exact d2d hT.nd hk
 have hxA:bit A (lst S)=true:=(hbit _).2 .base
 have hAM:A<M64:=Nat.lt_of_le_of_lt (sub_le hsub) hs
 have hBM:sdf S A<M64:=sdf_lt hs
 have hcl:∀i∈R,bit A (Ed es i).1=true↔bit A (Ed es i).2=true:=fun i hi=>by
  have ho:=hT.ok i ((hRt i).1 hi).1
  rw[hbit,hbit]
  exact⟨fun h=>h.step ⟨_,a3H hi,.inl ⟨rfl,rfl⟩⟩ ho.2.2.2,fun h=>h.step ⟨_,a3H hi,.inr ⟨rfl,rfl⟩⟩ ho.2.2.1⟩
 have hall:=(a4i hT.inn).1 (hT.one hs h0)
 have hko:=hT.ok k hk
 have hcr:¬(bit A (Ed es k).1=true↔bit A (Ed es k).2=true):=fun hc=>by
  have hc2:∀i∈t,bit A (Ed es i).1=true↔bit A (Ed es i).2=true:=fun i hi=>by
   by_cases h:i=k
   ·subst h;exact hc
   ·exact hcl i ((hRt i).2 ⟨hi,h⟩)
  have hSA:∀y,Rch (etl es t) S (lst S) y->bit A y=true:=fun y hy=>by
   induction hy with
   |base=>exact hxA
   |step _ ha _ ih=>
    obtain⟨e,he,h⟩:=ha
    obtain⟨i,hi,rfl⟩:=a1S he
    rcases h with⟨rfl,rfl⟩|⟨rfl,rfl⟩
    ·exact(hc2 i hi).1 ih
    ·exact(hc2 i hi).2 ih
  have hin:Inn S (etl es R):=fun e he=>by
   obtain⟨i,hi,rfl⟩:=a1S he
   exact(hT.ok i ((hRt i).1 hi).1).2.2
  have hone:One (lab (etl es R)) S:=(a4i hin).2 fun x y hx' hy'=>by
   have r1:=(hbit x).1 (hSA x (hall _ _ hx hx'))
   have r2:=(hbit y).1 (hSA y (hall _ _ hx hy'))
   exact(r1.symm hx).trans r2
  have h1:=b1C hs h0 hin hone
  have h2:(etl es R).length=R.length:=List.length_map _
  have h3:=hpR.length_eq
  have h4:=hT.len
  rw[List.length_cons]at h3
  omega
 have hkin:inI es A k=false/\inI es (sdf S A) k=false/\btB A (sdf S A) (Ed es k)=true:=by
  unfold inI inB btB
  simp only[a0p,hko.2.2.1,hko.2.2.2,Bool.true_and]
  cases h1:bit A (Ed es k).1<;>cases h2:bit A (Ed es k).2<;>simp_all
 have hfA:t.filter (inI es A)=R.filter (inI es A):=by
  rw[<-hR,List.filter_filter]
  refine List.filter_congr fun i _=> ?_
  by_cases h:i=k
  ·subst h;rw[hkin.1];rfl
  ·simp[h]
 have hfB:t.filter (inI es (sdf S A))=R.filter fun i=> !inI es A i:=by
  rw[<-hR,List.filter_filter]
  refine List.filter_congr fun i hi=> ?_
  by_cases h:i=k
  ·subst h;rw[hkin.2.1];simp
  ·have ho:=hT.ok i hi
   have hc:=hcl i ((hRt i).2 ⟨hi,h⟩)
   unfold inI inB
   simp only[a0p,ho.2.2.1,ho.2.2.2,Bool.true_and]
   cases h1:bit A (Ed es i).1<;>cases h2:bit A (Ed es i).2<;>simp_all
 have hperm:t.Perm (k::(t.filter (inI es A)++t.filter (inI es (sdf S A)))):=by
  rw[hfA,hfB]
  exact hpR.trans ((List.filter_append_perm _ R).symm.cons k)
 have hB0:sdf S A≠0:=fun e=>by
  have:=hkin.2.2
  rw[e]at this
  unfold btB at this
  simp[a0J]at this
 have hA0:A≠0:=fun e=>by rw[e,a0J]at hxA;cases hxA
 have hokA:∀i∈t.filter (inI es A),OkI es A i:=fun i hi=>by
  obtain⟨h1,h2⟩:=List.mem_filter.1 hi
  have ho:=hT.ok i h1
  unfold inI inB at h2
  rw[Bool.and_eq_true]at h2
  exact⟨ho.1,ho.2.1,h2⟩
 have hokB:∀i∈t.filter (inI es (sdf S A)),OkI es (sdf S A) i:=fun i hi=>by
  obtain⟨h1,h2⟩:=List.mem_filter.1 hi
  have ho:=hT.ok i h1
  unfold inI inB at h2
  rw[Bool.and_eq_true]at h2
  exact⟨ho.1,ho.2.1,h2⟩
 have hinA:Inn A (etl es (t.filter (inI es A))):=fun e he=>by
  obtain⟨i,hi,rfl⟩:=a1S he
  exact(hokA i hi).2.2
 have hinB:Inn (sdf S A) (etl es (t.filter (inI es (sdf S A)))):=fun e he=>by
  obtain⟨i,hi,rfl⟩:=a1S he
  exact(hokB i hi).2.2
 have rA:∀y,bit A y=true->Rch (etl es (t.filter (inI es A))) A (lst S) y:=fun y hy=>by
  have hr:=(hbit y).1 hy
  clear hy
  induction hr with
  |base=>exact .base
  | @step y z h1 ha hz ih=>
   obtain⟨e,he,h⟩:=ha
   obtain⟨i,hi,rfl⟩:=a1S he
   have hy:=(hbit y).2 h1
   have hc:=hcl i hi
   have hm:inI es A i=true:=by
    unfold inI inB
    rcases h with⟨rfl,rfl⟩|⟨rfl,rfl⟩
    ·rw[hy,hc.1 hy];rfl
    ·rw[hy,hc.2 hy];rfl
   have hz':bit A z=true:=by
    rcases h with⟨rfl,rfl⟩|⟨rfl,rfl⟩
    ·exact hc.1 hy
    ·exact hc.2 hy
   exact ih.step ⟨_,a3H (List.mem_filter.2 ⟨((hRt i).1 hi).1,hm⟩),h⟩ hz'
 have oneA:One (lab (etl es (t.filter (inI es A)))) A:=(a4i hinA).2 fun x y hx' hy'=>((rA x hx').symm hxA).trans (rA y hy')
 obtain⟨b,hbS,hbA,hbk⟩:∃b,bit S b=true/\bit A b=false/\(∀z,(b≠z->(Ed es k).1=z\/(Ed es k).2=z->bit A z=true)):=by
  cases h1:bit A (Ed es k).1 with
  |false=>
   refine⟨_,hko.2.2.1,h1,fun z hz h=> ?_⟩
   rcases h with h|h
   ·exact absurd h hz
   ·subst h
    cases h2:bit A (Ed es k).2 with
    |true=>rfl
    |false=>exact absurd ⟨fun h=>by(rw[h1]at h;cases h),fun h=>by(rw[h2]at h;cases h)⟩ hcr
  |true=>
   cases h2:bit A (Ed es k).2 with
   |true=>exact absurd ⟨fun _=>h2,fun _=>h1⟩ hcr
   |false=>
    refine⟨_,hko.2.2.2,h2,fun z hz h=> ?_⟩
    rcases h with h|h
    ·subst h;exact h1
    ·exact absurd h hz
 have hbB:bit (sdf S A) b=true:=by rw[a0p,hbS,hbA];rfl
 have rB:∀y,Rch (etl es t) S b y->bit A y=true\/Rch (etl es (t.filter (inI es (sdf S A)))) (sdf S A) b y:=fun y hr=>by
  induction hr with
  |base=>exact .inr .base
  | @step y z h1 ha hz ih=>
   by_cases hzA:bit A z=true
   ·exact .inl hzA
   have hzB:bit (sdf S A) z=true:=by rw[a0p,hz];simpa using hzA
   obtain⟨e,he,h⟩:=ha
   obtain⟨i,hi,rfl⟩:=a1S he
   by_cases hik:i=k
   ·subst hik
    by_cases hbz:b=z
    ·subst hbz;exact .inr .base
    ·exact absurd (hbk z hbz (by rcases h with⟨_,h⟩|⟨_,h⟩;exact .inr h;exact .inl h)) hzA
   ·have hc:=hcl i ((hRt i).2 ⟨hi,hik⟩)
    have hyA:bit A y≠true:=fun hy=>hzA (by
     rcases h with⟨rfl,rfl⟩|⟨rfl,rfl⟩
     ·exact hc.1 hy
     ·exact hc.2 hy)
    have hyS:bit S y=true:=by
     have ho:=hT.ok i hi
     rcases h with⟨rfl,rfl⟩|⟨rfl,rfl⟩
     ·exact ho.2.2.1
     ·exact ho.2.2.2
    have hyB:bit (sdf S A) y=true:=by rw[a0p,hyS];simpa using hyA
    refine .inr ((ih.resolve_left hyA).step ⟨_,a3H (List.mem_filter.2 ⟨hi,?_⟩),h⟩ hzB)
    unfold inI inB
    rcases h with⟨rfl,rfl⟩|⟨rfl,rfl⟩
    ·rw[hyB,hzB];rfl
    ·rw[hyB,hzB];rfl
 have oneB:One (lab (etl es (t.filter (inI es (sdf S A))))) (sdf S A):=(a4i hinB).2 fun x y hx' hy'=>by
  have f:∀x,bit (sdf S A) x=true->Rch (etl es (t.filter (inI es (sdf S A)))) (sdf S A) b x:=fun x hx'=>by
   rw[a0p]at hx'
   simp only[Bool.and_eq_true,Bool.not_eq_true']at hx'
   exact(rB x (hall _ _ hbS hx'.1)).resolve_left (by rw[hx'.2];simp)
  exact((f x hx').symm hbB).trans (f y hy')
 have lA:=b1C hAM hA0 hinA oneA
 have lB:=b1C hBM hB0 hinB oneB
 have e1:(etl es (t.filter (inI es A))).length=(t.filter (inI es A)).length:=List.length_map _
 have e2:(etl es (t.filter (inI es (sdf S A)))).length=(t.filter (inI es (sdf S A))).length:=List.length_map _
 have e3:=hperm.length_eq
 have e4:=hT.len
 have e5:=a6s hsub
 rw[List.length_cons,List.length_append]at e3
 exact⟨hsub,hxA,hB0,hperm,b4H hAM hA0 (hT.asc.filter _) hokA (by omega) oneA,b4H hBM hB0 (hT.asc.filter _) hokB (by omega) oneB,hkin.2.2⟩
theorem d5D {l:List Int} (hn:l.Nodup):(b6B l).Pairwise (· < ·):=by
 obtain⟨h1,h2⟩:=c2r l
 have h3:(b6B l).Nodup:=h1.nodup_iff.2 hn
 exact(List.pairwise_iff_getElem.2 fun i j hi hj hij=>by
  have a:=List.pairwise_iff_getElem.1 h2 i j hi hj hij
  have b:=List.pairwise_iff_getElem.1 h3 i j hi hj hij
  omega)
theorem b4I {l m:List Int} (h1:l.Pairwise (· < ·)) (h2:m.Pairwise (· < ·)) (h:l.Perm m):l=m:=c0S (h1.imp Int.le_of_lt) (h2.imp Int.le_of_lt) h
theorem c8m {a:List Int} (ha:∀i∈a,OkI es A i) {B:Nat} (hd:∀y,bit A y=true->bit B y=false):a.filter (inI es A)=a/\a.filter (inI es B)=[]:=by
 refine⟨List.filter_eq_self.2 fun i hi=> ?_,List.filter_eq_nil_iff.2 fun i hi=> ?_⟩
 ·have:=ha i hi;unfold inI inB;rw[this.2.2.1,this.2.2.2];rfl
 ·have:=ha i hi;unfold inI inB;rw[hd _ this.2.2.1];simp
theorem d2e {B:Nat} {e:Nat×Nat} (h:btB A B e=true):∃u v,bit A u=true/\bit B v=true/\((e.1=u/\e.2=v)\/(e.2=u/\e.1=v)):=by
 unfold btB at h
 simp only[Bool.or_eq_true,Bool.and_eq_true]at h
 rcases h with h|h
 ·exact⟨_,_,h.1,h.2,.inl ⟨rfl,rfl⟩⟩
 ·exact⟨_,_,h.1,h.2,.inr ⟨rfl,rfl⟩⟩
theorem b1D {a b:List Int} {k:Int} (hs:S<M64) (h0:S≠0) (hsub:∀y,bit A y=true->bit S y=true) (hxA:bit A (lst S)=true) (ha:TreeOk es A a) (hb:TreeOk es (sdf S A) b) (hk0:0<=k) (hk1:k.toNat<es.length) (hk:btB A (sdf S A) (Ed es k)=true):
  TreeOk es S (b6B (k::(a++b)))/\a2V es S (b6B (k::(a++b))) k=A/\(b6B (k::(a++b))).filter (inI es A)=a/\(b6B (k::(a++b))).filter (inI es (sdf S A))=b/\k∈b6B (k::(a++b)):=by
 have hx:=a6O hs h0
 have hAM:A<M64:=Nat.lt_of_le_of_lt (sub_le hsub) hs
 have hBM:sdf S A<M64:=sdf_lt hs
 have hA0:A≠0:=fun e=>by rw[e,a0J]at hxA;cases hxA
 obtain⟨u,v,hu,hv,huv⟩:=d2e hk
 have hB0:sdf S A≠0:=fun e=>by rw[e,a0J]at hv;cases hv
 have hBS:∀y,bit (sdf S A) y=true->bit S y=true/\bit A y=false:=fun y hy=>by
  rw[a0p]at hy
  simpa using hy
 have hAB:∀y,bit A y=true->bit (sdf S A) y=false:=fun y hy=>by rw[a0p,hy];simp
 have hBA:∀y,bit (sdf S A) y=true->bit A y=false:=fun y hy=>(hBS y hy).2
 have hkA:inI es A k=false:=by
  unfold inI inB
  rcases huv with⟨h1,h2⟩|⟨h1,h2⟩
  ·rw[h2,hBA v hv];simp
  ·rw[h2,hBA v hv];simp
 have hkB:inI es (sdf S A) k=false:=by
  unfold inI inB
  rcases huv with⟨h1,h2⟩|⟨h1,h2⟩
  ·rw[h1,hAB u hu];simp
  ·rw[h1,hAB u hu];simp
 obtain⟨a1,a2⟩:=c8m ha.ok hAB
 obtain⟨b1,b2⟩:=c8m hb.ok hBA
 have hnd:(k::(a++b)).Nodup:=by
  rw[List.nodup_cons,List.mem_append,List.nodup_append]
  have f:∀i,i∈a->inI es A i=true:=fun i hi=>(List.mem_filter.1 (a1 ▸ hi)).2
  have g:∀i,i∈b->inI es (sdf S A) i=true:=fun i hi=>(List.mem_filter.1 (b1 ▸ hi)).2
  refine⟨fun h=> ?_,ha.nd,hb.nd,fun i hi j hj e=> ?_⟩
  ·rcases h with h|h
   ·rw[f k h]at hkA;cases hkA
   ·rw[g k h]at hkB;cases hkB
  ·subst e
   have:i∈a.filter (inI es (sdf S A)):=List.mem_filter.2 ⟨hi,g i hj⟩
   rw[a2]at this;cases this
 obtain⟨hp,_⟩:=c2r (k::(a++b))
 have hlt:=d5D hnd
 generalize b6B (k::(a++b))=t at hp hlt⊢
 have hmem:∀i,i∈t↔i=k\/i∈a\/i∈b:=fun i=>by rw[hp.mem_iff];simp
 have fA:t.filter (inI es A)=a:=by
  refine b4I (hlt.filter _) ha.asc ((hp.filter _).trans ?_)
  rw[List.filter_cons_of_neg (by rw[hkA];simp),List.filter_append,a1,b2,List.append_nil]
 have fB:t.filter (inI es (sdf S A))=b:=by
  refine b4I (hlt.filter _) hb.asc ((hp.filter _).trans ?_)
  rw[List.filter_cons_of_neg (by rw[hkB];simp),List.filter_append,a2,b1,List.nil_append]
 have hok:∀i∈t,OkI es S i:=fun i hi=>by
  rcases(hmem i).1 hi with rfl|h|h
  ·refine⟨hk0,hk1,?_⟩
   rcases huv with⟨h1,h2⟩|⟨h1,h2⟩
   ·rw[h1,h2];exact⟨hsub _ hu,(hBS _ hv).1⟩
   ·rw[h1,h2];exact⟨(hBS _ hv).1,hsub _ hu⟩
  ·have:=ha.ok i h;exact⟨this.1,this.2.1,hsub _ this.2.2.1,hsub _ this.2.2.2⟩
  ·have:=hb.ok i h;exact⟨this.1,this.2.1,(hBS _ this.2.2.1).1,(hBS _ this.2.2.2).1⟩
 have hin:Inn S (etl es t):=fun e he=>by
  obtain⟨i,hi,rfl⟩:=a1S he
  exact(hok i hi).2.2
 have hla:∀e∈etl es a,e∈etl es t:=fun e he=>by
  obtain⟨i,hi,rfl⟩:=a1S he
  exact a3H ((hmem i).2 (.inr (.inl hi)))
 have hlb:∀e∈etl es b,e∈etl es t:=fun e he=>by
  obtain⟨i,hi,rfl⟩:=a1S he
  exact a3H ((hmem i).2 (.inr (.inr hi)))
 have hallA:=(a4i ha.inn).1 (ha.one hAM hA0)
 have hallB:=(a4i hb.inn).1 (hb.one hBM hB0)
 have hr:∀y,bit S y=true->Rch (etl es t) S (lst S) y:=fun y hy=>by
  by_cases hyA:bit A y=true
  ·exact(hallA _ _ hxA hyA).mono hla hsub
  ·have hyB:bit (sdf S A) y=true:=by rw[a0p,hy];simpa using hyA
   have r1:=(hallA _ _ hxA hu).mono hla hsub
   have r2:Rch (etl es t) S (lst S) v:=r1.step ⟨_,a3H ((hmem k).2 (.inl rfl)),huv⟩ (hBS v hv).1
   exact r2.trans ((hallB _ _ hv hyB).mono hlb fun z hz=>(hBS z hz).1)
 have hone:One (lab (etl es t)) S:=(a4i hin).2 fun x y hx' hy'=>((hr x hx').symm hx).trans (hr y hy')
 have hlen:t.length+1=card S:=by
  have:=hp.length_eq
  rw[List.length_cons,List.length_append]at this
  have h1:=ha.len
  have h2:=hb.len
  have h3:=a6s hsub
  omega
 refine⟨b4H hs h0 hlt hok hlen hone,a0F fun y=> ?_,fA,fB,(hmem k).2 (.inl rfl)⟩
 rw[Bool.eq_iff_iff,b6S hs h0 hok]
 have hnk:∀i,i∈(t.filter fun i=>decide (i≠k))↔i∈a\/i∈b:=fun i=>by
  rw[List.mem_filter,hmem,decide_eq_true_iff]
  refine⟨fun h=>h.1.resolve_left h.2,fun h=>⟨.inr h,fun e=> ?_⟩⟩
  subst e
  rw[List.nodup_cons,List.mem_append]at hnd
  exact hnd.1 h
 constructor
 ·intro h
  induction h with
  |base=>exact hxA
  |step _ h' _ ih=>
   obtain⟨e,he,h⟩:=h'
   obtain⟨i,hi,rfl⟩:=a1S he
   rcases(hnk i).1 hi with hi|hi
   ·have:=(ha.ok i hi).2.2
    rcases h with⟨_,rfl⟩|⟨_,rfl⟩
    ·exact this.2
    ·exact this.1
   ·have:=(hb.ok i hi).2.2
    rcases h with⟨rfl,_⟩|⟨rfl,_⟩
    ·rw[hBA _ this.1]at ih;cases ih
    ·rw[hBA _ this.2]at ih;cases ih
 ·intro hy
  refine(hallA _ _ hxA hy).mono (fun e he=> ?_) hsub
  obtain⟨i,hi,rfl⟩:=a1S he
  exact a3H ((hnk i).2 (.inl hi))
end Go.GS
/- All trees of a set, as a list; the trees that are cut into two given sets. -/
namespace Go.GS
variable {es:List (Nat×Nat)} {S A n:Nat}
open Classical in
noncomputable def trL (es:List (Nat×Nat)) (S:Nat):Nat->Nat->List Int->List (List Int)
 |0,_,t=>if TreeOk es S t then[t]else[]
 |f+1,j,t=>trL es S f (j+1) t++if inI es S (j:Nat)=true/\lab (etl es t) (Ed es (j:Nat)).1≠lab (etl es t) (Ed es (j:Nat)).2 then trL es S f (j+1) (t++[(j:Int)])else[]
theorem b4J (hs:S<M64) (h0:S≠0):∀(f j:Nat) (t:List Int),es.length-j=f->Beg es S t->(∀i∈t,i<(j:Int))->((trL es S f j t).length:Int)=trN es S t j
 |0,j,t,hf,hB,hlt=>by
  unfold trN
  rw[c2o (by omega),c8b (Lb.lab _) hs h0 (a3m hB.inn)]
  unfold trL
  have hl:(etl es t).length=t.length:=List.length_map _
  by_cases h:cnt (lab (etl es t)) S=1
  ·have h1:=b1C hs h0 hB.inn ((a8s (Lb.lab _) hs h0 (a3m hB.inn)).1 h)
   have h2:=hB.len hs h0
   rw[if_pos h,if_pos (hB.tree (by omega))];rfl
  ·rw[if_neg h,if_neg (fun hT=>h ((a8s (Lb.lab _) hs h0 (a3m hB.inn)).2 (hT.one hs h0)))];rfl
 |f+1,j,t,hf,hB,hlt=>by
  have hj:j<es.length:=by omega
  have ih:=b4J hs h0 f (j+1) t (by omega) hB (fun i hi=>by have:=hlt i hi;omega)
  unfold trL
  rw[List.length_append]
  cases hb:inB S (Ed es (j:Nat))with
  |false=>
   rw[if_neg (fun h=>by have:=h.1;unfold inI at this;rw[hb]at this;cases this),b6w (a4d hj) hb,<-ih];rfl
  |true=>
   rw[b6x hs h0 hB.inn hj hb]
   unfold trH
   by_cases hl:lab (etl es t) (Ed es (j:Nat)).1=lab (etl es t) (Ed es (j:Nat)).2
   ·rw[if_neg (fun h=>h.2 hl),if_pos hl,<-ih];rfl
   ·have ih2:=b4J hs h0 f (j+1) (t++[(j:Int)]) (by omega) (hB.add hlt hj hb hl) (fun i hi=>by
     rcases List.mem_append.1 hi with h|h
     ·have:=hlt i h;omega
     ·rw[List.mem_singleton.1 h];omega)
    rw[if_pos ⟨hb,hl⟩,if_neg hl,<-ih,<-ih2]
    push_cast;rfl
theorem a6t:∀(f j:Nat) (t:List Int),es.length-j=f->∀x,x∈trL es S f j t↔TreeOk es S x/\∃r,x=t++r/\∀i∈r,(j:Int)<=i
 |0,j,t,hf,x=>by
  unfold trL
  constructor
  ·intro h
   split at h
   ·rename_i hT
    rw[List.mem_singleton.1 h]
    exact⟨hT,[],by simp,fun i hi=>by cases hi⟩
   ·cases h
  ·rintro⟨hT,r,rfl,hr⟩
   cases r with
   |nil=>rw[List.append_nil]at hT⊢;rw[if_pos hT];exact List.mem_singleton.2 rfl
   |cons y r=>
    have h1:=hr y (by simp)
    have h2:=(hT.ok y (by simp)).2.1
    omega
 |f+1,j,t,hf,x=>by
  unfold trL
  rw[List.mem_append,a6t f (j+1) t (by omega)]
  constructor
  ·rintro(⟨hT,r,rfl,hr⟩|h)
   ·exact⟨hT,r,rfl,fun i hi=>by have:=hr i hi;omega⟩
   ·split at h
    ·obtain⟨hT,r,rfl,hr⟩:=(a6t f (j+1) _ (by omega) x).1 h
     refine⟨hT,(j:Int)::r,by simp,fun i hi=> ?_⟩
     rcases List.mem_cons.1 hi with rfl|hi
     ·omega
     ·have:=hr i hi;omega
    ·cases h
  ·rintro⟨hT,r,rfl,hr⟩
   cases r with
   |nil=>exact .inl ⟨hT,[],rfl,fun i hi=>by cases hi⟩
   |cons y r=>
    have hy:=hr y (by simp)
    have hasc:=hT.asc
    rw[List.pairwise_append,List.pairwise_cons]at hasc
    by_cases hyj:y=(j:Int)
    ·subst hyj
     right
     have hok:=hT.ok (j:Int) (by simp)
     have hac:=hT.acy t.length (Ed es (j:Nat)) (by simp) (by rw[c1M (x:=(j:Int))];simp)
     rw[b6i,List.take_left']at hac
     ·rw[if_pos ⟨by unfold inI inB;rw[hok.2.2.1,hok.2.2.2];rfl,hac⟩,a6t f (j+1) _ (by omega)]
      exact⟨by simpa using hT,r,by simp,fun i hi=>by have:=hasc.2.1.1 i hi;omega⟩
     ·rfl
    ·refine .inl ⟨hT,y::r,rfl,fun i hi=> ?_⟩
     rcases List.mem_cons.1 hi with rfl|hi
     ·omega
     ·have:=hasc.2.1.1 i hi;omega
theorem c2U:∀(f j:Nat) (t:List Int),es.length-j=f->(trL es S f j t).Nodup
 |0,j,t,hf=>by
  unfold trL
  split
  ·simp
  ·exact List.nodup_nil
 |f+1,j,t,hf=>by
  unfold trL
  rw[List.nodup_append]
  refine⟨c2U f (j+1) t (by omega),?_,fun x hx y hy e=> ?_⟩
  ·split
   ·exact c2U f (j+1) _ (by omega)
   ·exact List.nodup_nil
  ·subst e
   obtain⟨_,r,rfl,hr⟩:=(a6t f (j+1) t (by omega) x).1 hx
   split at hy
   ·obtain⟨_,r',h,hr'⟩:=(a6t f (j+1) _ (by omega) _).1 hy
    rw[List.append_assoc,List.append_cancel_left_eq]at h
    subst h
    have:=hr (j:Int) (by simp)
    omega
   ·cases hy
noncomputable def trees (es:List (Nat×Nat)) (S:Nat):List (List Int):=trL es S es.length 0 []
theorem trees_mem {x:List Int}:x∈trees es S↔TreeOk es S x:=by
 unfold trees
 rw[a6t es.length 0 [] (by omega)]
 refine⟨fun h=>h.1,fun h=>⟨h,x,rfl,fun i hi=> ?_⟩⟩
 have:=(h.ok i hi).1
 omega
theorem b1E:(trees es S).Nodup:=c2U _ _ _ (by omega)
theorem b3d (hs:S<M64) (h0:S≠0):((trees es S).length:Int)=trN es S [] 0:=b4J hs h0 _ _ _ (by omega) (Beg.nil es S) (fun i hi=>by cases hi)
theorem a8I {α β:Type} {l:List α} {f:α->β} (hn:l.Nodup) (hi:∀x∈l,∀y∈l,f x=f y->x=y):(l.map f).Nodup:=by
 rw[List.Nodup,List.pairwise_map]
 exact List.Pairwise.imp_of_mem (fun ha hb h e=>h (hi _ ha _ hb e)) hn
theorem a8J {α β:Type} [DecidableEq β] {l:List α} {m:List β} (f:α->β) (hn:l.Nodup) (hi:∀x∈l,∀y∈l,f x=f y->x=y) (hm:∀x∈l,f x∈m):l.length<=m.length:=by
 have:=a7j (a8I hn hi) (m:=m) (fun y hy=>by obtain⟨x,hx,rfl⟩:=List.mem_map.1 hy;exact hm x hx)
 rwa[List.length_map]at this
theorem a6u {α β:Type} {l:List α} {f:α->List β} (g:β->α) (hn:l.Nodup) (hf:∀x∈l,(f x).Nodup) (hg:∀x∈l,∀y∈f x,g y=x):(l.flatMap f).Nodup:=by
 rw[List.Nodup,List.pairwise_flatMap]
 refine⟨hf,List.Pairwise.imp_of_mem (fun ha hb h x hx y hy e=>h ?_) hn⟩
 subst e
 rw[<-hg _ ha _ hx,<-hg _ hb _ hy]
theorem a5J {α:Type} {c:Nat}:∀l:List α,(l.map fun _=>c).sum=l.length*c
 |[]=>by simp
 |a::l=>by rw[List.map_cons,List.sum_cons,a5J l,List.length_cons,Nat.succ_mul];omega
noncomputable def c6T (es:List (Nat×Nat)) (S A:Nat):List (List Int×Int):=(trees es S).flatMap fun t=>(t.filter fun k=>decide (a2V es S t k=A)).map fun k=>(t,k)
def crs (es:List (Nat×Nat)) (A B:Nat):List Int:=((List.range es.length).map fun j:Nat=>(j:Int)).filter fun k=>btB A B (Ed es k)
noncomputable def d3d (es:List (Nat×Nat)) (A B:Nat):List ((List Int×List Int)×Int):=(trees es A).flatMap fun a=>(trees es B).flatMap fun b=>(crs es A B).map fun k=>((a,b),k)
theorem d5E (es:List (Nat×Nat)):((List.range es.length).map fun j:Nat=>Ed es (j:Int))=es:=by
 apply List.ext_getElem?
 intro i
 by_cases h:i<es.length
 ·rw[a4d h];simp[h]
 ·rw[List.getElem?_eq_none (by simp;omega),List.getElem?_eq_none (by omega)]
theorem c2V (A B:Nat):(crs es A B).length=d3c es A B:=by
 unfold crs d3c
 conv=>rhs;rw[<-d5E es]
 rw[List.filter_map,List.filter_map,List.length_map,List.length_map]
 rfl
theorem crs_mem {A B:Nat} {k:Int}:k∈crs es A B↔0<=k/\k.toNat<es.length/\btB A B (Ed es k)=true:=by
 unfold crs
 rw[List.mem_filter,List.mem_map]
 constructor
 ·rintro⟨⟨j,hj,rfl⟩,h⟩
  exact⟨by omega,by simpa using hj,h⟩
 ·rintro⟨h1,h2,h3⟩
  exact⟨⟨k.toNat,by simpa using h2,by omega⟩,h3⟩
theorem d5F (A B:Nat):(crs es A B).Nodup:=by
 exact(a8I List.nodup_range fun x _ y _ h=>by have h:(x:Int)=(y:Int):=h;omega).filter _
theorem cutL_mem {x:List Int×Int}:x∈c6T es S A↔TreeOk es S x.1/\x.2∈x.1/\a2V es S x.1 x.2=A:=by
 unfold c6T
 rw[List.mem_flatMap]
 constructor
 ·rintro⟨t,ht,h⟩
  obtain⟨k,hk,rfl⟩:=List.mem_map.1 h
  rw[List.mem_filter,decide_eq_true_iff]at hk
  exact⟨trees_mem.1 ht,hk⟩
 ·rintro⟨h1,h2,h3⟩
  exact⟨x.1,trees_mem.2 h1,List.mem_map.2 ⟨x.2,List.mem_filter.2 ⟨h2,decide_eq_true h3⟩,rfl⟩⟩
theorem c2W:(c6T es S A).Nodup:=by
 unfold c6T
 refine a6u Prod.fst b1E (fun t ht=>a8I ((trees_mem.1 ht).nd.filter _) fun x _ y _ h=>(Prod.mk.inj h).2) fun t ht y hy=> ?_
 obtain⟨k,_,rfl⟩:=List.mem_map.1 hy;rfl
theorem prdL_mem {B:Nat} {x:(List Int×List Int)×Int}:x∈d3d es A B↔TreeOk es A x.1.1/\TreeOk es B x.1.2/\x.2∈crs es A B:=by
 unfold d3d
 rw[List.mem_flatMap]
 constructor
 ·rintro⟨a,ha,h⟩
  obtain⟨b,hb,h⟩:=List.mem_flatMap.1 h
  obtain⟨k,hk,rfl⟩:=List.mem_map.1 h
  exact⟨trees_mem.1 ha,trees_mem.1 hb,hk⟩
 ·rintro⟨h1,h2,h3⟩
  exact⟨_,trees_mem.2 h1,List.mem_flatMap.2 ⟨_,trees_mem.2 h2,List.mem_map.2 ⟨_,h3,rfl⟩⟩⟩
theorem d2f (A B:Nat):(d3d es A B).Nodup:=by
 unfold d3d
 refine a6u (fun x=>x.1.1) b1E (fun a _=>a6u (fun x=>x.1.2) b1E (fun b _=>a8I (d5F A B) fun x _ y _ h=>(Prod.mk.inj h).2) fun b _ y hy=> ?_) fun a _ y hy=> ?_
 ·obtain⟨k,_,rfl⟩:=List.mem_map.1 hy;rfl
 ·obtain⟨b,_,h⟩:=List.mem_flatMap.1 hy
  obtain⟨k,_,rfl⟩:=List.mem_map.1 h;rfl
theorem c6U (A B:Nat):(d3d es A B).length=(trees es A).length*((trees es B).length*d3c es A B):=by
 unfold d3d
 rw[List.length_flatMap]
 have h:∀a:List Int,((trees es B).flatMap fun b=>(crs es A B).map fun k=>((a,b),k)).length=(trees es B).length*d3c es A B:=fun a=>by
  rw[List.length_flatMap]
  simp only[List.length_map,c2V]
  exact a5J _
 simp only[h]
 exact a5J _
theorem d2g (hs:S<M64) (h0:S≠0) (hsub:∀y,bit A y=true->bit S y=true) (hxA:bit A (lst S)=true):(c6T es S A).length=(trees es A).length*((trees es (sdf S A)).length*d3c es A (sdf S A)):=by
 rw[<-c6U]
 refine Nat.le_antisymm ?_ ?_
 ·refine a8J (fun x=>((x.1.filter (inI es A),x.1.filter (inI es (sdf S A))),x.2)) c2W (fun x hx y hy e=> ?_) fun x hx=> ?_
  ·obtain⟨x1,x2,x3⟩:=cutL_mem.1 hx
   obtain⟨y1,y2,y3⟩:=cutL_mem.1 hy
   have cx:=a8H hs h0 x1 x2 x3
   have cy:=a8H hs h0 y1 y2 y3
   simp only[Prod.mk.injEq]at e
   obtain⟨⟨e1,e2⟩,e3⟩:=e
   have hp:=cx.perm
   rw[e1,e2,e3]at hp
   exact Prod.ext (b4I x1.asc y1.asc (hp.trans cy.perm.symm)) e3
  ·obtain⟨x1,x2,x3⟩:=cutL_mem.1 hx
   have cx:=a8H hs h0 x1 x2 x3
   have ho:=x1.ok _ x2
   exact prdL_mem.2 ⟨cx.ta,cx.tb,crs_mem.2 ⟨ho.1,ho.2.1,cx.bt⟩⟩
 ·refine a8J (fun x=>(b6B (x.2::(x.1.1++x.1.2)),x.2)) (d2f _ _) (fun x hx y hy e=> ?_) fun x hx=> ?_
  ·obtain⟨x1,x2,x3⟩:=prdL_mem.1 hx
   obtain⟨y1,y2,y3⟩:=prdL_mem.1 hy
   obtain⟨x4,x5,x6⟩:=crs_mem.1 x3
   obtain⟨y4,y5,y6⟩:=crs_mem.1 y3
   have cx:=b1D hs h0 hsub hxA x1 x2 x4 x5 x6
   have cy:=b1D hs h0 hsub hxA y1 y2 y4 y5 y6
   simp only[Prod.mk.injEq]at e
   obtain⟨e1,e2⟩:=e
   have ha:=cx.2.2.1
   have hb:=cx.2.2.2.1
   rw[e1]at ha hb
   exact Prod.ext (Prod.ext (ha.symm.trans cy.2.2.1) (hb.symm.trans cy.2.2.2.1)) e2
  ·obtain⟨x1,x2,x3⟩:=prdL_mem.1 hx
   obtain⟨x4,x5,x6⟩:=crs_mem.1 x3
   have cx:=b1D hs h0 hsub hxA x1 x2 x4 x5 x6
   exact cutL_mem.2 ⟨cx.1,cx.2.2.2.2,cx.2.1⟩
noncomputable def d6o (es:List (Nat×Nat)) (S:Nat):List (List Int×Int):=(trees es S).flatMap fun t=>t.map fun k=>(t,k)
theorem c6V:(d6o es S).length=(trees es S).length*(card S-1):=by
 unfold d6o
 rw[List.length_flatMap,<-a5J]
 congr 1
 refine List.map_congr_left fun t ht=> ?_
 have:=(trees_mem.1 ht).len
 simp only[List.length_map]
 omega
theorem allC_mem {x:List Int×Int}:x∈d6o es S↔TreeOk es S x.1/\x.2∈x.1:=by
 unfold d6o
 rw[List.mem_flatMap]
 constructor
 ·rintro⟨t,ht,h⟩
  obtain⟨k,hk,rfl⟩:=List.mem_map.1 h
  exact⟨trees_mem.1 ht,hk⟩
 ·rintro⟨h1,h2⟩
  exact⟨x.1,trees_mem.2 h1,List.mem_map.2 ⟨x.2,h2,rfl⟩⟩
theorem d2h {l:List Nat} (hn:l.Nodup):(l.map fun A=>(c6T es S A).length).sum<=(trees es S).length*(card S-1):=by
 have e:(l.map fun A=>(c6T es S A).length).sum=(l.flatMap (c6T es S)).length:=by rw[List.length_flatMap]
 rw[e,<-c6V]
 refine a7j (a6u (fun x=>a2V es S x.1 x.2) hn (fun A _=>c2W) fun A _ y hy=>(cutL_mem.1 hy).2.2) fun x hx=> ?_
 obtain⟨A,_,h⟩:=List.mem_flatMap.1 hx
 exact allC_mem.2 ⟨(cutL_mem.1 h).1,(cutL_mem.1 h).2.1⟩
end Go.GS

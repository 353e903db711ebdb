/- Chapter 32: plans. -/
import Derived.Test.YtlmgkkjgdapnpaaGreatDoorRxY
import Derived.Test.YtlmgkkjgdapnpaaGreatDoorProg
import Derived.Test.YtlmgkkjgdapnpaaGreatDoorRxW
namespace Go.Proofs.YtlmgkkjgdapnpaaGreatDoor
open Go.Proofs.Tryz
open Go.RowKit Go.RX Go.GS
section
variable {H:PH} {u v w:Value} {p:List Int} {n:Nat} {es:List (Nat×Nat)}
theorem b0o (hu:SI H u p) (k:Int):Asks prog 187 [u,ii k] H (.bool (decide (LabOk p k))):=by
 refine a0b mixed d0m (by kernel_rfl) rfl ?_
 have hl:=hu.len
 refine a0j a0S rfl rfl hu rfl ?_
 refine a0W (α:=Nat×Value) (fun⟨i,z⟩=>[z,ii (i:Nat)]) (fun⟨i,z⟩=>i<=p.length/\∀x∈p.take i,0<=x/\x<k) (fun⟨i,z⟩=>p.length-i) ((0,.bool false)) rfl (⟨Nat.zero_le _,fun x hx=>by cases hx⟩) fun⟨i,z⟩ hQ=> ?_
 simp only[cA,nA]
 obtain⟨hi,hq⟩:=hQ
 refine a0a ⟨_,rfl⟩ ?_
 refine a0a ⟨_,rfl⟩ ?_
 refine a0f (b:=decide (((i:Nat):Int)<(p.length:Nat))) rfl (fun h=> ?_) (fun h=> ?_)
 ·replace h:=of_decide_eq_true h
  have hi':i<p.length:=by omega
  obtain⟨x,hx,hdx⟩:=a0t hi'
  refine a0m a0S rfl rfl rfl rfl (fun _=>rfl) hu hx rfl (fun _=>rfl) fun _=> ?_
  simp only[cA,nA]
  have hxm:=List.mem_of_getElem? hx
  refine a0a ⟨_,rfl⟩ ?_
  refine a0f (b:=decide (x<0)) rfl (fun h2=> ?_) (fun h2=> ?_)
  ·replace h2:=of_decide_eq_true h2
   exact a0c rfl ⟨rfl,by rw[decide_eq_false (fun e=>by have:=e.1 x hxm;omega)];rfl⟩
  ·replace h2:=of_decide_eq_false h2
   refine a0a ⟨_,rfl⟩ ?_
   refine a0f (b:=decide (x≥k)) rfl (fun h3=> ?_) (fun h3=> ?_)
   ·replace h3:=of_decide_eq_true h3
    exact a0c rfl ⟨rfl,by rw[decide_eq_false (fun e=>by have:=e.1 x hxm;omega)];rfl⟩
   ·replace h3:=of_decide_eq_false h3
    exact⟨(i+1,z),by show p.length-(i+1)<p.length-i;omega,(a0R rfl (a0J rfl (by omega))),⟨⟨hi',by rw[take_snoc hx];intro y hy;rw[List.mem_append,List.mem_singleton]at hy;rcases hy with hy|rfl;(exact hq y hy);omega⟩,rfl⟩⟩
 ·replace h:=of_decide_eq_false h
  rw[List.take_of_length_le (by omega)]at hq
  refine a0j a0S rfl rfl hu rfl ?_
  refine a0a ⟨_,rfl⟩ ?_
  refine a0f (b:=decide (((p.length:Nat):Int)>0)) rfl (fun h4=> ?_) (fun h4=> ?_)
  ·replace h4:=of_decide_eq_true h4
   refine a0j a0S rfl rfl hu rfl ?_
   refine a0a ⟨_,rfl⟩ ?_
   exact a0c rfl ⟨rfl,congrArg Value.bool (decide_eq_decide.2 ⟨fun h5=>⟨hq,by omega,by have h6:((p.length:Nat):Int)<=64:=h5;omega⟩,fun h5=>by have:=h5.2.2;show((p.length:Nat):Int)<=64;omega⟩)⟩
  ·replace h4:=of_decide_eq_false h4
   exact a0c rfl ⟨rfl,by rw[decide_eq_false (fun e=>by have:=e.2.1;omega)];rfl⟩
theorem b0p {k:Nat} (hk:k<=8) (hu:SI H u p) (hL:LabOk p (k:Int)):Con prog 188 [u,ii (k:Nat)] H fun r H'=>PH.le H H'/\∃z,r= .tuple #[z,.bool (decide (b7b p k))]/\(b7b p k->SU H' z (b6v p k)):=by
 refine a0b mixed d0n (by kernel_rfl) rfl ?_
 have hl:=hu.len
 have hp64:=hL.2.2
 refine a2x el_u64 (z:=(0:Nat)) d0t rfl rfl rfl (by omega) rfl fun v H1 l1 o1 _=> ?_
 simp only[cA,nA]
 rw[<-b9v p]at o1
 refine a0j a0S rfl rfl (hu.mono l1) rfl ?_
 refine a0o (α:=Nat) (fun i=>[ii (i:Nat)]) (fun i=>fun H'=>i<=p.length/\PH.le H H'/\SO H H' 57 1 (fun s:Nat=>[uv s]) v (b7a p k i)) (fun i=>p.length-i) (0) rfl (⟨Nat.zero_le _,l1,o1⟩) fun i H' hQ=> ?_
 simp only[cA,nA]
 obtain⟨hi,l2,o2⟩:=hQ
 refine a0a ⟨_,rfl⟩ ?_
 refine a0a ⟨_,rfl⟩ ?_
 refine a0f (b:=decide (((i:Nat):Int)<(p.length:Nat))) rfl (fun h=> ?_) (fun h=> ?_)
 ·replace h:=of_decide_eq_true h
  have hi':i<p.length:=by omega
  obtain⟨x,hx,hdx⟩:=a0t hi'
  refine a0m a0S rfl rfl rfl rfl (fun _=>rfl) (hu.mono l2) hx rfl (fun _=>rfl) fun _=> ?_
  simp only[cA,nA]
  have hxk:=hL.at hx
  obtain⟨d,rfl⟩:∃d:Nat,x=(d:Int):=⟨x.toNat,by omega⟩
  refine a0m el_u64 rfl rfl rfl rfl (fun _=>rfl) o2.se (b0i p i (show d<k by omega)) rfl (fun _=>rfl) fun _=> ?_
  simp only[cA,nA]
  refine a0a ⟨_,_,rfl⟩ ?_
  refine a0a (by show(0:Int)<=((i:Nat):Int);omega) ?_
  refine a0a ⟨_,rfl⟩ ?_
  refine a1M el_u64 (a:=mkN p (d:Nat) i|||2^i) rfl rfl rfl rfl (fun _=>rfl) (fun _=>rfl) l2 o2 (by rw[a6N];omega) rfl (fun _=>a0R rfl (b6Y rfl (a6C rfl (by omega)) (c7T _ _ (by omega)) (a2z (by omega)))) rfl fun p' u' H3 l4 o4 _=> ?_
  simp only[cA,nA]
  rw[b9w p k hx]at o4
  exact⟨i+1,by omega,(a1R (a0J rfl (by omega))),⟨hi',l4,o4⟩⟩
 ·replace h:=of_decide_eq_false h
  have he:i=p.length:=by omega
  subst he
  refine a0o (α:=Nat×Value×Value) (fun⟨d,z1,z2⟩=>[z1,z2,ii (d:Nat)]) (fun⟨d,z1,z2⟩=>fun H2=>H2=H'/\d<=k/\∀j,j<d->b3C p (j:Nat)≠0) (fun⟨d,z1,z2⟩=>k-d) ((0,.slice none 0 0,.bool false)) rfl (⟨rfl,Nat.zero_le _,fun j hj=>by cases hj⟩) fun⟨d,z1,z2⟩ H2 hQ2=> ?_
  simp only[cA,nA]
  obtain⟨rfl,hd,hq⟩:=hQ2
  refine a0a ⟨_,rfl⟩ ?_
  refine a0a ⟨_,rfl⟩ ?_
  refine a0f (b:=decide (((d:Nat):Int)<(k:Nat))) rfl (fun h2=> ?_) (fun h2=> ?_)
  ·replace h2:=of_decide_eq_true h2
   refine a0m el_u64 rfl rfl rfl rfl (fun _=>rfl) o2.se (b0i p _ (show d<k by omega)) rfl (fun _=>rfl) fun _=> ?_
   simp only[cA,nA]
   refine a0a ⟨_,rfl⟩ ?_
   refine a0f (b:=decide (mkN p (d:Nat) p.length=0)) (bE0 _) (fun h3=> ?_) (fun h3=> ?_)
   ·replace h3:=of_decide_eq_true h3
    exact a0c rfl ⟨l2,_,by rw[decide_eq_false (fun e=>e d (by omega) h3)];rfl,fun e=>absurd h3 (e d (by omega))⟩
   ·replace h3:=of_decide_eq_false h3
    exact⟨(d+1,z1,z2),by show k-(d+1)<k-d;omega,(b2K rfl rfl (a0J rfl (by omega))),⟨rfl,by show d+1<=k;omega,fun j hj=>by rcases Nat.lt_succ_iff_lt_or_eq.1 hj with hj|rfl;(exact hq j hj);exact h3⟩⟩
  ·replace h2:=of_decide_eq_false h2
   have he:d=k:=by omega
   subst he
   exact a0c rfl ⟨l2,v,by rw[decide_eq_true (p:=b7b p d) hq];rfl,fun _=>o2.se⟩
theorem c5P (hw:SG H w es) (hg:GV n es) (hu:SI H u p) (k:Int):Con prog 129 [gv n w,u,ii k] H fun r H'=>PH.le H H'/\∃q,r= .tuple #[q,ii (plE n p k)]:=by
 refine a0b mixed b9e (by kernel_rfl) rfl ?_
 refine a0a (a2e hw) ?_
 refine a0h (a2f hw hg) rfl fun H1 l1=> ?_
 simp only[cA,nA]
 refine a0a ⟨_,rfl⟩ ?_
 refine a0e (bF (p:=(0:Int)≠0) (by simp)) ?_
 refine a0a ⟨_,rfl⟩ ?_
 refine a0f (b:=decide (k<1)) rfl (fun h=> ?_) (fun h=> ?_)
 ·replace h:=of_decide_eq_true h
  exact a0c rfl ⟨l1,_,by rw[show plE n p k=2 from if_pos (.inl h)];rfl⟩
 ·replace h:=of_decide_eq_false h
  refine a0f (b:=decide (k>8)) rfl (fun h2=> ?_) (fun h2=> ?_)
  ·replace h2:=of_decide_eq_true h2
   exact a0c rfl ⟨l1,_,by rw[show plE n p k=2 from if_pos (.inr h2)];rfl⟩
  ·replace h2:=of_decide_eq_false h2
   have hk:¬(k<1\/k>8):=by omega
   obtain⟨m,rfl⟩:∃m:Nat,k=(m:Int):=⟨k.toNat,by omega⟩
   refine a0j a0S rfl rfl (hu.mono l1) rfl ?_
   refine a0a ⟨_,rfl⟩ ?_
   refine a0a ⟨_,rfl⟩ ?_
   refine a0f (b:=decide (p.length≠n)) (by show Value.bool (((p.length:Nat):Int) !=((n:Nat):Int))=_;rw[bN];congr 1;apply decide_eq_decide.2;omega) (fun h3=> ?_) (fun h3=> ?_)
   ·replace h3:=of_decide_eq_true h3
    exact a0c rfl ⟨l1,_,by rw[show plE n p (m:Nat)=210 from(if_neg hk).trans (if_neg fun e=>h3 e.1)];rfl⟩
   ·replace h3:=of_decide_eq_false h3
    refine a0q (b0o (hu.mono l1) (m:Nat)) rfl ?_
    simp only[cA,nA]
    refine a0a ⟨_,rfl⟩ ?_
    refine a0f (b:= !decide (LabOk p (m:Nat))) rfl (fun h4=> ?_) (fun h4=> ?_)
    ·skip
     exact a0c rfl ⟨l1,_,by rw[show plE n p (m:Nat)=210 from(if_neg hk).trans (if_neg fun e=>by simp[e.2.1]at h4)];rfl⟩
    ·skip
     have hL:LabOk p (m:Nat):=by simpa using h4
     refine a0d (b0p (by omega) (hu.mono l1) hL) rfl ?_
     rintro _ H2 ⟨l2,z,rfl,hz⟩
     refine⟨fun h=>(nomatch h),?_⟩
     simp only[cA,nA]
     refine a0a ⟨_,rfl,by simp⟩ ?_
     refine a0a ⟨_,rfl,by simp⟩ ?_
     refine a0a ⟨_,rfl⟩ ?_
     refine a0f (b:= !decide (b7b p m)) rfl (fun h5=> ?_) (fun h5=> ?_)
     ·skip
      exact a0c rfl ⟨l1.trans l2,_,by rw[show plE n p (m:Nat)=210 from(if_neg hk).trans (if_neg fun e=>by have:=e.2.2;rw[Int.toNat_natCast]at this;simp[this]at h5)];rfl⟩
     ·skip
      have hU:b7b p m:=by simpa using h5
      refine a0a ((hu.mono l1).one) ?_
      refine a0a ((hz hU).one) ?_
      refine a0A (cs:=_) rfl fun b hb=> ?_
      simp only[cA,nA]
      exact a0c rfl ⟨(l1.trans l2).trans (PH.le_put hb _),_,by rw[show plE n p (m:Nat)=0 from(if_neg hk).trans (if_pos ⟨by omega,hL,by rw[Int.toNat_natCast];exact hU⟩)];rfl⟩
theorem b1P (hw:SG H w es) (hg:GV n es) (hu:SI H u p) (k:Int):a1g prog 88 [gv n w,u,ii k] H (ii (plE n p k)):=by
 refine a0b mixed d0o (by kernel_rfl) rfl ?_
 refine a0a (a2e hw) ?_
 refine a0d (c5P hw hg hu k) rfl ?_
 rintro _ H1 ⟨l1,q,rfl⟩
 refine⟨fun h=>(nomatch h),?_⟩
 simp only[cA,nA]
 refine a0a ⟨_,rfl,by simp⟩ ?_
 refine a0a ⟨_,rfl,by simp⟩ ?_
 exact a0c rfl ⟨l1,rfl⟩
theorem c5Q (hu:SI H u p) (k:Nat) (h1:1<=k) (h8:k<=8) (hL:LabOk p (k:Nat)) (hU:b7b p k):Con prog 156 [u,ii (k:Nat)] H fun r H'=>PH.le H H'/\∃z,r= .tuple #[z,ii 0]/\SU H' z (b6v p k):=by
 refine a0b mixed d0p (by kernel_rfl) rfl ?_
 refine a0a ⟨_,rfl⟩ ?_
 refine a0e (bF (p:=((k:Nat):Int)<1) (by omega)) ?_
 refine a0e (bF (p:=((k:Nat):Int)>8) (by omega)) ?_
 refine a0q (b0o hu (k:Nat)) rfl ?_
 simp only[cA,nA]
 refine a0a ⟨_,rfl⟩ ?_
 refine a0e (by show Value.bool (!decide (LabOk p (k:Nat)))=_;rw[decide_eq_true hL];rfl) ?_
 refine a0d (b0p h8 hu hL) rfl ?_
 rintro _ H2 ⟨l2,z,rfl,hz⟩
 refine⟨fun h=>(nomatch h),?_⟩
 simp only[cA,nA]
 refine a0a ⟨_,rfl,by simp⟩ ?_
 refine a0a ⟨_,rfl,by simp⟩ ?_
 refine a0a ⟨_,rfl⟩ ?_
 refine a0e (by show Value.bool (!decide (b7b p k))=_;rw[decide_eq_true hU];rfl) ?_
 exact a0c rfl ⟨l2,z,rfl,hz hU⟩
end
end Go.Proofs.YtlmgkkjgdapnpaaGreatDoor
/- What is allowed. -/
namespace Go.GS
def a6E (wl:List Int) (s:Nat):Int:=((els s).map fun x=>wl.getD x 0).sum
def c8c (wl:List Int):Prop:=∀x∈wl,0<=x/\x<=1000000000
instance (wl:List Int):Decidable (c8c wl):=inferInstanceAs (Decidable (∀x∈wl,_))
def bdE (n:Nat) (wl:List Int) (lo hi ds:Int):Int:=if wl.length=n/\0<=lo/\lo<=hi/\1<=ds/\ds<=8/\c8c wl then 0 else 320
noncomputable def alB (es:List (Nat×Nat)) (wl:List Int) (lo hi:Int) (set:Nat):Bool:=Go.GS.cnB es set&&(decide (a6E wl set≥lo)&&decide (a6E wl set<=hi))
noncomputable def d1c (n:Nat) (es:List (Nat×Nat)) (wl:List Int) (lo hi ds:Int) (p:List Int):Bool:=decide (plE n p ds=0)&&(b6v p ds.toNat).all (alB es wl lo hi)
theorem d4P {n:Nat} {wl:List Int} {lo hi ds:Int} (h:bdE n wl lo hi ds=0):wl.length=n/\0<=lo/\lo<=hi/\1<=ds/\ds<=8/\c8c wl:=by
 unfold bdE at h
 split at h
 ·assumption
 ·cases h
theorem b1Q:∀(l:List Int),(∀x∈l,0<=x/\x<=1000000000)->0<=l.sum/\l.sum<=1000000000*l.length:=by
 intro l
 induction l with
 |nil=>intro _;simp
 |cons a l ih=>
  intro h
  have h1:=h a (by simp)
  have h2:=ih fun x hx=>h x (List.mem_cons_of_mem _ hx)
  rw[List.sum_cons,List.length_cons]
  omega
end Go.GS
/- MADE BY rxgen.py (mkGT.py): trees of chapter 32. -/
namespace Go.Proofs.YtlmgkkjgdapnpaaGreatDoor
open Go.Proofs.Tryz
open Go.RowKit Go.RX
set_option maxRecDepth 100000
theorem d1d:a0w prog [] [] [] [] 108=some (.rq (.cells 2 V0)
(.rq (.cells 4 V1)
(.call false 65 [(.ag V0)]
(.ri V2
(.br (.io .neq V2 (.ki 0))
(.ret [V2])
(.pm f108 4 2 [(.cell V1 0 0 noI)]
(.ri V3
(.rq (.int .i64 (.cell V0 0 0 noI))
(.br (.io .neq V3 (.cell V0 0 0 noI))
(.ret [(.ki 320)])
(.rq (.int .i64 (.cell V1 1 0 noI))
(.br (.io .lss (.cell V1 1 0 noI) (.ki 0))
(.ret [(.ki 320)])
(.rq (.int .i64 (.cell V1 2 0 noI))
(.br (.io .gtr (.cell V1 1 0 noI) (.cell V1 2 0 noI))
(.ret [(.ki 320)])
(.rq (.int .i64 (.cell V1 3 0 noI))
(.br (.io .lss (.cell V1 3 0 noI) (.ki 1))
(.ret [(.ki 320)])
(.br (.io .gtr (.cell V1 3 0 noI) (.ki 8))
(.ret [(.ki 320)])
(.call false 115 [(.cell V1 0 0 noI),(.k (.func (.func 155) #[] #[]))]
(.rq (.bool V4)
(.br V4
(.ret [(.ki 320)])
(.ret [(.ki 0)])))))))))))))))))))):=by kernel_rfl
theorem c5R:a0w prog [] [] [] [] 155=some (.ri V0
(.br (.io .lss V0 (.ki 0))
(.ret [(.k (.bool true))])
(.ret [(.io .gtr V0 (.ki 1000000000))]))):=by kernel_rfl
theorem d1e:a0w prog [2] [] [] [] 109=some (.rq (.cells 6 V0)
(.pub 208 V0
(.pm f109 1 0 [V2]
(.pm f109 1 1 [V3]
(.pm f109 1 3 [V2]
(.pm f109 1 4 [V5]
(.pm f109 1 5 [V6]
(.call false 88 [V4,V1,V7]
(.ri V8
(.br (.io .neq V8 (.ki 0))
(.ret [(.k (.bool false))])
(.pm f109 3 1 [V2]
(.pm f109 3 2 [V9]
(.pm f109 3 3 [V10]
(.call false 156 [V1,V11]
(.rq (.tup 0 V12)
(.rq (.tup 1 V12)
(.ef false f109 4 1 [V2]
(.call false 157 [(.proj V12 0),V13]
(.rq (.bool V14)
(.ret [(.nt V14)])))))))))))))))))))):=by kernel_rfl
theorem c5S:a0w prog [] [] [] [] 158=some (.pm f158 1 0 [V1]
(.call false 159 [V2,V0]
(.rq (.bool V3)
(.ret [(.nt V3)])))):=by kernel_rfl
theorem d1f:a0w prog [2] [] [] [] 159=some (.rq (.cells 6 V0)
(.pub 208 V0
(.ef false f159 1 1 [V2]
(.call false 212 [V1,V3]
(.pm f159 2 0 [V2]
(.pm f159 2 1 [V5]
(.call false 214 [V6,V1]
(.rq (.tup 0 V7)
(.rq (.tup 1 V7)
(.rq (.bool (.proj V7 0))
(.br (.proj V7 0)
(.pm f159 3 3 [V2]
(.pm f159 3 4 [V8]
(.pm f159 3 5 [V9]
(.ri V4
(.ri V10
(.br (.io .geq V4 V10)
(.pm f159 3 10 [V2]
(.pm f159 3 11 [V11]
(.pm f159 3 12 [V12]
(.ri V13
(.ret [(.io .leq V4 V13)])))))
(.ret [(.k (.bool false))])))))))
(.ret [(.k (.bool false))])))))))))))):=by kernel_rfl
theorem c5T:a0w prog [] [] [] [] 213=some (.pm f213 1 0 [V1]
(.pm f213 1 1 [V2]
(.pm f213 1 2 [V3]
(.pm f213 1 4 [V4,V0]
(.pm f213 1 5 [V5]
(.ret [V6])))))):=by kernel_rfl
theorem d1g:a0w prog [] [] [⟨0,2,[],[]⟩] [] 212=some (.loop [(.ki 0),V0]
(.ru V3
(.br (.uo .neq V3 (.k (.int .u64 (0))))
(.call false 80 [V3]
(.ef false f212 4 4 [V1,V4]
(.ri V2
(.ri V5
(.next 0 [(.io .add V2 V5),(.uo .and V3 (.uo .sub V3 (.k (.int .u64 (1)))))])))))
(.ret [V2])))):=by kernel_rfl
theorem d1h:a0w prog [] [] [] [] 49=some (.rq (.cells 2 V0)
(.rq (.cells 4 V1)
(.call false 108 [(.ag V0),(.ag V1)]
(.ri V3
(.br (.io .neq V3 (.ki 0))
(.ret [(.k (.bool false)),V3])
(.call false 109 [(.cat (.ag V1) 4 (.ag V0)),V2]
(.ret [V4,(.ki 0)]))))))):=by kernel_rfl
end Go.Proofs.YtlmgkkjgdapnpaaGreatDoor
/- Chapter 32: recom, part 1. -/
namespace Go.Proofs.YtlmgkkjgdapnpaaGreatDoor
open Go.Proofs.Tryz
open Go.RowKit Go.RX Go.GS
def bv (wts:Value) (lo hi ds:Int):Value:= .agg #[wts,ii lo,ii hi,ii ds]
def chv (wts:Value) (lo hi ds:Int) (n:Nat) (w:Value):Value:= .agg #[wts,ii lo,ii hi,ii ds,ii n,w]
theorem a0I {H:PH} {sz:Nat} {α:Type} {ce:α->List Value} {v:Value} {l:List α} (h:SE H sz ce v l):a3G v=true:=h.one.2 v (by rw[h.cells];simp)
theorem a9h {wts:Value} (h:a3G wts=true) (lo hi ds:Int):(bv wts lo hi ds).cells.size=4/\a0p (bv wts lo hi ds).cells:=by
 refine⟨rfl,fun c hc=> ?_⟩
 rw[bv,a1e]at hc
 simp only[List.mem_cons,List.not_mem_nil,or_false]at hc
 rcases hc with rfl|rfl|rfl|rfl
 ·exact h
 all_goals rfl
theorem b9Z {wts w:Value} (h:a3G wts=true) (h2:a3G w=true) (lo hi ds:Int) (n:Nat):(chv wts lo hi ds n w).cells.size=6/\a0p (chv wts lo hi ds n w).cells:=by
 refine⟨rfl,fun c hc=> ?_⟩
 rw[chv,a1e]at hc
 simp only[List.mem_cons,List.not_mem_nil,or_false]at hc
 rcases hc with rfl|rfl|rfl|rfl|rfl|rfl
 ·exact h
 ·rfl
 ·rfl
 ·rfl
 ·rfl
 ·exact h2
theorem c0a:FA prog 208 0 0:=⟨by kernel_rfl,of_decide_eq_true (by kernel_rfl),by kernel_rfl,by kernel_rfl,of_decide_eq_true (by kernel_rfl)⟩
theorem d4Q:FA prog 208 1 4:=⟨by kernel_rfl,of_decide_eq_true (by kernel_rfl),by kernel_rfl,by kernel_rfl,of_decide_eq_true (by kernel_rfl)⟩
theorem d6S:FA prog 50 0 0:=⟨by kernel_rfl,of_decide_eq_true (by kernel_rfl),by kernel_rfl,by kernel_rfl,of_decide_eq_true (by kernel_rfl)⟩
theorem d6T:FA prog 50 1 1:=⟨by kernel_rfl,of_decide_eq_true (by kernel_rfl),by kernel_rfl,by kernel_rfl,of_decide_eq_true (by kernel_rfl)⟩
theorem d6U:FA prog 50 2 2:=⟨by kernel_rfl,of_decide_eq_true (by kernel_rfl),by kernel_rfl,by kernel_rfl,of_decide_eq_true (by kernel_rfl)⟩
theorem d4R:FA prog 50 3 3:=⟨by kernel_rfl,of_decide_eq_true (by kernel_rfl),by kernel_rfl,by kernel_rfl,of_decide_eq_true (by kernel_rfl)⟩
theorem a1S:Sc prog 38:=⟨by kernel_rfl,by kernel_rfl,by kernel_rfl⟩
theorem d4S:Ag prog 32 2:=⟨by kernel_rfl,by kernel_rfl,by kernel_rfl⟩
theorem d6V:Ag prog 208 6:=⟨by kernel_rfl,by kernel_rfl,by kernel_rfl⟩
theorem c0b:a1q prog 155=true:=by kernel_rfl
theorem c0c:a1q prog 213=true:=by kernel_rfl
theorem c0d:a1q prog 158=true:=by kernel_rfl
section
variable {H:PH} {u v w wts:Value} {p wl:List Int} {n:Nat} {es:List (Nat×Nat)} {lo hi ds:Int} {set:Nat}
theorem c0e (x:Int):Asks prog 155 [ii x] H (.bool (decide (x<0)||decide (x>1000000000))):=by
 refine a0b mixed c5R (by kernel_rfl) rfl ?_
 refine a0a ⟨_,rfl⟩ ?_
 refine a0f (b:=decide (x<0)) rfl (fun h=> ?_) (fun h=> ?_)
 ·replace h:=of_decide_eq_true h
  exact a0c rfl ⟨rfl,by rw[decide_eq_true h];rfl⟩
 ·replace h:=of_decide_eq_false h
  exact a0c rfl ⟨rfl,by rw[decide_eq_false h];rfl⟩
theorem a5X {h:¬(wl.length=n/\0<=lo/\lo<=hi/\1<=ds/\ds<=8/\c8c wl)}:bdE n wl lo hi ds=320:=if_neg h
theorem c0f (hw:SG H w es) (hg:GV n es) (hwt:SI H wts wl):a1g prog 108 [gv n w,bv wts lo hi ds] H (ii (bdE n wl lo hi ds)):=by
 refine a0b mixed d1d (by kernel_rfl) rfl ?_
 refine a0a (a2e hw) ?_
 refine a0a (a9h (a0I hwt) _ _ _) ?_
 refine a0h (a2f hw hg) rfl fun H1 l1=> ?_
 simp only[cA,nA]
 refine a0a ⟨_,rfl⟩ ?_
 refine a0e (bF (p:=(0:Int)≠0) (by simp)) ?_
 refine a0j el_int rfl rfl (hwt.mono l1) rfl ?_
 refine a0a ⟨_,rfl⟩ ?_
 refine a0a ⟨_,rfl⟩ ?_
 refine a0f (b:=decide (wl.length≠n)) (by show Value.bool (((wl.length:Nat):Int) !=((n:Nat):Int))=_;rw[bN];congr 1;apply decide_eq_decide.2;omega) (fun h=> ?_) (fun h=> ?_)
 ·replace h:=of_decide_eq_true h
  exact a0c rfl ⟨l1,by rw[a5X (h:=fun e=>h e.1)];rfl⟩
 ·replace h:=of_decide_eq_false h
  refine a0a ⟨_,rfl⟩ ?_
  refine a0f (b:=decide (lo<0)) rfl (fun h2=> ?_) (fun h2=> ?_)
  ·replace h2:=of_decide_eq_true h2
   exact a0c rfl ⟨l1,by rw[a5X (h:=fun e=>by omega)];rfl⟩
  ·replace h2:=of_decide_eq_false h2
   refine a0a ⟨_,rfl⟩ ?_
   refine a0f (b:=decide (lo>hi)) rfl (fun h3=> ?_) (fun h3=> ?_)
   ·replace h3:=of_decide_eq_true h3
    exact a0c rfl ⟨l1,by rw[a5X (h:=fun e=>by omega)];rfl⟩
   ·replace h3:=of_decide_eq_false h3
    refine a0a ⟨_,rfl⟩ ?_
    refine a0f (b:=decide (ds<1)) rfl (fun h4=> ?_) (fun h4=> ?_)
    ·replace h4:=of_decide_eq_true h4
     exact a0c rfl ⟨l1,by rw[a5X (h:=fun e=>by omega)];rfl⟩
    ·replace h4:=of_decide_eq_false h4
     refine a0f (b:=decide (ds>8)) rfl (fun h5=> ?_) (fun h5=> ?_)
     ·replace h5:=of_decide_eq_true h5
      exact a0c rfl ⟨l1,by rw[a5X (h:=fun e=>by omega)];rfl⟩
     ·replace h5:=of_decide_eq_false h5
      refine a0h (a7V (caps:=[]) (q:=fun x=>decide (x<0)||decide (x>1000000000)) (hwt.mono l1) c0b (fun H' x _ _=>(c0e x).give)) rfl fun H2 l2=> ?_
      simp only[cA,nA]
      refine a0a ⟨_,rfl⟩ ?_
      refine a0f (b:=wl.any fun x=>decide (x<0)||decide (x>1000000000)) rfl (fun h6=> ?_) (fun h6=> ?_)
      ·skip
       rw[List.any_eq_true]at h6
       obtain⟨x,hx1,hx2⟩:=h6
       exact a0c rfl ⟨l1.trans l2,by rw[a5X (h:=fun e=>by have:=e.2.2.2.2.2 x hx1;simp at hx2;omega)];rfl⟩
      ·skip
       have hW:c8c wl:=by
        intro x hx
        rw[List.any_eq_false]at h6
        have:=h6 x hx
        simp at this;omega
       exact a0c rfl ⟨l1.trans l2,by rw[show bdE n wl lo hi ds=0 from if_pos ⟨by omega,by omega,by omega,by omega,by omega,hW⟩];rfl⟩
theorem b6x {b:Nat} {T:TypeId} {x:Nat} {y:Int} (hb:H b=some (.cells #[wts,ii lo,ii hi,ii ds,ii n,w] T (0,0))) (hwt:SI H wts wl) (hx:wl[x]? =some y):a1g prog 213 [ii (x:Nat),.pointer (some ⟨b,0,none⟩)] H (ii y):=by
 refine a0b mixed c5T (by kernel_rfl) rfl ?_
 refine a0i c0a rfl rfl rfl ?_
 simp only[cA,nA]
 refine a0i d6S rfl rfl rfl ?_
 simp only[cA,nA]
 refine a0g a1S rfl rfl hb rfl rfl ?_
 simp only[cA,nA]
 refine a0m el_int rfl rfl rfl rfl (fun _=>rfl) hwt hx rfl (fun _=>rfl) fun _=> ?_
 simp only[cA,nA]
 exact a0c rfl ⟨PH.le.refl _,rfl⟩
theorem c0g {f:FuncId} {caps:List Value} (hT:Tb H) (hs:set<M64) (hwl:c8c wl) (hsn:∀x,bit set x=true->x<wl.length) (hent:a1q prog f=true) (hf:∀H' x y,PH.le H H'->wl[x]? =some y->a1g prog f (ii (x:Nat)::caps) H' (ii y)):a1g prog 212 [uv set,.func (.func f) #[] caps.toArray] H (ii (a6E wl set)):=by
 refine a0b mixed d1g (by kernel_rfl) rfl ?_
 refine a0o (α:=Nat×Nat) (fun⟨k,s⟩=>[ii (((els set).take k).map fun x=>wl.getD x 0).sum,uv s]) (fun⟨k,s⟩=>fun H'=>PH.le H H'/\s<M64/\k<=(els set).length/\els s=(els set).drop k) (fun⟨k,s⟩=>(els set).length-k) ((0,set)) rfl (⟨PH.le.refl _,hs,Nat.zero_le _,rfl⟩) fun⟨k,s⟩ H' hQ=> ?_
 simp only[cA,nA]
 obtain⟨l1,hs',hk,he⟩:=hQ
 refine a0a ⟨_,rfl⟩ ?_
 refine a0f (b:=decide (s≠0)) (bN0 s) (fun h=> ?_) (fun h=> ?_)
 ·replace h:=of_decide_eq_true h
  obtain⟨x,r,hel⟩:∃x r,els s=x::r:=by
   cases hel:els s with
   |nil=>exact absurd (a4U hs' hel) h
   |cons x r=>exact⟨x,r,rfl⟩
  have htz:tz s=x:=by simp[tz,hel]
  have hk':k<(els set).length:=by
   apply Nat.lt_of_not_le;intro hh
   rw[List.drop_eq_nil_of_le hh,hel]at he;cases he
  obtain⟨y,hy,hdy⟩:=a0t hk'
  rw[<-he,hel]at hdy
  obtain⟨rfl,hr'⟩:=List.cons.inj hdy
  have hxl:=hsn x ((a2Y hs).1 (List.mem_of_getElem? hy))
  have hwx:wl[x]? =some wl[x]:=List.getElem?_eq_getElem hxl
  refine a0q (b4D (hT.mono l1) hs') rfl ?_
  simp only[cA,nA]
  rw[htz]
  refine a0n (a0D (f:=f) (caps:=caps.toArray) (vs:=[ii (x:Nat)]) rfl rfl rfl hent (hf _ x _ l1 hwx)) rfl ?_
  rintro _ H2 ⟨l2,rfl⟩
  refine⟨fun h=>(nomatch h),?_⟩
  simp only[cA,nA]
  have hbd:=b1Q (((els set).take k).map fun x=>wl.getD x 0) (by
   intro z hz
   rw[List.mem_map]at hz
   obtain⟨a,ha,rfl⟩:=hz
   have ha':=hsn a ((a2Y hs).1 (List.mem_of_mem_take ha))
   rw[List.getD_eq_getElem?_getD,List.getElem?_eq_getElem ha']
   exact hwl _ (List.getElem_mem ha'))
  have h64:=a3g set
  have hlk:((((els set).take k).map fun x=>wl.getD x 0)).length<=64:=by
   rw[List.length_map,List.length_take];unfold card at h64;omega
  have hy2:=hwl _ (List.getElem_mem hxl)
  refine a0a ⟨_,rfl⟩ ?_
  refine a0a ⟨_,rfl⟩ ?_
  exact⟨(k+1,s&&&(s-1)),by show(els set).length-(k+1)<(els set).length-k;omega,(a0R (by rw[a3I rfl rfl (by omega) (by omega)];show ii _=ii (((els set).take (k+1)).map fun x=>wl.getD x 0).sum;rw[take_snoc hy,List.map_append,List.sum_append,List.map_cons,List.map_nil,List.sum_cons,List.sum_nil,Int.add_zero,List.getD_eq_getElem?_getD,hwx];rfl) (a8B rfl (a9e (B:=1) rfl rfl hs' (by omega)) hs' (Nat.lt_of_le_of_lt (Nat.sub_le _ _) hs'))),⟨l1.trans l2,a7O hs',hk',by rw[b0f hs' hel,hr']⟩⟩
 ·replace h:=of_decide_eq_false h
  have h0:s=0:=by omega
  rw[h0,a6L]at he
  have hk2:(els set).length<=k:=by
   apply Nat.le_of_not_lt;intro hh
   rw[List.drop_eq_getElem_cons hh]at he;cases he
  exact a0c rfl ⟨l1,by rw[List.take_of_length_le hk2];rfl⟩
structure Chn (H:PH) (n:Nat) (w wts:Value) (es:List (Nat×Nat)) (wl:List Int):Prop where
 tb:Tb H
 gr:SG H w es
 ok:GV n es
 wt:SI H wts wl
 len:wl.length=n
 wok:c8c wl
theorem Chn.mono {H':PH} (h:Chn H n w wts es wl) (hl:PH.le H H'):Chn H' n w wts es wl:=⟨h.tb.mono hl,h.gr.mono hl,h.ok,h.wt.mono hl,h.len,h.wok⟩
theorem c0h (hc:Chn H n w wts es wl) (hs:set<2^n):a1g prog 159 [chv wts lo hi ds n w,uv set] H (.bool (alB es wl lo hi set)):=by
 refine a0b mixed d1f (by kernel_rfl) rfl ?_
 have hs':=b9t hc.ok.n64 hs
 refine a0a (b9Z (a0I hc.wt) (a0I hc.gr) _ _ _ _) ?_
 refine a0A (cs:= #[wts,ii lo,ii hi,ii ds,ii n,w]) rfl fun b hb=> ?_
 simp only[cA,nA]
 have l1:=PH.le_put hb (.cells #[wts,ii lo,ii hi,ii ds,ii n,w] 208 (0,0))
 have b1:=PH.put_self H b (.cells #[wts,ii lo,ii hi,ii ds,ii n,w] 208 (0,0))
 generalize H.put b (.cells #[wts,ii lo,ii hi,ii ds,ii n,w] 208 (0,0))=H1 at l1 b1
 have hc1:=hc.mono l1
 refine a0O (a0z (vs:=[.pointer (some ⟨b,0,none⟩)]) rfl rfl) rfl ?_
 simp only[cA,nA]
 refine a0h (c0g (caps:=[.pointer (some ⟨b,0,none⟩)]) (wl:=wl) hc1.tb hs' hc.wok (fun x hx=>by rw[hc.len];exact b6u hs hx) c0c (fun H' x y hl hx=>b6x (hl _ _ b1) (hc1.wt.mono hl) hx)) rfl fun H2 l2=> ?_
 simp only[cA,nA]
 have hc2:=hc1.mono l2
 have b2:=l2 _ _ b1
 refine a0i d4Q rfl rfl rfl ?_
 simp only[cA,nA]
 refine a0N (vs:=[ii n,w]) d4S rfl rfl b2 rfl (by simp) rfl ?_
 simp only[cA,nA]
 refine a0h (b9y hc2.tb hc2.gr hc.ok hs') rfl fun H3 l3=> ?_
 simp only[cA,nA]
 have b3:=l3 _ _ b2
 rw[show d6h n es set= .tuple #[.bool (cnB es set),ii 0]from if_pos hs]
 refine a0a ⟨_,rfl,by simp⟩ ?_
 refine a0a ⟨_,rfl,by simp⟩ ?_
 refine a0a ⟨_,rfl⟩ ?_
 refine a0f (b:=cnB es set) rfl (fun h1=> ?_) (fun h1=> ?_)
 ·skip
  refine a0i c0a rfl rfl rfl ?_
  simp only[cA,nA]
  refine a0i d6T rfl rfl rfl ?_
  simp only[cA,nA]
  refine a0g sc_int rfl rfl b3 rfl rfl ?_
  simp only[cA,nA]
  refine a0a ⟨_,rfl⟩ ?_
  refine a0a ⟨_,rfl⟩ ?_
  refine a0f (b:=decide (a6E wl set≥lo)) rfl (fun h2=> ?_) (fun h2=> ?_)
  ·replace h2:=of_decide_eq_true h2
   refine a0i c0a rfl rfl rfl ?_
   simp only[cA,nA]
   refine a0i d6U rfl rfl rfl ?_
   simp only[cA,nA]
   refine a0g sc_int rfl rfl b3 rfl rfl ?_
   simp only[cA,nA]
   refine a0a ⟨_,rfl⟩ ?_
   exact a0c rfl ⟨(l1.trans l2).trans l3,by unfold alB;rw[h1,decide_eq_true h2];rfl⟩
  ·replace h2:=of_decide_eq_false h2
   exact a0c rfl ⟨(l1.trans l2).trans l3,by unfold alB;rw[h1,decide_eq_false h2];rfl⟩
 ·skip
  exact a0c rfl ⟨(l1.trans l2).trans l3,by unfold alB;rw[h1];rfl⟩
theorem b6y {b:Nat} {T:TypeId} (hc:Chn H n w wts es wl) (hb:H b=some (.cells #[wts,ii lo,ii hi,ii ds,ii n,w] T (0,0))) (hs:set<2^n):a1g prog 158 [uv set,.pointer (some ⟨b,0,none⟩)] H (.bool (!alB es wl lo hi set)):=by
 refine a0b mixed c5S (by kernel_rfl) rfl ?_
 refine a0N (vs:=[wts,ii lo,ii hi,ii ds,ii n,w]) d6V rfl rfl hb rfl (by simp) rfl ?_
 simp only[cA,nA]
 refine a0h (c0h hc hs) rfl fun H1 l1=> ?_
 simp only[cA,nA]
 refine a0a ⟨_,rfl⟩ ?_
 exact a0c rfl ⟨l1,rfl⟩
theorem c0i (hc:Chn H n w wts es wl) (hu:SI H u p):a1g prog 109 [chv wts lo hi ds n w,u] H (.bool (d1c n es wl lo hi ds p)):=by
 refine a0b mixed d1e (by kernel_rfl) rfl ?_
 refine a0a (b9Z (a0I hc.wt) (a0I hc.gr) _ _ _ _) ?_
 refine a0A (cs:= #[wts,ii lo,ii hi,ii ds,ii n,w]) rfl fun b hb=> ?_
 simp only[cA,nA]
 have l1:=PH.le_put hb (.cells #[wts,ii lo,ii hi,ii ds,ii n,w] 208 (0,0))
 have b1:=PH.put_self H b (.cells #[wts,ii lo,ii hi,ii ds,ii n,w] 208 (0,0))
 generalize H.put b (.cells #[wts,ii lo,ii hi,ii ds,ii n,w] 208 (0,0))=H1 at l1 b1
 have hc1:=hc.mono l1
 refine a0i d4Q rfl rfl rfl ?_
 simp only[cA,nA]
 refine a0N (vs:=[ii n,w]) d4S rfl rfl b1 rfl (by simp) rfl ?_
 simp only[cA,nA]
 refine a0i c0a rfl rfl rfl ?_
 simp only[cA,nA]
 refine a0i d4R rfl rfl rfl ?_
 simp only[cA,nA]
 refine a0g sc_int rfl rfl b1 rfl rfl ?_
 simp only[cA,nA]
 refine a0h (b1P hc1.gr hc.ok (hu.mono l1) ds) rfl fun H2 l2=> ?_
 simp only[cA,nA]
 refine a0a ⟨_,rfl⟩ ?_
 refine a0f (b:=decide (plE n p ds≠0)) (bN _ _) (fun h=> ?_) (fun h=> ?_)
 ·replace h:=of_decide_eq_true h
  exact a0c rfl ⟨l1.trans l2,by unfold d1c;rw[decide_eq_false h];rfl⟩
 ·replace h:=of_decide_eq_false h
  have h0:plE n p ds=0:=Classical.byContradiction h
  have hp0:=d4J h0
  have hc2:=hc1.mono l2
  have b2:=l2 _ _ b1
  refine a0i c0a rfl rfl rfl ?_
  simp only[cA,nA]
  refine a0i d4R rfl rfl rfl ?_
  simp only[cA,nA]
  refine a0g sc_int rfl rfl b2 rfl rfl ?_
  simp only[cA,nA]
  obtain⟨k,rfl⟩:∃k:Nat,ds=(k:Int):=⟨ds.toNat,by omega⟩
  rw[Int.toNat_natCast]at hp0
  refine a0d (c5Q (hu.mono (l1.trans l2)) k (by omega) (by omega) hp0.2.2.2.1 hp0.2.2.2.2) rfl ?_
  rintro _ H3 ⟨l3,z,rfl,hz⟩
  refine⟨fun h=>(nomatch h),?_⟩
  simp only[cA,nA]
  have hc3:=hc2.mono l3
  have b3:=l3 _ _ b2
  refine a0a ⟨_,rfl,by simp⟩ ?_
  refine a0a ⟨_,rfl,by simp⟩ ?_
  refine a0O (a0z (vs:=[.pointer (some ⟨b,0,none⟩)]) rfl rfl) rfl ?_
  simp only[cA,nA]
  refine a0h (b9x (caps:=[.pointer (some ⟨b,0,none⟩)]) (q:=fun s=> !alB es wl lo hi s) hz c0d (fun H' s hl hsm=>b6y (hc3.mono hl) (hl _ _ b3) (by have:=c5l hsm hp0.2.2.2.1.2.2;rw[hp0.2.2.1]at this;exact this))) rfl fun H4 l4=> ?_
  simp only[cA,nA]
  refine a0a ⟨_,rfl⟩ ?_
  exact a0c rfl ⟨((l1.trans l2).trans l3).trans l4,by unfold d1c;rw[decide_eq_true h0,Int.toNat_natCast,Bool.true_and];show Value.bool (!((b6v p k).any fun s=> !alB es wl lo hi s))=_;rw[List.all_eq_not_any_not]⟩
theorem c0j (hT:Tb H) (hw:SG H w es) (hg:GV n es) (hwt:SI H wts wl) (hu:SI H u p):a1g prog 49 [gv n w,bv wts lo hi ds,u] H (.tuple #[.bool (decide (bdE n wl lo hi ds=0)&&d1c n es wl lo hi ds p),ii (bdE n wl lo hi ds)]):=by
 refine a0b mixed d1h (by kernel_rfl) rfl ?_
 refine a0a (a2e hw) ?_
 refine a0a (a9h (a0I hwt) _ _ _) ?_
 refine a0h (c0f hw hg hwt) rfl fun H1 l1=> ?_
 simp only[cA,nA]
 refine a0a ⟨_,rfl⟩ ?_
 refine a0f (b:=decide (bdE n wl lo hi ds≠0)) (bN _ _) (fun h=> ?_) (fun h=> ?_)
 ·replace h:=of_decide_eq_true h
  exact a0c rfl ⟨l1,by rw[decide_eq_false h];rfl⟩
 ·replace h:=of_decide_eq_false h
  have h0:bdE n wl lo hi ds=0:=Classical.byContradiction h
  have hb:=d4P h0
  refine a0h (c0i (lo:=lo) (hi:=hi) (ds:=ds) (p:=p) (u:=u) ⟨hT.mono l1,hw.mono l1,hg,hwt.mono l1,hb.1,hb.2.2.2.2.2⟩ (hu.mono l1)) rfl fun H2 l2=> ?_
  simp only[cA,nA]
  exact a0c rfl ⟨l1.trans l2,by rw[decide_eq_true h0,h0];rfl⟩
end
end Go.Proofs.YtlmgkkjgdapnpaaGreatDoor

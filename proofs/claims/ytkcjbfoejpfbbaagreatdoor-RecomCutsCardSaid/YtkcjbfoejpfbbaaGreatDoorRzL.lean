/- Concrete runs: what a call leaves, each outcome once, and without what nobody reaches. -/
import Derived.Test.YtkcjbfoejpfbbaaGreatDoorRzH
namespace Go.RZ
open Go.RowKit Go.RX Go.GS
theorem d3j {k l:IntKind} (h:isK k l=true):k=l:=by simpa[isK]using h
mutual
theorem b0J:∀(a b:AV),eqV a b=true->a=b
 | .int _ _,b,h=>by cases b<;>simp only[eqV,Bool.and_eq_true,Bool.false_eq_true,b0F,beq_iff_eq]at h;rw[d3j h.1,h.2]
 | .bool _,b,h=>by cases b<;>simp_all[eqV]
 | .ptr _ _,b,h=>by cases b<;>simp_all[eqV]
 | .nptr,b,h=>by cases b<;>simp_all[eqV]
 | .sl _ _ _ _,b,h=>by cases b<;>simp_all[eqV]
 | .sg _ _ _ _,b,h=>by cases b<;>simp_all[eqV]
 | .nsl,b,h=>by cases b<;>simp_all[eqV]
 | .mp _,b,h=>by cases b<;>simp_all[eqV]
 | .nmp,b,h=>by cases b<;>simp_all[eqV]
 | .fn _ b c,b',h=>by
  cases b'<;>simp only[eqV,Bool.and_eq_true,Bool.false_eq_true]at h
  rw[a1E h.1.1,a3V b _ h.1.2,a3V c _ h.2]
 | .nfn,b,h=>by cases b<;>simp_all[eqV]
 | .agg l,b,h=>by
  cases b<;>simp only[eqV,Bool.false_eq_true]at h
  rw[a3V l _ h]
 | .tup l,b,h=>by
  cases b<;>simp only[eqV,Bool.false_eq_true]at h
  rw[a3V l _ h]
theorem a3V:∀(a b:List AV),c2Q a b=true->a=b
 |[],b,h=>by cases b<;>simp_all[c2Q]
 |x::r,b,h=>by
  cases b<;>simp only[c2Q,Bool.and_eq_true,Bool.false_eq_true]at h
  rw[b0J x _ h.1,a3V r _ h.2]
end
theorem b8F:∀(a b:List Nat),d2S a b=true->a=b
 |[],b,h=>by cases b<;>simp_all[d2S]
 |x::r,b,h=>by
  cases b<;>simp only[d2S,Bool.and_eq_true,Bool.false_eq_true]at h
  rw[a1E h.1,b8F r _ h.2]
theorem b8G:∀(a b:List (AV×AV×Nat)),d2T a b=true->a=b
 |[],b,h=>by cases b<;>simp_all[d2T]
 |(x1,x2,x3)::r,b,h=>by
  cases b<;>simp only[d2T,Bool.and_eq_true,Bool.false_eq_true]at h
  rename_i y q
  obtain⟨y1,y2,y3⟩:=y
  rw[b0J _ _ h.1.1.1,b0J _ _ h.1.1.2,a1E h.1.2,b8G r _ h.2]
theorem c6J {a b:AO} (h:eqO a b=true):a=b:=by
 cases a<;>cases b<;>simp only[eqO,Bool.and_eq_true,Bool.false_eq_true]at h
 ·rw[a1E h.1,a3V _ _ h.2]
 ·rw[a1E h.1,a3V _ _ h.2]
 ·rw[a1E h.1,b8G _ _ h.2]
 ·rw[a1E h.1.1.1,a1E h.1.1.2,b8F _ _ h.1.2,a1E h.2]
theorem b2v:∀(a b:List (Option AO)),c8K a b=true->a=b
 |[],b,h=>by cases b<;>simp_all[c8K]
 |x::r,b,h=>by
  cases b with
  |nil=>cases x<;>simp[c8K]at h
  |cons y q=>
   cases x<;>cases y<;>simp only[c8K,Bool.and_eq_true,Bool.false_eq_true]at h
   ·rw[b2v r _ h]
   ·rw[c6J h.1,b2v r _ h.2]
theorem b8H {x:AV×List (Option AO)}:∀{l:List (AV×List (Option AO))},c8L x l=true->x∈l
 |[],h=>by simp[c8L]at h
 |y::r,h=>by
  simp only[c8L,Bool.or_eq_true,Bool.and_eq_true]at h
  rcases h with h|h
  ·have:x=y:=Prod.ext (b0J _ _ h.1) (b2v _ _ h.2)
   rw[this];exact List.mem_cons_self
  ·exact List.mem_cons_of_mem _ (b8H h)
theorem c6K:∀{l:List (AV×List (Option AO))} {x:AV×List (Option AO)},x∈l->x∈dd l
 |[],_,h=>by cases h
 |a::r,x,h=>by
  simp only[dd]
  split
  ·exact h
  ·rcases List.mem_cons.1 h with rfl|h
   ·cases hc:c8L x (dd r)with
    |true=>exact b8H hc
    |false=>exact List.mem_cons_self
   ·have:=c6K h
    cases hc:c8L a (dd r)with
    |true=>exact this
    |false=>exact List.mem_cons_of_mem _ this
theorem b0K {s:S}:∀{l:List (AV×List (Option AO))} {x:AV×List (Option AO)},x∈l->(x.1,mkS s x.2)∈c4l s l
 |a::r,x,h=>by
  simp only[c4l]
  rcases List.mem_cons.1 h with rfl|h
  ·exact List.mem_cons_self
  ·exact List.mem_cons_of_mem _ (b0K h)
theorem a7U {n:Nat}:∀{l:List (AV×S)} {q:List (AV×List (Option AO))} {x:AV×S},b3I n l=some q->x∈l->∃c,c4k n x.1 x.2=some c/\c∈q
 |a::r,q,x,h,hx=>by
  simp only[b3I]at h
  split at h
  ·rename_i c b hc hb
   simp only[Option.some.injEq]at h;subst h
   rcases List.mem_cons.1 hx with rfl|hx
   ·exact⟨c,hc,List.mem_cons_self⟩
   ·obtain⟨c',h1,h2⟩:=a7U hb hx
    exact⟨c',h1,List.mem_cons_of_mem _ h2⟩
  ·cases h
mutual
theorem c4C {σ σ':Rl} {g:Nat->Nat}:∀v:AV,(∀k∈ids v,σ' (g k)=σ k)->rz σ' (rnV g v)=rz σ v
 | .int _ _,_| .bool _,_| .nptr,_| .nsl,_| .nmp,_| .nfn,_=>by simp[rnV,rz]
 | .ptr k q,h=>by simp only[rnV,rz,h k (by simp[ids])]
 | .sl k _ _ _,h=>by simp only[rnV,rz,h k (by simp[ids])]
 | .sg k _ _ _,h=>by simp only[rnV,rz,h k (by simp[ids])]
 | .mp k,h=>by simp only[rnV,rz,h k (by simp[ids])]
 | .fn _ b c,h=>by
  simp only[ids,List.mem_append]at h
  simp only[rnV,rz,a6P b fun k hk=>h k (.inl hk),a6P c fun k hk=>h k (.inr hk)]
 | .agg l,h=>by simp only[ids]at h;simp only[rnV,rz,a6P l h]
 | .tup l,h=>by simp only[ids]at h;simp only[rnV,rz,a6P l h]
theorem a6P {σ σ':Rl} {g:Nat->Nat}:∀l:List AV,(∀k∈c4j l,σ' (g k)=σ k)->rzs σ' (b6A g l)=rzs σ l
 |[],_=>rfl
 |x::r,h=>by
  simp only[c4j,List.mem_append]at h
  simp only[b6A,rzs,c4C x fun k hk=>h k (.inl hk),a6P r fun k hk=>h k (.inr hk)]
end
mutual
theorem c4D {n:Nat} {g:Nat->Nat}:∀v:AV,(∀k∈ids v,g k<n)->lt n (rnV g v)
 | .int _ _,_| .bool _,_| .nptr,_| .nsl,_| .nmp,_| .nfn,_=>by simp[rnV,lt]
 | .ptr k q,h=>by simp only[rnV,lt];exact h k (by simp[ids])
 | .sl k _ _ _,h=>by simp only[rnV,lt];exact h k (by simp[ids])
 | .sg k _ _ _,h=>by simp only[rnV,lt];exact h k (by simp[ids])
 | .mp k,h=>by simp only[rnV,lt];exact h k (by simp[ids])
 | .fn _ b c,h=>by
  simp only[ids,List.mem_append]at h
  simp only[rnV,lt];exact⟨a6Q b fun k hk=>h k (.inl hk),a6Q c fun k hk=>h k (.inr hk)⟩
 | .agg l,h=>by simp only[ids]at h;simp only[rnV,lt];exact a6Q l h
 | .tup l,h=>by simp only[ids]at h;simp only[rnV,lt];exact a6Q l h
theorem a6Q {n:Nat} {g:Nat->Nat}:∀l:List AV,(∀k∈c4j l,g k<n)->lts n (b6A g l)
 |[],_=>by simp[b6A,lts]
 |x::r,h=>by
  simp only[c4j,List.mem_append]at h
  simp only[b6A,lts];exact⟨c4D x fun k hk=>h k (.inl hk),a6Q r fun k hk=>h k (.inr hk)⟩
end
theorem b8I {σ σ':Rl} {g:Nat->Nat}:∀es:List (AV×AV×Nat),(∀k∈idE es,σ' (g k)=σ k)->a4b σ' (rnE g es)=a4b σ es
 |[],_=>rfl
 |p::r,h=>by
  simp only[idE,List.mem_append]at h
  have ih:=b8I r fun k hk=>h k (.inr (.inr hk))
  unfold a4b at ih⊢
  simp only[rnE,List.map_cons,c4C p.1 fun k hk=>h k (.inl hk),c4C p.2.1 fun k hk=>h k (.inr (.inl hk)),ih]
theorem c6L {n:Nat} {g:Nat->Nat}:∀es:List (AV×AV×Nat),(∀k∈idE es,g k<n)->ltE n (rnE g es)
 |[],_=>fun p hp=>by cases hp
 |p::r,h=>fun q hq=>by
  simp only[idE,List.mem_append]at h
  simp only[rnE]at hq
  rcases List.mem_cons.1 hq with rfl|hq
  ·exact⟨c4D p.1 fun k hk=>h k (.inl hk),c4D p.2.1 fun k hk=>h k (.inr (.inl hk))⟩
  ·exact c6L r (fun k hk=>h k (.inr (.inr hk))) q hq
theorem d5S {P:Program} {σ σ':Rl} {g:Nat->Nat} {k k':Nat} {H:PH} (hk:σ' k'=σ k):∀{o:AO},(∀j∈idO o,σ' (g j)=σ j)->RO P σ k H o->RO P σ' k' H (rnO g o)
 | .cells l T,hg,h=>by simp only[rnO,RO]at*;rw[hk,a6P l hg];exact h
 | .grown l T,hg,h=>by
  obtain⟨cs,r,h1,h2,h3,h4⟩:=h
  exact⟨cs,r,by rw[hk];exact h1,by rw[hk];exact h2,by rw[hk];exact h3,by rw[a6P l hg];exact h4⟩
 | .map es c,hg,h=>by simp only[rnO,RO]at*;rw[hk,b8I es hg];exact h
 | .iter m a b c,hg,h=>by simp only[rnO,RO]at*;rw[hk,hg m (by simp[idO])];exact h
theorem d3k {n:Nat} {g:Nat->Nat}:∀{o:AO},(∀j∈idO o,g j<n)->ltO n (rnO g o)
 | .cells l T,hg=>a6Q l hg
 | .grown l T,hg=>a6Q l hg
 | .map es c,hg=>c6L es hg
 | .iter m a b c,hg=>hg m (by simp[idO])
theorem memN_ok {l:List Nat} {k:Nat}:d2R l k=true↔k∈l:=by
 induction l with
 |nil=>simp[d2R]
 |cons a r ih=>simp only[d2R,Bool.or_eq_true,List.mem_cons,ih,Nat.beq_eq];constructor<;>rintro(h|h)<;>simp_all
theorem a9i {s:S} {n:Nat}:∀(f:Nat) (acc todo acc':List Nat),reach s n f acc todo=some acc'->acc.Nodup->(∀k∈acc,n<=k)->
  acc'.Nodup/\(∀k∈acc',n<=k)/\(∀k∈acc,k∈acc')/\(∀k∈todo,k<n\/k∈acc')/\∀k∈acc',k∉acc->∀o,s.get k=some o->∀j∈idO o,j<n\/j∈acc'
 |0,_,_,_,h,_,_=>by simp[reach]at h
 |f+1,acc,[],acc',h,h1,h2=>by
  simp only[reach,Option.some.injEq]at h;subst h
  exact⟨h1,h2,fun _ h=>h,(fun _ h=>absurd h (by simp)),fun k hk hn=>absurd hk hn⟩
 |f+1,acc,k::r,acc',h,h1,h2=>by
  simp only[reach]at h
  split at h
  ·rename_i hc
   obtain⟨a1,a2,a3,a4,a5⟩:=a9i f acc r acc' h h1 h2
   refine⟨a1,a2,a3,fun j hj=> ?_,a5⟩
   rcases List.mem_cons.1 hj with rfl|hj
   ·rw[Bool.or_eq_true]at hc
    rcases hc with hc|hc
    ·exact .inl (a2R hc)
    ·exact .inr (a3 _ (memN_ok.1 hc))
   ·exact a4 j hj
  ·rename_i hc
   rw[Bool.or_eq_false_iff]at hc
   have hn:n<=k:=by
    rcases Nat.lt_or_ge k n with h|h
    ·have:Nat.blt k n=true:=by simpa[Nat.blt_eq]using h
     rw[this]at hc;cases hc.1
    ·exact h
   have hk:k∉acc:=fun h=>by rw[memN_ok.2 h]at hc;cases hc.2
   obtain⟨a1,a2,a3,a4,a5⟩:=a9i f _ _ acc' h (by rw[List.nodup_append];exact⟨h1,by simp,fun a ha b hb e=>by simp at hb;subst hb;subst e;exact hk ha⟩) (fun j hj=>by
    rcases List.mem_append.1 hj with hj|hj
    ·exact h2 j hj
    ·simp at hj;omega)
   refine⟨a1,a2,fun j hj=>a3 j (by simp[hj]),fun j hj=> ?_,fun j hj hja o ho i hi=> ?_⟩
   ·rcases List.mem_cons.1 hj with rfl|hj
    ·exact .inr (a3 _ (by simp))
    ·refine a4 j ?_
     split
     ·simp[hj]
     ·exact hj
   ·by_cases e:j=k
    ·subst e
     refine a4 i ?_
     rw[ho]
     simp[hi]
    ·exact a5 j hj (by simp[hja,e]) o ho i hi
theorem c6M:∀{l:List Nat} {k:Nat},k∈l->l[idx l k]? =some k
 |a::r,k,h=>by
  simp only[idx]
  cases hb:Nat.beq a k with
  |true=>have:=a1E hb;subst this;simp
  |false=>
   have hne:a≠k:=fun e=>by subst e;simp at hb
   rcases List.mem_cons.1 h with rfl|h
   ·exact absurd rfl hne
   ·simp only[cond_false,Nat.succ_eq_add_one,List.getElem?_cons_succ];exact c6M h
theorem c9g:∀(bs:List (Option AO)) (s:S),(mkS s bs).n=s.n+bs.length
 |[],s=>rfl
 |some o::r,s=>by rw[mkS,c9g r,S.n_add,List.length_cons];omega
 |none::r,s=>by rw[mkS,c9g r,List.length_cons];show s.n+1+r.length=_;omega
theorem b2w:∀(bs:List (Option AO)) (s:S),(∀j,s.n<=j->s.get j=none)->∀j,(mkS s bs).get j=if j<s.n then s.get j else(bs[j-s.n]?).join
 |[],s,hs,j=>by
  simp only[mkS]
  split
  ·rfl
  ·rename_i h;rw[hs j (by omega)];simp
 |some o::r,s,hs,j=>by
  rw[mkS,b2w r (s.add o) (fun i hi=>by rw[S.get_add,if_neg (by rw[S.n_add]at hi;omega)];exact hs i (by rw[S.n_add]at hi;omega)) j,S.n_add,S.get_add]
  by_cases h1:j<s.n
  ·rw[if_pos (by omega),if_neg (by omega),if_pos h1]
  ·by_cases h2:j=s.n
   ·subst h2;rw[if_pos (by omega),if_pos rfl,if_neg (by omega)];simp
   ·rw[if_neg (by omega),if_neg h1,show j-s.n=(j-(s.n+1))+1 by omega];simp
 |none::r,s,hs,j=>by
  rw[mkS,b2w r ⟨Nat.succ s.n,s.h⟩ (fun i hi=>hs i (Nat.le_of_succ_le hi)) j]
  show(if j<s.n+1 then s.get j else _)=_
  by_cases h1:j<s.n
  ·rw[if_pos (by omega),if_pos h1]
  ·by_cases h2:j=s.n
   ·subst h2;rw[if_pos (by omega),if_neg (by omega),hs _ (Nat.le_refl _)];simp
   ·rw[if_neg (by omega),if_neg h1,show j-s.n=(j-(s.n+1))+1 by omega];simp
theorem b3Z {s:S} {g:Nat->Nat}:∀(l:List Nat) (i:Nat),(c2P s g l)[i]? =l[i]?.map fun k=>(s.get k).map (rnO g)
 |[],i=>by simp[c2P]
 |k::r,0=>by simp only[c2P,List.getElem?_cons_zero,Option.map_some];cases s.get k<;>rfl
 |k::r,i+1=>by simp only[c2P,List.getElem?_cons_succ];exact b3Z r i
theorem b4a {s:S} {g:Nat->Nat}:∀(l:List Nat),(c2P s g l).length=l.length
 |[]=>rfl
 |k::r=>by simp only[c2P,List.length_cons,b4a r]
theorem c4E {P:Program} {σ σ':Rl} {s s':S} {wm:Nat} {H0 H H':PH} {v:AV} {c:AV×List (Option AO)} (hI:Inv P σ s wm H0 H) (hI':Inv P σ' s' s.n H H') (hE:Ex σ s σ' s') (hc:c4k s.n v s'=some c):
  ∃τ,rz σ' v=rz τ c.1/\lt (mkS s c.2).n c.1/\Inv P τ (mkS s c.2) s.n H H'/\Ex σ s τ (mkS s c.2):=by
 unfold c4k at hc
 split at hc
 ·rename_i acc hacc
  simp only[Option.some.injEq]at hc;subst hc
  obtain⟨a1,a2,_,a4,a5⟩:=a9i _ _ _ _ hacc List.nodup_nil (fun _ h=>by cases h)
  have a5:∀k∈acc,∀o,s'.get k=some o->∀j∈idO o,j<s.n\/j∈acc:=fun k hk=>a5 k hk (by simp)
  have hs:∀j,s.n<=j->s.get j=none:=fun j hj=>by
   cases e:s.get j with
   |none=>rfl
   |some o=>have:=(hI.ob e).1;omega
  let τ:Rl:=fun k=>if k<s.n then σ k else match acc[k-s.n]? with|some j=>σ' j|none=>(0,0)
  have τlt:∀k,k<s.n->τ k=σ k:=fun k hk=>if_pos hk
  have τacc:∀i j,acc[i]? =some j->τ (s.n+i)=σ' j:=fun i j h=>by
   show(if s.n+i<s.n then _ else _)=_
   rw[if_neg (by omega),Nat.add_sub_cancel_left,h]
  have hren:∀k,(k<s.n\/k∈acc)->τ (ren s.n acc k)=σ' k/\ren s.n acc k<s.n+acc.length:=fun k hk=>by
   unfold ren
   cases hb:Nat.blt k s.n with
   |true=>have:=a2R hb;exact⟨by rw[cond_true,τlt k this,hE.ag k this],by rw[cond_true];omega⟩
   |false=>
    have hn : ¬ k < s.n := fun h => by have : Nat.blt k s.n = true := by simpa [Nat.blt_eq] using h
                                       rw[this]at hb;cases hb
    have hi:=c6M (hk.resolve_left hn)
    obtain⟨hlt,_⟩:=List.getElem?_eq_some_iff.1 hi
    exact⟨τacc _ _ hi,by rw[cond_false];show s.n+_<_;omega⟩
  have hn:(mkS s (c2P s' (ren s.n acc) acc)).n=s.n+acc.length:=by rw[c9g,b4a]
  have hget:∀j o,(mkS s (c2P s' (ren s.n acc) acc)).get j=some o->(j<s.n/\s.get j=some o)\/∃i k o',j=s.n+i/\acc[i]? =some k/\s'.get k=some o'/\o=rnO (ren s.n acc) o':=fun j o h=>by
   rw[b2w _ _ hs]at h
   split at h
   ·rename_i hj;exact .inl ⟨hj,h⟩
   ·rename_i hj
    rw[b3Z]at h
    cases e:acc[j-s.n]? with
    |none=>rw[e]at h;cases h
    |some k=>
     rw[e]at h
     simp only[Option.map_some,Option.join_some]at h
     obtain⟨o',ho',rfl⟩:=Option.map_eq_some_iff.1 h
     exact .inr ⟨j-s.n,k,o',by omega,e,ho',rfl⟩
  have hv:∀k∈ids v,k<s.n\/k∈acc:=a4
  have accHt:∀i k o',acc[i]? =some k->s'.get k=some o'->H (τ (s.n+i)).1=none:=fun i k o' hi ho'=>by
   rw[τacc i k hi];exact hI'.fr ho' (a2 k (List.mem_of_getElem? hi))
  refine⟨τ,(c4C v fun k hk=>(hren k (hv k hk)).1).symm,?_,⟨fun{j o} hj=> ?_,fun{j k o o'} hj hk he=> ?_,hI'.le,fun{k o} hk hw=> ?_⟩,⟨by rw[hn];omega,τlt,fun{k o} hk ho=> ?_⟩⟩
  ·rw[hn];exact c4D v fun k hk=>(hren k (hv k hk)).2
  ·rcases hget j o hj with⟨h1,h2⟩|⟨i,k,o',rfl,h2,h3,rfl⟩
   ·obtain⟨b1,b2,b3⟩:=hI.ob h2
    refine⟨by rw[hn];omega,b3L (by rw[hn];omega) b2,RO.ext (σ:=σ) τlt b1 ?_ b2 b3⟩
    cases e:H (σ j).1 with
    |none=>exact absurd e (RO.some b3)
    |some x=>exact hI'.le _ _ e
   ·obtain⟨hlt,_⟩:=List.getElem?_eq_some_iff.1 h2
    have hk:=List.mem_of_getElem? h2
    exact⟨by rw[hn];omega,by rw[hn];exact d3k fun j hj=>(hren j (a5 k hk o' h3 j hj)).2,d5S (τacc i k h2) (fun j hj=>(hren j (a5 k hk o' h3 j hj)).1) (hI'.ob h3).2.2⟩
  ·rcases hget j o hj with⟨h1,h2⟩|⟨i,k1,o1,rfl,h2,h3,rfl⟩<;>rcases hget k o' hk with⟨g1,g2⟩|⟨i',k2,o2,rfl,g2,g3,rfl⟩
   ·rw[τlt j h1,τlt k g1]at he;exact hI.inj h2 g2 he
   ·have:=accHt i' k2 o2 g2 g3
    rw[<-he,τlt j h1]at this
    exact absurd this (RO.some (hI.ob h2).2.2)
   ·have:=accHt i k1 o1 h2 h3
    rw[he,τlt k g1]at this
    exact absurd this (RO.some (hI.ob g2).2.2)
   ·rw[τacc i k1 h2,τacc i' k2 g2]at he
    have e:=hI'.inj h3 g3 he
    subst e
    obtain⟨l1,e1⟩:=List.getElem?_eq_some_iff.1 h2
    obtain⟨l2,e2⟩:=List.getElem?_eq_some_iff.1 g2
    have:=(List.getElem_inj a1).1 (e1.trans e2.symm)
    omega
  ·rcases hget k o hk with⟨h1,_⟩|⟨i,k1,o1,rfl,h2,h3,rfl⟩
   ·omega
   ·exact accHt i k1 o1 h2 h3
  ·rcases hget k o ho with⟨_,h2⟩|⟨i,k1,o1,rfl,_⟩
   ·exact⟨_,h2⟩
   ·omega
 ·cases hc
theorem d3l {P:Program} {σ:Rl} {s:S} {wm:Nat} {H0 H H':PH} {a0H:List (AV×S)} {b:Bool} {u:Value} (hI:Inv P σ s wm H0 H) (h:Out P σ s (if b then s.n else wm) (if b then H else H0) a0H u H'):
  Out P σ s (if b then s.n else wm) (if b then H else H0) (fin b s a0H) u H':=by
 cases b with
 |false=>exact h
 |true=>
  simp only[if_true]at h⊢
  unfold fin
  simp only
  split
  ·rename_i q hq
   obtain⟨p,hp,σ',rfl,_,h3,h4⟩:=h
   obtain⟨c,hc,hcq⟩:=a7U hq hp
   obtain⟨τ,t1,t2,t3,t4⟩:=c4E hI h3 h4 hc
   exact⟨_,b0K (c6K hcq),τ,t1,t2,t3,t4⟩
  ·exact h
theorem Out.back {P:Program} {σ:Rl} {s:S} {wm:Nat} {H0 H H':PH} {a0H:List (AV×S)} {b:Bool} {u:Value} (hI:Inv P σ s wm H0 H) (h:Out P σ s (if b then s.n else wm) (if b then H else H0) a0H u H'):Out P σ s wm H0 a0H u H':=by
 cases b with
 |false=>exact h
 |true=>
  obtain⟨p,hp,σ',h1,h2,h3,h4⟩:=h
  exact⟨p,hp,σ',h1,h2,hI.back h3 h4,h4⟩
end Go.RZ
/- Concrete runs: the evaluator is sound. -/
namespace Go.RZ
open Go.RowKit Go.RX Go.GS
structure Sup (P:Program) (kty:TypeId->Bool) (tab:FuncId->Option (Nat×Tree)) (orc:FuncId->List AV->S->Nat->Option (List (AV×S))) (own:FuncId->List AV->Option AV) (itb:FuncId->List AV->S->Option (List (List AV)×List Nat×List Nat)) (K0:PH):Prop where
 mix:P.follows .mixedOrders=true
 key:∀t,kty t=true->a7R P t
 tab:∀g np t,tab g=some (np,t)->a7q P g=true/\(P.funcs[g]?).map (fun fn=>fn.params.size+fn.nfree)=some np/\∃E A J C,tree P E A J C g=some t
 orc:∀g vs s wm a0H,orc g vs s wm=some a0H->∀σ H0 H,PH.le K0 H0->lts s.n vs->Inv P σ s wm H0 H->Con P g (rzs σ vs) H fun u H'=>Out P σ s wm H0 a0H u H'
 own:∀g vs v,own g vs=some v->∀σ,Own P g (rzs σ vs) (rz σ v)/\∀n,lts n vs->lt n v
 itb:∀h cs s ys ks ls,itb h cs s=some (ys,ks,ls)->∀σ wm H0 H s',PH.le K0 H0->lts s.n cs->Inv P σ s wm H0 H->a3c s wm ks=some s'->∃X K Ro E S Sp,
  H=X.or K/\Disj X K/\Inv P σ s' wm H0 X/\a7q P h=true/\ItC P h (rzs σ cs) Ro K E S Sp/\(∀X',PH.le K0 X'->(∀k∈ls,X' (σ k).1=X (σ k).1)->PH.le Ro X')/\
  (∀pre xs,E pre xs->∃y,ys[pre.length]? =some y/\xs=rzs σ y)/\(∀l K',S l K'->l.length=ys.length)/\∀y∈ys,lts s.n y
theorem b0L {k:AV->S->Option (List (AV×S))}:∀{l:List (AV×S)} {a0H:List (AV×S)} {p:AV×S},b0C l k=some a0H->p∈l->∃o1,k p.1 p.2=some o1/\∀q∈o1,q∈a0H
 |x::r,a0H,p,h,hp=>by
  simp only[b0C]at h
  split at h
  ·obtain rfl:=List.mem_singleton.1 hp
   exact⟨a0H,h,fun _ h=>h⟩
  ·split at h
   ·rename_i a b ha hb
    simp only[Option.some.injEq]at h;subst h
    rcases List.mem_cons.1 hp with rfl|hp
    ·exact⟨a,ha,fun q hq=>List.mem_append_left _ hq⟩
    ·obtain⟨o1,h1,h2⟩:=b0L hb hp
     exact⟨o1,h1,fun q hq=>List.mem_append_right _ (h2 q hq)⟩
   ·cases h
theorem b2x {p:Nat->Prop} (h:∃n,p n):∃n,p n/\∀m,p m->n<=m:=by
 obtain⟨n,hn⟩:=h
 induction n using Nat.strongRecOn with
 |ind n ih=>
  by_cases hm:∃m,m<n/\p m
  ·obtain⟨m,h1,h2⟩:=hm;exact ih m h1 h2
  ·exact⟨n,hn,fun m hm'=>by
    rcases Nat.lt_or_ge m n with h|h
    ·exact absurd ⟨m,h,hm'⟩ hm
    ·exact h⟩
theorem c9h {σ:Rl} (vs:List AV):a2S (rzs σ vs)=rz σ (c6B vs):=by
 cases vs with
 |nil=>simp[rzs,a2S,c6B,rz]
 |cons x r=>
  cases r with
  |nil=>simp[rzs,a2S,c6B]
  |cons y q=>simp[rzs,a2S,c6B,rz]
theorem c9i {n:Nat} {vs:List AV} (h:lts n vs):lt n (c6B vs):=by
 cases vs with
 |nil=>simp[c6B,lt,lts]
 |cons x r=>
  cases r with
  |nil=>simp only[lts]at h;exact h.1
  |cons y q=>simp only[c6B,lt];exact h
theorem Inv.or {P:Program} {σ:Rl} {s:S} {wm:Nat} {H0 X:PH} (K:PH) (h:Inv P σ s wm H0 X):Inv P σ s wm H0 (X.or K):=
 ⟨fun{k o} hk=>by
  obtain⟨h1,h2,h3⟩:=h.ob hk
  refine⟨h1,h2,RO.ext (fun _ _=>rfl) h1 ?_ h2 h3⟩
  cases e:X (σ k).1 with
  |none=>exact absurd e (RO.some h3)
  |some x=>exact PH.le_or X K _ _ e,fun hi hj he=>h.inj hi hj he,h.le.trans (PH.le_or X K),fun hk hw=>h.fr hk hw⟩
theorem a7V {s:S}:∀{ls:List Nat} {rs:List (Nat×AO)},a8Z s ls=some rs->∀k∈ls,∃l T,(k,AO.cells l T)∈rs/\s.get k=some (.cells l T)
 |k::r,rs,h,j,hj=>by
  simp only[a8Z]at h
  split at h
  ·rename_i l T q hk hq
   simp only[Option.some.injEq]at h;subst h
   rcases List.mem_cons.1 hj with rfl|hj
   ·exact⟨l,T,List.mem_cons_self,hk⟩
   ·obtain⟨l',T',h1,h2⟩:=a7V hq j hj
    exact⟨l',T',List.mem_cons_of_mem _ h1,h2⟩
  ·cases h
theorem a7W {s:S}:∀{rs:List (Nat×AO)},a4S s rs=true->∀p∈rs,s.get p.1=some p.2
 |q::r,h,p,hp=>by
  simp only[a4S,Bool.and_eq_true]at h
  rcases List.mem_cons.1 hp with rfl|hp
  ·have h1:=h.1
   split at h1
   ·rename_i o ho;rw[ho,c6J h1]
   ·cases h1
  ·exact a7W h.2 p hp
theorem opn_callw {P:Program} {H:PH} {o:Oper} {x:Operand} {f:FuncId} {as:Array Operand} {tys:Array TypeId} {bs caps:Array Value} {vs ws:List Value} {V:Value->PH->Prop} (ho:o.op= .call ⟨.value x,as,tys⟩) (hx:a0g (x::as.toList) vs x= .func (.func f) bs caps) (ha':as.toList.map (a0g (x::as.toList) vs)=ws) (hf:a7q P f=true)
  (hc:Con P f (bs.toList++(ws++caps.toList)) H V):Opn P o vs H V:=fun w hw=>by
 have ha:as.map (a0g (x::as.toList) vs)=ws.toArray:=by rw[<-Array.toList_inj,Array.toList_map];exact ha'
 have hos:o.op.operands.toList=x::as.toList:=by simp[ho,Op.operands,Call.operands]
 have hr:(execOp (a0g (x::as.toList) vs) o).run P w= .ok (.enter f (bs.toList++(ws++caps.toList)).toArray) w:=by
  simp only[execOp,ho,resolve,hx,ha,Deferred.ofValue,Sem.run_bind,Sem.run_pure,Result.andThen_ok,invoke]
  rw[a6g hf]
  congr 2
  simp
 unfold Stp
 rw[hos,hr]
 exact(hc w hw).mono fun e w' ⟨v,H',he,hs,hV⟩=>⟨v,he,H',hs,hV⟩
section
variable {P:Program} {kty:TypeId->Bool} {tab:FuncId->Option (Nat×Tree)} {pur:FuncId->Bool} {orc:FuncId->List AV->S->Nat->Option (List (AV×S))} {own:FuncId->List AV->Option AV} {itb:FuncId->List AV->S->Option (List (List AV)×List Nat×List Nat)} {K0:PH}
noncomputable def rnX (P:Program) (kty:TypeId->Bool) (tab:FuncId->Option (Nat×Tree)) (pur:FuncId->Bool) (orc:FuncId->List AV->S->Nat->Option (List (AV×S))) (own:FuncId->List AV->Option AV) (itb:FuncId->List AV->S->Option (List (List AV)×List Nat×List Nat))
  (f:Nat) (pre:List Fr) (ys:List (List AV)) (tb ta te:Tree) (e0:List AV) (m0:Nat) (rs:List (Nat×AO)) (vs:List AV) (s:S) (wm:Nat):Option (List (AV×S)):=match ys with
 |[]=>ev P kty tab pur orc own itb f ta pre (psh e0 vs) (Nat.add m0 (len vs)) s wm
 |xs::r=>ev P kty tab pur orc own itb f tb (cat pre [.rn r tb ta te e0 m0 rs,.rx te e0 m0]) (psh e0 (xs++vs)) (Nat.add m0 (Nat.add (len xs) (len vs))) s wm
noncomputable def nxE (P:Program) (kty:TypeId->Bool) (tab:FuncId->Option (Nat×Tree)) (pur:FuncId->Bool) (orc:FuncId->List AV->S->Nat->Option (List (AV×S))) (own:FuncId->List AV->Option AV) (itb:FuncId->List AV->S->Option (List (List AV)×List Nat×List Nat))
  (f:Nat) (pre:List Fr) (fr:Fr) (vs:List AV) (s:S) (wm:Nat):Option (List (AV×S)):=match fr with
 | .lp t e0 m0=>ev P kty tab pur orc own itb f t (cat pre [.lp t e0 m0]) (psh e0 vs) (Nat.add m0 (len vs)) s wm
 | .jn u e0 m0=>ev P kty tab pur orc own itb f u pre (psh e0 vs) (Nat.add m0 (len vs)) s wm
 | .rn ys tb ta te e0 m0 rs=>match a4S s rs with
  |true=>rnX P kty tab pur orc own itb f pre ys tb ta te e0 m0 rs vs s wm
  |false=>none
 | .rx te e0 m0=>ev P kty tab pur orc own itb f te pre.dropLast (psh e0 vs) (Nat.add m0 (len vs)) s wm
def d6W (P:Program) (kty:TypeId->Bool) (tab:FuncId->Option (Nat×Tree)) (pur:FuncId->Bool) (orc:FuncId->List AV->S->Nat->Option (List (AV×S))) (own:FuncId->List AV->Option AV) (itb:FuncId->List AV->S->Option (List (List AV)×List Nat×List Nat))
  (Q:AV×S->Prop) (wm:Nat) (H0:PH) (f:Nat) (pre:List Fr) (fr:Fr) (F:List Value->PH->Prop) (σ:Rl) (s:S):Prop:=
 ∀f' vs s1 σ1 H1 outs1,f'<f->Ex σ s σ1 s1->lts s1.n vs->Inv P σ1 s1 wm H0 H1->nxE P kty tab pur orc own itb f' pre fr vs s1 wm=some outs1->(∀p∈outs1,Q p)->F (rzs σ1 vs) H1
def NxOk (P:Program) (kty:TypeId->Bool) (tab:FuncId->Option (Nat×Tree)) (pur:FuncId->Bool) (orc:FuncId->List AV->S->Nat->Option (List (AV×S))) (own:FuncId->List AV->Option AV) (itb:FuncId->List AV->S->Option (List (List AV)×List Nat×List Nat))
  (Q:AV×S->Prop) (wm:Nat) (H0:PH) (f:Nat) (nx:List Fr) (nxs:List (List Value->PH->Prop)) (σ:Rl) (s:S):Prop:=
 nx.length=nxs.length/\∀d fr F,nx[d]? =some fr->nxs[d]? =some F->d6W P kty tab pur orc own itb Q wm H0 f (nx.take d) fr F σ s
theorem NxOk.mono {Q:AV×S->Prop} {wm:Nat} {H0:PH} {f f':Nat} {nx:List Fr} {nxs:List (List Value->PH->Prop)} {σ σ':Rl} {s s':S} (h:NxOk P kty tab pur orc own itb Q wm H0 f nx nxs σ s) (hf:f'<=f) (hx:Ex σ s σ' s'):NxOk P kty tab pur orc own itb Q wm H0 f' nx nxs σ' s':=
 ⟨h.1,fun d fr F h1 h2 f1 vs s1 σ1 H1 outs1 hf1 hx1=>h.2 d fr F h1 h2 f1 vs s1 σ1 H1 outs1 (Nat.lt_of_lt_of_le hf1 hf) (hx.trans hx1)⟩
theorem NxOk.push {Q:AV×S->Prop} {wm:Nat} {H0:PH} {f:Nat} {nx:List Fr} {nxs:List (List Value->PH->Prop)} {σ:Rl} {s:S} {fr:Fr} {F:List Value->PH->Prop} (h:NxOk P kty tab pur orc own itb Q wm H0 f nx nxs σ s) (hf:d6W P kty tab pur orc own itb Q wm H0 f nx fr F σ s):NxOk P kty tab pur orc own itb Q wm H0 f (nx++[fr]) (nxs++[F]) σ s:=by
 refine⟨by simp[h.1],fun d fr' F' h1 h2=> ?_⟩
 by_cases hd:d<nx.length
 ·rw[List.getElem?_append_left hd]at h1
  rw[List.getElem?_append_left (by rw[<-h.1];exact hd)]at h2
  rw[List.take_append_of_le_length (by omega)]
  exact h.2 d fr' F' h1 h2
 ·rw[List.getElem?_append_right (by omega)]at h1
  rw[List.getElem?_append_right (by rw[<-h.1];omega)]at h2
  have hd0:d-nx.length=0:=by
   have:=(List.getElem?_eq_some_iff.1 h1).1
   simp at this;omega
  rw[<-h.1]at h2
  rw[hd0]at h1 h2
  simp only[List.getElem?_cons_zero,Option.some.injEq]at h1 h2
  subst h1;subst h2
  rw[show d=nx.length by omega,List.take_left]
  exact hf
theorem a3j {σ σ':Rl} {s s':S} {e:List AV} (hx:Ex σ s σ' s') (he:lts s.n e):env σ' e=env σ e:=by unfold env;rw[a1N hx.ag e he]
end
end Go.RZ
/- Concrete runs: THE EVALUATOR IS SOUND. -/
namespace Go.RZ
open Go.RowKit Go.RX Go.GS
section
variable {P:Program} {kty:TypeId->Bool} {tab:FuncId->Option (Nat×Tree)} {pur:FuncId->Bool} {orc:FuncId->List AV->S->Nat->Option (List (AV×S))} {own:FuncId->List AV->Option AV} {itb:FuncId->List AV->S->Option (List (List AV)×List Nat×List Nat)} {K0:PH}
def GOk (P:Program) (Q:AV×S->Prop) (wm:Nat) (H0:PH) (G:Value->PH->Prop) (σ:Rl) (s:S):Prop:=
 ∀p,Q p->∀σ1 H1,Ex σ s σ1 p.2->lt p.2.n p.1->Inv P σ1 p.2 wm H0 H1->G (rz σ1 p.1) H1
theorem GOk.mono {Q:AV×S->Prop} {wm:Nat} {H0:PH} {G:Value->PH->Prop} {σ σ':Rl} {s s':S} (h:GOk P Q wm H0 G σ s) (hx:Ex σ s σ' s'):GOk P Q wm H0 G σ' s':=
 fun p hp σ1 H1 h1 h2 h3=>h p hp σ1 H1 (hx.trans h1) h2 h3
def Snd (P:Program) (kty:TypeId->Bool) (tab:FuncId->Option (Nat×Tree)) (pur:FuncId->Bool) (orc:FuncId->List AV->S->Nat->Option (List (AV×S))) (own:FuncId->List AV->Option AV) (itb:FuncId->List AV->S->Option (List (List AV)×List Nat×List Nat)) (K0:PH) (f:Nat):Prop:=
 ∀t nx e m s wm a0H,ev P kty tab pur orc own itb f t nx e m s wm=some a0H->∀(Q:AV×S->Prop) σ H0 H G nxs,e.length=m->lts s.n e->PH.le K0 H0->Inv P σ s wm H0 H->NxOk P kty tab pur orc own itb Q wm H0 f nx nxs σ s->GOk P Q wm H0 G σ s->(∀p∈a0H,Q p)->den P G t nxs (env σ e) H
variable {f:Nat} {t:Tree} {nx:List Fr} {e:List AV} {m:Nat} {s:S} {wm:Nat} {a0H:List (AV×S)} {Q:AV×S->Prop} {σ:Rl} {H0 H:PH} {G:Value->PH->Prop} {nxs:List (List Value->PH->Prop)}
theorem c9j (b:Bool) (n wm:Nat):(bif b then n else wm)=if b then n else wm:=by cases b<;>rfl
theorem a5L (ih:Snd P kty tab pur orc own itb K0 f) {t:Tree} {os:List (AV×S)} (hb:(b0C os fun v s'=>ev P kty tab pur orc own itb f t nx (v::e) (Nat.succ m) s' wm)=some a0H) (he:e.length=m) (hl:lts s.n e) (hK:PH.le K0 H0) (hI:Inv P σ s wm H0 H) (hN:NxOk P kty tab pur orc own itb Q wm H0 (f+1) nx nxs σ s) (hG:GOk P Q wm H0 G σ s) (hQ:∀p∈a0H,Q p)
  {u:Value} {H':PH} (ho:Out P σ s wm H0 os u H'):den P G t nxs (env σ e++[u]) H':=by
 obtain⟨p,hp,σ',rfl,h2,h3,h4⟩:=ho
 obtain⟨o1,h5,h6⟩:=b0L hb hp
 have:=ih t nx (p.1::e) (Nat.succ m) p.2 wm o1 h5 Q σ' H0 H' G nxs (by rw[List.length_cons,he]) (by simp only[lts];exact⟨h2,a0E h4.n _ hl⟩) hK h3 (hN.mono (Nat.le_succ _) h4) (hG.mono h4) (fun q hq=>hQ q (h6 q hq))
 rw[a3A,a3j h4 hl]at this
 exact this
theorem b8J (W:Sup P kty tab orc own itb K0) (ih:Snd P kty tab pur orc own itb K0 f) {g np:Nat} {tg:Tree} {vs:List AV} {os:List (AV×S)} {b:Bool} (ht:tab g=some (np,tg)) (hn:Nat.beq (len vs) np=true) (hv:lts s.n vs) (hK:PH.le K0 H0) (hI:Inv P σ s wm H0 H)
  (h:ev P kty tab pur orc own itb f tg [] (psh [] vs) np s (bif b then s.n else wm)=some os):Con P g (rzs σ vs) H fun u H'=>Out P σ s (if b then s.n else wm) (if b then H else H0) (fin b s os) u H':=by
 obtain⟨_,hnp,E,A,J,C,htr⟩:=W.tab g np tg ht
 have hn:=a1E hn
 have hI2:Inv P σ s (if b then s.n else wm) (if b then H else H0) H:=by cases b<;>simp only[if_true,if_false,Bool.false_eq_true];exact hI;exact hI.keep
 have hK2:PH.le K0 (if b then H else H0):=by cases b<;>simp only[if_true,if_false,Bool.false_eq_true];exact hK;exact hK.trans hI.le
 refine a0d W.mix htr hnp (by rw[a0w,<-a0K];exact hn) ?_
 rw[c9j]at h
 have:=ih tg [] (psh [] vs) np s _ os h (fun p=>p∈os) σ (if b then H else H0) H (fun u H'=>Out P σ s (if b then s.n else wm) (if b then H else H0) (fin b s os) u H') [] (by rw[a3i,<-a0K vs];simpa using hn) (a5u (by simp[lts]) hv) hK2 hI2 ⟨rfl,fun d fr F h1=>by simp at h1⟩ (fun p hp σ1 H1 h1 h2 h3=>d3l hI ⟨p,hp,σ1,rfl,h2,h3,h1⟩) (fun _ h=>h)
 rw[a3h]at this
 simpa[env,rzs]using this
theorem b4b {b:Bool} {pf:Bool} (hb:pf=true->b=true) {os:List (AV×S)} {u:Value} {H':PH} (h:Out P σ s (if b then s.n else wm) (if b then H else H0) os u H'):pf=true->PH.le H H':=fun hp=>by
 obtain⟨p,_,σ',_,_,h3,_⟩:=h
 have:=h3.le
 rw[hb hp]at this
 exact this
theorem snd_call (W:Sup P kty tab orc own itb K0) (ih:Snd P kty tab pur orc own itb K0 f) {pf:Bool} {g:FuncId} {args:List SV} (h:ev P kty tab pur orc own itb (f+1) (.call pf g args t) nx e m s wm=some a0H) (he:e.length=m) (hl:lts s.n e) (hK:PH.le K0 H0) (hI:Inv P σ s wm H0 H) (hN:NxOk P kty tab pur orc own itb Q wm H0 (f+1) nx nxs σ s) (hG:GOk P Q wm H0 G σ s) (hQ:∀p∈a0H,Q p):den P G (.call pf g args t) nxs (env σ e) H:=by
 simp only[c8O,d5E]at h
 split at h
 ·rename_i vs hvs
  obtain⟨ha,hlv,_⟩:=a3G (σ:=σ) he args hvs
  have hv:=hlv s.n hl
  have hI2:Inv P σ s (if(pf||pur g)then s.n else wm) (if(pf||pur g)then H else H0) H:=by cases(pf||pur g)<;>simp only[if_true,if_false,Bool.false_eq_true];exact hI;exact hI.keep
  have hK2:PH.le K0 (if(pf||pur g)then H else H0):=by cases(pf||pur g)<;>simp only[if_true,if_false,Bool.false_eq_true];exact hK;exact hK.trans hI.le
  split at h
  ·rename_i os hos
   rw[c9j]at hos
   refine a0h (W.orc _ _ _ _ _ hos σ _ H hK2 hv hI2) ha fun u H' ho=>⟨b4b (fun hp=>by rw[hp];rfl) ho,?_⟩
   exact a5L ih h he hl hK hI hN hG hQ (Out.back hI ho)
  ·split at h
   ·rename_i np tg ht
    split at h
    ·rename_i hn
     split at h
     ·rename_i os hos
      refine a0h (b8J W ih ht hn hv hK hI hos) ha fun u H' ho=>⟨b4b (fun hp=>by rw[hp];rfl) ho,?_⟩
      exact a5L ih h he hl hK hI hN hG hQ (Out.back hI ho)
     ·cases h
    ·cases h
   ·cases h
 ·cases h
theorem c9k (W:Sup P kty tab orc own itb K0) (ih:Snd P kty tab pur orc own itb K0 f) {pf:Bool} {i j:Nat} {o:Oper} {args:List SV} (h:ev P kty tab pur orc own itb (f+1) (.eff pf i j o args t) nx e m s wm=some a0H) (he:e.length=m) (hl:lts s.n e) (hK:PH.le K0 H0) (hI:Inv P σ s wm H0 H) (hN:NxOk P kty tab pur orc own itb Q wm H0 (f+1) nx nxs σ s) (hG:GOk P Q wm H0 G σ s) (hQ:∀p∈a0H,Q p):den P G (.eff pf i j o args t) nxs (env σ e) H:=by
 simp only[d2V,d5H]at h
 split at h
 ·rename_i vs hvs
  obtain⟨ha,hlv,_⟩:=a3G (σ:=σ) he args hvs
  have hv:=hlv s.n hl
  split at h
  ·rename_i os hos
   rw[c9j]at hos
   have hI2:Inv P σ s (if pf then s.n else wm) (if pf then H else H0) H:=by cases pf<;>simp only[if_true,if_false,Bool.false_eq_true];exact hI;exact hI.keep
   refine a0s (d3i W.key hos hI2 hv) ha fun u H' ho=>⟨b4b (fun hp=>hp) ho,?_⟩
   exact a5L ih h he hl hK hI hN hG hQ (Out.back hI ho)
  ·split at h
   ·rename_i g ws hval
    split at h
    ·rename_i np tg ht
     split at h
     ·rename_i hn
      split at h
      ·rename_i os hos
       unfold d6T at hval
       split at hval
       ·rename_i c hoc
        split at hval
        ·rename_i x hcx
         split at hval
         ·rename_i g' bs cs ws' hx hws
          simp only[Option.some.injEq,Prod.mk.injEq]at hval
          obtain⟨rfl,rfl⟩:=hval
          have hx':=a0V (σ:=σ) hx
          have hws':=b3M (σ:=σ) hws
          have hfn:=hx'.2 _ hv
          simp only[lt]at hfn
          have hcon:=b8J (b:=pf||pur g') W ih ht hn (lts_app.2 ⟨hfn.1,lts_app.2 ⟨hws'.2 _ hv,hfn.2⟩⟩) hK hI hos
          have ho':o.op= .call ⟨.value x,c.args,c.argTypes⟩:=by rw[hoc];cases c;simp_all
          have hop:=opn_callw (vs:=rzs σ vs) (bs:=(rzs σ bs).toArray) (caps:=(rzs σ cs).toArray) ho' (by rw[hx'.1,rz]) hws'.1 (W.tab _ _ _ ht).1 (by rw[a3e,a3e]at hcon;exact hcon)
          refine a0s hop ha fun u H' ho=>⟨b4b (fun hp=>by rw[hp];rfl) ho,?_⟩
          exact a5L ih h he hl hK hI hN hG hQ (Out.back hI ho)
         ·cases hval
        ·cases hval
       ·cases hval
      ·cases h
     ·cases h
    ·cases h
   ·cases h
 ·cases h
theorem c4F (ih:∀f',f'<f+1->Snd P kty tab pur orc own itb K0 f') {ini:List SV} (h:ev P kty tab pur orc own itb (f+1) (.loop ini t) nx e m s wm=some a0H) (he:e.length=m) (hl:lts s.n e) (hK:PH.le K0 H0) (hI:Inv P σ s wm H0 H) (hN:NxOk P kty tab pur orc own itb Q wm H0 (f+1) nx nxs σ s) (hG:GOk P Q wm H0 G σ s) (hQ:∀p∈a0H,Q p):den P G (.loop ini t) nxs (env σ e) H:=by
 simp only[c8R,d5J]at h
 split at h
 ·rename_i vs hvs
  obtain⟨ha,hlv,_⟩:=a3G (σ:=σ) he ini hvs
  let J:Nat->List Value->PH->Prop:=fun f1 vals H'=>f1<=f/\∃vs s1 σ1 outs1,vals=rzs σ1 vs/\lts s1.n vs/\Inv P σ1 s1 wm H0 H'/\Ex σ s σ1 s1/\ev P kty tab pur orc own itb f1 t (cat nx [.lp t e m]) (psh e vs) (Nat.add m (len vs)) s1 wm=some outs1/\∀p∈outs1,Q p
  let μ:List Value->PH->Nat:=fun vals H'=>open Classical in if h:∃n,J n vals H' then Classical.choose (b2x h)else 0
  have μJ:∀vals H',(∃n,J n vals H')->J (μ vals H') vals H'/\∀n,J n vals H'->μ vals H'<=n:=fun vals H' hn=>by
   show J (open Classical in if h:∃n,J n vals H' then Classical.choose (b2x h)else 0) vals H'/\∀n,J n vals H'->(open Classical in if h:∃n,J n vals H' then Classical.choose (b2x h)else 0)<=n
   rw[dif_pos hn]
   exact Classical.choose_spec (b2x hn)
  refine⟨fun vals H'=>∃n,J n vals H',μ,⟨f,Nat.le_refl _,vs,s,σ,a0H,ha,hlv _ hl,hI,Ex.refl _ _,h,hQ⟩,fun vals H' _ hI1=> ?_⟩
  obtain⟨⟨hf1,vs1,s1,σ1,outs1,rfl,hl1,hI1',hx1,hev,hQ1⟩,hmin⟩:=μJ vals H' hI1
  rw[b0B]at hev
  have:=ih (μ (rzs σ1 vs1) H') (by omega) t _ _ _ s1 wm outs1 hev Q σ1 H0 H' G (nxs++[fun l h=>(∃n,J n l h)/\μ l h<μ (rzs σ1 vs1) H']) (by rw[a3i,he,<-a0K];rfl) (a5u (a0E hx1.n _ hl) hl1) hK hI1' ((hN.mono (by omega) hx1).push fun f2 vs2 s2 σ2 H2 outs2 hf2 hx2 hl2 hI2 hev2 hQ2=> ?_) (hG.mono hx1) hQ1
  ·rw[a3h,a3j hx1 hl]at this
   exact this
  ·have hJ:J f2 (rzs σ2 vs2) H2:=⟨by omega,vs2,s2,σ2,outs2,rfl,hl2,hI2,hx1.trans hx2,hev2,hQ2⟩
   exact⟨⟨f2,hJ⟩,Nat.lt_of_le_of_lt ((μJ _ _ ⟨f2,hJ⟩).2 f2 hJ) hf2⟩
 ·cases h
theorem c4G (ih:∀f',f'<f+1->Snd P kty tab pur orc own itb K0 f') {n:Nat} {u:Tree} (h:ev P kty tab pur orc own itb (f+1) (.join n t u) nx e m s wm=some a0H) (he:e.length=m) (hl:lts s.n e) (hK:PH.le K0 H0) (hI:Inv P σ s wm H0 H) (hN:NxOk P kty tab pur orc own itb Q wm H0 (f+1) nx nxs σ s) (hG:GOk P Q wm H0 G σ s) (hQ:∀p∈a0H,Q p):den P G (.join n t u) nxs (env σ e) H:=by
 simp only[c8T,d5M,b0B]at h
 refine⟨fun vals H'=>∃f1 vs s1 σ1 outs1,f1<f/\vals=rzs σ1 vs/\lts s1.n vs/\Inv P σ1 s1 wm H0 H'/\Ex σ s σ1 s1/\ev P kty tab pur orc own itb f1 u nx (psh e vs) (Nat.add m (len vs)) s1 wm=some outs1/\∀p∈outs1,Q p,?_,fun vals H' _ hJ=> ?_⟩
 ·refine ih f (Nat.lt_succ_self _) t _ e m s wm a0H h Q σ H0 H G _ he hl hK hI ((hN.mono (Nat.le_succ _) (Ex.refl _ _)).push fun f2 vs2 s2 σ2 H2 outs2 hf2 hx2 hl2 hI2 hev2 hQ2=> ?_) hG hQ
  exact⟨f2,vs2,s2,σ2,outs2,hf2,rfl,hl2,hI2,hx2,hev2,hQ2⟩
 ·obtain⟨f1,vs1,s1,σ1,outs1,hf1,rfl,hl1,hI1,hx1,hev,hQ1⟩:=hJ
  have:=ih f1 (by omega) u nx _ _ s1 wm outs1 hev Q σ1 H0 H' G nxs (by rw[a3i,he,<-a0K];rfl) (a5u (a0E hx1.n _ hl) hl1) hK hI1 (hN.mono (by omega) hx1) (hG.mono hx1) hQ1
  rw[a3h,a3j hx1 hl]at this
  exact this
theorem c4H {d:Nat} {l:List SV} (h:ev P kty tab pur orc own itb (f+1) (.next d l) nx e m s wm=some a0H) (he:e.length=m) (hl:lts s.n e) (hI:Inv P σ s wm H0 H) (hN:NxOk P kty tab pur orc own itb Q wm H0 (f+1) nx nxs σ s) (hQ:∀p∈a0H,Q p):den P G (.next d l) nxs (env σ e) H:=by
 simp only[c8S,d5K]at h
 split at h
 ·rename_i vs fr hvs hfr
  obtain⟨ha,hlv,_⟩:=a3G (σ:=σ) he l hvs
  rw[a6G]at hfr
  obtain⟨hd,hfd⟩:=List.getElem?_eq_some_iff.1 hfr
  have hd2:d<nxs.length:=by rw[<-hN.1];exact hd
  have hF:nxs[d]? =some nxs[d]:=List.getElem?_eq_getElem hd2
  have hev:nxE P kty tab pur orc own itb f (nx.take d) fr vs s wm=some a0H:=by
   unfold nxE
   split at h
   ·rename_i t0 e0 m0
    show ev P kty tab pur orc own itb f t0 (cat (nx.take d) [Fr.lp t0 e0 m0]) (psh e0 vs) (Nat.add m0 (len vs)) s wm=some a0H
    rw[show cat (nx.take d) [Fr.lp t0 e0 m0]=tak nx (Nat.succ d) by rw[b0B,b0A,Nat.succ_eq_add_one,List.take_succ_eq_append_getElem hd,hfd]]
    exact h
   ·rw[<-b0A];exact h
   ·simp only[rnX];rw[<-b0A];exact h
   ·rename_i te e0 m0
    show ev P kty tab pur orc own itb f te (nx.take d).dropLast (psh e0 vs) (Nat.add m0 (len vs)) s wm=some a0H
    rw[show(nx.take d).dropLast=tak nx (Nat.sub d 1) by
     rw[b0A,List.dropLast_eq_take,List.length_take,List.take_take]
     congr 1
     show min (min d nx.length-1) d=d-1
     omega]
    exact h
  have:=hN.2 d fr nxs[d] hfr hF f vs s σ H a0H (Nat.lt_succ_self _) (Ex.refl _ _) (hlv _ hl) hI hev hQ
  show(nxs.getD d fun _ _=>False) _ _
  rw[List.getD_eq_getElem?_getD,hF,ha]
  exact this
 ·cases h
end
end Go.RZ
/- Concrete runs: ranges over functions; soundness of the evaluator. -/
namespace Go.RZ
open Go.RowKit Go.RX Go.GS
section
variable {P:Program} {kty:TypeId->Bool} {tab:FuncId->Option (Nat×Tree)} {pur:FuncId->Bool} {orc:FuncId->List AV->S->Nat->Option (List (AV×S))} {own:FuncId->List AV->Option AV} {itb:FuncId->List AV->S->Option (List (List AV)×List Nat×List Nat)} {K0:PH}
variable {f:Nat} {t:Tree} {nx:List Fr} {e:List AV} {m:Nat} {s:S} {wm:Nat} {a0H:List (AV×S)} {Q:AV×S->Prop} {σ:Rl} {H0 H:PH} {G:Value->PH->Prop} {nxs:List (List Value->PH->Prop)}
theorem b0M:∀{ks:List Nat} {s s':S},a3c s wm ks=some s'->Ex σ s σ s'
 |[],s,s',h=>by simp only[a3c,Option.some.injEq]at h;subst h;exact Ex.refl _ _
 |k::r,s,s',h=>by
  simp only[a3c]at h
  obtain⟨_,h⟩:=a0p h
  split at h
  ·exact(Ex.del k).trans (b0M h)
  ·cases h
theorem b0N {n:Nat}:∀{ys:List (List AV)},b3K n ys=true->∀y∈ys,y.length=n
 |y::r,h,z,hz=>by
  simp only[b3K,Bool.and_eq_true,a0K]at h
  rcases List.mem_cons.1 hz with rfl|hz
  ·exact a1E h.1
  ·exact b0N h.2 z hz
theorem d3m (W:Sup P kty tab orc own itb K0) (ih:∀f',f'<f+1->Snd P kty tab pur orc own itb K0 f') {g:SV} {np:Nat} {ini:List SV} {tb ta te:Tree} (h:ev P kty tab pur orc own itb (f+1) (.rf g np ini tb ta te) nx e m s wm=some a0H) (he:e.length=m) (hl:lts s.n e) (hK:PH.le K0 H0) (hI:Inv P σ s wm H0 H) (hN:NxOk P kty tab pur orc own itb Q wm H0 (f+1) nx nxs σ s) (hG:GOk P Q wm H0 G σ s) (hQ:∀p∈a0H,Q p):den P G (.rf g np ini tb ta te) nxs (env σ e) H:=by
 simp only[d5Q,tRf]at h
 split at h
 ·rename_i fn cs vs hg hvs
  obtain⟨ha,hlv,_⟩:=a3G (σ:=σ) he ini hvs
  obtain⟨hg1,hg2⟩:=a1i (σ:=σ) he g hg
  have hcs:=hg2 _ hl
  simp only[lt]at hcs
  split at h
  ·rename_i ys ks ls hit
   split at h
   ·rename_i s' hlen hdel
    split at h
    ·rename_i rs hrs
     have hX:=b0M (σ:=σ) hdel
     obtain⟨X,K,Ro,E,S1,Sp,rfl,hdis,hIX,hent,hitc,hro,hE,hS,hys⟩:=W.itb _ _ _ _ _ _ hit σ wm H0 H s' hK hcs.2 hI hdel
     have hev:rnX P kty tab pur orc own itb f nx ys tb ta te e m rs vs s' wm=some a0H:=by
      unfold rnX
      split at h<;>exact h
     have hrk:∀{σ1:Rl} {s1:S} {X1:PH},Inv P σ1 s1 wm H0 X1->Ex σ s' σ1 s1->a4S s1 rs=true->∀k∈ls,X1 (σ k).1=X (σ k).1:=fun{σ1 s1 X1} h1 hx1 hs k hk=>by
      obtain⟨l,T,hm,hg⟩:=a7V hrs k hk
      obtain⟨b1,b2,b3⟩:=hIX.ob hg
      obtain⟨_,_,c3⟩:=h1.ob (a7W hs _ hm)
      simp only[RO]at b3 c3
      rw[hx1.ag k b1,a1N hx1.ag l b2]at c3
      rw[b3,c3]
     let I:List (List Value)->List Value->PH->Prop:=fun pre vals X'=>∃f1 vs s1 σ1 outs1,pre.length<=ys.length/\f1<=f/\vals=rzs σ1 vs/\lts s1.n vs/\Inv P σ1 s1 wm H0 X'/\Ex σ s' σ1 s1/\(∀k∈ls,X' (σ k).1=X (σ k).1)/\rnX P kty tab pur orc own itb f1 nx (ys.drop pre.length) tb ta te e m rs vs s1 wm=some outs1/\∀p∈outs1,Q p
     let Ix:List (List Value)->List Value->PH->Prop:=fun pre vals X'=>∃f1 vs s1 σ1 outs1,f1<=f/\vals=rzs σ1 vs/\lts s1.n vs/\Inv P σ1 s1 wm H0 X'/\Ex σ s' σ1 s1/\ev P kty tab pur orc own itb f1 te nx (psh e vs) (Nat.add m (len vs)) s1 wm=some outs1/\∀p∈outs1,Q p
     have hl':lts s'.n e:=a0E hX.n _ hl
     refine⟨fn,rzs σ cs,X,K,Ro,E,S1,Sp,I,Ix,by rw[hg1,rz];rfl,hent,rfl,hdis,hitc,fun pre vals X' hI1=> ?_,?_,fun pre xs vals X' hE1 _ hI1=> ?_,fun xs vals X' K' hS1 _ _ hI1=> ?_,fun pre vals X' K' _ _ _ hI1=> ?_⟩
     ·obtain⟨_,_,_,_,_,_,_,_,_,h5,_,h7,_⟩:=hI1
      exact hro X' (hK.trans h5.le) h7
     ·rw[ha]
      exact⟨f,vs,s',σ,a0H,Nat.zero_le _,Nat.le_refl _,rfl,a0E hX.n _ (hlv _ hl),hIX,Ex.refl _ _,fun _ _=>rfl,hev,hQ⟩
     ·obtain⟨y,hy,rfl⟩:=hE pre xs hE1
      obtain⟨hlt,hye⟩:=List.getElem?_eq_some_iff.1 hy
      have hym:y∈ys:=List.mem_of_getElem? hy
      obtain⟨f1,vs1,s1,σ1,outs1,_,hf1,rfl,hl1,hI1,hx1,hk1,hev1,hQ1⟩:=hI1
      rw[List.drop_eq_getElem_cons hlt,hye]at hev1
      simp only[rnX,b0B]at hev1
      have hyl:lts s1.n y:=a0E hx1.n _ (a0E hX.n _ (hys y hym))
      have hyr:rzs σ1 y=rzs σ y:=by rw[a1N hx1.ag y (a0E hX.n _ (hys y hym))]
      refine⟨by rw[a0w];exact b0N hlen y hym,?_⟩
      have hN1:=hN.mono (show f1<=f+1 by omega) (hX.trans hx1)
      have:=ih f1 (by omega) tb _ _ _ s1 wm outs1 hev1 Q σ1 H0 X' G (nxs++[fun v h=>I (pre++[rzs σ y]) v h,fun v h=>Ix (pre++[rzs σ y]) v h]) (by rw[a3i,he,List.length_append,<-a0K y,<-a0K vs1];rfl) (a5u (a0E hx1.n _ hl') (lts_app.2 ⟨hyl,hl1⟩)) hK hI1 ?_ (hG.mono (hX.trans hx1)) hQ1
      ·rw[a3h,a3j hx1 hl',a3e,hyr]at this
       exact this
      ·rw[show nx++[Fr.rn (ys.drop (pre.length+1)) tb ta te e m rs,Fr.rx te e m]=(nx++[Fr.rn (ys.drop (pre.length+1)) tb ta te e m rs])++[Fr.rx te e m] by simp,show nxs++[fun v h=>I (pre++[rzs σ y]) v h,fun v h=>Ix (pre++[rzs σ y]) v h]=(nxs++[fun v h=>I (pre++[rzs σ y]) v h])++[fun v h=>Ix (pre++[rzs σ y]) v h] by simp]
       refine(hN1.push fun f2 vs2 s2 σ2 H2 outs2 hf2 hx2 hl2 hI2 hev2 hQ2=> ?_).push fun f2 vs2 s2 σ2 H2 outs2 hf2 hx2 hl2 hI2 hev2 hQ2=> ?_
       ·simp only[nxE]at hev2
        split at hev2
        ·rename_i hsame
         exact⟨f2,vs2,s2,σ2,outs2,by simp;omega,by omega,rfl,hl2,hI2,hx1.trans hx2,hrk hI2 (hx1.trans hx2) hsame,by simpa using hev2,hQ2⟩
        ·cases hev2
       ·simp only[nxE,List.dropLast_concat]at hev2
        exact⟨f2,vs2,s2,σ2,outs2,by omega,rfl,hl2,hI2,hx1.trans hx2,hev2,hQ2⟩
     ·obtain⟨f1,vs1,s1,σ1,outs1,_,hf1,rfl,hl1,hI1,hx1,hk1,hev1,hQ1⟩:=hI1
      rw[hS _ _ hS1,List.drop_length]at hev1
      simp only[rnX]at hev1
      have:=ih f1 (by omega) ta nx _ _ s1 wm outs1 hev1 Q σ1 H0 (X'.or K') G nxs (by rw[a3i,he,<-a0K];rfl) (a5u (a0E hx1.n _ hl') hl1) hK (hI1.or K') (hN.mono (by omega) (hX.trans hx1)) (hG.mono (hX.trans hx1)) hQ1
      rw[a3h,a3j hx1 hl']at this
      exact this
     ·obtain⟨f1,vs1,s1,σ1,outs1,hf1,rfl,hl1,hI1,hx1,hev1,hQ1⟩:=hI1
      have:=ih f1 (by omega) te nx _ _ s1 wm outs1 hev1 Q σ1 H0 (X'.or K') G nxs (by rw[a3i,he,<-a0K];rfl) (a5u (a0E hx1.n _ hl') hl1) hK (hI1.or K') (hN.mono (by omega) (hX.trans hx1)) (hG.mono (hX.trans hx1)) hQ1
      rw[a3h,a3j hx1 hl']at this
      exact this
    ·cases h
   ·cases h
  ·cases h
 ·cases h
theorem ev_sound (W:Sup P kty tab orc own itb K0):∀f,Snd P kty tab pur orc own itb K0 f:=by
 intro f
 induction f using Nat.strongRecOn with
 |ind f ih=>
  cases f with
  |zero=>intro t nx e m s wm a0H h;rw[c8N]at h;cases h
  |succ f=>
   intro t nx e m s wm a0H h Q σ H0 H G nxs he hl hK hI hN hG hQ
   have ihf:=ih f (Nat.lt_succ_self _)
   have hN':NxOk P kty tab pur orc own itb Q wm H0 f nx nxs σ s:=hN.mono (Nat.le_succ _) (Ex.refl _ _)
   cases t with
   |ret l=>
    simp only[d2U,d5L]at h
    split at h
    ·rename_i vs hvs
     simp only[Option.some.injEq]at h;subst h
     obtain⟨ha,hlv,_⟩:=a3G (σ:=σ) he l hvs
     show G (a2S (l.map (D P (env σ e)))) H
     rw[ha,c9h]
     exact hG _ (hQ _ (List.mem_singleton.2 rfl)) σ H (Ex.refl _ _) (c9i (hlv _ hl)) hI
    ·cases h
   |rq r t=>
    simp only[d5N,tRq]at h
    split at h
    ·rename_i hr
     exact⟨d3a he hr,ihf t nx e m s wm a0H h Q σ H0 H G nxs he hl hK hI hN' hG hQ⟩
    ·cases h
   |br c t u=>
    simp only[d5O,tBr]at h
    split at h
    ·rename_i hc
     have h1:=(a1i (σ:=σ) he c hc).1
     rw[rz]at h1
     exact a8J h1 (ihf t nx e m s wm a0H h Q σ H0 H G nxs he hl hK hI hN' hG hQ)
    ·rename_i hc
     have h1:=(a1i (σ:=σ) he c hc).1
     rw[rz]at h1
     exact a0y h1 (ihf u nx e m s wm a0H h Q σ H0 H G nxs he hl hK hI hN' hG hQ)
    ·cases h
   |call pf g args t=>exact snd_call W ihf h he hl hK hI hN hG hQ
   |prim i j o args t=>
    simp only[c8P,d5G]at h
    split at h
    ·rename_i vs hvs
     obtain⟨ha,hlv,_⟩:=a3G (σ:=σ) he args hvs
     split at h
     ·rename_i v hv
      obtain⟨h1,h2⟩:=c6H (σ:=σ) W.key hv hI (hlv _ hl)
      refine a0i h1 ha ?_
      have:=ihf t nx (v::e) (Nat.succ m) s wm a0H h Q σ H0 H G nxs (by rw[List.length_cons,he]) (by simp only[lts];exact⟨h2,hl⟩) hK hI hN' hG hQ
      rw[a3A]at this
      exact this
     ·cases h
    ·cases h
   |eff pf i j o args t=>exact c9k W ihf h he hl hK hI hN hG hQ
   |ext g args t=>
    simp only[d2W,d5F]at h
    split at h
    ·rename_i vs hvs
     obtain⟨ha,hlv,_⟩:=a3G (σ:=σ) he args hvs
     split at h
     ·rename_i v hv
      obtain⟨h1,h2⟩:=W.own g vs v hv σ
      refine a6o h1 ha ?_
      have:=ihf t nx (v::e) (Nat.succ m) s wm a0H h Q σ H0 H G nxs (by rw[List.length_cons,he]) (by simp only[lts];exact⟨h2 _ (hlv _ hl),hl⟩) hK hI hN' hG hQ
      rw[a3A]at this
      exact this
     ·cases h
    ·cases h
   |mk i j o args t=>
    simp only[d5P,tMk]at h
    split at h
    ·rename_i vs hvs
     obtain⟨ha,hlv,_⟩:=a3G (σ:=σ) he args hvs
     split at h
     ·rename_i v ob hv
      obtain⟨mk,ob',h1,h2,h3,h4⟩:=c6I (σ:=σ) hv (hlv _ hl)
      refine⟨mk,ob',by rw[ha];exact h1,fun b hb=> ?_⟩
      obtain⟨h5,h6⟩:=h4 b
      have hx:Ex σ s (up σ s.n (b,0)) (s.add ob):=Ex.add _
      have:=ihf t nx (v::e) (Nat.succ m) (s.add ob) wm a0H h Q (up σ s.n (b,0)) H0 (H.put b ob') G nxs (by rw[List.length_cons,he]) (by simp only[lts];exact⟨h2,a0E (Nat.le_succ _) _ hl⟩) hK (hI.new (b:=(b,0)) hb h3 (h6 H)) (hN'.mono (Nat.le_refl _) hx) (hG.mono hx) hQ
      rw[a3A,a3j hx hl,<-h5]at this
      exact this
     ·cases h
    ·cases h
   |pub T c t=>
    simp only[d2X,d5I]at h
    split at h
    ·rename_i v hv
     obtain⟨h1,h2⟩:=a1i (σ:=σ) he c hv
     have h2:=a3D (h2 _ hl)
     intro b hb
     have hx:Ex σ s (up σ s.n (b,0)) (s.add (.cells (cl v) T)):=Ex.add _
     have:=ihf t nx (.ptr s.n 0::e) (Nat.succ m) (s.add (.cells (cl v) T)) wm a0H h Q (up σ s.n (b,0)) H0 (H.put b (.cells (D P (env σ e) c).cells T (0,0))) G nxs (by rw[List.length_cons,he]) (by simp only[lts,lt];exact⟨Nat.lt_succ_self _,a0E (Nat.le_succ _) _ hl⟩) hK (hI.new (b:=(b,0)) hb (a0E (Nat.le_succ _) _ h2) (by
      simp only[RO,a1f]
      rw[PH.put_self,a1N (fun k hk=>a5w σ s.n (b,0) hk) _ h2,h1,a3f])) (hN'.mono (Nat.le_refl _) hx) (hG.mono hx) hQ
     rw[a3A,a3j hx hl,rz,a1f]at this
     exact this
    ·cases h
   |dead x=>rw[c8Q]at h;cases h
   |loop ini t=>exact c4F ih h he hl hK hI hN hG hQ
   |next d l=>exact c4H h he hl hI hN hQ
   |join n t u=>exact c4G ih h he hl hK hI hN hG hQ
   |rf g np ini tb ta te=>exact d3m W ih h he hl hK hI hN hG hQ
theorem b8K (W:Sup P kty tab orc own itb K0) {g np:Nat} {tg:Tree} {vs:List AV} {a0H:List (AV×S)} (ht:tab g=some (np,tg)) (hn:Nat.beq (len vs) np=true) (h:ev P kty tab pur orc own itb f tg [] (psh [] vs) np s s.n=some a0H) (hv:lts s.n vs) (hK:PH.le K0 H0) (hI:Inv P σ s wm H0 H):
  Con P g (rzs σ vs) H fun u H'=>PH.le H H'/\Out P σ s wm H0 a0H u H':=by
 obtain⟨_,hnp,E,A,J,C,htr⟩:=W.tab g np tg ht
 refine a0d W.mix htr hnp (by rw[a0w,<-a0K];exact a1E hn) ?_
 have:=ev_sound W f tg [] (psh [] vs) np s s.n a0H h (fun p=>p∈a0H) σ H H (fun u H'=>PH.le H H'/\Out P σ s wm H0 a0H u H') [] (by rw[a3i,<-a0K vs];simpa using a1E hn) (a5u (by simp[lts]) hv) (hK.trans hI.le) hI.keep ⟨rfl,fun d fr F h1=>by simp at h1⟩ (fun p hp σ1 H1 h1 h2 h3=>⟨h3.le,p,hp,σ1,rfl,h2,hI.back h3 h1,h1⟩) (fun _ h=>h)
 rw[a3h]at this
 simpa[env,rzs]using this
end
end Go.RZ

/- Chapter 32: the reference of graphs and plans, part 2. -/
import Derived.Test.YtmannekkmdockaaGreatDoorGbA
import Derived.Test.YtmannekkmdockaaGreatDoorGyC
namespace Go.GS
theorem b1k (set:Nat) (L:List (Nat×Nat)) (e:Nat×Nat) (s:Nat):rnd set (L++[e]) s=rst set (rnd set L s) e:=by
 unfold rnd;rw[List.foldl_append];rfl
theorem c1K {set s:Nat} {e:Nat×Nat} (h1:bit set e.1=true) (h2:bit set e.2=true) (h3:bit s e.1=true\/bit s e.2=true):rst set s e=s|||2^e.1|||2^e.2:=by
 unfold rst;rw[if_pos (by rcases h3 with h3|h3<;>simp[h1,h2,h3])]
theorem c1L {set s:Nat} {e:Nat×Nat} (h:bit set e.1=false\/bit set e.2=false\/(bit s e.1=false/\bit s e.2=false)):rst set s e=s:=by
 unfold rst;rw[if_neg]
 rcases h with h|h|h<;>simp[h]
theorem GV.e64 {n:Nat} {es:List (Nat×Nat)} (h:GV n es):∀e∈es,e.1<64/\e.2<64:=fun e he=>by
 have:=h.ed e he;have:=h.n64;omega
theorem d4I {n:Nat} {es:List (Nat×Nat)} (h:GV n es) {set x:Nat} (hx:bit set x=true) (h64:x<64):CL es set x (a2U set es es.length (2^x)):=
 b2J hx (a1C h.e64 (a0S h64) _).1 (b1h _ _ _)
theorem d6X {s n:Nat} (hs:s<2^n) (hn:n<=64):(List.range n).filter (bit s)=els s:=by
 unfold els
 have h1:(64:Nat)=n+(64-n):=by omega
 rw[h1,List.range_add,List.filter_append]
 have:((List.range (64-n)).map (n+ ·)).filter (bit s)=[]:=by
  rw[List.filter_eq_nil_iff]
  intro a ha
  rw[List.mem_map]at ha
  obtain⟨b,_,rfl⟩:=ha
  have:=Nat.testBit_lt_two_pow (Nat.lt_of_lt_of_le hs (Nat.pow_le_pow_right (n:=2) (by decide) (Nat.le_add_right n b)))
  unfold bit;rw[this];simp
 rw[this,List.append_nil]
end Go.GS
namespace Go.Proofs.YtmannekkmdockaaGreatDoor
open Go.Proofs.Tryz
open Go.RowKit Go.RX Go.GS
section
variable {H:PH} {u v w wts:Value} {p wl:List Int} {n:Nat} {es:List (Nat×Nat)} {lo hi ds:Int} {set x:Nat}
theorem b8f (hw:SG H w es) (hg:GV n es) (hs:set<M64) (hx:x<64):Asks prog 140 [gv n w,uv set,ii (x:Nat),ii (-1)] H (uv (a2U set es es.length (2^x))):=by
 refine a0b mixed c1w (by kernel_rfl) rfl ?_
 have h64:=hg.n64
 have hes:=hg.len
 refine a0a (a0T hw) ?_
 refine a0u (a1i hx) rfl ?_
 simp only[cA,nA]
 refine a0h el_edge rfl rfl hw rfl ?_
 refine a0K (α:=Nat) (fun r=>[uv (a2U set es r (2^x)),ii (r:Nat)]) (fun r=>r<=es.length) (fun r=>es.length-r) (0) rfl (Nat.zero_le _) fun r hQ=> ?_
 simp only[cA,nA]
 refine a0a ⟨_,rfl⟩ ?_
 refine a0a ⟨_,rfl⟩ ?_
 refine a0e (b:=decide (((r:Nat):Int)<(es.length:Nat))) rfl (fun h=> ?_) (fun h=> ?_)
 ·replace h:=of_decide_eq_true h
  have hS:=(a1C (set:=set) hg.e64 (a0S hx) r).1
  generalize hSe:a2U set es r (2^x)=S at hS
  refine a0K (α:=Nat) (fun j=>[uv (rnd set (es.take j) S),ii (j:Nat)]) (fun j=>j<=es.length) (fun j=>es.length-j) (0) rfl (Nat.zero_le _) fun j hQ2=> ?_
  simp only[cA,nA]
  refine a0h el_edge rfl rfl hw rfl ?_
  refine a0a ⟨_,rfl⟩ ?_
  refine a0a ⟨_,rfl⟩ ?_
  refine a0e (b:=decide (((j:Nat):Int)<(es.length:Nat))) rfl (fun h2=> ?_) (fun h2=> ?_)
  ·replace h2:=of_decide_eq_true h2
   have hj':j<es.length:=by omega
   obtain⟨e,he,hde⟩:=a0B hj'
   obtain⟨he1,he2⟩:=hg.mem he
   have hR:=b2I (set:=set) (L:=es.take j) (fun a ha=>hg.e64 a (List.mem_of_mem_take ha)) hS
   have hst:rnd set (es.take (j+1)) S=rst set (rnd set (es.take j) S) e:=by rw[take_snoc he,b1k]
   generalize rnd set (es.take j) S=R at hR hst
   refine a6k rfl rfl rfl rfl rfl (fun _=>rfl) (fun _=>rfl) (fun _=>rfl) hw he rfl (fun _=>rfl) (fun _ _=>rfl) fun _ _=> ?_
   simp only[cA,nA]
   refine a6l rfl rfl rfl rfl rfl (fun _=>rfl) (fun _=>rfl) (fun _=>rfl) hw he rfl (fun _=>rfl) (fun _ _=>rfl) fun _ _=> ?_
   simp only[cA,nA]
   refine a0a ⟨_,rfl⟩ ?_
   refine a1p (by show Value.bool (((j:Nat):Int) != -1)=_;exact(bN _ _).trans (congrArg Value.bool (decide_eq_true (by omega)))) ?_
   refine a0u (a0Y hs (by omega)) rfl ?_
   simp only[cA,nA]
   refine a0a ⟨_,rfl⟩ ?_
   refine a0e (b:=bit set e.1) rfl (fun b1=> ?_) (fun b1=> ?_)
   ·skip
    refine a0u (a0Y hs (by omega)) rfl ?_
    simp only[cA,nA]
    refine a0a ⟨_,rfl⟩ ?_
    refine a0e (b:=bit set e.2) rfl (fun b2=> ?_) (fun b2=> ?_)
    ·skip
     refine a0u (a0Y hR (by omega)) rfl ?_
     simp only[cA,nA]
     refine a0a ⟨_,rfl⟩ ?_
     refine a0e (b:=bit R e.1) rfl (fun b3=> ?_) (fun b3=> ?_)
     ·skip
      refine a0u (a1i (n:=e.1) (by omega)) rfl ?_
      simp only[cA,nA]
      refine a0a ⟨_,rfl⟩ ?_
      refine a0a ⟨_,rfl⟩ ?_
      refine a0u (a1i (n:=e.2) (by omega)) rfl ?_
      simp only[cA,nA]
      refine a0a ⟨_,rfl⟩ ?_
      exact⟨j+1,by omega,(a1s (by rw[hst,c1K b1 b2 (.inl b3)];exact a9G (a9G rfl rfl hR (a0S (by omega))) rfl (a6d hR (a0S (by omega))) (a0S (by omega))) (a0w rfl (by omega))),⟨by omega,rfl⟩⟩
     ·skip
      refine a0u (a0Y hR (by omega)) rfl ?_
      simp only[cA,nA]
      refine a0a ⟨_,rfl⟩ ?_
      refine a0e (b:=bit R e.2) rfl (fun b4=> ?_) (fun b4=> ?_)
      ·skip
       refine a0u (a1i (n:=e.1) (by omega)) rfl ?_
       simp only[cA,nA]
       refine a0a ⟨_,rfl⟩ ?_
       refine a0a ⟨_,rfl⟩ ?_
       refine a0u (a1i (n:=e.2) (by omega)) rfl ?_
       simp only[cA,nA]
       refine a0a ⟨_,rfl⟩ ?_
       exact⟨j+1,by omega,(a1s (by rw[hst,c1K b1 b2 (.inr b4)];exact a9G (a9G rfl rfl hR (a0S (by omega))) rfl (a6d hR (a0S (by omega))) (a0S (by omega))) (a0w rfl (by omega))),⟨by omega,rfl⟩⟩
      ·skip
       exact⟨j+1,by omega,(a1s (by rw[hst,c1L (.inr (.inr ⟨b3,b4⟩))];rfl) (a0w rfl (by omega))),⟨by omega,rfl⟩⟩
    ·skip
     exact⟨j+1,by omega,(a1s (by rw[hst,c1L (.inr (.inl b2))];rfl) (a0w rfl (by omega))),⟨by omega,rfl⟩⟩
   ·skip
    exact⟨j+1,by omega,(a1s (by rw[hst,c1L (.inl b1)];rfl) (a0w rfl (by omega))),⟨by omega,rfl⟩⟩
  ·replace h2:=of_decide_eq_false h2
   have hje:j=es.length:=by omega
   exact⟨r+1,by omega,(a1s (by rw[show a2U set es (r+1) (2^x)=rnd set es S from by rw[<-hSe];rfl,hje,List.take_length];rfl) (a0w rfl (by omega))),⟨by omega,rfl⟩⟩
 ·replace h:=of_decide_eq_false h
  have hre:r=es.length:=by omega
  exact a0c rfl ⟨rfl,by rw[hre];rfl⟩
theorem b8g (hw:SG H w es) (hg:GV n es) (hs:set<2^n):Con prog 85 [gv n w,uv set] H fun u H'=>PH.le H H'/\∃l,SU H' u l/\(l.length=1↔Cn es set):=by
 refine a0b mixed c1x (by kernel_rfl) rfl ?_
 have h64:=hg.n64
 have hs':=a1g h64 hs
 refine a0a (a0T hw) ?_
 refine a0k (α:=Value×Nat×List Nat×Nat) (fun⟨v,done,l,i⟩=>[v,uv done,ii (i:Nat)]) (fun⟨v,done,l,i⟩=>fun H'=>PH.le H H'/\SO H H' 54 1 (fun s:Nat=>[uv s]) v l/\done<M64/\i<=n/\l.length<=i/\(∀y,y<i->bit set y=true->bit done y=true)/\CS es set (sdf set done) l.length) (fun⟨v,done,l,i⟩=>n-i) ((.slice none 0 0,0,[],0)) rfl (⟨PH.le.refl _,SO.nil _ _ _ _ _,by decide,Nat.zero_le _,Nat.le_refl _,fun y hy=>by omega,.inl ⟨rfl,a0F fun y=>by rw[a0p,a0J];simp⟩⟩) fun⟨v,done,l,i⟩ H' hQ=> ?_
 simp only[cA,nA]
 obtain⟨l1,o1,hd,hi,hli,hall,hC⟩:=hQ
 refine a0a ⟨_,rfl⟩ ?_
 refine a0a ⟨_,rfl⟩ ?_
 refine a0e (b:=decide (((i:Nat):Int)<(n:Nat))) rfl (fun h=> ?_) (fun h=> ?_)
 ·replace h:=of_decide_eq_true h
  refine a0u (a0Y hs' (by omega)) rfl ?_
  simp only[cA,nA]
  refine a0a ⟨_,rfl⟩ ?_
  refine a0e (b:=bit set i) rfl (fun h1=> ?_) (fun h1=> ?_)
  ·skip
   refine a0u (a0Y hd (by omega)) rfl ?_
   simp only[cA,nA]
   refine a0a ⟨_,rfl⟩ ?_
   refine a0e (b:= !bit done i) rfl (fun h2=> ?_) (fun h2=> ?_)
   ·skip
    have h2:bit done i=false:=by simpa using h2
    have hcl:=d4I hg h1 (by omega)
    refine a0P (b8f (hw.mono l1) hg hs' (by omega)) rfl ?_
    simp only[cA,nA]
    generalize a2U set es es.length (2^i)=part at hcl
    refine a3k el_u64 rfl rfl rfl (fun _=>rfl) (fun _=>rfl) l1 o1 (by omega) rfl (fun _=>rfl) rfl fun q v2 H2 l2 o2=> ?_
    simp only[cA,nA]
    refine a0a ⟨_,rfl⟩ ?_
    refine a0a ⟨_,rfl⟩ ?_
    exact⟨(v2,done|||part,l++[part],i+1),by show n-(i+1)<n-i;omega,(a8T rfl (a9G rfl rfl hd hcl.1) (a0w rfl (by omega))),⟨l2,o2,a6d hd hcl.1,by show i+1<=n;omega,by rw[List.length_append];simp only[List.length_cons,List.length_nil];show _<=i+1;omega,fun y hy hb=>by rw[a0G];rcases Nat.lt_succ_iff_lt_or_eq.1 hy with hy|hy;(rw[hall y hy hb];rfl);(subst hy;rw[(hcl.2 y).2 .base];simp),by rw[List.length_append];have hn:=hC.next (by rw[a0p,h1,h2];rfl) h1 hcl;rw[show sdf set (done|||part)=sdf (sdf set done) part from a0F fun y=>by rw[a0p,a0p,a0p,a0G];cases bit set y<;>cases bit done y<;>cases bit part y<;>rfl];exact hn⟩⟩
   ·skip
    have h2:bit done i=true:=by simpa using h2
    exact⟨(v,done,l,i+1),by show n-(i+1)<n-i;omega,(a8T rfl rfl (a0w rfl (by omega))),⟨l1,o1,hd,by show i+1<=n;omega,Nat.le_succ_of_le hli,fun y hy hb=>by rcases Nat.lt_succ_iff_lt_or_eq.1 hy with hy|hy;(exact hall y hy hb);(subst hy;exact h2),hC⟩⟩
  ·skip
   exact⟨(v,done,l,i+1),by show n-(i+1)<n-i;omega,(a8T rfl rfl (a0w rfl (by omega))),⟨l1,o1,hd,by show i+1<=n;omega,Nat.le_succ_of_le hli,fun y hy hb=>by rcases Nat.lt_succ_iff_lt_or_eq.1 hy with hy|hy;(exact hall y hy hb);(subst hy;rw[h1]at hb;cases hb),hC⟩⟩
 ·replace h:=of_decide_eq_false h
  have h0:sdf set done=0:=a0F fun y=>by
   rw[a0p,a0J]
   cases hy:bit set y with
   |false=>rfl
   |true=>rw[hall y (by have:=d0B hs hy;omega) hy];rfl
  rw[h0]at hC
  exact a0c rfl ⟨l1,l,o1.se,hC.end⟩
theorem b4r (hw:SG H w es) (hg:GV n es) (hs:set<2^n):a3M prog 41 [gv n w,uv set] H (.bool (cnB es set)):=by
 refine a0b mixed c1y (by kernel_rfl) rfl ?_
 refine a0a (a0T hw) ?_
 refine a0d (b8g hw hg hs) rfl ?_
 rintro u H2 ⟨l2,l,hl,hc⟩
 refine⟨fun h=>(nomatch h),?_⟩
 simp only[cA,nA]
 have e:cnB es set=decide (l.length=1):=by rw[Bool.eq_iff_iff,cnB_iff,<-hc];simp
 refine a0h el_u64 rfl rfl hl rfl ?_
 refine a0a ⟨_,rfl⟩ ?_
 exact a0c rfl ⟨l2,by rw[e];show Value.bool (((l.length:Nat):Int)==1)=_;rw[bE];exact congrArg Value.bool (decide_eq_decide.2 (by omega))⟩
end
end Go.Proofs.YtmannekkmdockaaGreatDoor
/- Spanning trees. -/
namespace Go.GS
def Ed (es:List (Nat×Nat)) (i:Int):Nat×Nat:=es.getD i.toNat (0,0)
def etl (es:List (Nat×Nat)) (t:List Int):List (Nat×Nat):=t.map (Ed es)
def OkI (es:List (Nat×Nat)) (set:Nat) (i:Int):Prop:=0<=i/\i.toNat<es.length/\bit set (Ed es i).1=true/\bit set (Ed es i).2=true
structure TreeOk (es:List (Nat×Nat)) (set:Nat) (t:List Int):Prop where
 asc:t.Pairwise (· < ·)
 ok:∀i∈t,OkI es set i
 acy:Acy (etl es t) t.length
 len:t.length+1=card set
noncomputable def trE (n:Nat) (es:List (Nat×Nat)) (set:Nat) (t:List Int):Int:=if set≠0/\set<2^n then @ite Int (TreeOk es set t) (Classical.propDecidable _) 0 300 else 2
theorem b6h {n:Nat} {es:List (Nat×Nat)} {set:Nat} {t:List Int} (h1:set≠0/\set<2^n) (h2:TreeOk es set t):trE n es set t=0:=by
 unfold trE;rw[if_pos h1];exact @if_pos _ (Classical.propDecidable _) h2 _ _ _
theorem b2O {n:Nat} {es:List (Nat×Nat)} {set:Nat} {t:List Int} (h1:set≠0/\set<2^n) (h2:¬TreeOk es set t):trE n es set t=300:=by
 unfold trE;rw[if_pos h1];exact @if_neg _ (Classical.propDecidable _) h2 _ _ _
theorem d1k {n:Nat} {es:List (Nat×Nat)} {set:Nat} {t:List Int} (h1:¬(set≠0/\set<2^n)):trE n es set t=2:=if_neg h1
theorem c6c {n:Nat} {es:List (Nat×Nat)} {set:Nat} {t:List Int} (h:trE n es set t=0):(set≠0/\set<2^n)/\TreeOk es set t:=by
 unfold trE at h
 split at h
 ·rename_i h1
  refine⟨h1,Classical.byContradiction fun h2=> ?_⟩
  rw[@if_neg _ (Classical.propDecidable _) h2]at h;cases h
 ·cases h
theorem a4d {es:List (Nat×Nat)} {m:Nat} (h:m<es.length):es[m]? =some (Ed es (m:Int)):=by
 unfold Ed;rw[Int.toNat_natCast,List.getD_eq_getElem?_getD,List.getElem?_eq_getElem h];rfl
theorem b6i (es:List (Nat×Nat)) (t:List Int) (i:Nat):(etl es t).take i=etl es (t.take i):=by unfold etl;rw[List.map_take]
theorem c1M {es:List (Nat×Nat)} {t:List Int} {i:Nat} {x:Int} (h:t[i]? =some x):(etl es t)[i]? =some (Ed es x):=by unfold etl;rw[List.getElem?_map,h];rfl
theorem a2L (es:List (Nat×Nat)) (t:List Int) (x:Int):etl es (t++[x])=etl es t++[Ed es x]:=by unfold etl;rw[List.map_append];rfl
theorem d6Y {t:List Int} (h:t.Pairwise (· < ·)) {i:Nat} {a x:Int} (ha:a∈t.take i) (hx:t[i]? =some x):a<x:=by
 obtain⟨hi,rfl⟩:=List.getElem?_eq_some_iff.1 hx
 rw[List.mem_take_iff_getElem]at ha
 obtain⟨j,hj,rfl⟩:=ha
 exact List.pairwise_iff_getElem.1 h j i (by omega) hi (by omega)
theorem b4s {t:List Int} (h:t.Pairwise (· < ·)) {x:Int} (hx:∀a∈t,a<x):(t++[x]).Pairwise (· < ·):=by
 rw[List.pairwise_append]
 exact⟨h,List.pairwise_singleton _ _,fun a ha b hb=>by rw[List.mem_singleton]at hb;subst hb;exact hx a ha⟩
theorem Acy.snoc {L:List (Nat×Nat)} {e:Nat×Nat} (h:Acy L L.length) (he:lab L e.1≠lab L e.2):Acy (L++[e]) (L.length+1):=by
 intro i a hi ha
 by_cases hl:i<L.length
 ·rw[List.getElem?_append_left hl]at ha
  rw[List.take_append_of_le_length (by omega)]
  exact h i a hl ha
 ·have hi:i=L.length:=by omega
  subst hi
  rw[List.getElem?_append_right (Nat.le_refl _),Nat.sub_self]at ha
  cases ha
  rw[List.take_left']
  ·exact he
  ·rfl
theorem TreeOk.inn {es:List (Nat×Nat)} {set:Nat} {t:List Int} (h:TreeOk es set t):Inn set (etl es t):=by
 intro e he
 unfold etl at he
 rw[List.mem_map]at he
 obtain⟨i,hi,rfl⟩:=he
 exact(h.ok i hi).2.2
def a1u:Nat:=18446744073709551615
theorem a2M {x:Nat} (h:x<64):bit a1u x=true:=by
 have:a1u=2^64-1:=by decide
 unfold bit;rw[this,Nat.testBit_two_pow_sub_one];exact decide_eq_true h
theorem or_zero {s a b:Nat}:s&&&(2^a|||2^b)=0↔bit s a=false/\bit s b=false:=by
 constructor
 ·intro h
  have h1:bit (s&&&(2^a|||2^b)) a=false:=by rw[h,a0J]
  have h2:bit (s&&&(2^a|||2^b)) b=false:=by rw[h,a0J]
  rw[a1R,a0G,a0v,a0v]at h1 h2
  simp at h1 h2
  exact⟨h1,h2⟩
 ·rintro⟨h1,h2⟩
  apply a0F
  intro y
  rw[a1R,a0G,a0v,a0v,a0J]
  by_cases e1:a=y
  ·subst e1;simp[h1]
  ·by_cases e2:b=y
   ·subst e2;simp[h2]
   ·simp[e1,e2]
theorem c7Y {s a b:Nat}:s&&&(2^a|||2^b)=2^a|||2^b↔bit s a=true/\bit s b=true:=by
 constructor
 ·intro h
  have h1:bit (s&&&(2^a|||2^b)) a=bit (2^a|||2^b) a:=by rw[h]
  have h2:bit (s&&&(2^a|||2^b)) b=bit (2^a|||2^b) b:=by rw[h]
  rw[a1R,a0G,a0v,a0v]at h1 h2
  simp at h1 h2
  exact⟨h1,h2⟩
 ·rintro⟨h1,h2⟩
  apply a0F
  intro y
  rw[a1R,a0G,a0v,a0v]
  by_cases e1:a=y
  ·subst e1;simp[h1]
  ·by_cases e2:b=y
   ·subst e2;simp[h2]
   ·simp[e1,e2]
theorem a7e {s:Nat} {e:Nat×Nat} (h1:e.1<64) (h2:e.2<64):rst a1u s e=if bit s e.1||bit s e.2 then s|||(2^e.1|||2^e.2)else s:=by
 unfold rst
 rw[a2M h1,a2M h2,Nat.or_assoc];rfl
theorem d1l {s a b:Nat} (h1:bit s a=true) (h2:bit s b=true):s|||(2^a|||2^b)=s:=by
 apply a0F
 intro y
 rw[a0G,a0G,a0v,a0v]
 by_cases e1:a=y
 ·subst e1;simp[h1]
 ·by_cases e2:b=y
  ·subst e2;simp[h2]
  ·simp[e1,e2]
def a8t (L:List (Nat×Nat)) (x:Nat):Nat:=a2U a1u L 64 (2^x)
theorem b8h {L:List (Nat×Nat)} (hL:∀e∈L,e.1<64/\e.2<64) {x:Nat} (hx:x<64):Clo a1u L (a2U a1u L 64 (2^x)):=by
 have h:=a1C (set:=a1u) hL (a0S hx) 64
 rcases h.2 with h2|h2
 ·exact h2
 ·intro e he _ _ _
  have hall:∀y,y<64->bit (a2U a1u L 64 (2^x)) y=true:=by
   unfold card els at h2
   have:((List.range 64).filter (bit (a2U a1u L 64 (2^x)))).length=(List.range 64).length:=Nat.le_antisymm (List.length_filter_le _ _) (by rw[List.length_range];exact h2)
   rw[List.length_filter_eq_length_iff]at this
   exact fun y hy=>this y (List.mem_range.2 hy)
  exact⟨hall _ (hL e he).1,hall _ (hL e he).2⟩
theorem a2N {L:List (Nat×Nat)} (hL:∀e∈L,e.1<64/\e.2<64) {x:Nat} (hx:x<64):CL L a1u x (a8t L x):=
 b2J (a2M hx) (a1C hL (a0S hx) 64).1 (b8h hL hx)
theorem c1N {L:List (Nat×Nat)} (hL:∀e∈L,e.1<64/\e.2<64) {x r:Nat} (hx:x<64) (h:Clo a1u L (a2U a1u L r (2^x))):a2U a1u L r (2^x)=a8t L x:=
 (b2J (a2M hx) (a1C hL (a0S hx) r).1 h).uniq (a2N hL hx)
theorem a5z {L:List (Nat×Nat)} {set x y:Nat} (hs:set<M64) (h:Inn set L) (hx:bit set x=true):Rch L a1u x y↔Rch L set x y:=by
 constructor
 ·intro hr
  induction hr with
  |base=>exact .base
  |step h1 ha hz ih=>
   refine ih.step ha ?_
   obtain⟨e,he,⟨_,rfl⟩|⟨_,rfl⟩⟩:=ha
   ·exact(h e he).2
   ·exact(h e he).1
 ·intro hr
  induction hr with
  |base=>exact .base
  |step h1 ha hz ih=>exact ih.step ha (a2M (a1r hs hz))
end Go.GS
/- Chapter 32: trees, part 2. -/
namespace Go.Proofs.YtmannekkmdockaaGreatDoor
open Go.Proofs.Tryz
open Go.RowKit Go.RX Go.GS
section
variable {H H0:PH} {u v w wts:Value} {p wl t:List Int} {n:Nat} {es:List (Nat×Nat)} {lo hi ds but:Int} {set x:Nat}
theorem b2P (hw:SG H w es) (hg:GV n es) (hs:set<M64) (hu:SI H u t):a3M prog 83 [gv n w,uv set,u] H (ii (trE n es set t)):=by
 refine a0b mixed d0Z (by kernel_rfl) rfl ?_
 have h64:=hg.n64
 have hl:=hu.len
 refine a0a (a0T hw) ?_
 refine a0n (b6e hw hg hs) rfl fun H1 l1=> ?_
 simp only[cA,nA]
 refine a0a ⟨_,rfl⟩ ?_
 refine a0e (b:=decide (¬(set≠0/\set<2^n))) (by show Value.bool ((if set≠0/\set<2^n then(0:Int)else 2) !=0)=_;by_cases hh:set≠0/\set<2^n;(rw[if_pos hh,decide_eq_false (fun e=>e hh)];rfl);(rw[if_neg hh,decide_eq_true hh];rfl)) (fun h0=> ?_) (fun h0=> ?_)
 ·replace h0:=of_decide_eq_true h0
  exact a0c rfl ⟨l1,by rw[d1k h0];show ii (if set≠0/\set<2^n then(0:Int)else 2)=_;rw[if_neg h0]⟩
 ·replace h0:=of_decide_eq_false h0
  have h0:set≠0/\set<2^n:=Classical.byContradiction h0
  refine a0d (b6a (H:=H1)) rfl ?_
  rintro _ H2 ⟨l2,v,rfl,o2⟩
  refine⟨fun h=>(nomatch h),?_⟩
  simp only[cA,nA]
  refine a0a ⟨rfl,fun c hc=>by have hc:c∈[v]:=hc;rw[List.mem_singleton]at hc;subst hc;exact a0z o2.se⟩ ?_
  have hu1:=hu.mono l1
  have hw1:=hw.mono l1
  refine a0h el_int rfl rfl (hu1.mono l2) rfl ?_
  refine a0k (α:=Nat×Int×Int×List Nat) (fun⟨i,last,z,q⟩=>[ii z,ii last,ii (i:Nat)]) (fun⟨i,last,z,q⟩=>fun H'=>i<=t.length/\PH.le H1 H'/\PO H1 H' v q/\Par q (lab (etl es (t.take i)))/\(last= -1\/last∈t.take i)/\(∀a∈t.take i,a<=last)/\ -1<=last/\(t.take i).Pairwise (· < ·)/\(∀a∈t.take i,OkI es set a)/\Acy (etl es (t.take i)) (etl es (t.take i)).length) (fun⟨i,last,z,q⟩=>t.length-i) ((0,-1,0,List.range 64)) rfl (⟨Nat.zero_le _,l2,o2,Par.id,.inl rfl,(fun a ha=>by cases ha),Int.le_refl _,List.Pairwise.nil,(fun a ha=>by cases ha),(fun i e hi=>by cases hi)⟩) fun⟨i,last,z,q⟩ H' hQ=> ?_
  simp only[cA,nA]
  obtain⟨hi,l3,o3,hP,hla,hal,hl1,hpw,hok,hac⟩:=hQ
  refine a0a ⟨_,rfl⟩ ?_
  refine a0a ⟨_,rfl⟩ ?_
  refine a0e (b:=decide (((i:Nat):Int)<(t.length:Nat))) rfl (fun h=> ?_) (fun h=> ?_)
  ·replace h:=of_decide_eq_true h
   have hi':i<t.length:=by omega
   obtain⟨x,hx,hdx⟩:=a0B hi'
   have hxm:=List.mem_of_getElem? hx
   refine a0i el_int rfl rfl rfl rfl (fun _=>rfl) (hu1.mono l3) hx rfl (fun _=>rfl) fun _=> ?_
   simp only[cA,nA]
   refine a0a ⟨_,rfl⟩ ?_
   refine a0a ⟨_,rfl⟩ ?_
   refine a0e (b:=decide (x<=last)) rfl (fun h2=> ?_) (fun h2=> ?_)
   ·replace h2:=of_decide_eq_true h2
    exact a0c rfl ⟨l1.trans l3,by rw[b2O h0 fun hT=>by rcases hla with hla|hla;(have:=(hT.ok x hxm).1;omega);(have:=d6Y hT.asc hla hx;omega)];rfl⟩
   ·replace h2:=of_decide_eq_false h2
    obtain⟨m,rfl⟩:∃m:Nat,x=(m:Int):=⟨x.toNat,by omega⟩
    refine a0h el_edge rfl rfl (hw1.mono l3) rfl ?_
    refine a0a ⟨_,rfl⟩ ?_
    refine a0e (b:=decide (((m:Nat):Int)≥(es.length:Nat))) rfl (fun h3=> ?_) (fun h3=> ?_)
    ·replace h3:=of_decide_eq_true h3
     exact a0c rfl ⟨l1.trans l3,by rw[b2O h0 fun hT=>by have:=(hT.ok _ hxm).2.1;rw[Int.toNat_natCast]at this;omega];rfl⟩
    ·replace h3:=of_decide_eq_false h3
     have hem:=a4d (es:=es) (m:=m) (by omega)
     have hed:=hg.mem hem
     refine a0i el_edge rfl rfl rfl rfl (fun _=>rfl) (hw1.mono l3) hem rfl (fun _=>rfl) fun _=> ?_
     simp only[cA,nA]
     refine a0P (b6d hs (by omega) (by omega)) rfl ?_
     simp only[cA,nA]
     refine a0a ⟨_,rfl⟩ ?_
     refine a0e (b:= !(bit set (Ed es (m:Nat)).1&&bit set (Ed es (m:Nat)).2)) rfl (fun h4=> ?_) (fun h4=> ?_)
     ·skip
      exact a0c rfl ⟨l1.trans l3,by rw[b2O h0 fun hT=>by have:=hT.ok _ hxm;simp[this.2.2.1,this.2.2.2]at h4];rfl⟩
     ·skip
      have h4:bit set (Ed es (m:Nat)).1=true/\bit set (Ed es (m:Nat)).2=true:=by simpa using h4
      refine a0i el_edge rfl rfl rfl rfl (fun _=>rfl) (hw1.mono l3) hem rfl (fun _=>rfl) fun _=> ?_
      simp only[cA,nA]
      refine a0d (b6c l3 o3 hP (by omega) (by omega)) rfl ?_
      rintro _ H4 ⟨rfl,l4,q4,o4,hP4⟩
      refine⟨fun h=>(nomatch h),?_⟩
      simp only[cA,nA]
      refine a0a ⟨_,rfl⟩ ?_
      refine a0e (b:=decide (¬(lab (etl es (t.take i)) (Ed es (m:Nat)).1≠lab (etl es (t.take i)) (Ed es (m:Nat)).2))) (by show Value.bool (!decide _)=_;congr 1;rw[Bool.eq_iff_iff];simp) (fun h5=> ?_) (fun h5=> ?_)
      ·replace h5:=of_decide_eq_true h5
       exact a0c rfl ⟨l1.trans l4,by rw[b2O h0 fun hT=>by have:=hT.acy i _ hi' (c1M hx);rw[b6i]at this;exact h5 this];rfl⟩
      ·replace h5:=of_decide_eq_false h5
       have h5:=Classical.byContradiction h5
       exact⟨(i+1,(m:Int),z,q4),by show t.length-(i+1)<t.length-i;omega,(a8T rfl rfl (a0w rfl (by omega))),⟨hi',l4,o4,by rw[take_snoc hx,a2L,a3C];exact hP4,.inr (by rw[take_snoc hx];simp),by rw[take_snoc hx];intro a ha;rw[List.mem_append,List.mem_singleton]at ha;rcases ha with ha|rfl;(have:=hal a ha;show a<=(m:Int);omega);(exact Int.le_refl _),by show -1<=(m:Int);omega,by rw[take_snoc hx];exact b4s hpw fun a ha=>by have:=hal a ha;omega,by rw[take_snoc hx];intro a ha;rw[List.mem_append,List.mem_singleton]at ha;rcases ha with ha|rfl;(exact hok a ha);exact⟨by omega,by rw[Int.toNat_natCast];omega,h4⟩,by rw[take_snoc hx,a2L];have:=hac.snoc h5;rw[List.length_append];exact this⟩⟩
  ·replace h:=of_decide_eq_false h
   have he:i=t.length:=by omega
   rw[List.take_of_length_le (by omega)]at hpw hok hac
   rw[show(etl es t).length=t.length from List.length_map _]at hac
   refine a0h el_int rfl rfl (hu1.mono l3) rfl ?_
   refine a0u (c5x hs) rfl ?_
   simp only[cA,nA]
   have hc64:=a2d set
   refine a0a ⟨_,rfl⟩ ?_
   refine a0a ⟨_,rfl⟩ ?_
   refine a0e (b:=decide (¬t.length+1=card set)) (by show Value.bool (((t.length:Nat):Int) !=intOf (D prog _ (.op2 .sub .i64 (.v 10) (.k (.int .i64 1)))))=_;rw[b5N (x:=(card set:Nat)) (y:=1) rfl rfl (by omega) (by omega)];show Value.bool (((t.length:Nat):Int) !=((card set:Nat):Int)-1)=_;rw[bN];congr 1;apply decide_eq_decide.2;omega) (fun h6=> ?_) (fun h6=> ?_)
   ·replace h6:=of_decide_eq_true h6
    exact a0c rfl ⟨l1.trans l3,by rw[b2O h0 fun hT=>h6 hT.len];rfl⟩
   ·replace h6:=of_decide_eq_false h6
    exact a0c rfl ⟨l1.trans l3,by rw[b6h h0 ⟨hpw,hok,hac,Classical.byContradiction h6⟩];rfl⟩
def etb (es:List (Nat×Nat)) (t:List Int) (but:Int):List (Nat×Nat):=etl es (t.filter fun i=>decide (i≠but))
theorem c6d (hw:SG H w es) (hg:GV n es) (hu:SI H u t) (ht:∀i∈t,0<=i/\i.toNat<es.length) (hx:x<64):Asks prog 189 [gv n w,u,ii but,ii (x:Nat)] H (uv (a8t (etb es t but) x)):=by
 refine a0b mixed d1a (by kernel_rfl) rfl ?_
 have h64:=hg.n64
 have hl:=hu.len
 have hL:∀e∈etb es t but,e.1<64/\e.2<64:=by
  intro e he
  unfold etb etl at he
  rw[List.mem_map]at he
  obtain⟨i,hi,rfl⟩:=he
  obtain⟨h1,h2⟩:=ht i (List.mem_filter.1 hi).1
  have:=a4d (es:=es) h2
  rw[Int.toNat_of_nonneg h1]at this
  have:=hg.mem this
  omega
 refine a0a (a0T hw) ?_
 refine a0a ⟨_,_,rfl⟩ ?_
 refine a0a (by show(0:Int)<=((x:Nat):Int);omega) ?_
 refine a0K (α:=Nat×Bool) (fun⟨r,more⟩=>[uv (a2U a1u (etb es t but) r (2^x)),.bool more]) (fun⟨r,more⟩=>more=false->Clo a1u (etb es t but) (a2U a1u (etb es t but) r (2^x))) (fun⟨r,more⟩=>if more then 66-card (a2U a1u (etb es t but) r (2^x))else 0) ((0,true)) (a1s (a6e rfl hx) rfl) ((fun h=>nomatch h)) fun⟨r,more⟩ hQ=> ?_
 simp only[cA,nA]
 refine a0a ⟨_,rfl⟩ ?_
 refine a0e (b:=more) rfl (fun hm=> ?_) (fun hm=> ?_)
 ·skip
  subst hm
  have hS:=(a1C (set:=a1u) hL (a0S hx) r).1
  generalize hSe:a2U a1u (etb es t but) r (2^x)=S at hS
  refine a0h el_int rfl rfl hu rfl ?_
  refine a0K (α:=Nat×Bool) (fun⟨j,mo⟩=>[uv (rnd a1u (etb es (t.take j) but) S),.bool mo,ii (j:Nat)]) (fun⟨j,mo⟩=>j<=t.length/\(mo=false↔rnd a1u (etb es (t.take j) but) S=S)) (fun⟨j,mo⟩=>t.length-j) ((0,false)) rfl (⟨Nat.zero_le _,fun _=>rfl,fun _=>rfl⟩) fun⟨j,mo⟩ hQ2=> ?_
  simp only[cA,nA]
  obtain⟨hj,hmo⟩:=hQ2
  refine a0a ⟨_,rfl⟩ ?_
  refine a0a ⟨_,rfl⟩ ?_
  refine a0e (b:=decide (((j:Nat):Int)<(t.length:Nat))) rfl (fun h2=> ?_) (fun h2=> ?_)
  ·replace h2:=of_decide_eq_true h2
   have hj':j<t.length:=by omega
   obtain⟨y,hy,hdy⟩:=a0B hj'
   obtain⟨hy1,hy2⟩:=ht y (List.mem_of_getElem? hy)
   obtain⟨m,rfl⟩:∃m:Nat,y=(m:Int):=⟨y.toNat,by omega⟩
   rw[Int.toNat_natCast]at hy2
   have hem:=a4d (es:=es) (m:=m) (by omega)
   have hed:=hg.mem hem
   have hLj:∀e∈etb es (t.take j) but,e.1<64/\e.2<64:=by
    intro e he
    apply hL
    unfold etb etl at he⊢
    rw[List.mem_map]at he⊢
    obtain⟨i,hi,rfl⟩:=he
    rw[List.mem_filter]at hi
    exact⟨i,List.mem_filter.2 ⟨List.mem_of_mem_take hi.1,hi.2⟩,rfl⟩
   have hR:=b2I (set:=a1u) hLj hS
   have hRm:∀y,bit S y=true->bit (rnd a1u (etb es (t.take j) but) S) y=true:=fun y hy=>a2K hy
   have hst:rnd a1u (etb es (t.take (j+1)) but) S=if(m:Int)≠but then rst a1u (rnd a1u (etb es (t.take j) but) S) (Ed es (m:Nat))else rnd a1u (etb es (t.take j) but) S:=by
    rw[take_snoc hy];unfold etb;rw[List.filter_append,List.filter_cons]
    by_cases hb:(m:Int)≠but
    ·rw[if_pos (by simpa using hb),if_pos hb,List.filter_nil,a2L,b1k]
    ·rw[if_neg (by simpa using hb),if_neg hb,List.filter_nil,List.append_nil]
   rw[a7e (by omega) (by omega)]at hst
   generalize hRe:rnd a1u (etb es (t.take j) but) S=R at hR hst hmo hRm
   refine a0i el_int rfl rfl rfl rfl (fun _=>rfl) hu hy rfl (fun _=>rfl) fun _=> ?_
   simp only[cA,nA]
   refine a6k rfl rfl rfl rfl rfl (fun _=>rfl) (fun _=>rfl) (fun _=>rfl) hw hem rfl (fun _=>rfl) (fun _ _=>rfl) fun _ _=> ?_
   simp only[cA,nA]
   refine a0a ⟨_,_,rfl⟩ ?_
   refine a0a (by show(0:Int)<=(((Ed es (m:Nat)).1:Nat):Int);omega) ?_
   refine a6l rfl rfl rfl rfl rfl (fun _=>rfl) (fun _=>rfl) (fun _=>rfl) hw hem rfl (fun _=>rfl) (fun _ _=>rfl) fun _ _=> ?_
   simp only[cA,nA]
   refine a0a ⟨_,_,rfl⟩ ?_
   refine a0a (by show(0:Int)<=(((Ed es (m:Nat)).2:Nat):Int);omega) ?_
   have pa:2^(Ed es (m:Nat)).1<M64:=a0S (by omega)
   have pb:2^(Ed es (m:Nat)).2<M64:=a0S (by omega)
   refine a0a ⟨_,rfl⟩ ?_
   refine a0a ⟨_,rfl⟩ ?_
   refine a0e (b:=decide ((m:Int)≠but)) (bN _ _) (fun h3=> ?_) (fun h3=> ?_)
   ·replace h3:=of_decide_eq_true h3
    rw[if_pos h3]at hst
    refine a0a ⟨_,rfl⟩ ?_
    refine a0e (b:=decide (¬R&&&(2^(Ed es (m:Nat)).1|||2^(Ed es (m:Nat)).2)=0)) (by show Value.bool (intOf (D prog _ (.op2 .and .u64 (.v 7) (.op2 .or .u64 (.op2 .shl .u64 (.k (.int .u64 1)) (.v 14)) (.op2 .shl .u64 (.k (.int .u64 1)) (.v 17))))) !=0)=_;rw[a4X rfl (a9G (a6e rfl (by omega)) (a6e rfl (by omega)) pa pb) hR (a6d pa pb)];exact bN0 _) (fun h4=> ?_) (fun h4=> ?_)
    ·replace h4:=of_decide_eq_true h4
     rw[or_zero]at h4
     have h4':(bit R (Ed es (m:Nat)).1||bit R (Ed es (m:Nat)).2)=true:=by
      cases c1:bit R (Ed es (m:Nat)).1<;>cases c2:bit R (Ed es (m:Nat)).2<;>first|rfl|exact absurd ⟨c1,c2⟩ h4
     rw[if_pos h4']at hst
     refine a0e (b:=decide (¬R&&&(2^(Ed es (m:Nat)).1|||2^(Ed es (m:Nat)).2)=2^(Ed es (m:Nat)).1|||2^(Ed es (m:Nat)).2)) (by show Value.bool (intOf (D prog _ (.op2 .and .u64 (.v 7) (.op2 .or .u64 (.op2 .shl .u64 (.k (.int .u64 1)) (.v 14)) (.op2 .shl .u64 (.k (.int .u64 1)) (.v 17))))) !=intOf (D prog _ (.op2 .or .u64 (.op2 .shl .u64 (.k (.int .u64 1)) (.v 14)) (.op2 .shl .u64 (.k (.int .u64 1)) (.v 17)))))=_;rw[a4X rfl (a9G (a6e rfl (by omega)) (a6e rfl (by omega)) pa pb) hR (a6d pa pb),a9G (a6e rfl (by omega)) (a6e rfl (by omega)) pa pb];refine(bN _ _).trans (congrArg Value.bool (decide_eq_decide.2 ?_));show ¬((_:Nat):Int)=((_:Nat):Int)↔_;rw[Int.natCast_inj]) (fun h5=> ?_) (fun h5=> ?_)
     ·replace h5:=of_decide_eq_true h5
      rw[c7Y]at h5
      exact⟨(j+1,true),by show t.length-(j+1)<t.length-j;omega,(a8T (by show _=uv (rnd a1u (etb es (t.take (j+1)) but) S);rw[hst];exact a9G rfl (a9G (a6e rfl (by omega)) (a6e rfl (by omega)) pa pb) hR (a6d pa pb)) rfl (a0w rfl (by omega))),⟨⟨hj',(fun h=>nomatch h),fun hh=>absurd (by rw[hst]at hh;have a1:bit S (Ed es (m:Nat)).1=true:=by{rw[<-hh,a0G,a0G,a0v];simp};have a2:bit S (Ed es (m:Nat)).2=true:=by{rw[<-hh,a0G,a0G,a0v,a0v];simp};exact⟨hRm _ a1,hRm _ a2⟩) h5⟩,rfl⟩⟩
     ·replace h5:=of_decide_eq_false h5
      have h5:=Classical.byContradiction h5
      rw[c7Y]at h5
      rw[d1l h5.1 h5.2]at hst
      exact⟨(j+1,mo),by show t.length-(j+1)<t.length-j;omega,(a8T (by show _=uv (rnd a1u (etb es (t.take (j+1)) but) S);rw[hst];rfl) rfl (a0w rfl (by omega))),⟨⟨hj',by rw[hst];exact hmo⟩,rfl⟩⟩
    ·replace h4:=of_decide_eq_false h4
     have h4:=Classical.byContradiction h4
     rw[or_zero]at h4
     rw[if_neg (by rw[h4.1,h4.2];simp)]at hst
     exact⟨(j+1,mo),by show t.length-(j+1)<t.length-j;omega,(a8T (by show _=uv (rnd a1u (etb es (t.take (j+1)) but) S);rw[hst];rfl) rfl (a0w rfl (by omega))),⟨⟨hj',by rw[hst];exact hmo⟩,rfl⟩⟩
   ·replace h3:=of_decide_eq_false h3
    rw[if_neg h3]at hst
    exact⟨(j+1,mo),by show t.length-(j+1)<t.length-j;omega,(a8T (by show _=uv (rnd a1u (etb es (t.take (j+1)) but) S);rw[hst];rfl) rfl (a0w rfl (by omega))),⟨⟨hj',by rw[hst];exact hmo⟩,rfl⟩⟩
  ·replace h2:=of_decide_eq_false h2
   have hje:t.take j=t:=List.take_of_length_le (by omega)
   have hnx:rnd a1u (etb es (t.take j) but) S=a2U a1u (etb es t but) (r+1) (2^x):=by rw[hje,<-hSe];rfl
   have hSr:a2U a1u (etb es t but) (r+1) (2^x)<M64:=(a1C (set:=a1u) hL (a0S hx) (r+1)).1
   rw[hnx]at hmo
   have hms:(if mo then 66-card (a2U a1u (etb es t but) (r+1) (2^x))else 0)<66-card S:=by
    have hc:=a2d S
    cases mo with
    |false=>rw[if_neg (by decide)];omega
    |true=>
     have hne:S≠a2U a1u (etb es t but) (r+1) (2^x):=fun e=>by have:=hmo.2 e.symm;cases this
     have hsub:∀y,bit S y=true->bit (a2U a1u (etb es t but) (r+1) (2^x)) y=true:=fun y hy=>by rw[<-hnx];exact a2K hy
     obtain⟨z,hz1,hz2⟩:=b2H hne hsub
     have:=b1b hsub hz1 hz2 (a1r hSr hz1)
     have:=a2d (a2U a1u (etb es t but) (r+1) (2^x))
     rw[if_pos rfl];omega
   exact⟨(r+1,mo),by refine Nat.lt_of_lt_of_eq hms (Eq.symm (if_pos ?_));simp,(a1s (by show _=uv (a2U a1u (etb es t but) (r+1) (2^x));rw[<-hnx];rfl) rfl),⟨fun hmf=>by have e:=hmo.1 hmf;rw[e];refine b4p (L:=etb es t but) ?_;rw[hje]at hnx;rw[hnx,e],rfl⟩⟩
 ·skip
  exact a0c rfl ⟨rfl,by rw[<-c1N hL hx (hQ hm)];rfl⟩
end
end Go.Proofs.YtmannekkmdockaaGreatDoor

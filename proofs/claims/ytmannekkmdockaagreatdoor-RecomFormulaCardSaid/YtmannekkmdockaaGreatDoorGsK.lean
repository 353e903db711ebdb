/- Chapter 32: the reference of graphs and plans, part 2. -/
import Derived.Test.YtmannekkmdockaaGreatDoorGbA
import Derived.Test.YtmannekkmdockaaGreatDoorGyB
namespace Go.GS
theorem b0m (set:Nat) (L:List (Nat×Nat)) (e:Nat×Nat) (s:Nat):rnd set (L++[e]) s=rst set (rnd set L s) e:=by
 unfold rnd;rw[List.foldl_append];rfl
theorem c0h {set s:Nat} {e:Nat×Nat} (h1:bit set e.1=true) (h2:bit set e.2=true) (h3:bit s e.1=true\/bit s e.2=true):rst set s e=s|||2^e.1|||2^e.2:=by
 unfold rst;rw[if_pos (by rcases h3 with h3|h3<;>simp[h1,h2,h3])]
theorem c0i {set s:Nat} {e:Nat×Nat} (h:bit set e.1=false\/bit set e.2=false\/(bit s e.1=false/\bit s e.2=false)):rst set s e=s:=by
 unfold rst;rw[if_neg]
 rcases h with h|h|h<;>simp[h]
theorem GV.e64 {n:Nat} {es:List (Nat×Nat)} (h:GV n es):∀e∈es,e.1<64/\e.2<64:=fun e he=>by
 have:=h.ed e he;have:=h.n64;omega
theorem d2T {n:Nat} {es:List (Nat×Nat)} (h:GV n es) {set x:Nat} (hx:bit set x=true) (h64:x<64):CL es set x (a2J set es es.length (2^x)):=
 b1S hx (a1z h.e64 (a0P h64) _).1 (b0j _ _ _)
theorem d5r {s n:Nat} (hs:s<2^n) (hn:n<=64):(List.range n).filter (bit s)=els s:=by
 unfold els
 have h1:(64:Nat)=n+(64-n):=by omega
 rw[h1,List.range_add,List.filter_append]
 have:((List.range (64-n)).map (n+ ·)).filter (bit s)=[]:=by
  rw[List.filter_eq_nil_iff]
  intro a ha
  rw[List.mem_map]at ha
  obtain⟨b,_,rfl⟩:=ha
  have:=Nat.testBit_lt_two_pow (Nat.lt_of_lt_of_le hs (Nat.pow_le_pow_right (n:=2) (by decide) (Nat.le_add_right n b)))
  unfold bit;rw[this];simp
 rw[this,List.append_nil]
end Go.GS
namespace Go.Proofs.YtmannekkmdockaaGreatDoor
open Go.Proofs.Tryz
open Go.RowKit Go.RX Go.GS
section
variable {H:PH} {u v w wts:Value} {p wl:List Int} {n:Nat} {es:List (Nat×Nat)} {lo hi ds:Int} {set x:Nat}
theorem b6Y (hw:SG H w es) (hg:GV n es) (hs:set<M64) (hx:x<64):Asks prog 140 [gv n w,uv set,ii (x:Nat),ii (-1)] H (uv (a2J set es es.length (2^x))):=by
 refine a0b mixed b9T (by kernel_rfl) rfl ?_
 have h64:=hg.n64
 have hes:=hg.len
 refine a0a (a0S hw) ?_
 refine a0s (a1h hx) rfl ?_
 simp only[cA,nA]
 refine a0g el_edge rfl rfl hw rfl ?_
 refine a0E (α:=Nat) (fun r=>[uv (a2J set es r (2^x)),ii (r:Nat)]) (fun r=>r<=es.length) (fun r=>es.length-r) (0) rfl (Nat.zero_le _) fun r hQ=> ?_
 simp only[cA,nA]
 refine a0a ⟨_,rfl⟩ ?_
 refine a0a ⟨_,rfl⟩ ?_
 refine a0e (b:=decide (((r:Nat):Int)<(es.length:Nat))) rfl (fun h=> ?_) (fun h=> ?_)
 ·replace h:=of_decide_eq_true h
  have hS:=(a1z (set:=set) hg.e64 (a0P hx) r).1
  generalize hSe:a2J set es r (2^x)=S at hS
  refine a0E (α:=Nat) (fun j=>[uv (rnd set (es.take j) S),ii (j:Nat)]) (fun j=>j<=es.length) (fun j=>es.length-j) (0) rfl (Nat.zero_le _) fun j hQ2=> ?_
  simp only[cA,nA]
  refine a0g el_edge rfl rfl hw rfl ?_
  refine a0a ⟨_,rfl⟩ ?_
  refine a0a ⟨_,rfl⟩ ?_
  refine a0e (b:=decide (((j:Nat):Int)<(es.length:Nat))) rfl (fun h2=> ?_) (fun h2=> ?_)
  ·replace h2:=of_decide_eq_true h2
   have hj':j<es.length:=by omega
   obtain⟨e,he,hde⟩:=a0u hj'
   obtain⟨he1,he2⟩:=hg.mem he
   have hR:=b1R (set:=set) (L:=es.take j) (fun a ha=>hg.e64 a (List.mem_of_mem_take ha)) hS
   have hst:rnd set (es.take (j+1)) S=rst set (rnd set (es.take j) S) e:=by rw[take_snoc he,b0m]
   generalize rnd set (es.take j) S=R at hR hst
   refine a5H rfl rfl rfl rfl rfl (fun _=>rfl) (fun _=>rfl) (fun _=>rfl) hw he rfl (fun _=>rfl) (fun _ _=>rfl) fun _ _=> ?_
   simp only[cA,nA]
   refine a5I rfl rfl rfl rfl rfl (fun _=>rfl) (fun _=>rfl) (fun _=>rfl) hw he rfl (fun _=>rfl) (fun _ _=>rfl) fun _ _=> ?_
   simp only[cA,nA]
   refine a0a ⟨_,rfl⟩ ?_
   refine a1u (by show Value.bool (((j:Nat):Int) != -1)=_;exact(bN _ _).trans (congrArg Value.bool (decide_eq_true (by omega)))) ?_
   refine a0s (a0X hs (by omega)) rfl ?_
   simp only[cA,nA]
   refine a0a ⟨_,rfl⟩ ?_
   refine a0e (b:=bit set e.1) rfl (fun b1=> ?_) (fun b1=> ?_)
   ·skip
    refine a0s (a0X hs (by omega)) rfl ?_
    simp only[cA,nA]
    refine a0a ⟨_,rfl⟩ ?_
    refine a0e (b:=bit set e.2) rfl (fun b2=> ?_) (fun b2=> ?_)
    ·skip
     refine a0s (a0X hR (by omega)) rfl ?_
     simp only[cA,nA]
     refine a0a ⟨_,rfl⟩ ?_
     refine a0e (b:=bit R e.1) rfl (fun b3=> ?_) (fun b3=> ?_)
     ·skip
      refine a0s (a1h (n:=e.1) (by omega)) rfl ?_
      simp only[cA,nA]
      refine a0a ⟨_,rfl⟩ ?_
      refine a0a ⟨_,rfl⟩ ?_
      refine a0s (a1h (n:=e.2) (by omega)) rfl ?_
      simp only[cA,nA]
      refine a0a ⟨_,rfl⟩ ?_
      exact⟨j+1,by omega,(a1l (by rw[hst,c0h b1 b2 (.inl b3)];exact a8o (a8o rfl rfl hR (a0P (by omega))) rfl (a5A hR (a0P (by omega))) (a0P (by omega))) (a0r rfl (by omega))),⟨by omega,rfl⟩⟩
     ·skip
      refine a0s (a0X hR (by omega)) rfl ?_
      simp only[cA,nA]
      refine a0a ⟨_,rfl⟩ ?_
      refine a0e (b:=bit R e.2) rfl (fun b4=> ?_) (fun b4=> ?_)
      ·skip
       refine a0s (a1h (n:=e.1) (by omega)) rfl ?_
       simp only[cA,nA]
       refine a0a ⟨_,rfl⟩ ?_
       refine a0a ⟨_,rfl⟩ ?_
       refine a0s (a1h (n:=e.2) (by omega)) rfl ?_
       simp only[cA,nA]
       refine a0a ⟨_,rfl⟩ ?_
       exact⟨j+1,by omega,(a1l (by rw[hst,c0h b1 b2 (.inr b4)];exact a8o (a8o rfl rfl hR (a0P (by omega))) rfl (a5A hR (a0P (by omega))) (a0P (by omega))) (a0r rfl (by omega))),⟨by omega,rfl⟩⟩
      ·skip
       exact⟨j+1,by omega,(a1l (by rw[hst,c0i (.inr (.inr ⟨b3,b4⟩))];rfl) (a0r rfl (by omega))),⟨by omega,rfl⟩⟩
    ·skip
     exact⟨j+1,by omega,(a1l (by rw[hst,c0i (.inr (.inl b2))];rfl) (a0r rfl (by omega))),⟨by omega,rfl⟩⟩
   ·skip
    exact⟨j+1,by omega,(a1l (by rw[hst,c0i (.inl b1)];rfl) (a0r rfl (by omega))),⟨by omega,rfl⟩⟩
  ·replace h2:=of_decide_eq_false h2
   have hje:j=es.length:=by omega
   exact⟨r+1,by omega,(a1l (by rw[show a2J set es (r+1) (2^x)=rnd set es S from by rw[<-hSe];rfl,hje,List.take_length];rfl) (a0r rfl (by omega))),⟨by omega,rfl⟩⟩
 ·replace h:=of_decide_eq_false h
  have hre:r=es.length:=by omega
  exact a0c rfl ⟨rfl,by rw[hre];rfl⟩
theorem b6Z (hw:SG H w es) (hg:GV n es) (hs:set<2^n):Con prog 85 [gv n w,uv set] H fun u H'=>PH.le H H'/\∃l,SU H' u l/\(l.length=1↔Cn es set):=by
 refine a0b mixed b9U (by kernel_rfl) rfl ?_
 have h64:=hg.n64
 have hs':=a1g h64 hs
 refine a0a (a0S hw) ?_
 refine a0k (α:=Value×Nat×List Nat×Nat) (fun⟨v,done,l,i⟩=>[v,uv done,ii (i:Nat)]) (fun⟨v,done,l,i⟩=>fun H'=>PH.le H H'/\SO H H' 54 1 (fun s:Nat=>[uv s]) v l/\done<M64/\i<=n/\l.length<=i/\(∀y,y<i->bit set y=true->bit done y=true)/\CS es set (sdf set done) l.length) (fun⟨v,done,l,i⟩=>n-i) ((.slice none 0 0,0,[],0)) rfl (⟨PH.le.refl _,SO.nil _ _ _ _ _,by decide,Nat.zero_le _,Nat.le_refl _,fun y hy=>by omega,.inl ⟨rfl,a0G fun y=>by rw[a0y,a0J];simp⟩⟩) fun⟨v,done,l,i⟩ H' hQ=> ?_
 simp only[cA,nA]
 obtain⟨l1,o1,hd,hi,hli,hall,hC⟩:=hQ
 refine a0a ⟨_,rfl⟩ ?_
 refine a0a ⟨_,rfl⟩ ?_
 refine a0e (b:=decide (((i:Nat):Int)<(n:Nat))) rfl (fun h=> ?_) (fun h=> ?_)
 ·replace h:=of_decide_eq_true h
  refine a0s (a0X hs' (by omega)) rfl ?_
  simp only[cA,nA]
  refine a0a ⟨_,rfl⟩ ?_
  refine a0e (b:=bit set i) rfl (fun h1=> ?_) (fun h1=> ?_)
  ·skip
   refine a0s (a0X hd (by omega)) rfl ?_
   simp only[cA,nA]
   refine a0a ⟨_,rfl⟩ ?_
   refine a0e (b:= !bit done i) rfl (fun h2=> ?_) (fun h2=> ?_)
   ·skip
    have h2:bit done i=false:=by simpa using h2
    have hcl:=d2T hg h1 (by omega)
    refine a0I (b6Y (hw.mono l1) hg hs' (by omega)) rfl ?_
    simp only[cA,nA]
    generalize a2J set es es.length (2^i)=part at hcl
    refine a2o el_u64 rfl rfl rfl (fun _=>rfl) (fun _=>rfl) l1 o1 (by omega) rfl (fun _=>rfl) rfl fun q v2 H2 l2 o2=> ?_
    simp only[cA,nA]
    refine a0a ⟨_,rfl⟩ ?_
    refine a0a ⟨_,rfl⟩ ?_
    exact⟨(v2,done|||part,l++[part],i+1),by show n-(i+1)<n-i;omega,(a8k rfl (a8o rfl rfl hd hcl.1) (a0r rfl (by omega))),⟨l2,o2,a5A hd hcl.1,by show i+1<=n;omega,by rw[List.length_append];simp only[List.length_cons,List.length_nil];show _<=i+1;omega,fun y hy hb=>by rw[a0F];rcases Nat.lt_succ_iff_lt_or_eq.1 hy with hy|hy;(rw[hall y hy hb];rfl);(subst hy;rw[(hcl.2 y).2 .base];simp),by rw[List.length_append];have hn:=hC.next (by rw[a0y,h1,h2];rfl) h1 hcl;rw[show sdf set (done|||part)=sdf (sdf set done) part from a0G fun y=>by rw[a0y,a0y,a0y,a0F];cases bit set y<;>cases bit done y<;>cases bit part y<;>rfl];exact hn⟩⟩
   ·skip
    have h2:bit done i=true:=by simpa using h2
    exact⟨(v,done,l,i+1),by show n-(i+1)<n-i;omega,(a8k rfl rfl (a0r rfl (by omega))),⟨l1,o1,hd,by show i+1<=n;omega,Nat.le_succ_of_le hli,fun y hy hb=>by rcases Nat.lt_succ_iff_lt_or_eq.1 hy with hy|hy;(exact hall y hy hb);(subst hy;exact h2),hC⟩⟩
  ·skip
   exact⟨(v,done,l,i+1),by show n-(i+1)<n-i;omega,(a8k rfl rfl (a0r rfl (by omega))),⟨l1,o1,hd,by show i+1<=n;omega,Nat.le_succ_of_le hli,fun y hy hb=>by rcases Nat.lt_succ_iff_lt_or_eq.1 hy with hy|hy;(exact hall y hy hb);(subst hy;rw[h1]at hb;cases hb),hC⟩⟩
 ·replace h:=of_decide_eq_false h
  have h0:sdf set done=0:=a0G fun y=>by
   rw[a0y,a0J]
   cases hy:bit set y with
   |false=>rfl
   |true=>rw[hall y (by have:=c8I hs hy;omega) hy];rfl
  rw[h0]at hC
  exact a0c rfl ⟨l1,l,o1.se,hC.end⟩
theorem b3w (hw:SG H w es) (hg:GV n es) (hs:set<2^n):a3y prog 41 [gv n w,uv set] H (.bool (cnB es set)):=by
 refine a0b mixed b9V (by kernel_rfl) rfl ?_
 refine a0a (a0S hw) ?_
 refine a0d (b6Z hw hg hs) rfl ?_
 rintro u H2 ⟨l2,l,hl,hc⟩
 refine⟨fun h=>(nomatch h),?_⟩
 simp only[cA,nA]
 have e:cnB es set=decide (l.length=1):=by rw[Bool.eq_iff_iff,cnB_iff,<-hc];simp
 refine a0g el_u64 rfl rfl hl rfl ?_
 refine a0a ⟨_,rfl⟩ ?_
 exact a0c rfl ⟨l2,by rw[e];show Value.bool (((l.length:Nat):Int)==1)=_;rw[bE];exact congrArg Value.bool (decide_eq_decide.2 (by omega))⟩
end
end Go.Proofs.YtmannekkmdockaaGreatDoor
/- Spanning trees. -/
namespace Go.GS
def Ed (es:List (Nat×Nat)) (i:Int):Nat×Nat:=es.getD i.toNat (0,0)
def etl (es:List (Nat×Nat)) (t:List Int):List (Nat×Nat):=t.map (Ed es)
def OkI (es:List (Nat×Nat)) (set:Nat) (i:Int):Prop:=0<=i/\i.toNat<es.length/\bit set (Ed es i).1=true/\bit set (Ed es i).2=true
structure TreeOk (es:List (Nat×Nat)) (set:Nat) (t:List Int):Prop where
 asc:t.Pairwise (· < ·)
 ok:∀i∈t,OkI es set i
 acy:Acy (etl es t) t.length
 len:t.length+1=card set
noncomputable def trE (n:Nat) (es:List (Nat×Nat)) (set:Nat) (t:List Int):Int:=if set≠0/\set<2^n then @ite Int (TreeOk es set t) (Classical.propDecidable _) 0 300 else 2
theorem b5h {n:Nat} {es:List (Nat×Nat)} {set:Nat} {t:List Int} (h1:set≠0/\set<2^n) (h2:TreeOk es set t):trE n es set t=0:=by
 unfold trE;rw[if_pos h1];exact @if_pos _ (Classical.propDecidable _) h2 _ _ _
theorem b1X {n:Nat} {es:List (Nat×Nat)} {set:Nat} {t:List Int} (h1:set≠0/\set<2^n) (h2:¬TreeOk es set t):trE n es set t=300:=by
 unfold trE;rw[if_pos h1];exact @if_neg _ (Classical.propDecidable _) h2 _ _ _
theorem c9r {n:Nat} {es:List (Nat×Nat)} {set:Nat} {t:List Int} (h1:¬(set≠0/\set<2^n)):trE n es set t=2:=if_neg h1
theorem c4r {n:Nat} {es:List (Nat×Nat)} {set:Nat} {t:List Int} (h:trE n es set t=0):(set≠0/\set<2^n)/\TreeOk es set t:=by
 unfold trE at h
 split at h
 ·rename_i h1
  refine⟨h1,Classical.byContradiction fun h2=> ?_⟩
  rw[@if_neg _ (Classical.propDecidable _) h2]at h;cases h
 ·cases h
theorem a3K {es:List (Nat×Nat)} {m:Nat} (h:m<es.length):es[m]? =some (Ed es (m:Int)):=by
 unfold Ed;rw[Int.toNat_natCast,List.getD_eq_getElem?_getD,List.getElem?_eq_getElem h];rfl
theorem b5i (es:List (Nat×Nat)) (t:List Int) (i:Nat):(etl es t).take i=etl es (t.take i):=by unfold etl;rw[List.map_take]
theorem c0j {es:List (Nat×Nat)} {t:List Int} {i:Nat} {x:Int} (h:t[i]? =some x):(etl es t)[i]? =some (Ed es x):=by unfold etl;rw[List.getElem?_map,h];rfl
theorem a2A (es:List (Nat×Nat)) (t:List Int) (x:Int):etl es (t++[x])=etl es t++[Ed es x]:=by unfold etl;rw[List.map_append];rfl
theorem d5s {t:List Int} (h:t.Pairwise (· < ·)) {i:Nat} {a x:Int} (ha:a∈t.take i) (hx:t[i]? =some x):a<x:=by
 obtain⟨hi,rfl⟩:=List.getElem?_eq_some_iff.1 hx
 rw[List.mem_take_iff_getElem]at ha
 obtain⟨j,hj,rfl⟩:=ha
 exact List.pairwise_iff_getElem.1 h j i (by omega) hi (by omega)
theorem b3x {t:List Int} (h:t.Pairwise (· < ·)) {x:Int} (hx:∀a∈t,a<x):(t++[x]).Pairwise (· < ·):=by
 rw[List.pairwise_append]
 exact⟨h,List.pairwise_singleton _ _,fun a ha b hb=>by rw[List.mem_singleton]at hb;subst hb;exact hx a ha⟩
theorem Acy.snoc {L:List (Nat×Nat)} {e:Nat×Nat} (h:Acy L L.length) (he:lab L e.1≠lab L e.2):Acy (L++[e]) (L.length+1):=by
 intro i a hi ha
 by_cases hl:i<L.length
 ·rw[List.getElem?_append_left hl]at ha
  rw[List.take_append_of_le_length (by omega)]
  exact h i a hl ha
 ·have hi:i=L.length:=by omega
  subst hi
  rw[List.getElem?_append_right (Nat.le_refl _),Nat.sub_self]at ha
  cases ha
  rw[List.take_left']
  ·exact he
  ·rfl
theorem TreeOk.inn {es:List (Nat×Nat)} {set:Nat} {t:List Int} (h:TreeOk es set t):Inn set (etl es t):=by
 intro e he
 unfold etl at he
 rw[List.mem_map]at he
 obtain⟨i,hi,rfl⟩:=he
 exact(h.ok i hi).2.2
def a1r:Nat:=18446744073709551615
theorem a2B {x:Nat} (h:x<64):bit a1r x=true:=by
 have:a1r=2^64-1:=by decide
 unfold bit;rw[this,Nat.testBit_two_pow_sub_one];exact decide_eq_true h
theorem or_zero {s a b:Nat}:s&&&(2^a|||2^b)=0↔bit s a=false/\bit s b=false:=by
 constructor
 ·intro h
  have h1:bit (s&&&(2^a|||2^b)) a=false:=by rw[h,a0J]
  have h2:bit (s&&&(2^a|||2^b)) b=false:=by rw[h,a0J]
  rw[a3i,a0F,a0z,a0z]at h1 h2
  simp at h1 h2
  exact⟨h1,h2⟩
 ·rintro⟨h1,h2⟩
  apply a0G
  intro y
  rw[a3i,a0F,a0z,a0z,a0J]
  by_cases e1:a=y
  ·subst e1;simp[h1]
  ·by_cases e2:b=y
   ·subst e2;simp[h2]
   ·simp[e1,e2]
theorem c6w {s a b:Nat}:s&&&(2^a|||2^b)=2^a|||2^b↔bit s a=true/\bit s b=true:=by
 constructor
 ·intro h
  have h1:bit (s&&&(2^a|||2^b)) a=bit (2^a|||2^b) a:=by rw[h]
  have h2:bit (s&&&(2^a|||2^b)) b=bit (2^a|||2^b) b:=by rw[h]
  rw[a3i,a0F,a0z,a0z]at h1 h2
  simp at h1 h2
  exact⟨h1,h2⟩
 ·rintro⟨h1,h2⟩
  apply a0G
  intro y
  rw[a3i,a0F,a0z,a0z]
  by_cases e1:a=y
  ·subst e1;simp[h1]
  ·by_cases e2:b=y
   ·subst e2;simp[h2]
   ·simp[e1,e2]
theorem a6y {s:Nat} {e:Nat×Nat} (h1:e.1<64) (h2:e.2<64):rst a1r s e=if bit s e.1||bit s e.2 then s|||(2^e.1|||2^e.2)else s:=by
 unfold rst
 rw[a2B h1,a2B h2,Nat.or_assoc];rfl
theorem c9s {s a b:Nat} (h1:bit s a=true) (h2:bit s b=true):s|||(2^a|||2^b)=s:=by
 apply a0G
 intro y
 rw[a0F,a0F,a0z,a0z]
 by_cases e1:a=y
 ·subst e1;simp[h1]
 ·by_cases e2:b=y
  ·subst e2;simp[h2]
  ·simp[e1,e2]
def a7H (L:List (Nat×Nat)) (x:Nat):Nat:=a2J a1r L 64 (2^x)
theorem b7a {L:List (Nat×Nat)} (hL:∀e∈L,e.1<64/\e.2<64) {x:Nat} (hx:x<64):Clo a1r L (a2J a1r L 64 (2^x)):=by
 have h:=a1z (set:=a1r) hL (a0P hx) 64
 rcases h.2 with h2|h2
 ·exact h2
 ·intro e he _ _ _
  have hall:∀y,y<64->bit (a2J a1r L 64 (2^x)) y=true:=by
   unfold card els at h2
   have:((List.range 64).filter (bit (a2J a1r L 64 (2^x)))).length=(List.range 64).length:=Nat.le_antisymm (List.length_filter_le _ _) (by rw[List.length_range];exact h2)
   rw[List.length_filter_eq_length_iff]at this
   exact fun y hy=>this y (List.mem_range.2 hy)
  exact⟨hall _ (hL e he).1,hall _ (hL e he).2⟩
theorem a2C {L:List (Nat×Nat)} (hL:∀e∈L,e.1<64/\e.2<64) {x:Nat} (hx:x<64):CL L a1r x (a7H L x):=
 b1S (a2B hx) (a1z hL (a0P hx) 64).1 (b7a hL hx)
theorem c0k {L:List (Nat×Nat)} (hL:∀e∈L,e.1<64/\e.2<64) {x r:Nat} (hx:x<64) (h:Clo a1r L (a2J a1r L r (2^x))):a2J a1r L r (2^x)=a7H L x:=
 (b1S (a2B hx) (a1z hL (a0P hx) r).1 h).uniq (a2C hL hx)
theorem a5d {L:List (Nat×Nat)} {set x y:Nat} (hs:set<M64) (h:Inn set L) (hx:bit set x=true):Rch L a1r x y↔Rch L set x y:=by
 constructor
 ·intro hr
  induction hr with
  |base=>exact .base
  |step h1 ha hz ih=>
   refine ih.step ha ?_
   obtain⟨e,he,⟨_,rfl⟩|⟨_,rfl⟩⟩:=ha
   ·exact(h e he).2
   ·exact(h e he).1
 ·intro hr
  induction hr with
  |base=>exact .base
  |step h1 ha hz ih=>exact ih.step ha (a2B (a1q hs hz))
end Go.GS

/- Chapter 32: trees, part 2. -/
import Derived.Test.YtkcjbfoejpfbbaaGreatDoorGcA
import Derived.Test.YtkcjbfoejpfbbaaGreatDoorGbB
import Derived.Test.YtkcjbfoejpfbbaaGreatDoorGsO
namespace Go.Proofs.YtkcjbfoejpfbbaaGreatDoor
open Go.Proofs.Tryz
open Go.RowKit Go.RX Go.GS
section
variable {H H0:PH} {u v w wts:Value} {p wl t:List Int} {n:Nat} {es:List (Nat×Nat)} {lo hi ds but:Int} {set x:Nat}
theorem b1R (hw:SG H w es) (hg:GV n es) (hs:set<M64) (hu:SI H u t):a3Z prog 64 [gv n w,uv set,u] H (ii (trE n es set t)):=by
 refine a0j a0n c2l ?_
 have h64:=hg.n64
 have hl:=hu.len
 refine a0c (a0G hw) ?_
 refine a0v (c7g hw hg hs) rfl fun H1 l1=> ?_
 simp only[cA,nA]
 refine a0a ?_
 refine a0o (p:=(¬(set≠0/\set<2^n))) (by show Value.bool ((if set≠0/\set<2^n then(0:Int)else 2) !=0)=_;by_cases hh:set≠0/\set<2^n;(rw[if_pos hh,decide_eq_false (fun e=>e hh)];rfl);(rw[if_neg hh,decide_eq_true hh];rfl)) (fun h0=> ?_) fun h0=> ?_
 ·exact a0b rfl ⟨l1,by rw[b8I h0];show ii (if set≠0/\set<2^n then(0:Int)else 2)=_;rw[if_neg h0]⟩
 ·have h0:set≠0/\set<2^n:=Classical.byContradiction h0
  refine a0f (c7e (H:=H1)) rfl ?_
  rintro _ H2 ⟨l2,v,rfl,o2⟩
  refine⟨fun h=>(nomatch h),?_⟩
  simp only[cA,nA]
  refine a0c ⟨rfl,fun c hc=>by have hc:c∈[v]:=hc;rw[List.mem_singleton]at hc;subst hc;exact a0T o2.se⟩ ?_
  have hu1:=hu.mono l1
  have hw1:=hw.mono l1
  refine a0p el_int (hu1.mono l2) ?_
  refine a0i (α:=Nat×Int×Int×List Nat) (fun⟨i,last,z,q⟩=>[ii z,ii last,ii (i:Nat)]) (fun⟨i,last,z,q⟩=>fun H'=>i<=t.length/\PH.le H1 H'/\PO H1 H' v q/\Par q (lab (etl es (t.take i)))/\(last= -1\/last∈t.take i)/\(∀a∈t.take i,a<=last)/\ -1<=last/\(t.take i).Pairwise (· < ·)/\(∀a∈t.take i,OkI es set a)/\Acy (etl es (t.take i)) (etl es (t.take i)).length) (fun⟨i,last,z,q⟩=>t.length-i) ((0,-1,0,List.range 64)) rfl (⟨Nat.zero_le _,l2,o2,Par.id,.inl rfl,(fun a ha=>by cases ha),Int.le_refl _,List.Pairwise.nil,(fun a ha=>by cases ha),(fun i e hi=>by cases hi)⟩) fun⟨i,last,z,q⟩ H' hQ=> ?_
  simp only[cA,nA]
  obtain⟨hi,l3,o3,hP,hla,hal,hl1,hpw,hok,hac⟩:=hQ
  refine a0a ?_
  refine a0a ?_
  refine a0e (b:=decide (((i:Nat):Int)<(t.length:Nat))) rfl (fun h=> ?_) (fun h=> ?_)
  ·replace h:=of_decide_eq_true h
   have hi':i<t.length:=by omega
   obtain⟨x,hx,hdx⟩:=a0q hi'
   have hxm:=List.mem_of_getElem? hx
   refine a0t el_int (hu1.mono l3) hx fun _=> ?_
   simp only[cA,nA]
   refine a0a ?_
   refine a0a ?_
   refine a0e (b:=decide (x<=last)) rfl (fun h2=> ?_) (fun h2=> ?_)
   ·replace h2:=of_decide_eq_true h2
    exact a0b rfl ⟨l1.trans l3,by rw[a5F h0 fun hT=>by rcases hla with hla|hla;(have:=(hT.ok x hxm).1;omega);(have:=d3e hT.asc hla hx;omega)];rfl⟩
   ·replace h2:=of_decide_eq_false h2
    obtain⟨m,rfl⟩:∃m:Nat,x=(m:Int):=⟨x.toNat,by omega⟩
    refine a0p el_edge (hw1.mono l3) ?_
    refine a0a ?_
    refine a0e (b:=decide (((m:Nat):Int)≥(es.length:Nat))) rfl (fun h3=> ?_) (fun h3=> ?_)
    ·replace h3:=of_decide_eq_true h3
     exact a0b rfl ⟨l1.trans l3,by rw[a5F h0 fun hT=>by have:=(hT.ok _ hxm).2.1;rw[Int.toNat_natCast]at this;omega];rfl⟩
    ·replace h3:=of_decide_eq_false h3
     have hem:=a7G (es:=es) (m:=m) (by omega)
     have hed:=hg.mem hem
     refine a0t el_edge (hw1.mono l3) hem fun _=> ?_
     simp only[cA,nA]
     refine a0s (b5b hs (by omega) (by omega)) rfl ?_
     simp only[cA,nA]
     refine a0a ?_
     refine a0e (b:= !(bit set (Ed es (m:Nat)).1&&bit set (Ed es (m:Nat)).2)) rfl (fun h4=> ?_) (fun h4=> ?_)
     ·skip
      exact a0b rfl ⟨l1.trans l3,by rw[a5F h0 fun hT=>by have:=hT.ok _ hxm;simp[this.2.2.1,this.2.2.2]at h4];rfl⟩
     ·skip
      have h4:bit set (Ed es (m:Nat)).1=true/\bit set (Ed es (m:Nat)).2=true:=by simpa using h4
      refine a0t el_edge (hw1.mono l3) hem fun _=> ?_
      simp only[cA,nA]
      refine a0f (c7f l3 o3 hP (by omega) (by omega)) rfl ?_
      rintro _ H4 ⟨rfl,l4,q4,o4,hP4⟩
      refine⟨fun h=>(nomatch h),?_⟩
      simp only[cA,nA]
      refine a0a ?_
      refine a0o (p:=(¬(lab (etl es (t.take i)) (Ed es (m:Nat)).1≠lab (etl es (t.take i)) (Ed es (m:Nat)).2))) (by show Value.bool (!decide _)=_;congr 1;rw[Bool.eq_iff_iff];simp) (fun h5=> ?_) fun h5=> ?_
      ·exact a0b rfl ⟨l1.trans l4,by rw[a5F h0 fun hT=>by have:=hT.acy i _ hi' (d3d hx);rw[c5U]at this;exact h5 this];rfl⟩
      ·have h5:=Classical.byContradiction h5
       exact⟨(i+1,(m:Int),z,q4),by show t.length-(i+1)<t.length-i;omega,(a5b rfl rfl (a0k rfl (by omega))),⟨hi',l4,o4,by rw[take_snoc hx,a3L,a4J];exact hP4,.inr (by rw[take_snoc hx];simp),by rw[take_snoc hx];intro a ha;rw[List.mem_append,List.mem_singleton]at ha;rcases ha with ha|rfl;(have:=hal a ha;show a<=(m:Int);omega);(exact Int.le_refl _),by show -1<=(m:Int);omega,by rw[take_snoc hx];exact b2P hpw fun a ha=>by have:=hal a ha;omega,by rw[take_snoc hx];intro a ha;rw[List.mem_append,List.mem_singleton]at ha;rcases ha with ha|rfl;(exact hok a ha);exact⟨by omega,by rw[Int.toNat_natCast];omega,h4⟩,by rw[take_snoc hx,a3L];have:=hac.snoc h5;rw[List.length_append];exact this⟩⟩
  ·replace h:=of_decide_eq_false h
   have he:i=t.length:=by omega
   rw[List.take_of_length_le (by omega)]at hpw hok hac
   rw[show(etl es t).length=t.length from List.length_map _]at hac
   refine a0p el_int (hu1.mono l3) ?_
   refine a0x (b4z hs) rfl ?_
   simp only[cA,nA]
   have hc64:=a1G set
   refine a0a ?_
   refine a0a ?_
   refine a0o (p:=(¬t.length+1=card set)) (by show Value.bool (((t.length:Nat):Int) !=intOf (D prog _ (.op2 .sub .i64 (.v 10) (.k (.int .i64 1)))))=_;rw[a3s (x:=(card set:Nat)) (y:=1) rfl rfl (by omega) (by omega)];show Value.bool (((t.length:Nat):Int) !=((card set:Nat):Int)-1)=_;rw[bN];congr 1;apply decide_eq_decide.2;omega) (fun h6=> ?_) fun h6=> ?_
   ·exact a0b rfl ⟨l1.trans l3,by rw[a5F h0 fun hT=>h6 hT.len];rfl⟩
   ·exact a0b rfl ⟨l1.trans l3,by rw[b3Q h0 ⟨hpw,hok,hac,Classical.byContradiction h6⟩];rfl⟩
def etb (es:List (Nat×Nat)) (t:List Int) (but:Int):List (Nat×Nat):=etl es (t.filter fun i=>decide (i≠but))
theorem c7r (hw:SG H w es) (hg:GV n es) (hu:SI H u t) (ht:∀i∈t,0<=i/\i.toNat<es.length) (hx:x<64):Asks prog 100 [gv n w,u,ii but,ii (x:Nat)] H (uv (reach (etb es t but) x)):=by
 refine a0j a0n c2n ?_
 have h64:=hg.n64
 have hl:=hu.len
 have hL:∀e∈etb es t but,e.1<64/\e.2<64:=by
  intro e he
  unfold etb etl at he
  rw[List.mem_map]at he
  obtain⟨i,hi,rfl⟩:=he
  obtain⟨h1,h2⟩:=ht i (List.mem_filter.1 hi).1
  have:=a7G (es:=es) h2
  rw[Int.toNat_of_nonneg h1]at this
  have:=hg.mem this
  omega
 refine a0c (a0G hw) ?_
 refine a0c ⟨_,_,rfl⟩ ?_
 refine a0c (by show(0:Int)<=((x:Nat):Int);omega) ?_
 refine a0A (α:=Nat×Bool) (fun⟨r,more⟩=>[uv (a2I a2c (etb es t but) r (2^x)),.bool more]) (fun⟨r,more⟩=>more=false->Clo a2c (etb es t but) (a2I a2c (etb es t but) r (2^x))) (fun⟨r,more⟩=>if more then 66-card (a2I a2c (etb es t but) r (2^x))else 0) ((0,true)) (a0F (a2R rfl hx) rfl) ((fun h=>nomatch h)) fun⟨r,more⟩ hQ=> ?_
 simp only[cA,nA]
 refine a0a ?_
 refine a0e (b:=more) rfl (fun hm=> ?_) (fun hm=> ?_)
 ·skip
  subst hm
  have hS:=(a2f (set:=a2c) hL (a0R hx) r).1
  generalize hSe:a2I a2c (etb es t but) r (2^x)=S at hS
  refine a0p el_int hu ?_
  refine a0A (α:=Nat×Bool) (fun⟨j,mo⟩=>[uv (rnd a2c (etb es (t.take j) but) S),.bool mo,ii (j:Nat)]) (fun⟨j,mo⟩=>j<=t.length/\(mo=false↔rnd a2c (etb es (t.take j) but) S=S)) (fun⟨j,mo⟩=>t.length-j) ((0,false)) rfl (⟨Nat.zero_le _,fun _=>rfl,fun _=>rfl⟩) fun⟨j,mo⟩ hQ2=> ?_
  simp only[cA,nA]
  obtain⟨hj,hmo⟩:=hQ2
  refine a0a ?_
  refine a0a ?_
  refine a0e (b:=decide (((j:Nat):Int)<(t.length:Nat))) rfl (fun h2=> ?_) (fun h2=> ?_)
  ·replace h2:=of_decide_eq_true h2
   have hj':j<t.length:=by omega
   obtain⟨y,hy,hdy⟩:=a0q hj'
   obtain⟨hy1,hy2⟩:=ht y (List.mem_of_getElem? hy)
   obtain⟨m,rfl⟩:∃m:Nat,y=(m:Int):=⟨y.toNat,by omega⟩
   rw[Int.toNat_natCast]at hy2
   have hem:=a7G (es:=es) (m:=m) (by omega)
   have hed:=hg.mem hem
   have hLj:∀e∈etb es (t.take j) but,e.1<64/\e.2<64:=by
    intro e he
    apply hL
    unfold etb etl at he⊢
    rw[List.mem_map]at he⊢
    obtain⟨i,hi,rfl⟩:=he
    rw[List.mem_filter]at hi
    exact⟨i,List.mem_filter.2 ⟨List.mem_of_mem_take hi.1,hi.2⟩,rfl⟩
   have hR:=b1a (set:=a2c) hLj hS
   have hRm:∀y,bit S y=true->bit (rnd a2c (etb es (t.take j) but) S) y=true:=fun y hy=>a2x hy
   have hst:rnd a2c (etb es (t.take (j+1)) but) S=if(m:Int)≠but then rst a2c (rnd a2c (etb es (t.take j) but) S) (Ed es (m:Nat))else rnd a2c (etb es (t.take j) but) S:=by
    rw[take_snoc hy];unfold etb;rw[List.filter_append,List.filter_cons]
    by_cases hb:(m:Int)≠but
    ·rw[if_pos (by simpa using hb),if_pos hb,List.filter_nil,a3L,a9O]
    ·rw[if_neg (by simpa using hb),if_neg hb,List.filter_nil,List.append_nil]
   rw[b3R (by omega) (by omega)]at hst
   generalize hRe:rnd a2c (etb es (t.take j) but) S=R at hR hst hmo hRm
   refine a0t el_int hu hy fun _=> ?_
   simp only[cA,nA]
   refine a2A rfl rfl rfl rfl rfl (fun _=>rfl) (fun _=>rfl) (fun _=>rfl) hw hem rfl (fun _=>rfl) (fun _ _=>rfl) fun _ _=> ?_
   simp only[cA,nA]
   refine a0c ⟨_,_,rfl⟩ ?_
   refine a0c (by show(0:Int)<=(((Ed es (m:Nat)).1:Nat):Int);omega) ?_
   refine a2U rfl rfl rfl rfl rfl (fun _=>rfl) (fun _=>rfl) (fun _=>rfl) hw hem rfl (fun _=>rfl) (fun _ _=>rfl) fun _ _=> ?_
   simp only[cA,nA]
   refine a0c ⟨_,_,rfl⟩ ?_
   refine a0c (by show(0:Int)<=(((Ed es (m:Nat)).2:Nat):Int);omega) ?_
   have pa:2^(Ed es (m:Nat)).1<M64:=a0R (by omega)
   have pb:2^(Ed es (m:Nat)).2<M64:=a0R (by omega)
   refine a0a ?_
   refine a0a ?_
   refine a0o (p:=((m:Int)≠but)) (bN _ _) (fun h3=> ?_) fun h3=> ?_
   ·rw[if_pos h3]at hst
    refine a0a ?_
    refine a0o (p:=(¬R&&&(2^(Ed es (m:Nat)).1|||2^(Ed es (m:Nat)).2)=0)) (by show Value.bool (intOf (D prog _ (.op2 .and .u64 (.v 7) (.op2 .or .u64 (.op2 .shl .u64 (.k (.int .u64 1)) (.v 14)) (.op2 .shl .u64 (.k (.int .u64 1)) (.v 17))))) !=0)=_;rw[a2H rfl (a4q (a2R rfl (by omega)) (a2R rfl (by omega)) pa pb) hR (a5i pa pb)];exact bN0 _) (fun h4=> ?_) fun h4=> ?_
    ·rw[b2Q]at h4
     have h4':(bit R (Ed es (m:Nat)).1||bit R (Ed es (m:Nat)).2)=true:=by
      cases c1:bit R (Ed es (m:Nat)).1<;>cases c2:bit R (Ed es (m:Nat)).2<;>first|rfl|exact absurd ⟨c1,c2⟩ h4
     rw[if_pos h4']at hst
     refine a0o (p:=(¬R&&&(2^(Ed es (m:Nat)).1|||2^(Ed es (m:Nat)).2)=2^(Ed es (m:Nat)).1|||2^(Ed es (m:Nat)).2)) (by show Value.bool (intOf (D prog _ (.op2 .and .u64 (.v 7) (.op2 .or .u64 (.op2 .shl .u64 (.k (.int .u64 1)) (.v 14)) (.op2 .shl .u64 (.k (.int .u64 1)) (.v 17))))) !=intOf (D prog _ (.op2 .or .u64 (.op2 .shl .u64 (.k (.int .u64 1)) (.v 14)) (.op2 .shl .u64 (.k (.int .u64 1)) (.v 17)))))=_;rw[a2H rfl (a4q (a2R rfl (by omega)) (a2R rfl (by omega)) pa pb) hR (a5i pa pb),a4q (a2R rfl (by omega)) (a2R rfl (by omega)) pa pb];refine(bN _ _).trans (congrArg Value.bool (decide_eq_decide.2 ?_));show ¬((_:Nat):Int)=((_:Nat):Int)↔_;rw[Int.natCast_inj]) (fun h5=> ?_) fun h5=> ?_
     ·rw[c8C]at h5
      exact⟨(j+1,true),by show t.length-(j+1)<t.length-j;omega,(a5b (by show _=uv (rnd a2c (etb es (t.take (j+1)) but) S);rw[hst];exact a4q rfl (a4q (a2R rfl (by omega)) (a2R rfl (by omega)) pa pb) hR (a5i pa pb)) rfl (a0k rfl (by omega))),⟨⟨hj',(fun h=>nomatch h),fun hh=>absurd (by rw[hst]at hh;have a1:bit S (Ed es (m:Nat)).1=true:=by{rw[<-hh,a1l,a1l,a0N];simp};have a2:bit S (Ed es (m:Nat)).2=true:=by{rw[<-hh,a1l,a1l,a0N,a0N];simp};exact⟨hRm _ a1,hRm _ a2⟩) h5⟩,rfl⟩⟩
     ·have h5:=Classical.byContradiction h5
      rw[c8C]at h5
      rw[d0b h5.1 h5.2]at hst
      exact⟨(j+1,mo),by show t.length-(j+1)<t.length-j;omega,(a5b (by show _=uv (rnd a2c (etb es (t.take (j+1)) but) S);rw[hst];rfl) rfl (a0k rfl (by omega))),⟨⟨hj',by rw[hst];exact hmo⟩,rfl⟩⟩
    ·have h4:=Classical.byContradiction h4
     rw[b2Q]at h4
     rw[if_neg (by rw[h4.1,h4.2];simp)]at hst
     exact⟨(j+1,mo),by show t.length-(j+1)<t.length-j;omega,(a5b (by show _=uv (rnd a2c (etb es (t.take (j+1)) but) S);rw[hst];rfl) rfl (a0k rfl (by omega))),⟨⟨hj',by rw[hst];exact hmo⟩,rfl⟩⟩
   ·rw[if_neg h3]at hst
    exact⟨(j+1,mo),by show t.length-(j+1)<t.length-j;omega,(a5b (by show _=uv (rnd a2c (etb es (t.take (j+1)) but) S);rw[hst];rfl) rfl (a0k rfl (by omega))),⟨⟨hj',by rw[hst];exact hmo⟩,rfl⟩⟩
  ·replace h2:=of_decide_eq_false h2
   have hje:t.take j=t:=List.take_of_length_le (by omega)
   have hnx:rnd a2c (etb es (t.take j) but) S=a2I a2c (etb es t but) (r+1) (2^x):=by rw[hje,<-hSe];rfl
   have hSr:a2I a2c (etb es t but) (r+1) (2^x)<M64:=(a2f (set:=a2c) hL (a0R hx) (r+1)).1
   rw[hnx]at hmo
   have hms:(if mo then 66-card (a2I a2c (etb es t but) (r+1) (2^x))else 0)<66-card S:=by
    have hc:=a1G S
    cases mo with
    |false=>rw[if_neg (by decide)];omega
    |true=>
     have hne:S≠a2I a2c (etb es t but) (r+1) (2^x):=fun e=>by have:=hmo.2 e.symm;cases this
     have hsub:∀y,bit S y=true->bit (a2I a2c (etb es t but) (r+1) (2^x)) y=true:=fun y hy=>by rw[<-hnx];exact a2x hy
     obtain⟨z,hz1,hz2⟩:=a6N hne hsub
     have:=a5k hsub hz1 hz2 (a1N hSr hz1)
     have:=a1G (a2I a2c (etb es t but) (r+1) (2^x))
     rw[if_pos rfl];omega
   exact⟨(r+1,mo),by refine Nat.lt_of_lt_of_eq hms (Eq.symm (if_pos ?_));simp,(a0F (by show _=uv (a2I a2c (etb es t but) (r+1) (2^x));rw[<-hnx];rfl) rfl),⟨fun hmf=>by have e:=hmo.1 hmf;rw[e];refine b2M (L:=etb es t but) ?_;rw[hje]at hnx;rw[hnx,e],rfl⟩⟩
 ·skip
  exact a0b rfl ⟨rfl,by rw[<-b8J hL hx (hQ hm)];rfl⟩
end
end Go.Proofs.YtkcjbfoejpfbbaaGreatDoor
/- Chapter 32: balanced edges, on both sides. -/
namespace Go.Proofs.YtkcjbfoejpfbbaaGreatDoor
open Go.Proofs.Tryz
open Go.RowKit Go.RX Go.GS
section
variable {H H0:PH} {u v w wts:Value} {p wl t:List Int} {n:Nat} {es:List (Nat×Nat)} {lo hi ds k:Int} {set x:Nat}
theorem c3K (hT:Tb H) (hw:SG H w es) (hg:GV n es) (hu:SI H u t) (h0:set≠0/\set<2^n) (ht:TreeOk es set t) (hk:k∈t):a3Z prog 38 [gv n w,uv set,u,ii k] H (.tuple #[uv (a3X es set t k),uv (sdf set (a3X es set t k)),ii 0]):=by
 refine a0j a0n b3j ?_
 have hs:=a0V hg.n64 h0.2
 obtain⟨x,r,hel,hx,hx64,hlx⟩:=b1c hs h0.1
 have hsd:a3X es set t k=reach (etb es t k) x:=by unfold a3X;rw[hel];rfl
 have hcl:=a2n (L:=etb es t k) (x:=x) (a8i hg fun i hi=>by have:=ht.ok i (List.mem_filter.1 hi).1;exact⟨this.1,this.2.1⟩) hx64
 refine a0c (a0G hw) ?_
 refine a0v (b1R hw hg hs hu) rfl fun H1 l1=> ?_
 rw[b3Q h0 ht]
 refine a0a ?_
 refine a0l (bF (p:=(0:Int)≠0) (by simp)) ?_
 refine a0s (d1n (hu.mono l1) k) rfl ?_
 refine a0a ?_
 refine a0l (by show Value.bool (!t.contains k)=_;rw[List.contains_iff_mem.2 hk];rfl) ?_
 refine a0s (b1w (hT.mono l1) hs) rfl ?_
 rw[show tz set=x from by simp[tz,hel]]
 refine a0s (c7r (hw.mono l1) hg (hu.mono l1) (fun i hi=>⟨(ht.ok i hi).1,(ht.ok i hi).2.1⟩) hx64) rfl ?_
 refine a0a ?_
 refine a0a ?_
 exact a0b rfl ⟨l1,by rw[hsd];show Value.tuple #[_,D prog _ (.op2 .andNot .u64 (.v 1) (.v 7)),_]=_;rw[b0V rfl rfl hs hcl.1];rfl⟩
theorem b6N (hw:SG H w es) (hg:GV n es) (hs:set<M64):Asks prog 57 [gv n w,uv set] H (ii (if set≠0/\set<2^n then 0 else 2)):=by
 refine a0j a0n c1t ?_
 refine a0c (a0G hw) ?_
 refine a0s (a3P hw hg) rfl ?_
 refine a0a ?_
 refine a0l (bF (p:=(0:Int)≠0) (by simp)) ?_
 refine a0a ?_
 refine a0o (p:=(set=0)) (bE0 _) (fun h0=> ?_) fun h0=> ?_
 ·exact a0b rfl ⟨rfl,by rw[if_neg (fun e=>e.1 h0)];rfl⟩
 ·refine a0s (a8s hw hg hs) rfl ?_
  exact a0b rfl ⟨rfl,by by_cases h1:set<2^n;(rw[if_pos h1,if_pos ⟨h0,h1⟩];rfl);(rw[if_neg h1,if_neg (fun e=>h1 e.2)];rfl)⟩
theorem a5s (hw:SG H w es) (hg:GV n es) (hs:set<M64) (i:Int):Asks prog 175 [gv n w,uv set,ii i] H (.bool (decide (OkI es set i))):=by
 refine a0j a0n c1u ?_
 have h64:=hg.n64
 refine a0c (a0G hw) ?_
 refine a0a ?_
 refine a0e (b:=decide (i≥0)) rfl (fun h=> ?_) (fun h=> ?_)
 ·replace h:=of_decide_eq_true h
  refine a0p el_edge hw ?_
  refine a0a ?_
  refine a0e (b:=decide (i<(es.length:Nat))) rfl (fun h2=> ?_) (fun h2=> ?_)
  ·replace h2:=of_decide_eq_true h2
   obtain⟨m,rfl⟩:∃m:Nat,i=(m:Int):=⟨i.toNat,by omega⟩
   have hem:=a7G (es:=es) (m:=m) (by omega)
   have hed:=hg.mem hem
   refine a2A rfl rfl rfl rfl rfl (fun _=>rfl) (fun _=>rfl) (fun _=>rfl) hw hem rfl (fun _=>rfl) (fun _ _=>rfl) fun _ _=> ?_
   refine a0x (a0y hs (by omega)) rfl ?_
   refine a0a ?_
   refine a0e (b:=bit set (Ed es (m:Nat)).1) rfl (fun b1=> ?_) (fun b1=> ?_)
   ·skip
    refine a2U rfl rfl rfl rfl rfl (fun _=>rfl) (fun _=>rfl) (fun _=>rfl) hw hem rfl (fun _=>rfl) (fun _ _=>rfl) fun _ _=> ?_
    refine a0x (a0y hs (by omega)) rfl ?_
    exact a0b rfl ⟨rfl,by refine congrArg Value.bool ?_;rw[Bool.eq_iff_iff,decide_eq_true_iff];exact⟨fun hb=>⟨by omega,by rw[Int.toNat_natCast];omega,b1,hb⟩,fun hk=>hk.2.2.2⟩⟩
   ·skip
    exact a0b rfl ⟨rfl,by rw[decide_eq_false (fun hk:OkI es set (m:Nat)=>by rw[hk.2.2.1]at b1;cases b1)];rfl⟩
  ·replace h2:=of_decide_eq_false h2
   exact a0b rfl ⟨rfl,by rw[decide_eq_false (fun hk:OkI es set i=>by have:=hk.1;have:=hk.2.1;omega)];rfl⟩
 ·replace h:=of_decide_eq_false h
  exact a0b rfl ⟨rfl,by rw[decide_eq_false (fun hk:OkI es set i=>by have:=hk.1;omega)];rfl⟩
theorem a3U (hw:SG H w es) (hg:GV n es) (hu:SI H u t) (ht:∀i∈t,0<=i/\i.toNat<es.length) (hx:x<64):Asks prog 147 [gv n w,u,ii (x:Nat)] H (uv (reach (etl es t) x)):=by
 refine a0j a0n c1v ?_
 have h64:=hg.n64
 have hl:=hu.len
 have hL:=a8i hg ht
 refine a0c (a0G hw) ?_
 refine a0x (a1j hx) rfl ?_
 simp only[cA,nA]
 refine a0A (α:=Nat) (fun r=>[uv (a2I a2c (etl es t) r (2^x)),ii (r:Nat)]) (fun r=>r<=64) (fun r=>64-r) (0) rfl (Nat.zero_le _) fun r hQ=> ?_
 simp only[cA,nA]
 refine a0a ?_
 refine a0e (b:=decide (((r:Nat):Int)<64)) rfl (fun h=> ?_) (fun h=> ?_)
 ·replace h:=of_decide_eq_true h
  have hS:=(a2f (set:=a2c) hL (a0R hx) r).1
  generalize hSe:a2I a2c (etl es t) r (2^x)=S at hS
  refine a0A (α:=Nat) (fun j=>[uv (rnd a2c (etl es (t.take j)) S),ii (j:Nat)]) (fun j=>j<=t.length) (fun j=>t.length-j) (0) rfl (Nat.zero_le _) fun j hQ2=> ?_
  simp only[cA,nA]
  refine a0p el_int hu ?_
  refine a0a ?_
  refine a0a ?_
  refine a0e (b:=decide (((j:Nat):Int)<(t.length:Nat))) rfl (fun h2=> ?_) (fun h2=> ?_)
  ·replace h2:=of_decide_eq_true h2
   have hj':j<t.length:=by omega
   obtain⟨y,hy,hdy⟩:=a0q hj'
   obtain⟨hy1,hy2⟩:=ht y (List.mem_of_getElem? hy)
   obtain⟨m,rfl⟩:∃m:Nat,y=(m:Int):=⟨y.toNat,by omega⟩
   rw[Int.toNat_natCast]at hy2
   have hem:=a7G (es:=es) (m:=m) (by omega)
   have hed:=hg.mem hem
   have hR:=b1a (set:=a2c) (a8i hg (t:=t.take j) fun i hi=>ht i (List.mem_of_mem_take hi)) hS
   have hst:rnd a2c (etl es (t.take (j+1))) S=rst a2c (rnd a2c (etl es (t.take j)) S) (Ed es (m:Nat)):=by rw[take_snoc hy,a3L,a9O]
   rw[b3R (by omega) (by omega),<-Nat.or_assoc]at hst
   generalize rnd a2c (etl es (t.take j)) S=R at hR hst
   refine a0t el_int hu hy fun _=> ?_
   simp only[cA,nA]
   refine a2A rfl rfl rfl rfl rfl (fun _=>rfl) (fun _=>rfl) (fun _=>rfl) hw hem rfl (fun _=>rfl) (fun _ _=>rfl) fun _ _=> ?_
   simp only[cA,nA]
   refine a0t el_int hu hy fun _=> ?_
   simp only[cA,nA]
   refine a2U rfl rfl rfl rfl rfl (fun _=>rfl) (fun _=>rfl) (fun _=>rfl) hw hem rfl (fun _=>rfl) (fun _ _=>rfl) fun _ _=> ?_
   simp only[cA,nA]
   refine a0x (a0y hR (by omega)) rfl ?_
   simp only[cA,nA]
   refine a0a ?_
   refine a0e (b:=bit R (Ed es (m:Nat)).1) rfl (fun b3=> ?_) (fun b3=> ?_)
   ·skip
    refine a0x (a1j (n:=(Ed es (m:Nat)).1) (by omega)) rfl ?_
    simp only[cA,nA]
    refine a0a ?_
    refine a0a ?_
    refine a0x (a1j (n:=(Ed es (m:Nat)).2) (by omega)) rfl ?_
    simp only[cA,nA]
    refine a0a ?_
    exact⟨j+1,by omega,(a0F (by rw[hst,if_pos (by rw[b3];rfl)];exact a4q (a4q rfl rfl hR (a0R (by omega))) rfl (a5i hR (a0R (by omega))) (a0R (by omega))) (a0k rfl (by omega))),⟨by omega,rfl⟩⟩
   ·skip
    refine a0x (a0y hR (by omega)) rfl ?_
    simp only[cA,nA]
    refine a0a ?_
    refine a0e (b:=bit R (Ed es (m:Nat)).2) rfl (fun b4=> ?_) (fun b4=> ?_)
    ·skip
     refine a0x (a1j (n:=(Ed es (m:Nat)).1) (by omega)) rfl ?_
     simp only[cA,nA]
     refine a0a ?_
     refine a0a ?_
     refine a0x (a1j (n:=(Ed es (m:Nat)).2) (by omega)) rfl ?_
     simp only[cA,nA]
     refine a0a ?_
     exact⟨j+1,by omega,(a0F (by rw[hst,if_pos (by rw[b3,b4];rfl)];exact a4q (a4q rfl rfl hR (a0R (by omega))) rfl (a5i hR (a0R (by omega))) (a0R (by omega))) (a0k rfl (by omega))),⟨by omega,rfl⟩⟩
    ·skip
     exact⟨j+1,by omega,(a0F (by rw[hst,if_neg (by rw[b3,b4];decide)];rfl) (a0k rfl (by omega))),⟨by omega,rfl⟩⟩
  ·replace h2:=of_decide_eq_false h2
   have hje:t.take j=t:=List.take_of_length_le (by omega)
   exact⟨r+1,by omega,(a0F (by rw[show a2I a2c (etl es t) (r+1) (2^x)=rnd a2c (etl es t) S from by rw[<-hSe];rfl,hje];rfl) (a0k rfl (by omega))),⟨by omega,rfl⟩⟩
 ·replace h:=of_decide_eq_false h
  have hre:r=64:=by omega
  exact a0b rfl ⟨rfl,by rw[hre];rfl⟩
theorem a8H (hs:set<M64) (h0:set≠0):Asks prog 148 [uv set] H (ii ((els set).headD 64:Nat)):=by
 refine a0j a0n c1w ?_
 obtain⟨x,r,hel,hx,hx64,hlx⟩:=b1c hs h0
 rw[hel]
 refine a0A (α:=Nat) (fun i=>[ii (i:Nat)]) (fun i=>i<=x) (fun i=>x-i) (0) rfl (Nat.zero_le _) fun i hQ=> ?_
 refine a0x (a0y hs (by omega)) rfl ?_
 refine a0a ?_
 refine a0e (b:= !bit set i) rfl (fun h1=> ?_) (fun h1=> ?_)
 ·skip
  have hne:i≠x:=fun e=>by rw[e,hx]at h1;cases h1
  refine a0a ?_
  exact⟨i+1,by omega,(a2S (a0k rfl (by omega))),⟨by omega,rfl⟩⟩
 ·skip
  have he:i=x:=Classical.byContradiction fun e=>by rw[hlx i (by omega)]at h1;cases h1
  exact a0b rfl ⟨rfl,by rw[he];rfl⟩
theorem b6O (hw:SG H w es) (hg:GV n es) (hu:SI H u t) (h0:set≠0/\set<2^n):Con prog 129 [gv n w,uv set,u] H fun r H'=>H'=H/\∃b,r= .bool b/\(b=true↔TreeOk es set t):=by
 refine a0j a0n c1x ?_
 have hl:=hu.len
 have hs:=a0V hg.n64 h0.2
 obtain⟨x,r,hel,hx0,hx64,hlx⟩:=b1c hs h0.1
 refine a0c (a0G hw) ?_
 refine a0A (α:=Nat×Value) (fun⟨i,z⟩=>[z,ii (i:Nat)]) (fun⟨i,z⟩=>i<=t.length/\(∀a∈t.take i,OkI es set a)/\(t.take i).Pairwise (· < ·)/\(∀m a b,i=m+1->t[m]? =some b->a∈t.take i->a<=b)) (fun⟨i,z⟩=>t.length-i) ((0,.bool false)) rfl (⟨Nat.zero_le _,(fun a ha=>by cases ha),List.Pairwise.nil,(fun m a b hm=>by cases hm)⟩) fun⟨i,z⟩ hQ=> ?_
 simp only[cA,nA]
 obtain⟨hi,hok,hpw,hmx⟩:=hQ
 refine a0p el_int hu ?_
 refine a0a ?_
 refine a0a ?_
 refine a0e (b:=decide (((i:Nat):Int)<(t.length:Nat))) rfl (fun h=> ?_) (fun h=> ?_)
 ·replace h:=of_decide_eq_true h
  have hi':i<t.length:=by omega
  obtain⟨y,hy,hdy⟩:=a0q hi'
  have hym:=List.mem_of_getElem? hy
  refine a0t el_int hu hy fun _=> ?_
  simp only[cA,nA]
  refine a0s (a5s hw hg hs y) rfl ?_
  simp only[cA,nA]
  refine a0a ?_
  refine a0e (b:= !decide (OkI es set y)) rfl (fun h2=> ?_) (fun h2=> ?_)
  ·skip
   exact a0b rfl ⟨rfl,false,rfl,(fun hh=>nomatch hh),fun hT=>by rw[decide_eq_true (hT.ok y hym)]at h2;cases h2⟩
  ·skip
   have h2:OkI es set y:=by simpa using h2
   refine a0e (b:=decide (((i:Nat):Int)>0)) rfl (fun h3=> ?_) (fun h3=> ?_)
   ·replace h3:=of_decide_eq_true h3
    obtain⟨m,rfl⟩:∃m,i=m+1:=⟨i-1,by omega⟩
    have hpm:t[m]? =some t[m]:=List.getElem?_eq_getElem (by omega)
    refine a0t el_int hu hy fun _=> ?_
    simp only[cA,nA]
    refine a0I el_int rfl rfl rfl rfl (fun _=>rfl) hu hpm (a0F rfl (by rw[a3s (x:=((m+1:Nat):Int)) (y:=1) rfl rfl (by omega) (by omega)];show ii _=ii _;congr 1;omega)) (fun _=>rfl) fun _=> ?_
    simp only[cA,nA]
    refine a0a ?_
    refine a0a ?_
    refine a0e (b:=decide (y<=t[m])) rfl (fun h4=> ?_) (fun h4=> ?_)
    ·replace h4:=of_decide_eq_true h4
     exact a0b rfl ⟨rfl,false,rfl,(fun hh=>nomatch hh),fun hT=>by have:=d3e hT.asc (List.mem_take_iff_getElem.2 ⟨m,by omega,rfl⟩) hy;omega⟩
    ·replace h4:=of_decide_eq_false h4
     exact⟨(m+1+1,z),by show t.length-(m+1+1)<t.length-(m+1);omega,(a0F rfl (a0k rfl (by omega))),⟨⟨hi',by rw[take_snoc hy];intro a ha;rw[List.mem_append,List.mem_singleton]at ha;rcases ha with ha|rfl;(exact hok a ha);exact h2,by rw[take_snoc hy];exact b2P hpw fun a ha=>by have:=hmx m a _ rfl hpm ha;omega,fun m' a b hm hb ha=>by have hm:m+1+1=m'+1:=hm;have:m'=m+1:=(by omega);subst this;rw[hy]at hb;cases hb;rw[take_snoc hy,List.mem_append,List.mem_singleton]at ha;rcases ha with ha|rfl;(have:=hmx m a _ rfl hpm ha;omega);exact Int.le_refl _⟩,rfl⟩⟩
   ·replace h3:=of_decide_eq_false h3
    have hi0:i=0:=by omega
    subst hi0
    exact⟨(0+1,z),by show t.length-(0+1)<t.length-0;omega,(a0F rfl (a0k rfl (by omega))),⟨⟨hi',by rw[take_snoc hy];intro a ha;rw[List.take_zero,List.nil_append,List.mem_singleton]at ha;subst ha;exact h2,by rw[take_snoc hy,List.take_zero,List.nil_append];exact List.pairwise_singleton _ _,fun m' a b hm hb ha=>by have hm:0+1=m'+1:=hm;have:m'=0:=(by omega);subst this;rw[hy]at hb;cases hb;rw[take_snoc hy,List.take_zero,List.nil_append,List.mem_singleton]at ha;subst ha;exact Int.le_refl _⟩,rfl⟩⟩
 ·replace h:=of_decide_eq_false h
  rw[List.take_of_length_le (by omega)]at hok hpw
  have hc64:=a1G set
  have hin:Inn set (etl es t):=by
   intro e he
   unfold etl at he
   rw[List.mem_map]at he
   obtain⟨i,hi,rfl⟩:=he
   exact(hok i hi).2.2
  refine a0p el_int hu ?_
  refine a0s (a8r hs) rfl ?_
  simp only[cA,nA]
  refine a0a ?_
  refine a0a ?_
  refine a0o (p:=(t.length+1=card set)) (by show Value.bool (((t.length:Nat):Int)==intOf (D prog _ (.op2 .sub .i64 (.v 7) (.k (.int .i64 1)))))=_;rw[a3s (x:=(card set:Nat)) (y:=1) rfl rfl (by omega) (by omega)];show Value.bool (((t.length:Nat):Int)==((card set:Nat):Int)-1)=_;rw[bE];congr 1;apply decide_eq_decide.2;omega) (fun h6=> ?_) fun h6=> ?_
  ·refine a0s (a8H hs h0.1) rfl ?_
   simp only[cA,nA]
   rw[hel]
   refine a0s (a3U hw hg hu (fun i hi=>⟨(hok i hi).1,(hok i hi).2.1⟩) hx64) rfl ?_
   simp only[cA,nA]
   have law:=b8K hs hin hx0 (by rw[show(etl es t).length=t.length from List.length_map _];exact h6)
   rw[show(etl es t).length=t.length from List.length_map _]at law
   refine a0a ?_
   refine a0a ?_
   exact a0b rfl ⟨rfl,decide (reach (etl es t) x=set),by show Value.bool (((reach (etl es t) x:Nat):Int)==((set:Nat):Int))=_;rw[bE];exact congrArg Value.bool (decide_eq_decide.2 (by omega)),fun hb=>⟨hpw,hok,law.2 (of_decide_eq_true hb),h6⟩,fun hT=>decide_eq_true (law.1 hT.acy)⟩
  ·exact a0b rfl ⟨rfl,false,rfl,(fun hh=>nomatch hh),fun hT=>absurd hT.len h6⟩
theorem a8I (hw:SG H w es) (hg:GV n es) (hs:set<M64) (hu:SI H u t):Asks prog 66 [gv n w,uv set,u] H (ii (trE n es set t)):=by
 refine a0j a0n c1y ?_
 refine a0c (a0G hw) ?_
 refine a0s (b6N hw hg hs) rfl ?_
 refine a0a ?_
 refine a0o (p:=(¬(set≠0/\set<2^n))) (by show Value.bool ((if set≠0/\set<2^n then(0:Int)else 2) !=0)=_;by_cases hh:set≠0/\set<2^n;(rw[if_pos hh,decide_eq_false (fun e=>e hh)];rfl);(rw[if_neg hh,decide_eq_true hh];rfl)) (fun h0=> ?_) fun h0=> ?_
 ·exact a0b rfl ⟨rfl,by rw[b8I h0];show ii (if set≠0/\set<2^n then(0:Int)else 2)=_;rw[if_neg h0]⟩
 ·have h0:set≠0/\set<2^n:=Classical.byContradiction h0
  refine a0f (b6O hw hg hu h0) rfl ?_
  rintro _ _ ⟨rfl,b,rfl,hb⟩
  refine⟨fun h=>(nomatch h),?_⟩
  refine a0a ?_
  refine a0e (b:= !b) rfl (fun h2=> ?_) (fun h2=> ?_)
  ·skip
   exact a0b rfl ⟨rfl,by rw[a5F h0 fun hT=>by rw[hb.2 hT]at h2;cases h2];rfl⟩
  ·skip
   exact a0b rfl ⟨rfl,by rw[b3Q h0 (hb.1 (by simpa using h2))];rfl⟩
theorem b6P (hu:SI H u t) (hb:t.length<=1000000) (k:Int):Con prog 146 [u,ii k] H fun r H'=>PH.le H H'/\SI H' r (t.filter fun i=>decide (i≠k)):=by
 refine a0j a0n c1B ?_
 refine a0i (α:=Nat×Value) (fun⟨i,v⟩=>[v,ii (i:Nat)]) (fun⟨i,v⟩=>fun H'=>i<=t.length/\PH.le H H'/\SO H H' 3 1 (fun z:Int=>[ii z]) v ((t.take i).filter fun i=>decide (i≠k))) (fun⟨i,v⟩=>t.length-i) ((0,.slice none 0 0)) rfl (⟨Nat.zero_le _,PH.le.refl _,SO.nil _ _ _ _ _⟩) fun⟨i,v⟩ H' hQ=> ?_
 obtain⟨hi',l1,o1⟩:=hQ
 refine a0p el_int (hu.mono l1) ?_
 refine a0a ?_
 refine a0a ?_
 refine a0e (b:=decide (((i:Nat):Int)<(t.length:Nat))) rfl (fun h=> ?_) (fun h=> ?_)
 ·replace h:=of_decide_eq_true h
  have hi'':i<t.length:=by omega
  obtain⟨x,hx,hdx⟩:=a0q hi''
  have hlen:((t.take i).filter fun i=>decide (i≠k)).length<=i:=Nat.le_trans (List.length_filter_le _ _) (by rw[List.length_take];omega)
  refine a0t el_int (hu.mono l1) hx fun _=> ?_
  refine a0a ?_
  refine a0a ?_
  refine a0o (p:=(x≠k)) (bN _ _) (fun h2=> ?_) fun h2=> ?_
  ·refine a0t el_int (hu.mono l1) hx fun _=> ?_
   refine a0B el_int rfl rfl rfl (fun _=>rfl) (fun _=>rfl) l1 o1 (by omega) rfl (fun _=>rfl) rfl fun q v2 H5 l5 o5=> ?_
   exact⟨(i+1,v2),by show t.length-(i+1)<t.length-i;omega,(a0F rfl (a0k rfl (by omega))),⟨hi'',l5,by rw[take_snoc hx,List.filter_append,List.filter_cons,if_pos (decide_eq_true h2)];exact o5⟩⟩
  ·exact⟨(i+1,v),by show t.length-(i+1)<t.length-i;omega,(a0F rfl (a0k rfl (by omega))),⟨hi'',l1,by rw[take_snoc hx,List.filter_append,List.filter_cons,if_neg (by simpa using h2),List.filter_nil,List.append_nil];exact o1⟩⟩
 ·replace h:=of_decide_eq_false h
  rw[List.take_of_length_le (by omega)]at o1
  exact a0b rfl ⟨l1,o1.se⟩
theorem b3l (hw:SG H w es) (hg:GV n es) (hu:SI H u t) (h0:set≠0/\set<2^n) (ht:TreeOk es set t) (hk:k∈t):a3Z prog 75 [gv n w,uv set,u,ii k] H (.tuple #[uv (a3X es set t k),uv (sdf set (a3X es set t k)),ii 0]):=by
 refine a0j a0n b1E ?_
 have hs:=a0V hg.n64 h0.2
 have hc64:=a1G set
 have htl:=ht.len
 obtain⟨x,r,hel,hx,hx64,hlx⟩:=b1c hs h0.1
 have hsd:a3X es set t k=reach (etl es (t.filter fun i=>decide (i≠k))) x:=by unfold a3X;rw[hel];rfl
 have hval:∀i∈(t.filter fun i=>decide (i≠k)),0<=i/\i.toNat<es.length:=fun i hi=>by have:=ht.ok i (List.mem_filter.1 hi).1;exact⟨this.1,this.2.1⟩
 have hcl:=a2n (a8i hg hval) hx64
 have hflt:(t.filter fun i=>decide (i≠k)).length<t.length:=List.length_filter_lt_length_iff_exists.2 ⟨k,hk,by simp⟩
 refine a0c (a0G hw) ?_
 refine a0s (a8I hw hg hs hu) rfl ?_
 simp only[cA,nA]
 rw[b3Q h0 ht]
 refine a0a ?_
 refine a0l (bF (p:=(0:Int)≠0) (by simp)) ?_
 refine a0f (b6P hu (by omega) k) rfl ?_
 rintro z H1 ⟨l1,hz⟩
 refine⟨fun h=>(nomatch h),?_⟩
 simp only[cA,nA]
 refine a0p el_int hz ?_
 refine a0p el_int (hu.mono l1) ?_
 refine a0a ?_
 refine a0a ?_
 refine a0l (by show Value.bool ((((t.filter fun i=>decide (i≠k)).length:Nat):Int)==((t.length:Nat):Int))=_;rw[bE];exact congrArg Value.bool (decide_eq_false (by omega))) ?_
 refine a0s (a8H hs h0.1) rfl ?_
 simp only[cA,nA]
 rw[hel]
 refine a0s (a3U (hw.mono l1) hg hz hval hx64) rfl ?_
 simp only[cA,nA]
 have hsub:=b3S hs h0.1 ht k
 rw[hsd]at hsub
 refine a0a ?_
 refine a0a ?_
 exact a0b rfl ⟨l1,by rw[hsd,<-d0c hs hsub];show Value.tuple #[_,D prog _ (.op2 .sub .u64 (.v 1) (.v 9)),_]=_;rw[a8c rfl rfl hs (sub_le hsub)];rfl⟩
end
end Go.Proofs.YtkcjbfoejpfbbaaGreatDoor

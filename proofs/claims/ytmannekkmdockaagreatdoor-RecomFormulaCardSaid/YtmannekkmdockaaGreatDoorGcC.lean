/- Chapter 32: trees, part 2. -/
import Derived.Test.YtmannekkmdockaaGreatDoorGyB
import Derived.Test.YtmannekkmdockaaGreatDoorGsK
import Derived.Test.YtmannekkmdockaaGreatDoorGmT
namespace Go.Proofs.YtmannekkmdockaaGreatDoor
open Go.Proofs.Tryz
open Go.RowKit Go.RX Go.GS
section
variable {H H0:PH} {u v w wts:Value} {p wl t:List Int} {n:Nat} {es:List (Nat×Nat)} {lo hi ds but:Int} {set x:Nat}
theorem b1Y (hw:SG H w es) (hg:GV n es) (hs:set<M64) (hu:SI H u t):a3y prog 83 [gv n w,uv set,u] H (ii (trE n es set t)):=by
 refine a0b mixed c9g (by kernel_rfl) rfl ?_
 have h64:=hg.n64
 have hl:=hu.len
 refine a0a (a0S hw) ?_
 refine a0q (b5f hw hg hs) rfl fun H1 l1=> ?_
 simp only[cA,nA]
 refine a0a ⟨_,rfl⟩ ?_
 refine a0e (b:=decide (¬(set≠0/\set<2^n))) (by show Value.bool ((if set≠0/\set<2^n then(0:Int)else 2) !=0)=_;by_cases hh:set≠0/\set<2^n;(rw[if_pos hh,decide_eq_false (fun e=>e hh)];rfl);(rw[if_neg hh,decide_eq_true hh];rfl)) (fun h0=> ?_) (fun h0=> ?_)
 ·replace h0:=of_decide_eq_true h0
  exact a0c rfl ⟨l1,by rw[c9r h0];show ii (if set≠0/\set<2^n then(0:Int)else 2)=_;rw[if_neg h0]⟩
 ·replace h0:=of_decide_eq_false h0
  have h0:set≠0/\set<2^n:=Classical.byContradiction h0
  refine a0d (b5b (H:=H1)) rfl ?_
  rintro _ H2 ⟨l2,v,rfl,o2⟩
  refine⟨fun h=>(nomatch h),?_⟩
  simp only[cA,nA]
  refine a0a ⟨rfl,fun c hc=>by have hc:c∈[v]:=hc;rw[List.mem_singleton]at hc;subst hc;exact a0A o2.se⟩ ?_
  have hu1:=hu.mono l1
  have hw1:=hw.mono l1
  refine a0g el_int rfl rfl (hu1.mono l2) rfl ?_
  refine a0k (α:=Nat×Int×Int×List Nat) (fun⟨i,last,z,q⟩=>[ii z,ii last,ii (i:Nat)]) (fun⟨i,last,z,q⟩=>fun H'=>i<=t.length/\PH.le H1 H'/\PO H1 H' v q/\Par q (lab (etl es (t.take i)))/\(last= -1\/last∈t.take i)/\(∀a∈t.take i,a<=last)/\ -1<=last/\(t.take i).Pairwise (· < ·)/\(∀a∈t.take i,OkI es set a)/\Acy (etl es (t.take i)) (etl es (t.take i)).length) (fun⟨i,last,z,q⟩=>t.length-i) ((0,-1,0,List.range 64)) rfl (⟨Nat.zero_le _,l2,o2,Par.id,.inl rfl,(fun a ha=>by cases ha),Int.le_refl _,List.Pairwise.nil,(fun a ha=>by cases ha),(fun i e hi=>by cases hi)⟩) fun⟨i,last,z,q⟩ H' hQ=> ?_
  simp only[cA,nA]
  obtain⟨hi,l3,o3,hP,hla,hal,hl1,hpw,hok,hac⟩:=hQ
  refine a0a ⟨_,rfl⟩ ?_
  refine a0a ⟨_,rfl⟩ ?_
  refine a0e (b:=decide (((i:Nat):Int)<(t.length:Nat))) rfl (fun h=> ?_) (fun h=> ?_)
  ·replace h:=of_decide_eq_true h
   have hi':i<t.length:=by omega
   obtain⟨x,hx,hdx⟩:=a0u hi'
   have hxm:=List.mem_of_getElem? hx
   refine a0i el_int rfl rfl rfl rfl (fun _=>rfl) (hu1.mono l3) hx rfl (fun _=>rfl) fun _=> ?_
   simp only[cA,nA]
   refine a0a ⟨_,rfl⟩ ?_
   refine a0a ⟨_,rfl⟩ ?_
   refine a0e (b:=decide (x<=last)) rfl (fun h2=> ?_) (fun h2=> ?_)
   ·replace h2:=of_decide_eq_true h2
    exact a0c rfl ⟨l1.trans l3,by rw[b1X h0 fun hT=>by rcases hla with hla|hla;(have:=(hT.ok x hxm).1;omega);(have:=d5s hT.asc hla hx;omega)];rfl⟩
   ·replace h2:=of_decide_eq_false h2
    obtain⟨m,rfl⟩:∃m:Nat,x=(m:Int):=⟨x.toNat,by omega⟩
    refine a0g el_edge rfl rfl (hw1.mono l3) rfl ?_
    refine a0a ⟨_,rfl⟩ ?_
    refine a0e (b:=decide (((m:Nat):Int)≥(es.length:Nat))) rfl (fun h3=> ?_) (fun h3=> ?_)
    ·replace h3:=of_decide_eq_true h3
     exact a0c rfl ⟨l1.trans l3,by rw[b1X h0 fun hT=>by have:=(hT.ok _ hxm).2.1;rw[Int.toNat_natCast]at this;omega];rfl⟩
    ·replace h3:=of_decide_eq_false h3
     have hem:=a3K (es:=es) (m:=m) (by omega)
     have hed:=hg.mem hem
     refine a0i el_edge rfl rfl rfl rfl (fun _=>rfl) (hw1.mono l3) hem rfl (fun _=>rfl) fun _=> ?_
     simp only[cA,nA]
     refine a0I (b5e hs (by omega) (by omega)) rfl ?_
     simp only[cA,nA]
     refine a0a ⟨_,rfl⟩ ?_
     refine a0e (b:= !(bit set (Ed es (m:Nat)).1&&bit set (Ed es (m:Nat)).2)) rfl (fun h4=> ?_) (fun h4=> ?_)
     ·skip
      exact a0c rfl ⟨l1.trans l3,by rw[b1X h0 fun hT=>by have:=hT.ok _ hxm;simp[this.2.2.1,this.2.2.2]at h4];rfl⟩
     ·skip
      have h4:bit set (Ed es (m:Nat)).1=true/\bit set (Ed es (m:Nat)).2=true:=by simpa using h4
      refine a0i el_edge rfl rfl rfl rfl (fun _=>rfl) (hw1.mono l3) hem rfl (fun _=>rfl) fun _=> ?_
      simp only[cA,nA]
      refine a0d (b5d l3 o3 hP (by omega) (by omega)) rfl ?_
      rintro _ H4 ⟨rfl,l4,q4,o4,hP4⟩
      refine⟨fun h=>(nomatch h),?_⟩
      simp only[cA,nA]
      refine a0a ⟨_,rfl⟩ ?_
      refine a0e (b:=decide (¬(lab (etl es (t.take i)) (Ed es (m:Nat)).1≠lab (etl es (t.take i)) (Ed es (m:Nat)).2))) (by show Value.bool (!decide _)=_;congr 1;rw[Bool.eq_iff_iff];simp) (fun h5=> ?_) (fun h5=> ?_)
      ·replace h5:=of_decide_eq_true h5
       exact a0c rfl ⟨l1.trans l4,by rw[b1X h0 fun hT=>by have:=hT.acy i _ hi' (c0j hx);rw[b5i]at this;exact h5 this];rfl⟩
      ·replace h5:=of_decide_eq_false h5
       have h5:=Classical.byContradiction h5
       exact⟨(i+1,(m:Int),z,q4),by show t.length-(i+1)<t.length-i;omega,(a8k rfl rfl (a0r rfl (by omega))),⟨hi',l4,o4,by rw[take_snoc hx,a2A,a3m];exact hP4,.inr (by rw[take_snoc hx];simp),by rw[take_snoc hx];intro a ha;rw[List.mem_append,List.mem_singleton]at ha;rcases ha with ha|rfl;(have:=hal a ha;show a<=(m:Int);omega);(exact Int.le_refl _),by show -1<=(m:Int);omega,by rw[take_snoc hx];exact b3x hpw fun a ha=>by have:=hal a ha;omega,by rw[take_snoc hx];intro a ha;rw[List.mem_append,List.mem_singleton]at ha;rcases ha with ha|rfl;(exact hok a ha);exact⟨by omega,by rw[Int.toNat_natCast];omega,h4⟩,by rw[take_snoc hx,a2A];have:=hac.snoc h5;rw[List.length_append];exact this⟩⟩
  ·replace h:=of_decide_eq_false h
   have he:i=t.length:=by omega
   rw[List.take_of_length_le (by omega)]at hpw hok hac
   rw[show(etl es t).length=t.length from List.length_map _]at hac
   refine a0g el_int rfl rfl (hu1.mono l3) rfl ?_
   refine a0s (c3M hs) rfl ?_
   simp only[cA,nA]
   have hc64:=a1W set
   refine a0a ⟨_,rfl⟩ ?_
   refine a0a ⟨_,rfl⟩ ?_
   refine a0e (b:=decide (¬t.length+1=card set)) (by show Value.bool (((t.length:Nat):Int) !=intOf (D prog _ (.op2 .sub .i64 (.v 10) (.k (.int .i64 1)))))=_;rw[b4O (x:=(card set:Nat)) (y:=1) rfl rfl (by omega) (by omega)];show Value.bool (((t.length:Nat):Int) !=((card set:Nat):Int)-1)=_;rw[bN];congr 1;apply decide_eq_decide.2;omega) (fun h6=> ?_) (fun h6=> ?_)
   ·replace h6:=of_decide_eq_true h6
    exact a0c rfl ⟨l1.trans l3,by rw[b1X h0 fun hT=>h6 hT.len];rfl⟩
   ·replace h6:=of_decide_eq_false h6
    exact a0c rfl ⟨l1.trans l3,by rw[b5h h0 ⟨hpw,hok,hac,Classical.byContradiction h6⟩];rfl⟩
def etb (es:List (Nat×Nat)) (t:List Int) (but:Int):List (Nat×Nat):=etl es (t.filter fun i=>decide (i≠but))
theorem c4s (hw:SG H w es) (hg:GV n es) (hu:SI H u t) (ht:∀i∈t,0<=i/\i.toNat<es.length) (hx:x<64):Asks prog 189 [gv n w,u,ii but,ii (x:Nat)] H (uv (a7H (etb es t but) x)):=by
 refine a0b mixed c9h (by kernel_rfl) rfl ?_
 have h64:=hg.n64
 have hl:=hu.len
 have hL:∀e∈etb es t but,e.1<64/\e.2<64:=by
  intro e he
  unfold etb etl at he
  rw[List.mem_map]at he
  obtain⟨i,hi,rfl⟩:=he
  obtain⟨h1,h2⟩:=ht i (List.mem_filter.1 hi).1
  have:=a3K (es:=es) h2
  rw[Int.toNat_of_nonneg h1]at this
  have:=hg.mem this
  omega
 refine a0a (a0S hw) ?_
 refine a0a ⟨_,_,rfl⟩ ?_
 refine a0a (by show(0:Int)<=((x:Nat):Int);omega) ?_
 refine a0E (α:=Nat×Bool) (fun⟨r,more⟩=>[uv (a2J a1r (etb es t but) r (2^x)),.bool more]) (fun⟨r,more⟩=>more=false->Clo a1r (etb es t but) (a2J a1r (etb es t but) r (2^x))) (fun⟨r,more⟩=>if more then 66-card (a2J a1r (etb es t but) r (2^x))else 0) ((0,true)) (a1l (a5B rfl hx) rfl) ((fun h=>nomatch h)) fun⟨r,more⟩ hQ=> ?_
 simp only[cA,nA]
 refine a0a ⟨_,rfl⟩ ?_
 refine a0e (b:=more) rfl (fun hm=> ?_) (fun hm=> ?_)
 ·skip
  subst hm
  have hS:=(a1z (set:=a1r) hL (a0P hx) r).1
  generalize hSe:a2J a1r (etb es t but) r (2^x)=S at hS
  refine a0g el_int rfl rfl hu rfl ?_
  refine a0E (α:=Nat×Bool) (fun⟨j,mo⟩=>[uv (rnd a1r (etb es (t.take j) but) S),.bool mo,ii (j:Nat)]) (fun⟨j,mo⟩=>j<=t.length/\(mo=false↔rnd a1r (etb es (t.take j) but) S=S)) (fun⟨j,mo⟩=>t.length-j) ((0,false)) rfl (⟨Nat.zero_le _,fun _=>rfl,fun _=>rfl⟩) fun⟨j,mo⟩ hQ2=> ?_
  simp only[cA,nA]
  obtain⟨hj,hmo⟩:=hQ2
  refine a0a ⟨_,rfl⟩ ?_
  refine a0a ⟨_,rfl⟩ ?_
  refine a0e (b:=decide (((j:Nat):Int)<(t.length:Nat))) rfl (fun h2=> ?_) (fun h2=> ?_)
  ·replace h2:=of_decide_eq_true h2
   have hj':j<t.length:=by omega
   obtain⟨y,hy,hdy⟩:=a0u hj'
   obtain⟨hy1,hy2⟩:=ht y (List.mem_of_getElem? hy)
   obtain⟨m,rfl⟩:∃m:Nat,y=(m:Int):=⟨y.toNat,by omega⟩
   rw[Int.toNat_natCast]at hy2
   have hem:=a3K (es:=es) (m:=m) (by omega)
   have hed:=hg.mem hem
   have hLj:∀e∈etb es (t.take j) but,e.1<64/\e.2<64:=by
    intro e he
    apply hL
    unfold etb etl at he⊢
    rw[List.mem_map]at he⊢
    obtain⟨i,hi,rfl⟩:=he
    rw[List.mem_filter]at hi
    exact⟨i,List.mem_filter.2 ⟨List.mem_of_mem_take hi.1,hi.2⟩,rfl⟩
   have hR:=b1R (set:=a1r) hLj hS
   have hRm:∀y,bit S y=true->bit (rnd a1r (etb es (t.take j) but) S) y=true:=fun y hy=>a2z hy
   have hst:rnd a1r (etb es (t.take (j+1)) but) S=if(m:Int)≠but then rst a1r (rnd a1r (etb es (t.take j) but) S) (Ed es (m:Nat))else rnd a1r (etb es (t.take j) but) S:=by
    rw[take_snoc hy];unfold etb;rw[List.filter_append,List.filter_cons]
    by_cases hb:(m:Int)≠but
    ·rw[if_pos (by simpa using hb),if_pos hb,List.filter_nil,a2A,b0m]
    ·rw[if_neg (by simpa using hb),if_neg hb,List.filter_nil,List.append_nil]
   rw[a6y (by omega) (by omega)]at hst
   generalize hRe:rnd a1r (etb es (t.take j) but) S=R at hR hst hmo hRm
   refine a0i el_int rfl rfl rfl rfl (fun _=>rfl) hu hy rfl (fun _=>rfl) fun _=> ?_
   simp only[cA,nA]
   refine a5H rfl rfl rfl rfl rfl (fun _=>rfl) (fun _=>rfl) (fun _=>rfl) hw hem rfl (fun _=>rfl) (fun _ _=>rfl) fun _ _=> ?_
   simp only[cA,nA]
   refine a0a ⟨_,_,rfl⟩ ?_
   refine a0a (by show(0:Int)<=(((Ed es (m:Nat)).1:Nat):Int);omega) ?_
   refine a5I rfl rfl rfl rfl rfl (fun _=>rfl) (fun _=>rfl) (fun _=>rfl) hw hem rfl (fun _=>rfl) (fun _ _=>rfl) fun _ _=> ?_
   simp only[cA,nA]
   refine a0a ⟨_,_,rfl⟩ ?_
   refine a0a (by show(0:Int)<=(((Ed es (m:Nat)).2:Nat):Int);omega) ?_
   have pa:2^(Ed es (m:Nat)).1<M64:=a0P (by omega)
   have pb:2^(Ed es (m:Nat)).2<M64:=a0P (by omega)
   refine a0a ⟨_,rfl⟩ ?_
   refine a0a ⟨_,rfl⟩ ?_
   refine a0e (b:=decide ((m:Int)≠but)) (bN _ _) (fun h3=> ?_) (fun h3=> ?_)
   ·replace h3:=of_decide_eq_true h3
    rw[if_pos h3]at hst
    refine a0a ⟨_,rfl⟩ ?_
    refine a0e (b:=decide (¬R&&&(2^(Ed es (m:Nat)).1|||2^(Ed es (m:Nat)).2)=0)) (by show Value.bool (intOf (D prog _ (.op2 .and .u64 (.v 7) (.op2 .or .u64 (.op2 .shl .u64 (.k (.int .u64 1)) (.v 14)) (.op2 .shl .u64 (.k (.int .u64 1)) (.v 17))))) !=0)=_;rw[a4A rfl (a8o (a5B rfl (by omega)) (a5B rfl (by omega)) pa pb) hR (a5A pa pb)];exact bN0 _) (fun h4=> ?_) (fun h4=> ?_)
    ·replace h4:=of_decide_eq_true h4
     rw[or_zero]at h4
     have h4':(bit R (Ed es (m:Nat)).1||bit R (Ed es (m:Nat)).2)=true:=by
      cases c1:bit R (Ed es (m:Nat)).1<;>cases c2:bit R (Ed es (m:Nat)).2<;>first|rfl|exact absurd ⟨c1,c2⟩ h4
     rw[if_pos h4']at hst
     refine a0e (b:=decide (¬R&&&(2^(Ed es (m:Nat)).1|||2^(Ed es (m:Nat)).2)=2^(Ed es (m:Nat)).1|||2^(Ed es (m:Nat)).2)) (by show Value.bool (intOf (D prog _ (.op2 .and .u64 (.v 7) (.op2 .or .u64 (.op2 .shl .u64 (.k (.int .u64 1)) (.v 14)) (.op2 .shl .u64 (.k (.int .u64 1)) (.v 17))))) !=intOf (D prog _ (.op2 .or .u64 (.op2 .shl .u64 (.k (.int .u64 1)) (.v 14)) (.op2 .shl .u64 (.k (.int .u64 1)) (.v 17)))))=_;rw[a4A rfl (a8o (a5B rfl (by omega)) (a5B rfl (by omega)) pa pb) hR (a5A pa pb),a8o (a5B rfl (by omega)) (a5B rfl (by omega)) pa pb];refine(bN _ _).trans (congrArg Value.bool (decide_eq_decide.2 ?_));show ¬((_:Nat):Int)=((_:Nat):Int)↔_;rw[Int.natCast_inj]) (fun h5=> ?_) (fun h5=> ?_)
     ·replace h5:=of_decide_eq_true h5
      rw[c6w]at h5
      exact⟨(j+1,true),by show t.length-(j+1)<t.length-j;omega,(a8k (by show _=uv (rnd a1r (etb es (t.take (j+1)) but) S);rw[hst];exact a8o rfl (a8o (a5B rfl (by omega)) (a5B rfl (by omega)) pa pb) hR (a5A pa pb)) rfl (a0r rfl (by omega))),⟨⟨hj',(fun h=>nomatch h),fun hh=>absurd (by rw[hst]at hh;have a1:bit S (Ed es (m:Nat)).1=true:=by{rw[<-hh,a0F,a0F,a0z];simp};have a2:bit S (Ed es (m:Nat)).2=true:=by{rw[<-hh,a0F,a0F,a0z,a0z];simp};exact⟨hRm _ a1,hRm _ a2⟩) h5⟩,rfl⟩⟩
     ·replace h5:=of_decide_eq_false h5
      have h5:=Classical.byContradiction h5
      rw[c6w]at h5
      rw[c9s h5.1 h5.2]at hst
      exact⟨(j+1,mo),by show t.length-(j+1)<t.length-j;omega,(a8k (by show _=uv (rnd a1r (etb es (t.take (j+1)) but) S);rw[hst];rfl) rfl (a0r rfl (by omega))),⟨⟨hj',by rw[hst];exact hmo⟩,rfl⟩⟩
    ·replace h4:=of_decide_eq_false h4
     have h4:=Classical.byContradiction h4
     rw[or_zero]at h4
     rw[if_neg (by rw[h4.1,h4.2];simp)]at hst
     exact⟨(j+1,mo),by show t.length-(j+1)<t.length-j;omega,(a8k (by show _=uv (rnd a1r (etb es (t.take (j+1)) but) S);rw[hst];rfl) rfl (a0r rfl (by omega))),⟨⟨hj',by rw[hst];exact hmo⟩,rfl⟩⟩
   ·replace h3:=of_decide_eq_false h3
    rw[if_neg h3]at hst
    exact⟨(j+1,mo),by show t.length-(j+1)<t.length-j;omega,(a8k (by show _=uv (rnd a1r (etb es (t.take (j+1)) but) S);rw[hst];rfl) rfl (a0r rfl (by omega))),⟨⟨hj',by rw[hst];exact hmo⟩,rfl⟩⟩
  ·replace h2:=of_decide_eq_false h2
   have hje:t.take j=t:=List.take_of_length_le (by omega)
   have hnx:rnd a1r (etb es (t.take j) but) S=a2J a1r (etb es t but) (r+1) (2^x):=by rw[hje,<-hSe];rfl
   have hSr:a2J a1r (etb es t but) (r+1) (2^x)<M64:=(a1z (set:=a1r) hL (a0P hx) (r+1)).1
   rw[hnx]at hmo
   have hms:(if mo then 66-card (a2J a1r (etb es t but) (r+1) (2^x))else 0)<66-card S:=by
    have hc:=a1W S
    cases mo with
    |false=>rw[if_neg (by decide)];omega
    |true=>
     have hne:S≠a2J a1r (etb es t but) (r+1) (2^x):=fun e=>by have:=hmo.2 e.symm;cases this
     have hsub:∀y,bit S y=true->bit (a2J a1r (etb es t but) (r+1) (2^x)) y=true:=fun y hy=>by rw[<-hnx];exact a2z hy
     obtain⟨z,hz1,hz2⟩:=b1Q hne hsub
     have:=b0e hsub hz1 hz2 (a1q hSr hz1)
     have:=a1W (a2J a1r (etb es t but) (r+1) (2^x))
     rw[if_pos rfl];omega
   exact⟨(r+1,mo),by refine Nat.lt_of_lt_of_eq hms (Eq.symm (if_pos ?_));simp,(a1l (by show _=uv (a2J a1r (etb es t but) (r+1) (2^x));rw[<-hnx];rfl) rfl),⟨fun hmf=>by have e:=hmo.1 hmf;rw[e];refine b3u (L:=etb es t but) ?_;rw[hje]at hnx;rw[hnx,e],rfl⟩⟩
 ·skip
  exact a0c rfl ⟨rfl,by rw[<-c0k hL hx (hQ hm)];rfl⟩
end
end Go.Proofs.YtmannekkmdockaaGreatDoor
/- Spanning trees, part 2. -/
namespace Go.GS
theorem sub_le {a b:Nat} (h:∀y,bit b y=true->bit a y=true):b<=a:=by
 have:b=a&&&b:=a0G fun y=>by
  rw[a3i]
  cases hb:bit b y with
  |false=>simp
  |true=>simp[h y hb]
 rw[this];exact Nat.and_le_left
instance (es:List (Nat×Nat)) (set:Nat) (i:Int):Decidable (OkI es set i):=inferInstanceAs (Decidable (_/\_/\_/\_))
theorem a8S {n:Nat} {es:List (Nat×Nat)} (hg:GV n es) {t:List Int} (ht:∀i∈t,0<=i/\i.toNat<es.length):∀e∈etl es t,e.1<64/\e.2<64:=by
 intro e he
 have h64:=hg.n64
 unfold etl at he
 rw[List.mem_map]at he
 obtain⟨i,hi,rfl⟩:=he
 obtain⟨h1,h2⟩:=ht i hi
 have:=a3K (es:=es) h2
 rw[Int.toNat_of_nonneg h1]at this
 have:=hg.mem this
 omega
theorem c0l {L:List (Nat×Nat)} {set x:Nat} (hs:set<M64) (h:Inn set L) (hx:bit set x=true):∀y,bit (a7H L x) y=true->bit set y=true:=by
 have hL:∀e∈L,e.1<64/\e.2<64:=fun e he=>⟨a1q hs (h e he).1,a1q hs (h e he).2⟩
 intro y hy
 have hr:=((a2C hL (a1q hs hx)).2 y).1 hy
 rw[a5d hs h hx]at hr
 exact hr.mem hx
theorem b3y {set:Nat} (hs:set<M64) (h0:set≠0):∃x r,els set=x::r/\bit set x=true/\x<64/\∀j,j<x->bit set j=false:=by
 cases h:els set with
 |nil=>exact absurd (a7t hs h) h0
 |cons x r=>obtain⟨h1,h2,h3⟩:=a4T h;exact⟨x,r,rfl,h1,h2,h3⟩
def a2K (es:List (Nat×Nat)) (set:Nat) (t:List Int) (k:Int):Nat:=a7H (etl es (t.filter fun i=>decide (i≠k))) ((els set).headD 64)
noncomputable def c0m (es:List (Nat×Nat)) (wl:List Int) (lo hi:Int) (set:Nat) (t l:List Int):List Int:=l.filter fun k=>alB es wl lo hi (a2K es set t k)&&alB es wl lo hi (sdf set (a2K es set t k))
theorem b0n {es:List (Nat×Nat)} {set:Nat} {t:List Int} (hs:set<M64) (h0:set≠0) (ht:TreeOk es set t) (k:Int):∀y,bit (a2K es set t k) y=true->bit set y=true:=by
 obtain⟨x,r,hel,hx,_⟩:=b3y hs h0
 unfold a2K
 rw[hel]
 refine c0l hs (fun e he=>ht.inn e ?_) hx
 unfold etl at he⊢
 rw[List.mem_map]at he⊢
 obtain⟨i,hi,rfl⟩:=he
 exact⟨i,(List.mem_filter.1 hi).1,rfl⟩
theorem a7I {a b n:Nat} (hb:b<2^n) (h:∀y,bit a y=true->bit b y=true):a<2^n:=Nat.lt_of_le_of_lt (sub_le h) hb
end Go.GS
/- Chapter 32: balanced edges, on both sides. -/
namespace Go.Proofs.YtmannekkmdockaaGreatDoor
open Go.Proofs.Tryz
open Go.RowKit Go.RX Go.GS
section
variable {H H0:PH} {u v w wts:Value} {p wl t:List Int} {n:Nat} {es:List (Nat×Nat)} {lo hi ds k:Int} {set x:Nat}
theorem c0n (hT:Tb H) (hw:SG H w es) (hg:GV n es) (hu:SI H u t) (h0:set≠0/\set<2^n) (ht:TreeOk es set t) (hk:k∈t):a3y prog 114 [gv n w,uv set,u,ii k] H (.tuple #[uv (a2K es set t k),uv (sdf set (a2K es set t k)),ii 0]):=by
 refine a0b mixed c9i (by kernel_rfl) rfl ?_
 have hs:=a1g hg.n64 h0.2
 obtain⟨x,r,hel,hx,hx64,hlx⟩:=b3y hs h0.1
 have hsd:a2K es set t k=a7H (etb es t k) x:=by unfold a2K;rw[hel];rfl
 have hcl:=a2C (L:=etb es t k) (x:=x) (a8S hg fun i hi=>by have:=ht.ok i (List.mem_filter.1 hi).1;exact⟨this.1,this.2.1⟩) hx64
 refine a0a (a0S hw) ?_
 refine a0q (b1Y hw hg hs hu) rfl fun H1 l1=> ?_
 simp only[cA,nA]
 rw[b5h h0 ht]
 refine a0a ⟨_,rfl⟩ ?_
 refine a0j (bF (p:=(0:Int)≠0) (by simp)) ?_
 refine a0I (c8J (hu.mono l1) k) rfl ?_
 simp only[cA,nA]
 refine a0a ⟨_,rfl⟩ ?_
 refine a0j (by show Value.bool (!t.contains k)=_;rw[List.contains_iff_mem.2 hk];rfl) ?_
 refine a0I (b4K (hT.mono l1) hs) rfl ?_
 simp only[cA,nA]
 rw[show tz set=x from by simp[tz,hel]]
 refine a0I (c4s (hw.mono l1) hg (hu.mono l1) (fun i hi=>⟨(ht.ok i hi).1,(ht.ok i hi).2.1⟩) hx64) rfl ?_
 simp only[cA,nA]
 refine a0a ⟨_,rfl⟩ ?_
 refine a0a ⟨_,rfl⟩ ?_
 exact a0c rfl ⟨l1,by rw[hsd];show Value.tuple #[_,D prog _ (.op2 .andNot .u64 (.v 1) (.v 7)),_]=_;rw[a8M rfl rfl hs hcl.1];rfl⟩
theorem c4t (hc:Chn H n w wts es wl) (hu:SI H u t) (h0:set≠0/\set<2^n) (ht:TreeOk es set t):Con prog 84 [chv wts lo hi ds n w,uv set,u] H fun r H'=>PH.le H H'/\SI H' r (c0m es wl lo hi set t t):=by
 refine a0b mixed c8O (by kernel_rfl) rfl ?_
 have hl:=hu.len
 have hs:=a1g hc.ok.n64 h0.2
 have hc64:=a1W set
 have htl:=ht.len
 refine a0a (a5E (a0A hc.wt) (a0A hc.gr) _ _ _ _) ?_
 refine a0g el_int rfl rfl hu rfl ?_
 refine a0k (α:=Nat×Value) (fun⟨i,v⟩=>[v,ii (i:Nat)]) (fun⟨i,v⟩=>fun H'=>i<=t.length/\PH.le H H'/\SO H H' 3 1 (fun z:Int=>[ii z]) v (c0m es wl lo hi set t (t.take i))) (fun⟨i,v⟩=>t.length-i) ((0,.slice none 0 0)) rfl (⟨Nat.zero_le _,PH.le.refl _,SO.nil _ _ _ _ _⟩) fun⟨i,v⟩ H' hQ=> ?_
 simp only[cA,nA]
 obtain⟨hi',l1,o1⟩:=hQ
 refine a0a ⟨_,rfl⟩ ?_
 refine a0a ⟨_,rfl⟩ ?_
 refine a0e (b:=decide (((i:Nat):Int)<(t.length:Nat))) rfl (fun h=> ?_) (fun h=> ?_)
 ·replace h:=of_decide_eq_true h
  have hi'':i<t.length:=by omega
  obtain⟨x,hx,hdx⟩:=a0u hi''
  have hlen:(c0m es wl lo hi set t (t.take i)).length<=i:=Nat.le_trans (List.length_filter_le _ _) (by rw[List.length_take];omega)
  have hsub:=b0n hs h0.1 ht x
  have hA:=a7I h0.2 hsub
  have hB:sdf set (a2K es set t x)<2^n:=a7I h0.2 fun y hy=>by rw[a0y,Bool.and_eq_true]at hy;exact hy.1
  have hst:c0m es wl lo hi set t (t.take (i+1))=if alB es wl lo hi (a2K es set t x)&&alB es wl lo hi (sdf set (a2K es set t x))then c0m es wl lo hi set t (t.take i)++[x]else c0m es wl lo hi set t (t.take i):=by
   rw[take_snoc hx];unfold c0m;rw[List.filter_append,List.filter_cons,List.filter_nil]
   split
   ·rfl
   ·rw[List.append_nil]
  refine a0i el_int rfl rfl rfl rfl (fun _=>rfl) (hu.mono l1) hx rfl (fun _=>rfl) fun _=> ?_
  simp only[cA,nA]
  refine a0q (c0n (k:=x) (hc.tb.mono l1) (hc.gr.mono l1) hc.ok (hu.mono l1) h0 ht (List.mem_of_getElem? hx)) rfl fun H2 l2=> ?_
  simp only[cA,nA]
  refine a0a ⟨_,rfl,by simp⟩ ?_
  refine a0a ⟨_,rfl,by simp⟩ ?_
  refine a0a ⟨_,rfl,by simp⟩ ?_
  refine a0q (a3H (lo:=lo) (hi:=hi) (ds:=ds) (hc.mono (l1.trans l2)) hA) rfl fun H3 l3=> ?_
  simp only[cA,nA]
  refine a0a ⟨_,rfl⟩ ?_
  refine a0e (b:=alB es wl lo hi (a2K es set t x)) rfl (fun b1=> ?_) (fun b1=> ?_)
  ·skip
   refine a0q (a3H (lo:=lo) (hi:=hi) (ds:=ds) (hc.mono ((l1.trans l2).trans l3)) hB) rfl fun H4 l4=> ?_
   simp only[cA,nA]
   refine a0a ⟨_,rfl⟩ ?_
   refine a0e (b:=alB es wl lo hi (sdf set (a2K es set t x))) rfl (fun b2=> ?_) (fun b2=> ?_)
   ·skip
    refine a2o el_int rfl rfl rfl (fun _=>rfl) (fun _=>rfl) (((l1.trans l2).trans l3).trans l4) (o1.mono ((l2.trans l3).trans l4)) (by omega) rfl (fun _=>rfl) rfl fun q v2 H5 l5 o5=> ?_
    simp only[cA,nA]
    exact⟨(i+1,v2),by show t.length-(i+1)<t.length-i;omega,(a1l rfl (a0r rfl (by omega))),⟨hi'',l5,by rw[hst,b1,b2];exact o5⟩⟩
   ·skip
    exact⟨(i+1,v),by show t.length-(i+1)<t.length-i;omega,(a1l rfl (a0r rfl (by omega))),⟨hi'',((l1.trans l2).trans l3).trans l4,by rw[hst,b1,b2];exact o1.mono ((l2.trans l3).trans l4)⟩⟩
  ·skip
   exact⟨(i+1,v),by show t.length-(i+1)<t.length-i;omega,(a1l rfl (a0r rfl (by omega))),⟨hi'',(l1.trans l2).trans l3,by rw[hst,b1];exact o1.mono (l2.trans l3)⟩⟩
 ·replace h:=of_decide_eq_false h
  rw[List.take_of_length_le (by omega)]at o1
  exact a0c rfl ⟨l1,o1.se⟩
def d6h (H:PH) (n:Nat) (es:List (Nat×Nat)) (wl:List Int) (lo hi ds:Int) (set:Nat) (t:List Int) (r:Value):Prop:=
 ∃v l e,r= .tuple #[v,ii e]/\SI H v l/\e=(if bdE n wl lo hi ds≠0 then bdE n wl lo hi ds else trE n es set t)/\l=(if e≠0 then[]else c0m es wl lo hi set t t)
theorem b5j (hT:Tb H) (hw:SG H w es) (hg:GV n es) (hwt:SI H wts wl) (hu:SI H u t) (hs:set<M64):Con prog 37 [gv n w,bv wts lo hi ds,uv set,u] H fun r H'=>PH.le H H'/\d6h H' n es wl lo hi ds set t r:=by
 refine a0b mixed c8Q (by kernel_rfl) rfl ?_
 refine a0a (a0S hw) ?_
 refine a0a (a2y (a0A hwt) _ _ _) ?_
 refine a0q (a5b hw hg hwt) rfl fun H1 l1=> ?_
 simp only[cA,nA]
 refine a0a ⟨_,rfl⟩ ?_
 refine a0e (b:=decide (bdE n wl lo hi ds≠0)) (bN _ _) (fun h=> ?_) (fun h=> ?_)
 ·replace h:=of_decide_eq_true h
  exact a0c rfl ⟨l1,_,[],_,rfl,SE.nil _ _ _,(if_pos h).symm,by rw[if_pos h]⟩
 ·replace h:=of_decide_eq_false h
  have h0:bdE n wl lo hi ds=0:=Classical.byContradiction h
  have hb:=a8P h0
  refine a0q (b1Y (hw.mono l1) hg hs (hu.mono l1)) rfl fun H2 l2=> ?_
  simp only[cA,nA]
  refine a0a ⟨_,rfl⟩ ?_
  refine a0e (b:=decide (trE n es set t≠0)) (bN _ _) (fun h2=> ?_) (fun h2=> ?_)
  ·replace h2:=of_decide_eq_true h2
   exact a0c rfl ⟨l1.trans l2,_,[],_,rfl,SE.nil _ _ _,(if_neg h).symm,by rw[if_pos h2]⟩
  ·replace h2:=of_decide_eq_false h2
   have h2:trE n es set t=0:=Classical.byContradiction h2
   obtain⟨hset,hok⟩:=c4r h2
   refine a0d (c4t (lo:=lo) (hi:=hi) (ds:=ds) (u:=u) (t:=t) (⟨hT.mono (l1.trans l2),hw.mono (l1.trans l2),hg,hwt.mono (l1.trans l2),hb.1,hb.2.2.2.2.2⟩:Chn H2 n w wts es wl) (hu.mono (l1.trans l2)) hset hok) rfl ?_
   rintro r H3 ⟨l3,hr⟩
   refine⟨fun h=>(nomatch h),?_⟩
   simp only[cA,nA]
   exact a0c rfl ⟨(l1.trans l2).trans l3,_,_,0,rfl,hr,by rw[if_neg h,h2],by rw[if_neg (by simp)]⟩
theorem a8T (hw:SG H w es) (hg:GV n es) (hs:set<M64) (i:Int):Asks prog 142 [gv n w,uv set,ii i] H (.bool (decide (OkI es set i))):=by
 refine a0b mixed b9Y (by kernel_rfl) rfl ?_
 have h64:=hg.n64
 refine a0a (a0S hw) ?_
 refine a0a ⟨_,rfl⟩ ?_
 refine a0e (b:=decide (i≥0)) rfl (fun h=> ?_) (fun h=> ?_)
 ·replace h:=of_decide_eq_true h
  refine a0g el_edge rfl rfl hw rfl ?_
  refine a0a ⟨_,rfl⟩ ?_
  refine a0e (b:=decide (i<(es.length:Nat))) rfl (fun h2=> ?_) (fun h2=> ?_)
  ·replace h2:=of_decide_eq_true h2
   obtain⟨m,rfl⟩:∃m:Nat,i=(m:Int):=⟨i.toNat,by omega⟩
   have hem:=a3K (es:=es) (m:=m) (by omega)
   have hed:=hg.mem hem
   refine a5H rfl rfl rfl rfl rfl (fun _=>rfl) (fun _=>rfl) (fun _=>rfl) hw hem rfl (fun _=>rfl) (fun _ _=>rfl) fun _ _=> ?_
   simp only[cA,nA]
   refine a0s (a0X hs (by omega)) rfl ?_
   simp only[cA,nA]
   refine a0a ⟨_,rfl⟩ ?_
   refine a0e (b:=bit set (Ed es (m:Nat)).1) rfl (fun b1=> ?_) (fun b1=> ?_)
   ·skip
    refine a5I rfl rfl rfl rfl rfl (fun _=>rfl) (fun _=>rfl) (fun _=>rfl) hw hem rfl (fun _=>rfl) (fun _ _=>rfl) fun _ _=> ?_
    simp only[cA,nA]
    refine a0s (a0X hs (by omega)) rfl ?_
    simp only[cA,nA]
    exact a0c rfl ⟨rfl,by refine congrArg Value.bool ?_;rw[Bool.eq_iff_iff,decide_eq_true_iff];exact⟨fun hb=>⟨by omega,by rw[Int.toNat_natCast];omega,b1,hb⟩,fun hk=>hk.2.2.2⟩⟩
   ·skip
    exact a0c rfl ⟨rfl,by rw[decide_eq_false (fun hk:OkI es set (m:Nat)=>by rw[hk.2.2.1]at b1;cases b1)];rfl⟩
  ·replace h2:=of_decide_eq_false h2
   exact a0c rfl ⟨rfl,by rw[decide_eq_false (fun hk:OkI es set i=>by have:=hk.1;have:=hk.2.1;omega)];rfl⟩
 ·replace h:=of_decide_eq_false h
  exact a0c rfl ⟨rfl,by rw[decide_eq_false (fun hk:OkI es set i=>by have:=hk.1;omega)];rfl⟩
theorem a8U (hw:SG H w es) (hg:GV n es) (hu:SI H u t) (ht:∀i∈t,0<=i/\i.toNat<es.length) (hx:x<64):Asks prog 143 [gv n w,u,ii (x:Nat)] H (uv (a7H (etl es t) x)):=by
 refine a0b mixed b9Z (by kernel_rfl) rfl ?_
 have h64:=hg.n64
 have hl:=hu.len
 have hL:=a8S hg ht
 refine a0a (a0S hw) ?_
 refine a0s (a1h hx) rfl ?_
 simp only[cA,nA]
 refine a0E (α:=Nat) (fun r=>[uv (a2J a1r (etl es t) r (2^x)),ii (r:Nat)]) (fun r=>r<=64) (fun r=>64-r) (0) rfl (Nat.zero_le _) fun r hQ=> ?_
 simp only[cA,nA]
 refine a0a ⟨_,rfl⟩ ?_
 refine a0e (b:=decide (((r:Nat):Int)<64)) rfl (fun h=> ?_) (fun h=> ?_)
 ·replace h:=of_decide_eq_true h
  have hS:=(a1z (set:=a1r) hL (a0P hx) r).1
  generalize hSe:a2J a1r (etl es t) r (2^x)=S at hS
  refine a0E (α:=Nat) (fun j=>[uv (rnd a1r (etl es (t.take j)) S),ii (j:Nat)]) (fun j=>j<=t.length) (fun j=>t.length-j) (0) rfl (Nat.zero_le _) fun j hQ2=> ?_
  simp only[cA,nA]
  refine a0g el_int rfl rfl hu rfl ?_
  refine a0a ⟨_,rfl⟩ ?_
  refine a0a ⟨_,rfl⟩ ?_
  refine a0e (b:=decide (((j:Nat):Int)<(t.length:Nat))) rfl (fun h2=> ?_) (fun h2=> ?_)
  ·replace h2:=of_decide_eq_true h2
   have hj':j<t.length:=by omega
   obtain⟨y,hy,hdy⟩:=a0u hj'
   obtain⟨hy1,hy2⟩:=ht y (List.mem_of_getElem? hy)
   obtain⟨m,rfl⟩:∃m:Nat,y=(m:Int):=⟨y.toNat,by omega⟩
   rw[Int.toNat_natCast]at hy2
   have hem:=a3K (es:=es) (m:=m) (by omega)
   have hed:=hg.mem hem
   have hR:=b1R (set:=a1r) (a8S hg (t:=t.take j) fun i hi=>ht i (List.mem_of_mem_take hi)) hS
   have hst:rnd a1r (etl es (t.take (j+1))) S=rst a1r (rnd a1r (etl es (t.take j)) S) (Ed es (m:Nat)):=by rw[take_snoc hy,a2A,b0m]
   rw[a6y (by omega) (by omega),<-Nat.or_assoc]at hst
   generalize rnd a1r (etl es (t.take j)) S=R at hR hst
   refine a0i el_int rfl rfl rfl rfl (fun _=>rfl) hu hy rfl (fun _=>rfl) fun _=> ?_
   simp only[cA,nA]
   refine a5H rfl rfl rfl rfl rfl (fun _=>rfl) (fun _=>rfl) (fun _=>rfl) hw hem rfl (fun _=>rfl) (fun _ _=>rfl) fun _ _=> ?_
   simp only[cA,nA]
   refine a0i el_int rfl rfl rfl rfl (fun _=>rfl) hu hy rfl (fun _=>rfl) fun _=> ?_
   simp only[cA,nA]
   refine a5I rfl rfl rfl rfl rfl (fun _=>rfl) (fun _=>rfl) (fun _=>rfl) hw hem rfl (fun _=>rfl) (fun _ _=>rfl) fun _ _=> ?_
   simp only[cA,nA]
   refine a0s (a0X hR (by omega)) rfl ?_
   simp only[cA,nA]
   refine a0a ⟨_,rfl⟩ ?_
   refine a0e (b:=bit R (Ed es (m:Nat)).1) rfl (fun b3=> ?_) (fun b3=> ?_)
   ·skip
    refine a0s (a1h (n:=(Ed es (m:Nat)).1) (by omega)) rfl ?_
    simp only[cA,nA]
    refine a0a ⟨_,rfl⟩ ?_
    refine a0a ⟨_,rfl⟩ ?_
    refine a0s (a1h (n:=(Ed es (m:Nat)).2) (by omega)) rfl ?_
    simp only[cA,nA]
    refine a0a ⟨_,rfl⟩ ?_
    exact⟨j+1,by omega,(a1l (by rw[hst,if_pos (by rw[b3];rfl)];exact a8o (a8o rfl rfl hR (a0P (by omega))) rfl (a5A hR (a0P (by omega))) (a0P (by omega))) (a0r rfl (by omega))),⟨by omega,rfl⟩⟩
   ·skip
    refine a0s (a0X hR (by omega)) rfl ?_
    simp only[cA,nA]
    refine a0a ⟨_,rfl⟩ ?_
    refine a0e (b:=bit R (Ed es (m:Nat)).2) rfl (fun b4=> ?_) (fun b4=> ?_)
    ·skip
     refine a0s (a1h (n:=(Ed es (m:Nat)).1) (by omega)) rfl ?_
     simp only[cA,nA]
     refine a0a ⟨_,rfl⟩ ?_
     refine a0a ⟨_,rfl⟩ ?_
     refine a0s (a1h (n:=(Ed es (m:Nat)).2) (by omega)) rfl ?_
     simp only[cA,nA]
     refine a0a ⟨_,rfl⟩ ?_
     exact⟨j+1,by omega,(a1l (by rw[hst,if_pos (by rw[b3,b4];rfl)];exact a8o (a8o rfl rfl hR (a0P (by omega))) rfl (a5A hR (a0P (by omega))) (a0P (by omega))) (a0r rfl (by omega))),⟨by omega,rfl⟩⟩
    ·skip
     exact⟨j+1,by omega,(a1l (by rw[hst,if_neg (by rw[b3,b4];decide)];rfl) (a0r rfl (by omega))),⟨by omega,rfl⟩⟩
  ·replace h2:=of_decide_eq_false h2
   have hje:t.take j=t:=List.take_of_length_le (by omega)
   exact⟨r+1,by omega,(a1l (by rw[show a2J a1r (etl es t) (r+1) (2^x)=rnd a1r (etl es t) S from by rw[<-hSe];rfl,hje];rfl) (a0r rfl (by omega))),⟨by omega,rfl⟩⟩
 ·replace h:=of_decide_eq_false h
  have hre:r=64:=by omega
  exact a0c rfl ⟨rfl,by rw[hre];rfl⟩
end
end Go.Proofs.YtmannekkmdockaaGreatDoor

/- Chapter 32: all spanning trees. -/
import Derived.Test.YtmannekkmdockaaGreatDoorGsN
import Derived.Test.YtmannekkmdockaaGreatDoorRzB
import Derived.Test.YtmannekkmdockaaGreatDoorGsF
import Derived.Test.YtmannekkmdockaaGreatDoorGsD
namespace Go.Proofs.YtmannekkmdockaaGreatDoor
open Go.Proofs.Tryz
open Go.RowKit Go.RX Go.GS
abbrev Slc:=Option Addr×Nat×Nat
def vs (s:Slc):Value:= .slice s.1 s.2.1 s.2.2
theorem b2R:El prog 100 32 1 false (fun s:Slc=>[vs s]) vs where
 und:=by kernel_rfl
 has:=by kernel_rfl
 cel:=by kernel_rfl
 agg:=by kernel_rfl
 pos:=by decide
 one1:=fun _=>rfl
 small:=by decide
 inf:=⟨(prog.info? 32).getD default,vs (none,0,0),by kernel_rfl,by kernel_rfl,by kernel_rfl,rfl,of_decide_eq_true (by kernel_rfl)⟩
 len:=fun _=>rfl
 val:=fun _=>rfl
 cells:=fun _=>rfl
 one:=fun x c hc=>by simp at hc;subst hc;rfl
theorem a4e {H:PH} {sz:Nat} {α:Type} {ce:α->List Value} {v:Value} {l:List α} (h:SE H sz ce v l):∃s,v=vs s:=by
 obtain⟨_,a,c,h2,_⟩:=h;exact⟨(a,l.length,c),h2⟩
theorem b6k {H0 H H':PH} {α:Type} {ce:α->List Value} {v:Value} {l:List α} (h:SO H0 H 3 1 ce v l) (hp:H'=H\/∃g ob,H0 g=none/\H'=H.put g ob/\(H g=none\/∃cs,H g=some (.cells cs 32 (0,0)))):SO H0 H' 3 1 ce v l:=by
 rcases hp with rfl|⟨g,ob,_,rfl,hg⟩
 ·exact h
 ·obtain⟨h1,h2|⟨g',cap,cur,h2,h3,h4,h5⟩⟩:=h
  ·exact⟨h1,.inl h2⟩
  ·refine⟨h1,.inr ⟨g',cap,cur,h2,h3,?_,h5⟩⟩
   rw[PH.put_ne _ _ (fun e=> ?_)]
   ·exact h4
   ·subst e
    rcases hg with hg|⟨cs,hg⟩
    ·rw[hg]at h4;cases h4
    ·rw[hg]at h4
     injection h4 with h4
     injection h4 with _ h4 _
     exact absurd h4 (by decide)
def a0U (b:List Int):Nat:=match b.getLast? with|none=>0|some x=>x.toNat+1
theorem a8v (b:List Int) (j:Nat):a0U (b++[(j:Int)])=j+1:=by
 unfold a0U;rw[List.getLast?_append];rfl
set_option maxHeartbeats 1000000 in
theorem b8i {n:Nat} {es:List (Nat×Nat)} {set:Nat} (hg:GV n es) (hs:set<2^n) (h0:set≠0) (h36:a4F es set 0<=36):∀(k:Nat) (b:List Int) (u:Value) (H:PH) {w:Value},es.length-a0U b<=k->SG H w es->SI H u b->Beg es set b->
  Con prog 86 [gv n w,uv set,u] H fun r H'=>PH.le H H'/\∃l,SO H H' 32 1 (fun s:Slc=>[vs s]) r l/\(∀s∈l,∃t,SO H H' 3 1 (fun z:Int=>[ii z]) (vs s) t/\TreeOk es set t)/\l.length<=2^a4F es set (a0U b)/\(Spn es set b (a0U b)->l≠[]):=by
 have hs':=a1g hg.n64 hs
 have hes:=hg.len
 have h64:=hg.n64
 intro k
 induction k using Nat.strongRecOn with
 |_ k ih0=>
 intro b u H w hk hw hu hB
 have hval:∀i∈b,0<=i/\i.toNat<es.length:=fun i hi=>⟨(hB.ok i hi).1,(hB.ok i hi).2.1⟩
 have hbl:=hB.len hs' h0
 have hc64:=a2d set
 have ih:∀m,m<es.length-a0U b->∀(b:List Int) (u:Value) (H:PH) {w:Value},es.length-a0U b<=m->SG H w es->SI H u b->Beg es set b->Con prog 86 [gv n w,uv set,u] H fun r H'=>PH.le H H'/\∃l,SO H H' 32 1 (fun s:Slc=>[vs s]) r l/\(∀s∈l,∃t,SO H H' 3 1 (fun z:Int=>[ii z]) (vs s) t/\TreeOk es set t)/\l.length<=2^a4F es set (a0U b)/\(Spn es set b (a0U b)->l≠[]):=fun m hm=>ih0 m (by omega)
 refine a0b mixed c1D (by kernel_rfl) rfl ?_
 refine a0a (a0T hw) ?_
 refine a0h el_int rfl rfl hu rfl ?_
 refine a0P (b8e hs') rfl ?_
 simp only[cA,nA]
 refine a0a ⟨_,rfl⟩ ?_
 refine a0a ⟨_,rfl⟩ ?_
 refine a0e (b:=decide (b.length+1=card set)) (by show Value.bool (((b.length:Nat):Int)==intOf (D prog _ (.op2 .sub .i64 (.v 4) (.k (.int .i64 1)))))=_;rw[b5N (x:=(card set:Nat)) (y:=1) rfl rfl (by omega) (by omega)];show Value.bool (((b.length:Nat):Int)==((card set:Nat):Int)-1)=_;rw[bE];congr 1;apply decide_eq_decide.2;omega) (fun hne=> ?_) (fun hne=> ?_)
 ·replace hne:=of_decide_eq_true hne
  refine a3y el_int rfl rfl fun v1 H1 l1 o1 _=> ?_
  simp only[cA,nA]
  refine a1l el_int rfl rfl rfl l1 o1 (hu.mono l1) (by simp;omega) rfl rfl fun v2 H2 l2 o2 _=> ?_
  simp only[cA,nA]
  obtain⟨s,rfl⟩:=a4e o2.se
  refine a1X b2R (a:=s) rfl rfl rfl fun v3 H3 l3 o3 _=> ?_
  simp only[cA,nA]
  exact a0c rfl ⟨l2.trans l3,[s],o3.less l2,fun s' hs'=>by rw[List.mem_singleton]at hs';subst hs';exact⟨b,o2.mono l3,hB.tree hne⟩,Nat.one_le_two_pow,fun _ h=>by cases h⟩
 ·replace hne:=of_decide_eq_false hne
  refine a0h el_int rfl rfl hu rfl ?_
  refine a0a ⟨_,rfl⟩ ?_
  refine a0e (b:=decide (((b.length:Nat):Int)>0)) rfl (fun h1=> ?_) (fun h1=> ?_)
  ·replace h1:=of_decide_eq_true h1
   obtain⟨m,hm⟩:∃m,b.length=m+1:=⟨b.length-1,by omega⟩
   have hbm:b[m]? =some b[m]:=List.getElem?_eq_getElem (by omega)
   have hgl:b.getLast? =some b[m]:=by rw[List.getLast?_eq_getElem?,show b.length-1=m by omega];exact hbm
   have hvm:=hval b[m] (List.getElem_mem _)
   have hfo0:a0U b=b[m].toNat+1:=by unfold a0U;rw[hgl]
   have hlt:∀i∈b,i<(a0U b:Nat):=by
    intro i hi
    obtain⟨q,hq,rfl⟩:=List.mem_iff_getElem.1 hi
    have:b[q]<=b[m]:=by
     by_cases e:q=m
     ·subst e;exact Int.le_refl _
     ·exact Int.le_of_lt (List.pairwise_iff_getElem.1 hB.asc q m hq (by omega) (by omega))
    omega
   have hfl:a0U b<=es.length:=by omega
   refine a0h el_int rfl rfl hu rfl ?_
   refine a0a ⟨_,rfl⟩ ?_
   refine a0i el_int rfl rfl rfl rfl (fun _=>rfl) hu hbm (a1s rfl (by rw[b5N (x:=(b.length:Nat)) (y:=1) rfl rfl (by omega) (by omega)];show ii _=ii _;congr 1;omega)) (fun _=>rfl) fun _=> ?_
   simp only[cA,nA]
   refine a0a ⟨_,rfl⟩ ?_
   refine a0k (α:=Value×List Slc×Nat) (fun⟨v,l,j⟩=>[v,ii (j:Nat)]) (fun⟨v,l,j⟩=>fun H'=>j<=es.length/\a0U b<=j/\PH.le H H'/\SO H H' 32 1 (fun s:Slc=>[vs s]) v l/\(∀s∈l,∃t,SO H H' 3 1 (fun z:Int=>[ii z]) (vs s) t/\TreeOk es set t)/\l.length+2^a4F es set j<=2^a4F es set (a0U b)/\(Spn es set b (a0U b)->l≠[]\/Spn es set b j)) (fun⟨v,l,j⟩=>es.length-j) ((.slice none 0 0,[],a0U b)) (a1s rfl (by rw[c0J (x:=b[m]) (y:=1) rfl rfl (by omega) (by omega)];show ii _=ii _;congr 1;omega)) (⟨hfl,Nat.le_refl _,PH.le.refl _,SO.nil _ _ _ _ _,(fun s hs=>by cases hs),by simp,(fun h=> .inr h)⟩) fun⟨v,l,j⟩ H' hQ=> ?_
   simp only[cA,nA]
   obtain⟨hj,hfj,l1,o1,htr,hcn,hsp⟩:=hQ
   refine a0h el_edge rfl rfl (hw.mono l1) rfl ?_
   refine a0a ⟨_,rfl⟩ ?_
   refine a0a ⟨_,rfl⟩ ?_
   refine a0e (b:=decide (((j:Nat):Int)<(es.length:Nat))) rfl (fun h9=> ?_) (fun h9=> ?_)
   ·replace h9:=of_decide_eq_true h9
    have hj':j<es.length:=by omega
    have hem:=a4d hj'
    have hed:=hg.mem hem
    have hpw:2^a4F es set (j+1)<=2^a4F es set j:=Nat.pow_le_pow_right (by decide) (b1n es set j)
    refine a0P (a9N (hw.mono l1) hg hs' (j:Nat)) rfl ?_
    simp only[cA,nA]
    refine a0a ⟨_,rfl⟩ ?_
    refine a0e (b:= !decide (OkI es set (j:Nat))) rfl (fun h2=> ?_) (fun h2=> ?_)
    ·skip
     exact⟨(v,l,j+1),by show es.length-(j+1)<es.length-j;omega,(a1s rfl (a0w rfl (by omega))),⟨hj',by show a0U b<=j+1;omega,l1,o1,htr,Nat.le_trans (Nat.add_le_add_left hpw _) hcn,fun hS=>(hsp hS).imp (fun h=>h) fun h=>h.skip hem (Bool.eq_false_iff.2 fun hb=>by unfold inB at hb;rw[Bool.and_eq_true]at hb;rw[decide_eq_true (show OkI es set (j:Nat)from⟨by omega,by rw[Int.toNat_natCast];exact hj',hb.1,hb.2⟩)]at h2;cases h2)⟩⟩
    ·skip
     have hok:OkI es set (j:Nat):=by simpa using h2
     have hin:inB set (Ed es (j:Nat))=true:=by unfold inB;rw[hok.2.2.1,hok.2.2.2];rfl
     refine a6k rfl rfl rfl rfl rfl (fun _=>rfl) (fun _=>rfl) (fun _=>rfl) (hw.mono l1) hem rfl (fun _=>rfl) (fun _ _=>rfl) fun _ _=> ?_
     simp only[cA,nA]
     refine a6l rfl rfl rfl rfl rfl (fun _=>rfl) (fun _=>rfl) (fun _=>rfl) (hw.mono l1) hem rfl (fun _=>rfl) (fun _ _=>rfl) fun _ _=> ?_
     simp only[cA,nA]
     refine a0P (a9O (hw.mono l1) hg (hu.mono l1) hval (x:=(Ed es (j:Nat)).1) (by omega)) rfl ?_
     simp only[cA,nA]
     have hR:=(a2N (L:=etl es b) (a9M hg hval) (x:=(Ed es (j:Nat)).1) (by omega)).1
     refine a0u (a0Y hR (by omega)) rfl ?_
     simp only[cA,nA]
     refine a0a ⟨_,rfl⟩ ?_
     refine a0e (b:=bit (a8t (etl es b) (Ed es (j:Nat)).1) (Ed es (j:Nat)).2) rfl (fun h3=> ?_) (fun h3=> ?_)
     ·skip
      exact⟨(v,l,j+1),by show es.length-(j+1)<es.length-j;omega,(a1s rfl (a0w rfl (by omega))),⟨hj',by show a0U b<=j+1;omega,l1,o1,htr,Nat.le_trans (Nat.add_le_add_left hpw _) hcn,fun hS=>(hsp hS).imp (fun h=>h) fun h=>h.cyc hem (hB.cyc hs' hok h3)⟩⟩
     ·skip
      have hB':=hB.snoc hs' (fun i hi=>by have:=hlt i hi;omega) hok h3
      have hfo:a0U (b++[(j:Int)])=j+1:=a8v b j
      refine b5Q el_int rfl rfl fun b1 hb1=> ?_
      simp only[cA,nA]
      refine b2F el_int rfl rfl rfl (PH.put_self _ _ _) (hu.mono (l1.trans (PH.le_put hb1 _))) (by omega) rfl fun v2 H2 l2 _ o2=> ?_
      simp only[cA,nA]
      have o2:=o2 H' (PH.le_put hb1 _) hb1
      refine b5R el_int (a:=(j:Int)) rfl rfl rfl fun b3 hb3=> ?_
      simp only[cA,nA]
      refine a1l el_int rfl rfl rfl (((PH.le_put hb1 _).trans l2).trans (PH.le_put hb3 _)) (o2.mono (PH.le_put hb3 _)) (b5L (l:=[(j:Int)]) (PH.put_self _ _ _) rfl rfl (show 1<=maxLen by decide)) (by show b.length+1<=_;omega) rfl rfl fun v4 H4 l4 o4 _=> ?_
      simp only[cA,nA]
      have lc4:PH.le H H4:=l1.trans l4
      refine a0d (ih (es.length-(j+1)) (by omega) (b++[(j:Int)]) v4 H4 (by rw[hfo];exact Nat.le_refl _) (hw.mono lc4) o4.se hB') rfl ?_
      rintro r2 H5 ⟨l5,t2,o5,htr5,hlen5,hsp5⟩
      refine⟨fun h=>(nomatch h),?_⟩
      simp only[cA,nA]
      rw[hfo]at hlen5 hsp5
      have hic:=b1m hem hin
      have hpw2:2^a4F es set j=2*2^a4F es set (j+1):=by rw[hic,Nat.pow_succ,Nat.mul_comm]
      have h36':2^a4F es set (a0U b)<=2^36:=Nat.pow_le_pow_right (by decide) (Nat.le_trans (b2Q es set (Nat.zero_le _)) h36)
      refine a2F b2R rfl rfl rfl (lc4.trans l5) (o1.mono (l4.trans l5)) o5.se (by omega) rfl rfl fun v6 H6 l6 o6 hput=> ?_
      simp only[cA,nA]
      exact⟨(v6,l++t2,j+1),by show es.length-(j+1)<es.length-j;omega,(a1s rfl (a0w rfl (by omega))),⟨hj',by show a0U b<=j+1;omega,l6,o6,(fun s hs=>by rw[List.mem_append]at hs;rcases hs with hs|hs;(obtain⟨t,ho,ht⟩:=htr s hs;exact⟨t,b6k (ho.mono (l4.trans l5)) hput,ht⟩);(obtain⟨t,ho,ht⟩:=htr5 s hs;exact⟨t,b6k (ho.less lc4) hput,ht⟩)),by rw[List.length_append];show _+2^a4F es set (j+1)<=_;omega,fun hS=> .inl (by rcases hsp hS with h|h;(exact fun e=>h (List.append_eq_nil_iff.1 e).1);(exact fun e=>hsp5 (h.take hj') (List.append_eq_nil_iff.1 e).2))⟩⟩
   ·replace h9:=of_decide_eq_false h9
    exact a0c rfl ⟨l1,l,o1,htr,Nat.le_trans (Nat.le_add_right _ _) hcn,fun hS=>(hsp hS).elim (fun h=>h) fun h=>absurd (by have:=h.end hs' h0 (by omega) hB.inn hB.acy;rw[show(etl es b).length=b.length from List.length_map _]at this;exact this) hne⟩
  ·replace h1:=of_decide_eq_false h1
   have hb0:b=[]:=List.eq_nil_of_length_eq_zero (by omega)
   have hfo0:a0U b=0:=by rw[hb0];rfl
   have hlt:∀i∈b,i<(a0U b:Nat):=fun i hi=>by rw[hb0]at hi;cases hi
   have hfl:a0U b<=es.length:=by omega
   refine a0k (α:=Value×List Slc×Nat) (fun⟨v,l,j⟩=>[v,ii (j:Nat)]) (fun⟨v,l,j⟩=>fun H'=>j<=es.length/\a0U b<=j/\PH.le H H'/\SO H H' 32 1 (fun s:Slc=>[vs s]) v l/\(∀s∈l,∃t,SO H H' 3 1 (fun z:Int=>[ii z]) (vs s) t/\TreeOk es set t)/\l.length+2^a4F es set j<=2^a4F es set (a0U b)/\(Spn es set b (a0U b)->l≠[]\/Spn es set b j)) (fun⟨v,l,j⟩=>es.length-j) ((.slice none 0 0,[],a0U b)) (a1s rfl (by rw[hfo0];rfl)) (⟨hfl,Nat.le_refl _,PH.le.refl _,SO.nil _ _ _ _ _,(fun s hs=>by cases hs),by simp,(fun h=> .inr h)⟩) fun⟨v,l,j⟩ H' hQ=> ?_
   simp only[cA,nA]
   obtain⟨hj,hfj,l1,o1,htr,hcn,hsp⟩:=hQ
   refine a0h el_edge rfl rfl (hw.mono l1) rfl ?_
   refine a0a ⟨_,rfl⟩ ?_
   refine a0a ⟨_,rfl⟩ ?_
   refine a0e (b:=decide (((j:Nat):Int)<(es.length:Nat))) rfl (fun h9=> ?_) (fun h9=> ?_)
   ·replace h9:=of_decide_eq_true h9
    have hj':j<es.length:=by omega
    have hem:=a4d hj'
    have hed:=hg.mem hem
    have hpw:2^a4F es set (j+1)<=2^a4F es set j:=Nat.pow_le_pow_right (by decide) (b1n es set j)
    refine a0P (a9N (hw.mono l1) hg hs' (j:Nat)) rfl ?_
    simp only[cA,nA]
    refine a0a ⟨_,rfl⟩ ?_
    refine a0e (b:= !decide (OkI es set (j:Nat))) rfl (fun h2=> ?_) (fun h2=> ?_)
    ·skip
     exact⟨(v,l,j+1),by show es.length-(j+1)<es.length-j;omega,(a1s rfl (a0w rfl (by omega))),⟨hj',by show a0U b<=j+1;omega,l1,o1,htr,Nat.le_trans (Nat.add_le_add_left hpw _) hcn,fun hS=>(hsp hS).imp (fun h=>h) fun h=>h.skip hem (Bool.eq_false_iff.2 fun hb=>by unfold inB at hb;rw[Bool.and_eq_true]at hb;rw[decide_eq_true (show OkI es set (j:Nat)from⟨by omega,by rw[Int.toNat_natCast];exact hj',hb.1,hb.2⟩)]at h2;cases h2)⟩⟩
    ·skip
     have hok:OkI es set (j:Nat):=by simpa using h2
     have hin:inB set (Ed es (j:Nat))=true:=by unfold inB;rw[hok.2.2.1,hok.2.2.2];rfl
     refine a6k rfl rfl rfl rfl rfl (fun _=>rfl) (fun _=>rfl) (fun _=>rfl) (hw.mono l1) hem rfl (fun _=>rfl) (fun _ _=>rfl) fun _ _=> ?_
     simp only[cA,nA]
     refine a6l rfl rfl rfl rfl rfl (fun _=>rfl) (fun _=>rfl) (fun _=>rfl) (hw.mono l1) hem rfl (fun _=>rfl) (fun _ _=>rfl) fun _ _=> ?_
     simp only[cA,nA]
     refine a0P (a9O (hw.mono l1) hg (hu.mono l1) hval (x:=(Ed es (j:Nat)).1) (by omega)) rfl ?_
     simp only[cA,nA]
     have hR:=(a2N (L:=etl es b) (a9M hg hval) (x:=(Ed es (j:Nat)).1) (by omega)).1
     refine a0u (a0Y hR (by omega)) rfl ?_
     simp only[cA,nA]
     refine a0a ⟨_,rfl⟩ ?_
     refine a0e (b:=bit (a8t (etl es b) (Ed es (j:Nat)).1) (Ed es (j:Nat)).2) rfl (fun h3=> ?_) (fun h3=> ?_)
     ·skip
      exact⟨(v,l,j+1),by show es.length-(j+1)<es.length-j;omega,(a1s rfl (a0w rfl (by omega))),⟨hj',by show a0U b<=j+1;omega,l1,o1,htr,Nat.le_trans (Nat.add_le_add_left hpw _) hcn,fun hS=>(hsp hS).imp (fun h=>h) fun h=>h.cyc hem (hB.cyc hs' hok h3)⟩⟩
     ·skip
      have hB':=hB.snoc hs' (fun i hi=>by have:=hlt i hi;omega) hok h3
      have hfo:a0U (b++[(j:Int)])=j+1:=a8v b j
      refine b5Q el_int rfl rfl fun b1 hb1=> ?_
      simp only[cA,nA]
      refine b2F el_int rfl rfl rfl (PH.put_self _ _ _) (hu.mono (l1.trans (PH.le_put hb1 _))) (by omega) rfl fun v2 H2 l2 _ o2=> ?_
      simp only[cA,nA]
      have o2:=o2 H' (PH.le_put hb1 _) hb1
      refine b5R el_int (a:=(j:Int)) rfl rfl rfl fun b3 hb3=> ?_
      simp only[cA,nA]
      refine a1l el_int rfl rfl rfl (((PH.le_put hb1 _).trans l2).trans (PH.le_put hb3 _)) (o2.mono (PH.le_put hb3 _)) (b5L (l:=[(j:Int)]) (PH.put_self _ _ _) rfl rfl (show 1<=maxLen by decide)) (by show b.length+1<=_;omega) rfl rfl fun v4 H4 l4 o4 _=> ?_
      simp only[cA,nA]
      have lc4:PH.le H H4:=l1.trans l4
      refine a0d (ih (es.length-(j+1)) (by omega) (b++[(j:Int)]) v4 H4 (by rw[hfo];exact Nat.le_refl _) (hw.mono lc4) o4.se hB') rfl ?_
      rintro r2 H5 ⟨l5,t2,o5,htr5,hlen5,hsp5⟩
      refine⟨fun h=>(nomatch h),?_⟩
      simp only[cA,nA]
      rw[hfo]at hlen5 hsp5
      have hic:=b1m hem hin
      have hpw2:2^a4F es set j=2*2^a4F es set (j+1):=by rw[hic,Nat.pow_succ,Nat.mul_comm]
      have h36':2^a4F es set (a0U b)<=2^36:=Nat.pow_le_pow_right (by decide) (Nat.le_trans (b2Q es set (Nat.zero_le _)) h36)
      refine a2F b2R rfl rfl rfl (lc4.trans l5) (o1.mono (l4.trans l5)) o5.se (by omega) rfl rfl fun v6 H6 l6 o6 hput=> ?_
      simp only[cA,nA]
      exact⟨(v6,l++t2,j+1),by show es.length-(j+1)<es.length-j;omega,(a1s rfl (a0w rfl (by omega))),⟨hj',by show a0U b<=j+1;omega,l6,o6,(fun s hs=>by rw[List.mem_append]at hs;rcases hs with hs|hs;(obtain⟨t,ho,ht⟩:=htr s hs;exact⟨t,b6k (ho.mono (l4.trans l5)) hput,ht⟩);(obtain⟨t,ho,ht⟩:=htr5 s hs;exact⟨t,b6k (ho.less lc4) hput,ht⟩)),by rw[List.length_append];show _+2^a4F es set (j+1)<=_;omega,fun hS=> .inl (by rcases hsp hS with h|h;(exact fun e=>h (List.append_eq_nil_iff.1 e).1);(exact fun e=>hsp5 (h.take hj') (List.append_eq_nil_iff.1 e).2))⟩⟩
   ·replace h9:=of_decide_eq_false h9
    exact a0c rfl ⟨l1,l,o1,htr,Nat.le_trans (Nat.le_add_right _ _) hcn,fun hS=>(hsp hS).elim (fun h=>h) fun h=>absurd (by have:=h.end hs' h0 (by omega) hB.inn hB.acy;rw[show(etl es b).length=b.length from List.length_map _]at this;exact this) hne⟩
end Go.Proofs.YtmannekkmdockaaGreatDoor
/- Maps from numbers to numbers, in memory. -/
namespace Go.RX
open Go.RowKit Go.RZ
def mE (es:List (Int×Int×Nat)):List MapEntry:=es.map fun p=>⟨.int .i64 p.1,.int .i64 p.2.1,p.2.2⟩
def kv (es:List (Int×Int×Nat)):List (Int×Int):=es.map fun p=>(p.1,p.2.1)
def MI (H:PH) (m:Value) (L:List (Int×Int)):Prop:=(L.map (·.1)).Nodup/\∃r es clock,m= .map (some r)/\H r=some (.map (mE es).toArray clock)/\kv es=L
def MO (B H:PH) (m:Value) (L:List (Int×Int)):Prop:=(L.map (·.1)).Nodup/\∃r es clock,m= .map (some r)/\B r=none/\H r=some (.map (mE es).toArray clock)/\kv es=L
theorem MO.mi {B H:PH} {m:Value} {L:List (Int×Int)} (h:MO B H m L):MI H m L:=by
 obtain⟨h0,r,es,c,h1,_,h2,h3⟩:=h;exact⟨h0,r,es,c,h1,h2,h3⟩
theorem MO.mono {B H H':PH} {m:Value} {L:List (Int×Int)} (h:MO B H m L) (hl:PH.le H H'):MO B H' m L:=by
 obtain⟨h0,r,es,c,h1,h4,h2,h3⟩:=h;exact⟨h0,r,es,c,h1,h4,hl _ _ h2,h3⟩
theorem MI.mono {H H':PH} {m:Value} {L:List (Int×Int)} (h:MI H m L) (hl:PH.le H H'):MI H' m L:=by
 obtain⟨h0,r,es,c,h1,h2,h3⟩:=h;exact⟨h0,r,es,c,h1,hl _ _ h2,h3⟩
def c3I (L:List (Int×Int)) (k v:Int):List (Int×Int):=if k∈L.map (·.1)then L.map fun p=>if p.1=k then(k,v)else p else L++[(k,v)]
theorem b2S {L:List (Int×Int)} {k v:Int} (h:(L.map (·.1)).Nodup):((c3I L k v).map (·.1)).Nodup:=by
 unfold c3I
 split
 ·rw[List.map_map]
  have:((fun p:Int×Int=>p.1) ∘ fun p:Int×Int=>if p.1=k then(k,v)else p)=fun p:Int×Int=>p.1:=by
   funext p;simp only[Function.comp];split
   ·rename_i e;exact e.symm
   ·rfl
  rw[this];exact h
 ·rename_i hk
  rw[List.map_append,List.nodup_append]
  refine⟨h,by simp,fun a ha b hb=> ?_⟩
  simp only[List.map_cons,List.map_nil,List.mem_singleton]at hb
  subst hb;intro e;subst e;exact hk ha
section
variable {P:Program} {H:PH} {o:Oper} {x y z:Operand} {T kt et:TypeId}
theorem d1m (es:List (Int×Int×Nat)):∀e∈mE es,∃b,e.key= .int .i64 b:=fun e he=>by
 obtain⟨p,_,rfl⟩:=List.mem_map.1 he
 exact⟨p.1,rfl⟩
theorem c1R {L:List (Int×Int)} {es:List (Int×Int×Nat)} (hkv:kv es=L) (k:Int):
  (Instr.findNow (.int .i64) (.int .i64 k) (mE es) 0=some none/\k∉L.map (·.1))\/∃j p,Instr.findNow (.int .i64) (.int .i64 k) (mE es) 0=some (some (j,.int .i64 p.2.1))/\es[j]? =some p/\p.1=k:=by
 rcases a3A (q:= .i64) (n:=k) (mE es) 0 (d1m es)with⟨h1,h2⟩|⟨j,e,h1,h2,h3⟩
 ·refine .inl ⟨h1,fun hk=> ?_⟩
  subst hkv
  unfold kv at hk
  rw[List.map_map]at hk
  obtain⟨p,hp,e⟩:=List.mem_map.1 hk
  exact h2 _ (List.mem_map.2 ⟨p,hp,rfl⟩) (by simp only[Function.comp]at e;rw[<-e])
 ·unfold mE at h2
  rw[List.getElem?_map]at h2
  obtain⟨p,hp,rfl⟩:=Option.map_eq_some_iff.1 h2
  refine .inr ⟨j,p,by rw[h1,Nat.zero_add],hp,?_⟩
  simp only[Value.int.injEq,true_and]at h3;exact h3
theorem b6l {B:PH} {vs:List Value} {m:Value} {L:List (Int×Int)} {k v:Int} (ho:o.op= .mapUpdate T x y z) (hx:a0f [x,y,z] vs x=m) (hy:a0f [x,y,z] vs y= .int .i64 k) (hz:a0f [x,y,z] vs z= .int .i64 v) (hu:P.underlying T=some (.map kt et)) (hk:P.underlying kt=some (.int .i64))
  (hle:PH.le B H) (h:MO B H m L):Opn P o vs H fun u H'=>u=undef/\PH.le B H'/\MO B H' m (c3I L k v)/\∃g ob E c,B g=none/\H g=some (.map E c)/\H'=H.put g ob:=fun w hw=>by
 obtain⟨h0,r,es,clock,rfl,hB,hH,hkv⟩:=h
 have hos:o.op.operands.toList=[x,y,z]:=by simp[ho,Op.operands]
 have hb:=hw _ _ hH
 unfold Stp
 rw[hos]
 have hkeep:∀ob,PH.le B (H.put r ob):=fun ob c cb hc=>by
  rw[PH.put_ne _ _ (fun e=>by subst e;rw[hB]at hc;cases hc)];exact hle _ _ hc
 simp only[execOp,ho,hx,hy,hz,Sem.run_bind,Instr.mapUpdate,run_underlying hu,Result.andThen_ok,a1P hb,a1f hk,Instr.findKey,run_underlying hk]
 rcases c1R hkv k with⟨h1,h2⟩|⟨j,p,h1,h2,h3⟩
 ·rw[h1]
  simp only[Result.andThen_ok,Sem.run_pure,a5i _ hb]
  refine⟨_,Step.setB hw hH _,by first|rfl|trivial,hkeep _,⟨b2S h0,r,es++[(k,v,clock)],clock+1,rfl,hB,?_,?_⟩,r,_,_,_,hB,hH,rfl⟩
  ·rw[PH.put_self];simp[mE]
  ·unfold c3I;rw[if_neg h2,<-hkv];simp[kv]
 ·rw[h1]
  have hst:∀w:World,(Instr.keyThatStays (.int .i64 k) (.int .i64 k)).run P w= .ok (.int .i64 k) w:=fun w=>by simp[Instr.keyThatStays,Instr.sameBits]
  have hje:((mE es).toArray[j]?.map (·.key)).getD (.int .i64 k)= .int .i64 k:=by
   simp[mE,h2,h3]
  simp only[Result.andThen_ok,Sem.run_pure,hje,Sem.run_bind,hst,a5i _ hb]
  refine⟨_,Step.setB hw hH _,by first|rfl|trivial,hkeep _,⟨b2S h0,r,es.set j (k,v,p.2.2),clock,rfl,hB,?_,?_⟩,r,_,_,_,hB,hH,rfl⟩
  ·rw[PH.put_self]
   congr 2
   rw[<-Array.toList_inj]
   simp only[Array.toList_modify]
   apply List.ext_getElem?
   intro i
   simp only[List.getElem?_modify,mE,List.getElem?_map,List.getElem?_set]
   by_cases e:j=i
   ·subst e
    obtain⟨hlt',h5⟩:=List.getElem?_eq_some_iff.1 h2
    simp[hlt',h5,h3]
   ·simp[e]
  ·have hmem:k∈L.map (·.1):=by
    rw[<-hkv]
    unfold kv
    rw[List.map_map]
    exact List.mem_map.2 ⟨p,List.mem_of_getElem? h2,h3⟩
   unfold c3I
   rw[if_pos hmem,<-hkv]
   rw[<-hkv]at h0
   unfold kv at h0⊢
   rw[List.map_map]at h0⊢
   apply List.ext_getElem?
   intro i
   simp only[List.getElem?_map,List.getElem?_set,Function.comp]
   by_cases e:j=i
   ·subst e
    obtain⟨hlt',h5⟩:=List.getElem?_eq_some_iff.1 h2
    simp[hlt',h5,h3]
   ·rw[if_neg e]
    cases hi:es[i]? with
    |none=>rfl
    |some q=>
     have hne:q.1≠k:=fun e2=>e (by
      have l1:=(List.getElem?_eq_some_iff.1 h2).1
      refine(List.getElem?_inj (by simpa using l1) h0).1 ?_
      rw[List.getElem?_map,List.getElem?_map,h2,hi]
      simp[h3,e2])
     simp[hne]
theorem c1S {vs:List Value} {m:Value} {L:List (Int×Int)} {k:Int} {ok:Bool} {w:World} (ho:o.op= .lookup T x y ok) (hx:a0f [x,y] vs x=m) (hy:a0f [x,y] vs y= .int .i64 k) (hu:P.underlying T=some (.map kt et)) (hk:P.underlying kt=some (.int .i64)) (hz:∀w,(zeroValue et).run P w= .ok (.int .i64 0) w) (h:MI H m L) (hw:H.In w) (u:Int) (b:Bool)
  (hub:(b=false/\u=0/\k∉L.map (·.1))\/(b=true/\(k,u)∈L)):(execOp (a0f o.op.operands.toList vs) o).run P w= .ok (.value (if ok then .tuple #[.int .i64 u,.bool b]else .int .i64 u)) w:=by
 obtain⟨h0,r,es,clock,rfl,hH,hkv⟩:=h
 have hos:o.op.operands.toList=[x,y]:=by simp[ho,Op.operands]
 have hb:=hw _ _ hH
 rw[hos]
 simp only[execOp,ho,hx,hy,Sem.run_bind,Instr.lookup,run_underlying hu,Result.andThen_ok,a1P hb,Sem.run_pure,a1f hk,Instr.findKey,run_underlying hk]
 rcases c1R hkv k with⟨h1,h2⟩|⟨j,p,h1,h2,h3⟩
 ·rcases hub with⟨rfl,rfl,_⟩|⟨_,hm⟩
  ·rw[h1]
   simp[hz]
  ·exact absurd (List.mem_map.2 ⟨_,hm,rfl⟩) h2
 ·have hpm:(k,p.2.1)∈L:=by
   rw[<-hkv];unfold kv
   exact List.mem_map.2 ⟨p,List.mem_of_getElem? h2,by rw[h3]⟩
  rcases hub with⟨_,_,hn⟩|⟨rfl,hm⟩
  ·exact absurd (List.mem_map.2 ⟨_,hpm,rfl⟩) hn
  ·have:p.2.1=u:=by
    obtain⟨i1,m1⟩:=List.mem_iff_getElem?.1 hpm
    obtain⟨i2,m2⟩:=List.mem_iff_getElem?.1 hm
    have l1:=(List.getElem?_eq_some_iff.1 m1).1
    have:i1=i2:=(List.getElem?_inj (by simpa using l1) h0).1 (by rw[List.getElem?_map,List.getElem?_map,m1,m2];rfl)
    subst this
    rw[m1]at m2;simp only[Option.some.injEq,Prod.mk.injEq,true_and]at m2;exact m2
   rw[h1,this]
   simp
theorem b1p {vs:List Value} {m:Value} {L:List (Int×Int)} {k u:Int} {b:Bool} (ho:o.op= .lookup T x y true) (hx:a0f [x,y] vs x=m) (hy:a0f [x,y] vs y= .int .i64 k) (hu:P.underlying T=some (.map kt et)) (hk:P.underlying kt=some (.int .i64)) (hz:∀w,(zeroValue et).run P w= .ok (.int .i64 0) w) (h:MI H m L)
  (hub:(b=false/\u=0/\k∉L.map (·.1))\/(b=true/\(k,u)∈L)):Rds P o vs H (.tuple #[.int .i64 u,.bool b]):=fun w hw=>by
 rw[c1S ho hx hy hu hk hz h hw u b hub];rfl
theorem a7g {t:TypeId} {vs:List Value} {m:Value} {L:List (Int×Int)} (ho:o.op= .call ⟨.builtin .len,#[x],#[t]⟩) (hx:a0f [x] vs x=m) (hu:P.underlying t=some (.map kt et)) (h:MI H m L):Rds P o vs H (.int .i64 (L.length:Nat)):=by
 obtain⟨h0,r,es,clock,rfl,hH,hkv⟩:=h
 have:=c5E (P:=P) ho hx hu hH
 have e:(mE es).toArray.size=L.length:=by rw[<-hkv];simp[mE,kv]
 rw[e]at this
 exact this
theorem c1T (ho:o.op= .makeMap T none):Opn P o [] H fun v H'=>PH.le H H'/\MO H H' v []:=fun w hw=>by
 refine(a3s (P:=P) (H:=H) ho w hw).mono ?_
 rintro u w' ⟨H',hs,r,hr,rfl,rfl⟩
 exact⟨_,hs,PH.le_put hr _,List.nodup_nil,r,[],0,rfl,hr,by rw[PH.put_self];rfl,rfl⟩
end
end Go.RX
/- Sets of numbers as maps to true, in memory. -/
namespace Go.RX
open Go.RowKit Go.RZ
def bE (es:List (Int×Nat)):List MapEntry:=es.map fun p=>⟨.int .i64 p.1,.bool true,p.2⟩
def MB (H:PH) (m:Value) (S:List Int):Prop:=S.Nodup/\((m= .map none/\S=[])\/∃r es clock,m= .map (some r)/\H r=some (.map (bE es).toArray clock)/\es.map (·.1)=S)
theorem MB.none (H:PH):MB H (.map none) []:=⟨List.nodup_nil,.inl ⟨rfl,rfl⟩⟩
theorem MB.mono {H H':PH} {m:Value} {S:List Int} (h:MB H m S) (hl:PH.le H H'):MB H' m S:=by
 obtain⟨h0,h|⟨r,es,c,h1,h2,h3⟩⟩:=h
 ·exact⟨h0,.inl h⟩
 ·exact⟨h0,.inr ⟨r,es,c,h1,hl _ _ h2,h3⟩⟩
section
variable {P:Program} {H:PH} {o:Oper} {x y z:Operand} {T kt et:TypeId}
theorem d1n (es:List (Int×Nat)):∀e∈bE es,∃b,e.key= .int .i64 b:=fun e he=>by
 obtain⟨p,_,rfl⟩:=List.mem_map.1 he
 exact⟨p.1,rfl⟩
theorem d1o {S:List Int} {es:List (Int×Nat)} (hkv:es.map (·.1)=S) (k:Int):
  (Instr.findNow (.int .i64) (.int .i64 k) (bE es) 0=some none/\k∉S)\/∃j p,Instr.findNow (.int .i64) (.int .i64 k) (bE es) 0=some (some (j,.bool true))/\es[j]? =some p/\p.1=k:=by
 rcases a3A (q:= .i64) (n:=k) (bE es) 0 (d1n es)with⟨h1,h2⟩|⟨j,e,h1,h2,h3⟩
 ·refine .inl ⟨h1,fun hk=> ?_⟩
  subst hkv
  obtain⟨p,hp,e⟩:=List.mem_map.1 hk
  exact h2 _ (List.mem_map.2 ⟨p,hp,rfl⟩) (by simp only;rw[<-e])
 ·unfold bE at h2
  rw[List.getElem?_map]at h2
  obtain⟨p,hp,rfl⟩:=Option.map_eq_some_iff.1 h2
  refine .inr ⟨j,p,by rw[h1,Nat.zero_add],hp,?_⟩
  simp only[Value.int.injEq,true_and]at h3;exact h3
theorem b2T {vs:List Value} {m:Value} {S:List Int} {k:Int} (ho:o.op= .lookup T x y false) (hx:a0f [x,y] vs x=m) (hy:a0f [x,y] vs y= .int .i64 k) (hu:P.underlying T=some (.map kt et)) (hk:P.underlying kt=some (.int .i64)) (hz:∀w,(zeroValue et).run P w= .ok (.bool false) w) (h:MB H m S):Rds P o vs H (.bool (decide (k∈S))):=fun w hw=>by
 have hos:o.op.operands.toList=[x,y]:=by simp[ho,Op.operands]
 rw[hos]
 obtain⟨h0,⟨rfl,rfl⟩|⟨r,es,clock,rfl,hH,hkv⟩⟩:=h
 ·simp[execOp,ho,hx,hy,Sem.run_bind,Instr.lookup,run_underlying hu,Result.andThen_ok,Sem.run_pure,a1f hk,hz,Instr.findKey,run_underlying hk,Instr.findNow]
 ·have hb:=hw _ _ hH
  simp only[execOp,ho,hx,hy,Sem.run_bind,Instr.lookup,run_underlying hu,Result.andThen_ok,a1P hb,Sem.run_pure,a1f hk,Instr.findKey,run_underlying hk]
  rcases d1o hkv k with⟨h1,h2⟩|⟨j,p,h1,h2,h3⟩
  ·rw[h1]
   simp[hz,h2]
  ·have:k∈S:=by rw[<-hkv];exact List.mem_map.2 ⟨p,List.mem_of_getElem? h2,h3⟩
   rw[h1]
   simp[this]
end
end Go.RX

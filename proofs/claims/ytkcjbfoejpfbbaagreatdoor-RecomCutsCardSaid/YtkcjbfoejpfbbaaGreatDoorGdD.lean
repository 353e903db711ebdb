/- Chapter 32: all spanning trees. -/
import Derived.Test.YtkcjbfoejpfbbaaGreatDoorGcC
import Derived.Test.YtkcjbfoejpfbbaaGreatDoorGsO
import Derived.Test.YtkcjbfoejpfbbaaGreatDoorRxY
namespace Go.Proofs.YtkcjbfoejpfbbaaGreatDoor
open Go.Proofs.Tryz
open Go.RowKit Go.RX Go.GS
abbrev Slc:=Option Addr×Nat×Nat
def vs (s:Slc):Value:= .slice s.1 s.2.1 s.2.2
theorem b1n:El prog 101 32 1 false (fun s:Slc=>[vs s]) vs where
 und:=by kernel_rfl
 has:=by kernel_rfl
 cel:=by kernel_rfl
 agg:=by kernel_rfl
 pos:=by decide
 one1:=fun _=>rfl
 small:=by decide
 inf:=⟨(prog.info? 32).getD default,vs (none,0,0),by kernel_rfl,by kernel_rfl,by kernel_rfl,rfl,of_decide_eq_true (by kernel_rfl)⟩
 len:=fun _=>rfl
 val:=fun _=>rfl
 cells:=fun _=>rfl
 one:=fun x c hc=>by simp at hc;subst hc;rfl
theorem d3H {H:PH} {sz:Nat} {α:Type} {ce:α->List Value} {v:Value} {l:List α} (h:SE H sz ce v l):∃s,v=vs s:=by
 obtain⟨_,a,c,h2,_⟩:=h;exact⟨(a,l.length,c),h2⟩
theorem b4V {H0 H H':PH} {α:Type} {ce:α->List Value} {v:Value} {l:List α} (h:SO H0 H 3 1 ce v l) (hp:H'=H\/∃g ob,H0 g=none/\H'=H.put g ob/\(H g=none\/∃cs,H g=some (.cells cs 32 (0,0)))):SO H0 H' 3 1 ce v l:=by
 rcases hp with rfl|⟨g,ob,_,rfl,hg⟩
 ·exact h
 ·obtain⟨h1,h2|⟨g',cap,cur,h2,h3,h4,h5⟩⟩:=h
  ·exact⟨h1,.inl h2⟩
  ·refine⟨h1,.inr ⟨g',cap,cur,h2,h3,?_,h5⟩⟩
   rw[PH.put_ne _ _ (fun e=> ?_)]
   ·exact h4
   ·subst e
    rcases hg with hg|⟨cs,hg⟩
    ·rw[hg]at h4;cases h4
    ·rw[hg]at h4
     injection h4 with h4
     injection h4 with _ h4 _
     exact absurd h4 (by decide)
def a0L (b:List Int):Nat:=match b.getLast? with|none=>0|some x=>x.toNat+1
theorem a6V (b:List Int) (j:Nat):a0L (b++[(j:Int)])=j+1:=by
 unfold a0L;rw[List.getLast?_append];rfl
set_option maxHeartbeats 1000000 in
theorem b6o {n:Nat} {es:List (Nat×Nat)} {set:Nat} (hg:GV n es) (hs:set<2^n) (h0:set≠0) (h36:a4a es set 0<=36):∀(k:Nat) (b:List Int) (u:Value) (H:PH) {w:Value},es.length-a0L b<=k->SG H w es->SI H u b->Beg es set b->
  Con prog 107 [gv n w,uv set,u] H fun r H'=>PH.le H H'/\∃l,SO H H' 32 1 (fun s:Slc=>[vs s]) r l/\(∀s∈l,∃t,SO H H' 3 1 (fun z:Int=>[ii z]) (vs s) t/\TreeOk es set t)/\l.length<=2^a4a es set (a0L b)/\(Spn es set b (a0L b)->l≠[]):=by
 have hs':=a3X hg.n64 hs
 have hes:=hg.len
 have h64:=hg.n64
 intro k
 induction k using Nat.strongRecOn with
 |_ k ih0=>
 intro b u H w hk hw hu hB
 have hval:∀i∈b,0<=i/\i.toNat<es.length:=fun i hi=>⟨(hB.ok i hi).1,(hB.ok i hi).2.1⟩
 have hbl:=hB.len hs' h0
 have hc64:=a1u set
 have ih:∀m,m<es.length-a0L b->∀(b:List Int) (u:Value) (H:PH) {w:Value},es.length-a0L b<=m->SG H w es->SI H u b->Beg es set b->Con prog 107 [gv n w,uv set,u] H fun r H'=>PH.le H H'/\∃l,SO H H' 32 1 (fun s:Slc=>[vs s]) r l/\(∀s∈l,∃t,SO H H' 3 1 (fun z:Int=>[ii z]) (vs s) t/\TreeOk es set t)/\l.length<=2^a4a es set (a0L b)/\(Spn es set b (a0L b)->l≠[]):=fun m hm=>ih0 m (by omega)
 refine a0d a0r c0j (by kernel_rfl) rfl ?_
 refine a0a (a1m hw) ?_
 refine a0j a0q rfl rfl hu rfl ?_
 refine a1e (b6g hs') rfl ?_
 simp only[cA,nA]
 refine a0a ⟨_,rfl⟩ ?_
 refine a0a ⟨_,rfl⟩ ?_
 refine a0e (b:=decide (b.length+1=card set)) (by show Value.bool (((b.length:Nat):Int)==intOf (D prog _ (.op2 .sub .i64 (.v 4) (.k (.int .i64 1)))))=_;rw[b0g (x:=(card set:Nat)) (y:=1) rfl rfl (by omega) (by omega)];show Value.bool (((b.length:Nat):Int)==((card set:Nat):Int)-1)=_;rw[bE];congr 1;apply decide_eq_decide.2;omega) (fun hne=> ?_) (fun hne=> ?_)
 ·replace hne:=of_decide_eq_true hne
  refine a6s a0q rfl rfl fun v1 H1 l1 o1 _=> ?_
  simp only[cA,nA]
  refine a1S a0q rfl rfl rfl l1 o1 (hu.mono l1) (by simp;omega) rfl rfl fun v2 H2 l2 o2 _=> ?_
  simp only[cA,nA]
  obtain⟨s,rfl⟩:=d3H o2.se
  refine a6r b1n (a:=s) rfl rfl rfl fun v3 H3 l3 o3 _=> ?_
  simp only[cA,nA]
  exact a0f rfl ⟨l2.trans l3,[s],o3.less l2,fun s' hs'=>by rw[List.mem_singleton]at hs';subst hs';exact⟨b,o2.mono l3,hB.tree hne⟩,Nat.one_le_two_pow,fun _ h=>by cases h⟩
 ·replace hne:=of_decide_eq_false hne
  refine a0j a0q rfl rfl hu rfl ?_
  refine a0a ⟨_,rfl⟩ ?_
  refine a0e (b:=decide (((b.length:Nat):Int)>0)) rfl (fun h1=> ?_) (fun h1=> ?_)
  ·replace h1:=of_decide_eq_true h1
   obtain⟨m,hm⟩:∃m,b.length=m+1:=⟨b.length-1,by omega⟩
   have hbm:b[m]? =some b[m]:=List.getElem?_eq_getElem (by omega)
   have hgl:b.getLast? =some b[m]:=by rw[List.getLast?_eq_getElem?,show b.length-1=m by omega];exact hbm
   have hvm:=hval b[m] (List.getElem_mem _)
   have hfo0:a0L b=b[m].toNat+1:=by unfold a0L;rw[hgl]
   have hlt:∀i∈b,i<(a0L b:Nat):=by
    intro i hi
    obtain⟨q,hq,rfl⟩:=List.mem_iff_getElem.1 hi
    have:b[q]<=b[m]:=by
     by_cases e:q=m
     ·subst e;exact Int.le_refl _
     ·exact Int.le_of_lt (List.pairwise_iff_getElem.1 hB.asc q m hq (by omega) (by omega))
    omega
   have hfl:a0L b<=es.length:=by omega
   refine a0j a0q rfl rfl hu rfl ?_
   refine a0a ⟨_,rfl⟩ ?_
   refine a0k a0q rfl rfl rfl rfl (fun _=>rfl) hu hbm (a1s rfl (by rw[b0g (x:=(b.length:Nat)) (y:=1) rfl rfl (by omega) (by omega)];show ii _=ii _;congr 1;omega)) (fun _=>rfl) fun _=> ?_
   simp only[cA,nA]
   refine a0a ⟨_,rfl⟩ ?_
   refine a0n (α:=Value×List Slc×Nat) (fun⟨v,l,j⟩=>[v,ii (j:Nat)]) (fun⟨v,l,j⟩=>fun H'=>j<=es.length/\a0L b<=j/\PH.le H H'/\SO H H' 32 1 (fun s:Slc=>[vs s]) v l/\(∀s∈l,∃t,SO H H' 3 1 (fun z:Int=>[ii z]) (vs s) t/\TreeOk es set t)/\l.length+2^a4a es set j<=2^a4a es set (a0L b)/\(Spn es set b (a0L b)->l≠[]\/Spn es set b j)) (fun⟨v,l,j⟩=>es.length-j) ((.slice none 0 0,[],a0L b)) (a1s rfl (by rw[b3o (x:=b[m]) (y:=1) rfl rfl (by omega) (by omega)];show ii _=ii _;congr 1;omega)) (⟨hfl,Nat.le_refl _,PH.le.refl _,SO.nil _ _ _ _ _,(fun s hs=>by cases hs),by simp,(fun h=> .inr h)⟩) fun⟨v,l,j⟩ H' hQ=> ?_
   simp only[cA,nA]
   obtain⟨hj,hfj,l1,o1,htr,hcn,hsp⟩:=hQ
   refine a0j el_edge rfl rfl (hw.mono l1) rfl ?_
   refine a0a ⟨_,rfl⟩ ?_
   refine a0a ⟨_,rfl⟩ ?_
   refine a0e (b:=decide (((j:Nat):Int)<(es.length:Nat))) rfl (fun h9=> ?_) (fun h9=> ?_)
   ·replace h9:=of_decide_eq_true h9
    have hj':j<es.length:=by omega
    have hem:=a4l hj'
    have hed:=hg.mem hem
    have hpw:2^a4a es set (j+1)<=2^a4a es set j:=Nat.pow_le_pow_right (by decide) (b2k es set j)
    refine a1e (a8h (hw.mono l1) hg hs' (j:Nat)) rfl ?_
    simp only[cA,nA]
    refine a0a ⟨_,rfl⟩ ?_
    refine a0e (b:= !decide (OkI es set (j:Nat))) rfl (fun h2=> ?_) (fun h2=> ?_)
    ·skip
     exact⟨(v,l,j+1),by show es.length-(j+1)<es.length-j;omega,(a1s rfl (a0x rfl (by omega))),⟨hj',by show a0L b<=j+1;omega,l1,o1,htr,Nat.le_trans (Nat.add_le_add_left hpw _) hcn,fun hS=>(hsp hS).imp (fun h=>h) fun h=>h.skip hem (Bool.eq_false_iff.2 fun hb=>by unfold inB at hb;rw[Bool.and_eq_true]at hb;rw[decide_eq_true (show OkI es set (j:Nat)from⟨by omega,by rw[Int.toNat_natCast];exact hj',hb.1,hb.2⟩)]at h2;cases h2)⟩⟩
    ·skip
     have hok:OkI es set (j:Nat):=by simpa using h2
     have hin:inB set (Ed es (j:Nat))=true:=by unfold inB;rw[hok.2.2.1,hok.2.2.2];rfl
     refine a4Y rfl rfl rfl rfl rfl (fun _=>rfl) (fun _=>rfl) (fun _=>rfl) (hw.mono l1) hem rfl (fun _=>rfl) (fun _ _=>rfl) fun _ _=> ?_
     simp only[cA,nA]
     refine a4Z rfl rfl rfl rfl rfl (fun _=>rfl) (fun _=>rfl) (fun _=>rfl) (hw.mono l1) hem rfl (fun _=>rfl) (fun _ _=>rfl) fun _ _=> ?_
     simp only[cA,nA]
     refine a1e (a8i (hw.mono l1) hg (hu.mono l1) hval (x:=(Ed es (j:Nat)).1) (by omega)) rfl ?_
     simp only[cA,nA]
     have hR:=(a2J (L:=etl es b) (b0l hg hval) (x:=(Ed es (j:Nat)).1) (by omega)).1
     refine a0v (a0P hR (by omega)) rfl ?_
     simp only[cA,nA]
     refine a0a ⟨_,rfl⟩ ?_
     refine a0e (b:=bit (reach (etl es b) (Ed es (j:Nat)).1) (Ed es (j:Nat)).2) rfl (fun h3=> ?_) (fun h3=> ?_)
     ·skip
      exact⟨(v,l,j+1),by show es.length-(j+1)<es.length-j;omega,(a1s rfl (a0x rfl (by omega))),⟨hj',by show a0L b<=j+1;omega,l1,o1,htr,Nat.le_trans (Nat.add_le_add_left hpw _) hcn,fun hS=>(hsp hS).imp (fun h=>h) fun h=>h.cyc hem (hB.cyc hs' hok h3)⟩⟩
     ·skip
      have hB':=hB.snoc hs' (fun i hi=>by have:=hlt i hi;omega) hok h3
      have hfo:a0L (b++[(j:Int)])=j+1:=a6V b j
      refine b3h a0q rfl rfl fun b1 hb1=> ?_
      simp only[cA,nA]
      refine b0b a0q rfl rfl rfl (PH.put_self _ _ _) (hu.mono (l1.trans (PH.le_put hb1 _))) (by omega) rfl fun v2 H2 l2 _ o2=> ?_
      simp only[cA,nA]
      have o2:=o2 H' (PH.le_put hb1 _) hb1
      refine b3i a0q (a:=(j:Int)) rfl rfl rfl fun b3 hb3=> ?_
      simp only[cA,nA]
      refine a1S a0q rfl rfl rfl (((PH.le_put hb1 _).trans l2).trans (PH.le_put hb3 _)) (o2.mono (PH.le_put hb3 _)) (b3g (l:=[(j:Int)]) (PH.put_self _ _ _) rfl rfl (show 1<=maxLen by decide)) (by show b.length+1<=_;omega) rfl rfl fun v4 H4 l4 o4 _=> ?_
      simp only[cA,nA]
      have lc4:PH.le H H4:=l1.trans l4
      refine a0h (ih (es.length-(j+1)) (by omega) (b++[(j:Int)]) v4 H4 (by rw[hfo];exact Nat.le_refl _) (hw.mono lc4) o4.se hB') rfl ?_
      rintro r2 H5 ⟨l5,t2,o5,htr5,hlen5,hsp5⟩
      refine⟨fun h=>(nomatch h),?_⟩
      simp only[cA,nA]
      rw[hfo]at hlen5 hsp5
      have hic:=b3r hem hin
      have hpw2:2^a4a es set j=2*2^a4a es set (j+1):=by rw[hic,Nat.pow_succ,Nat.mul_comm]
      have h36':2^a4a es set (a0L b)<=2^36:=Nat.pow_le_pow_right (by decide) (Nat.le_trans (b0m es set (Nat.zero_le _)) h36)
      refine a2Y b1n rfl rfl rfl (lc4.trans l5) (o1.mono (l4.trans l5)) o5.se (by omega) rfl rfl fun v6 H6 l6 o6 hput=> ?_
      simp only[cA,nA]
      exact⟨(v6,l++t2,j+1),by show es.length-(j+1)<es.length-j;omega,(a1s rfl (a0x rfl (by omega))),⟨hj',by show a0L b<=j+1;omega,l6,o6,(fun s hs=>by rw[List.mem_append]at hs;rcases hs with hs|hs;(obtain⟨t,ho,ht⟩:=htr s hs;exact⟨t,b4V (ho.mono (l4.trans l5)) hput,ht⟩);(obtain⟨t,ho,ht⟩:=htr5 s hs;exact⟨t,b4V (ho.less lc4) hput,ht⟩)),by rw[List.length_append];show _+2^a4a es set (j+1)<=_;omega,fun hS=> .inl (by rcases hsp hS with h|h;(exact fun e=>h (List.append_eq_nil_iff.1 e).1);(exact fun e=>hsp5 (h.take hj') (List.append_eq_nil_iff.1 e).2))⟩⟩
   ·replace h9:=of_decide_eq_false h9
    exact a0f rfl ⟨l1,l,o1,htr,Nat.le_trans (Nat.le_add_right _ _) hcn,fun hS=>(hsp hS).elim (fun h=>h) fun h=>absurd (by have:=h.end hs' h0 (by omega) hB.inn hB.acy;rw[show(etl es b).length=b.length from List.length_map _]at this;exact this) hne⟩
  ·replace h1:=of_decide_eq_false h1
   have hb0:b=[]:=List.eq_nil_of_length_eq_zero (by omega)
   have hfo0:a0L b=0:=by rw[hb0];rfl
   have hlt:∀i∈b,i<(a0L b:Nat):=fun i hi=>by rw[hb0]at hi;cases hi
   have hfl:a0L b<=es.length:=by omega
   refine a0n (α:=Value×List Slc×Nat) (fun⟨v,l,j⟩=>[v,ii (j:Nat)]) (fun⟨v,l,j⟩=>fun H'=>j<=es.length/\a0L b<=j/\PH.le H H'/\SO H H' 32 1 (fun s:Slc=>[vs s]) v l/\(∀s∈l,∃t,SO H H' 3 1 (fun z:Int=>[ii z]) (vs s) t/\TreeOk es set t)/\l.length+2^a4a es set j<=2^a4a es set (a0L b)/\(Spn es set b (a0L b)->l≠[]\/Spn es set b j)) (fun⟨v,l,j⟩=>es.length-j) ((.slice none 0 0,[],a0L b)) (a1s rfl (by rw[hfo0];rfl)) (⟨hfl,Nat.le_refl _,PH.le.refl _,SO.nil _ _ _ _ _,(fun s hs=>by cases hs),by simp,(fun h=> .inr h)⟩) fun⟨v,l,j⟩ H' hQ=> ?_
   simp only[cA,nA]
   obtain⟨hj,hfj,l1,o1,htr,hcn,hsp⟩:=hQ
   refine a0j el_edge rfl rfl (hw.mono l1) rfl ?_
   refine a0a ⟨_,rfl⟩ ?_
   refine a0a ⟨_,rfl⟩ ?_
   refine a0e (b:=decide (((j:Nat):Int)<(es.length:Nat))) rfl (fun h9=> ?_) (fun h9=> ?_)
   ·replace h9:=of_decide_eq_true h9
    have hj':j<es.length:=by omega
    have hem:=a4l hj'
    have hed:=hg.mem hem
    have hpw:2^a4a es set (j+1)<=2^a4a es set j:=Nat.pow_le_pow_right (by decide) (b2k es set j)
    refine a1e (a8h (hw.mono l1) hg hs' (j:Nat)) rfl ?_
    simp only[cA,nA]
    refine a0a ⟨_,rfl⟩ ?_
    refine a0e (b:= !decide (OkI es set (j:Nat))) rfl (fun h2=> ?_) (fun h2=> ?_)
    ·skip
     exact⟨(v,l,j+1),by show es.length-(j+1)<es.length-j;omega,(a1s rfl (a0x rfl (by omega))),⟨hj',by show a0L b<=j+1;omega,l1,o1,htr,Nat.le_trans (Nat.add_le_add_left hpw _) hcn,fun hS=>(hsp hS).imp (fun h=>h) fun h=>h.skip hem (Bool.eq_false_iff.2 fun hb=>by unfold inB at hb;rw[Bool.and_eq_true]at hb;rw[decide_eq_true (show OkI es set (j:Nat)from⟨by omega,by rw[Int.toNat_natCast];exact hj',hb.1,hb.2⟩)]at h2;cases h2)⟩⟩
    ·skip
     have hok:OkI es set (j:Nat):=by simpa using h2
     have hin:inB set (Ed es (j:Nat))=true:=by unfold inB;rw[hok.2.2.1,hok.2.2.2];rfl
     refine a4Y rfl rfl rfl rfl rfl (fun _=>rfl) (fun _=>rfl) (fun _=>rfl) (hw.mono l1) hem rfl (fun _=>rfl) (fun _ _=>rfl) fun _ _=> ?_
     simp only[cA,nA]
     refine a4Z rfl rfl rfl rfl rfl (fun _=>rfl) (fun _=>rfl) (fun _=>rfl) (hw.mono l1) hem rfl (fun _=>rfl) (fun _ _=>rfl) fun _ _=> ?_
     simp only[cA,nA]
     refine a1e (a8i (hw.mono l1) hg (hu.mono l1) hval (x:=(Ed es (j:Nat)).1) (by omega)) rfl ?_
     simp only[cA,nA]
     have hR:=(a2J (L:=etl es b) (b0l hg hval) (x:=(Ed es (j:Nat)).1) (by omega)).1
     refine a0v (a0P hR (by omega)) rfl ?_
     simp only[cA,nA]
     refine a0a ⟨_,rfl⟩ ?_
     refine a0e (b:=bit (reach (etl es b) (Ed es (j:Nat)).1) (Ed es (j:Nat)).2) rfl (fun h3=> ?_) (fun h3=> ?_)
     ·skip
      exact⟨(v,l,j+1),by show es.length-(j+1)<es.length-j;omega,(a1s rfl (a0x rfl (by omega))),⟨hj',by show a0L b<=j+1;omega,l1,o1,htr,Nat.le_trans (Nat.add_le_add_left hpw _) hcn,fun hS=>(hsp hS).imp (fun h=>h) fun h=>h.cyc hem (hB.cyc hs' hok h3)⟩⟩
     ·skip
      have hB':=hB.snoc hs' (fun i hi=>by have:=hlt i hi;omega) hok h3
      have hfo:a0L (b++[(j:Int)])=j+1:=a6V b j
      refine b3h a0q rfl rfl fun b1 hb1=> ?_
      simp only[cA,nA]
      refine b0b a0q rfl rfl rfl (PH.put_self _ _ _) (hu.mono (l1.trans (PH.le_put hb1 _))) (by omega) rfl fun v2 H2 l2 _ o2=> ?_
      simp only[cA,nA]
      have o2:=o2 H' (PH.le_put hb1 _) hb1
      refine b3i a0q (a:=(j:Int)) rfl rfl rfl fun b3 hb3=> ?_
      simp only[cA,nA]
      refine a1S a0q rfl rfl rfl (((PH.le_put hb1 _).trans l2).trans (PH.le_put hb3 _)) (o2.mono (PH.le_put hb3 _)) (b3g (l:=[(j:Int)]) (PH.put_self _ _ _) rfl rfl (show 1<=maxLen by decide)) (by show b.length+1<=_;omega) rfl rfl fun v4 H4 l4 o4 _=> ?_
      simp only[cA,nA]
      have lc4:PH.le H H4:=l1.trans l4
      refine a0h (ih (es.length-(j+1)) (by omega) (b++[(j:Int)]) v4 H4 (by rw[hfo];exact Nat.le_refl _) (hw.mono lc4) o4.se hB') rfl ?_
      rintro r2 H5 ⟨l5,t2,o5,htr5,hlen5,hsp5⟩
      refine⟨fun h=>(nomatch h),?_⟩
      simp only[cA,nA]
      rw[hfo]at hlen5 hsp5
      have hic:=b3r hem hin
      have hpw2:2^a4a es set j=2*2^a4a es set (j+1):=by rw[hic,Nat.pow_succ,Nat.mul_comm]
      have h36':2^a4a es set (a0L b)<=2^36:=Nat.pow_le_pow_right (by decide) (Nat.le_trans (b0m es set (Nat.zero_le _)) h36)
      refine a2Y b1n rfl rfl rfl (lc4.trans l5) (o1.mono (l4.trans l5)) o5.se (by omega) rfl rfl fun v6 H6 l6 o6 hput=> ?_
      simp only[cA,nA]
      exact⟨(v6,l++t2,j+1),by show es.length-(j+1)<es.length-j;omega,(a1s rfl (a0x rfl (by omega))),⟨hj',by show a0L b<=j+1;omega,l6,o6,(fun s hs=>by rw[List.mem_append]at hs;rcases hs with hs|hs;(obtain⟨t,ho,ht⟩:=htr s hs;exact⟨t,b4V (ho.mono (l4.trans l5)) hput,ht⟩);(obtain⟨t,ho,ht⟩:=htr5 s hs;exact⟨t,b4V (ho.less lc4) hput,ht⟩)),by rw[List.length_append];show _+2^a4a es set (j+1)<=_;omega,fun hS=> .inl (by rcases hsp hS with h|h;(exact fun e=>h (List.append_eq_nil_iff.1 e).1);(exact fun e=>hsp5 (h.take hj') (List.append_eq_nil_iff.1 e).2))⟩⟩
   ·replace h9:=of_decide_eq_false h9
    exact a0f rfl ⟨l1,l,o1,htr,Nat.le_trans (Nat.le_add_right _ _) hcn,fun hS=>(hsp hS).elim (fun h=>h) fun h=>absurd (by have:=h.end hs' h0 (by omega) hB.inn hB.acy;rw[show(etl es b).length=b.length from List.length_map _]at this;exact this) hne⟩
end Go.Proofs.YtkcjbfoejpfbbaaGreatDoor
/- Chapter 32: all spanning trees, part 2. -/
namespace Go.Proofs.YtkcjbfoejpfbbaaGreatDoor
open Go.Proofs.Tryz
open Go.RowKit Go.RX Go.GS
section
variable {H:PH} {n:Nat} {w:Value} {es:List (Nat×Nat)} {set:Nat}
def Trs (H0 H:PH) (es:List (Nat×Nat)) (set:Nat) (r:Value) (l:List Slc):Prop:=
 SO H0 H 32 1 (fun s:Slc=>[vs s]) r l/\(∀s∈l,∃t,SO H0 H 3 1 (fun z:Int=>[ii z]) (vs s) t/\TreeOk es set t)/\l.length<=68719476736
theorem b6p (hw:SG H w es) (hg:GV n es) (hs:set<2^n) (h0:set≠0) (h9:card set<=9):Con prog 47 [gv n w,uv set] H fun r H'=>PH.le H H'/\∃l,Trs H H' es set r l/\(Cn es set->l≠[]):=by
 refine a0d a0r c0k (by kernel_rfl) rfl ?_
 have h36:=c8f hg (a3X hg.n64 hs) h9
 refine a0a (a1m hw) ?_
 refine a0h (b6o hg hs h0 h36 _ [] (.slice none 0 0) H (Nat.le_refl _) hw (SE.nil _ _ _) (Beg.nil _ _)) rfl ?_
 rintro r H1 ⟨l1,l,h1,h2,h3,h4⟩
 refine⟨fun h=>(nomatch h),?_⟩
 simp only[cA,nA]
 exact a0f rfl ⟨l1,l,⟨h1,h2,Nat.le_trans h3 (Nat.le_trans (Nat.pow_le_pow_right (by decide) h36) (by decide))⟩,fun hc=>h4 (Spn.start hc)⟩
end
end Go.Proofs.YtkcjbfoejpfbbaaGreatDoor
/- Chapter 32: drafts: labels of a forest. -/
namespace Go.Proofs.YtkcjbfoejpfbbaaGreatDoor
open Go.Proofs.Tryz
open Go.RowKit Go.RX Go.GS
structure LbI (n:Nat) (e:Nat×Nat) (x next:Nat) (p:List Int):Prop where
 len:p.length=n
 lo:∀(y:Nat) (z:Int),p[y]? =some z-> -1<=z/\z<(next:Int)
 done:∀(y:Nat) (z:Int),y<x->p[y]? =some z->0<=z
 nx:next<=x
 ka:e.1<x->next<x\/∃z,p[e.2]? =some z/\0<=z
 kb:e.2<x->next<x
structure LbJ (n:Nat) (e:Nat×Nat) (x next i:Nat) (p:List Int):Prop where
 len:p.length=n
 lo:∀(y:Nat) (z:Int),p[y]? =some z-> -1<=z/\z<(next:Int)+1
 done:∀(y:Nat) (z:Int),y<x+1->p[y]? =some z->0<=z
 nx:next<=x
 at_:p[x]? =some (next:Int)
 ka:e.1<x->next<x\/∃z,p[e.2]? =some z/\0<=z
 kb:e.2<x->next<x
 kc:e.1=x->0<i->∃z,p[e.2]? =some z/\0<=z
 kd:e.2=x->next<x
theorem LbI.skip {n:Nat} {e:Nat×Nat} {x next:Nat} {p:List Int} {z:Int} (h:LbI n e x next p) (hz:p[x]? =some z) (h0:0<=z):LbI n e (x+1) next p where
 len:=h.len
 lo:=h.lo
 done:=fun y z' hy hz'=>by
  rcases Nat.lt_succ_iff_lt_or_eq.1 hy with hy|rfl
  ·exact h.done y z' hy hz'
  ·rw[hz]at hz';cases hz';exact h0
 nx:=Nat.le_succ_of_le h.nx
 ka:=fun _=> .inl (by have:=h.nx;omega)
 kb:=fun _=>by have:=h.nx;omega
theorem LbI.begin {n:Nat} {e:Nat×Nat} {x next:Nat} {p:List Int} {z:Int} (h:LbI n e x next p) (he:e.1<e.2) (hz:p[x]? =some z) (h0:z<0):LbJ n e x next 0 (p.set x (next:Int)) where
 len:=by rw[List.length_set];exact h.len
 lo:=fun y z' hz'=>by
  rw[List.getElem?_set]at hz'
  split at hz'
  ·split at hz'
   ·cases hz';omega
   ·cases hz'
  ·have:=h.lo y z' hz';omega
 done:=fun y z' hy hz'=>by
  rw[List.getElem?_set]at hz'
  split at hz'
  ·split at hz'
   ·cases hz';omega
   ·cases hz'
  ·exact h.done y z' (by omega) hz'
 nx:=h.nx
 at_:=List.getElem?_set_self (List.getElem?_eq_some_iff.1 hz).1
 ka:=fun hx=>by
  rcases h.ka hx with h1|⟨z',h1,h2⟩
  ·exact .inl h1
  ·right
   by_cases hx2:x=e.2
   ·subst hx2;rw[hz]at h1;cases h1;omega
   ·exact⟨z',by rw[List.getElem?_set_ne hx2];exact h1,h2⟩
 kb:=h.kb
 kc:=fun _ h=>by omega
 kd:=fun hx=>by
  rcases h.ka (by omega)with h1|⟨z',h1,h2⟩
  ·exact h1
  ·rw[hx,hz]at h1;cases h1;omega
theorem LbJ.end {n:Nat} {e:Nat×Nat} {x next i:Nat} {p:List Int} (h:LbJ n e x next i p) (hi:e.1=x->0<i):LbI n e (x+1) (next+1) p where
 len:=h.len
 lo:=fun y z hz=>by have:=h.lo y z hz;omega
 done:=h.done
 nx:=Nat.succ_le_succ h.nx
 ka:=fun hx=>by
  rcases Nat.lt_succ_iff_lt_or_eq.1 hx with hx|hx
  ·rcases h.ka hx with h1|h1
   ·left;omega
   ·exact .inr h1
  ·exact .inr (h.kc hx (hi hx))
 kb:=fun hx=>by
  rcases Nat.lt_succ_iff_lt_or_eq.1 hx with hx|hx
  ·have:=h.kb hx;omega
  ·have:=h.kd hx;omega
theorem LbJ.put {n:Nat} {e:Nat×Nat} {x next i y:Nat} {p:List Int} (h:LbJ n e x next i p) (hy:y<n):LbJ n e x next i (p.set y (next:Int)) where
 len:=by rw[List.length_set];exact h.len
 lo:=fun y' z' hz'=>by
  rw[List.getElem?_set]at hz'
  split at hz'
  ·split at hz'
   ·cases hz';omega
   ·cases hz'
  ·exact h.lo y' z' hz'
 done:=fun y' z' hy' hz'=>by
  rw[List.getElem?_set]at hz'
  split at hz'
  ·split at hz'
   ·cases hz';omega
   ·cases hz'
  ·exact h.done y' z' hy' hz'
 nx:=h.nx
 at_:=by
  by_cases e1:y=x
  ·subst e1;exact List.getElem?_set_self (by rw[h.len];exact hy)
  ·rw[List.getElem?_set_ne e1];exact h.at_
 ka:=fun hx=>(h.ka hx).imp (fun h=>h) fun⟨z,h1,h2⟩=>by
  by_cases e1:y=e.2
  ·subst e1;exact⟨next,List.getElem?_set_self (List.getElem?_eq_some_iff.1 h1).1,by omega⟩
  ·exact⟨z,by rw[List.getElem?_set_ne e1];exact h1,h2⟩
 kb:=h.kb
 kc:=fun hx hi=>by
  obtain⟨z,h1,h2⟩:=h.kc hx hi
  by_cases e1:y=e.2
  ·subst e1;exact⟨next,List.getElem?_set_self (List.getElem?_eq_some_iff.1 h1).1,by omega⟩
  ·exact⟨z,by rw[List.getElem?_set_ne e1];exact h1,h2⟩
 kd:=h.kd
theorem LbJ.inc {n:Nat} {e:Nat×Nat} {x next i:Nat} {p:List Int} (h:LbJ n e x next i p) (hk:e.1=x->i=0->∃z,p[e.2]? =some z/\0<=z):LbJ n e x next (i+1) p where
 len:=h.len
 lo:=h.lo
 done:=h.done
 nx:=h.nx
 at_:=h.at_
 ka:=h.ka
 kb:=h.kb
 kc:=fun hx _=>by
  cases i with
  |zero=>exact hk hx rfl
  |succ i=>exact h.kc hx (Nat.succ_pos _)
 kd:=h.kd
theorem c1K (n:Nat) (e:Nat×Nat):LbI n e 0 0 (List.replicate n (-1)) where
 len:=by simp
 lo:=fun y z hz=>by
  rw[List.getElem?_replicate]at hz
  split at hz
  ·cases hz;omega
  ·cases hz
 done:=fun y z hy=>by omega
 nx:=Nat.le_refl _
 ka:=fun h=>by omega
 kb:=fun h=>by omega
theorem d0w {n i:Nat} (h:i<n):(List.replicate i (-1:Int)++List.replicate (n-i) 0).set i (-1)=List.replicate (i+1) (-1)++List.replicate (n-(i+1)) 0:=by
 obtain⟨k,hk⟩:∃k,n-i=k+1:=⟨n-i-1,by omega⟩
 rw[hk,show n-(i+1)=k by omega,List.replicate_succ,List.replicate_succ',List.append_assoc]
 simp[List.set_append]
section
variable {H:PH} {u w:Value} {t:List Int} {n:Nat} {es:List (Nat×Nat)} {e:Nat×Nat}
theorem b6q (hw:SG H w es) (hg:GV n es) (hu:SI H u t) (ht:∀i∈t,0<=i/\i.toNat<es.length) (hl:t.length<=64) (he:e.1<e.2) (hf:∀y,t[0]? =some y->Ed es y=e) (h0:t=[]->n<=e.1):Con prog 48 [gv n w,u] H fun r H'=>PH.le H H'/\∃p next,SI H' r p/\LbI n e n next p:=by
 refine a0d a0r c0n (by kernel_rfl) rfl ?_
 have h64:=hg.n64
 refine a0a (a1m hw) ?_
 refine a6q a1U (z:=(0:Int)) c9B rfl rfl rfl (by omega) rfl fun v H1 l1 o1 _=> ?_
 simp only[cA,nA]
 refine a0n (α:=Nat) (fun i=>[ii (i:Nat)]) (fun i=>fun H'=>i<=n/\PH.le H H'/\SO H H' 3 1 (fun z:Int=>[ii z]) v (List.replicate i (-1)++List.replicate (n-i) 0)) (fun i=>n-i) (0) rfl (⟨Nat.zero_le _,l1,o1⟩) fun i H' hQ=> ?_
 simp only[cA,nA]
 obtain⟨hi,l2,o2⟩:=hQ
 refine a0a ⟨_,rfl⟩ ?_
 refine a0a ⟨_,rfl⟩ ?_
 refine a0e (b:=decide (((i:Nat):Int)<(n:Nat))) rfl (fun h=> ?_) (fun h=> ?_)
 ·replace h:=of_decide_eq_true h
  refine a1q a1U (a:=(-1:Int)) rfl rfl rfl rfl (fun _=>rfl) (fun _=>rfl) l2 o2 (by simp;omega) rfl (fun _=>rfl) rfl fun q u' H3 l3 o3 _=> ?_
  simp only[cA,nA]
  exact⟨i+1,by omega,(a5E (a0x rfl (by omega))),⟨by omega,l3,by rw[d0w (by omega)]at o3;exact o3⟩⟩
 ·replace h:=of_decide_eq_false h
  have hie:i=n:=by omega
  subst hie
  rw[Nat.sub_self,List.replicate_zero,List.append_nil]at o2
  refine a0n (α:=Nat×Nat×List Int) (fun⟨next,x,p⟩=>[ii (next:Nat),ii (x:Nat),gv i w]) (fun⟨next,x,p⟩=>fun H2=>x<=i/\PH.le H H2/\SO H H2 3 1 (fun z:Int=>[ii z]) v p/\LbI i e x next p) (fun⟨next,x,p⟩=>i-x) ((0,0,List.replicate i (-1))) rfl (⟨Nat.zero_le _,l2,o2,c1K i e⟩) fun⟨next,x,p⟩ H2 hQ2=> ?_
  simp only[cA,nA]
  obtain⟨hx,l3,o3,hI⟩:=hQ2
  refine a0a ⟨_,rfl⟩ ?_
  refine a0a ⟨_,rfl⟩ ?_
  refine a0e (b:=decide (((x:Nat):Int)<(i:Nat))) rfl (fun h=> ?_) (fun h=> ?_)
  ·replace h:=of_decide_eq_true h
   have hx':x<i:=by omega
   obtain⟨z,hz⟩:∃z,p[x]? =some z:=⟨_,List.getElem?_eq_getElem (by rw[hI.len];exact hx')⟩
   refine a0k a1U rfl rfl rfl rfl (fun _=>rfl) o3.se hz rfl (fun _=>rfl) fun _=> ?_
   simp only[cA,nA]
   refine a0a ⟨_,rfl⟩ ?_
   refine a0e (b:=decide (z≥0)) rfl (fun h2=> ?_) (fun h2=> ?_)
   ·replace h2:=of_decide_eq_true h2
    exact⟨(next,x+1,p),by show i-(x+1)<i-x;omega,(a7m rfl (a0x rfl (by omega)) rfl),⟨hx',l3,o3,hI.skip hz h2⟩⟩
   ·replace h2:=of_decide_eq_false h2
    refine a1q a1U (a:=(next:Int)) rfl rfl rfl rfl (fun _=>rfl) (fun _=>rfl) l3 o3 (by rw[hI.len];exact hx') rfl (fun _=>rfl) rfl fun q u' H3 l4 o4 _=> ?_
    simp only[cA,nA]
    have hnx:=hI.nx
    have hJ0:=hI.begin he hz (by omega)
    have hll:t.length*t.length<=64*64:=Nat.mul_le_mul hl hl
    have hDl:∀ρ:List Value,D prog ρ (.v 12)=ii (t.length:Nat)->D prog ρ (.v 13)=ii (t.length:Nat)->D prog ρ (.op2 .mul .i64 (.v 12) (.v 13))=ii ((t.length*t.length:Nat):Int):=fun ρ a b=>by
     show a1H .mul .i64 (intOf (D prog ρ (.v 12))) (intOf (D prog ρ (.v 13)))=_
     rw[a,b]
     show Value.int .i64 (IntKind.i64.wrap (((t.length:Nat):Int)*((t.length:Nat):Int)))=Value.int .i64 _
     congr 1
     rw[<-Int.natCast_mul,c6T (by omega)]
    refine a0n (α:=Nat×List Int) (fun⟨j,p'⟩=>[ii (j:Nat)]) (fun⟨j,p'⟩=>fun H4=>j<=t.length*t.length/\PH.le H H4/\SO H H4 3 1 (fun z:Int=>[ii z]) v p'/\LbJ i e x next j p') (fun⟨j,p'⟩=>t.length*t.length-j) ((0,p.set x (next:Int))) rfl (⟨Nat.zero_le _,l4,o4,hJ0⟩) fun⟨j,p'⟩ H4 hQ4=> ?_
    simp only[cA,nA]
    obtain⟨hj,l5,o5,hJ⟩:=hQ4
    refine a0j a0q rfl rfl (hu.mono l5) rfl ?_
    refine a0j a0q rfl rfl (hu.mono l5) rfl ?_
    refine a0a ⟨_,rfl⟩ ?_
    refine a0a ⟨_,rfl⟩ ?_
    refine a0a ⟨_,rfl⟩ ?_
    refine a0e (b:=decide (((j:Nat):Int)<(t.length*t.length:Nat))) (by show Value.bool (decide (((j:Nat):Int)<intOf (D prog _ (.op2 .mul .i64 (.v 12) (.v 13)))))=_;rw[hDl _ rfl rfl];rfl) (fun h3=> ?_) (fun h3=> ?_)
    ·replace h3:=of_decide_eq_true h3
     have htl:0<t.length:=Nat.pos_of_ne_zero fun e=>by rw[e]at h3;simp at h3;omega
     refine a0j a0q rfl rfl (hu.mono l5) rfl ?_
     refine a0a ⟨_,rfl⟩ ?_
     refine a0a (by show((t.length:Nat):Int)≠0;omega) ?_
     have hmod:j%t.length<t.length:=Nat.mod_lt _ htl
     obtain⟨y,hy,_⟩:=a1j hmod
     refine a0k a0q rfl rfl rfl rfl (fun _=>rfl) (hu.mono l5) hy (a1s rfl (by show Value.int .i64 (Int.tmod ((j:Nat):Int) ((t.length:Nat):Int))=Value.int .i64 _;congr 1)) (fun _=>rfl) fun _=> ?_
     simp only[cA,nA]
     obtain⟨hy1,hy2⟩:=ht y (List.mem_of_getElem? hy)
     obtain⟨m,rfl⟩:∃m:Nat,y=(m:Int):=⟨y.toNat,by omega⟩
     rw[Int.toNat_natCast]at hy2
     have hem:=a4l (es:=es) hy2
     have hed:=hg.mem hem
     refine a0k el_edge rfl rfl rfl rfl (fun _=>rfl) (hw.mono l5) hem rfl (fun _=>rfl) fun _=> ?_
     simp only[cA,nA]
     refine a0a (el_edge.vcells (Ed es (m:Nat))) ?_
     have hlen:=hJ.len
     obtain⟨za,hza⟩:∃z,p'[(Ed es (m:Nat)).1]? =some z:=⟨_,List.getElem?_eq_getElem (by omega)⟩
     obtain⟨zb,hzb⟩:∃z,p'[(Ed es (m:Nat)).2]? =some z:=⟨_,List.getElem?_eq_getElem (by omega)⟩
     have hfirst:j=0->Ed es (m:Nat)=e:=fun hj0=>hf _ (by rw[<-hy,hj0,Nat.zero_mod])
     have hboth:LbJ i e x next (j+1) ((p'.set (Ed es (m:Nat)).1 (next:Int)).set (Ed es (m:Nat)).2 (next:Int)):=((hJ.put (y:=(Ed es (m:Nat)).1) (by omega)).put (y:=(Ed es (m:Nat)).2) (by omega)).inc fun _ hj0=>⟨next,by rw[hfirst hj0]at hed⊢;exact List.getElem?_set_self (by rw[List.length_set];omega),by omega⟩
     refine a0k a1U rfl rfl rfl rfl (fun _=>rfl) o5.se hza rfl (fun _=>rfl) fun _=> ?_
     simp only[cA,nA]
     refine a0a ⟨_,rfl⟩ ?_
     refine a0a ⟨_,rfl⟩ ?_
     refine a0e (b:=decide (za=(next:Int))) (bE _ _) (fun h4=> ?_) (fun h4=> ?_)
     ·replace h4:=of_decide_eq_true h4
      refine a1q a1U (a:=(next:Int)) rfl rfl rfl rfl (fun _=>rfl) (fun _=>rfl) l5 o5 (by omega) rfl (fun _=>rfl) rfl fun q5 u5 H5 l6 o6 _=> ?_
      simp only[cA,nA]
      refine a1q a1U (a:=(next:Int)) rfl rfl rfl rfl (fun _=>rfl) (fun _=>rfl) l6 o6 (by rw[List.length_set];omega) rfl (fun _=>rfl) rfl fun q6 u6 H6 l7 o7 _=> ?_
      simp only[cA,nA]
      exact⟨(j+1,(p'.set (Ed es (m:Nat)).1 (next:Int)).set (Ed es (m:Nat)).2 (next:Int)),by show t.length*t.length-(j+1)<t.length*t.length-j;omega,(a5E (a0x rfl (by omega))),⟨by show j+1<=_;omega,l7,o7,hboth⟩⟩
     ·replace h4:=of_decide_eq_false h4
      refine a0k a1U rfl rfl rfl rfl (fun _=>rfl) o5.se hzb rfl (fun _=>rfl) fun _=> ?_
      simp only[cA,nA]
      refine a0a ⟨_,rfl⟩ ?_
      refine a0e (b:=decide (zb=(next:Int))) (bE _ _) (fun h5=> ?_) (fun h5=> ?_)
      ·replace h5:=of_decide_eq_true h5
       refine a1q a1U (a:=(next:Int)) rfl rfl rfl rfl (fun _=>rfl) (fun _=>rfl) l5 o5 (by omega) rfl (fun _=>rfl) rfl fun q5 u5 H5 l6 o6 _=> ?_
       simp only[cA,nA]
       refine a1q a1U (a:=(next:Int)) rfl rfl rfl rfl (fun _=>rfl) (fun _=>rfl) l6 o6 (by rw[List.length_set];omega) rfl (fun _=>rfl) rfl fun q6 u6 H6 l7 o7 _=> ?_
       simp only[cA,nA]
       exact⟨(j+1,(p'.set (Ed es (m:Nat)).1 (next:Int)).set (Ed es (m:Nat)).2 (next:Int)),by show t.length*t.length-(j+1)<t.length*t.length-j;omega,(a5E (a0x rfl (by omega))),⟨by show j+1<=_;omega,l7,o7,hboth⟩⟩
      ·replace h5:=of_decide_eq_false h5
       exact⟨(j+1,p'),by show t.length*t.length-(j+1)<t.length*t.length-j;omega,(a5E (a0x rfl (by omega))),⟨by show j+1<=_;omega,l5,o5,hJ.inc fun hx2 hj0=>absurd (by have:=hJ.at_;rw[<-hx2,<-hfirst hj0,hza]at this;exact Option.some.inj this) h4⟩⟩
    ·replace h3:=of_decide_eq_false h3
     have hend:=hJ.end (fun hx2=>Nat.pos_of_ne_zero fun hj0=>by have:t=[]:=List.eq_nil_of_length_eq_zero (by subst hj0;have:t.length*t.length=0:=(by omega);rcases Nat.mul_eq_zero.1 this with h|h<;>exact h);have:=h0 this;omega)
     refine a0a ⟨_,rfl⟩ ?_
     exact⟨(next+1,x+1,p'),by show i-(x+1)<i-x;omega,(a7m (a0x rfl (by omega)) (a0x rfl (by omega)) rfl),⟨hx',l5,o5,hend⟩⟩
  ·replace h:=of_decide_eq_false h
   have hxe:x=i:=by omega
   subst hxe
   exact a0f rfl ⟨l3,p,next,o3.se,hI⟩
end
end Go.Proofs.YtkcjbfoejpfbbaaGreatDoor
/- Chapter 32: drafts: weights. -/
namespace Go.Proofs.YtkcjbfoejpfbbaaGreatDoor
open Go.Proofs.Tryz
open Go.RowKit Go.RX Go.GS
def arI (l:List Int):Value:= .agg (l.map ii).toArray
theorem a6W (l:List Int):(arI l).cells=(l.map ii).toArray:=rfl
theorem c5g {ρ:List Value} {x i:SV} {l:List Int} {d:Nat} {y:Int} (hx:D prog ρ x=arI l) (hi:D prog ρ i=ii (d:Nat)) (hd:l[d]? =some y):D prog ρ (.cell x 0 1 i)=ii y:=by
 show(D prog ρ x).cells.getD (0+1*a1w (D prog ρ i)) undef=_
 rw[hx,hi,a6W]
 show((l.map ii).toArray).getD (0+1*((d:Nat):Int).toNat) undef=_
 rw[Int.toNat_natCast,Nat.zero_add,Nat.one_mul,Array.getD_eq_getD_getElem?,List.getElem?_toArray,List.getElem?_map,hd]
 rfl
theorem c5h {ρ:List Value} {x y i:SV} {l:List Int} {d:Nat} {z:Int} (hx:D prog ρ x=arI l) (hy:D prog ρ y=ii z) (hi:D prog ρ i=ii (d:Nat)):D prog ρ (.put x 0 1 y 1 i)=arI (l.set d z):=by
 show Value.agg (spl (D prog ρ x).cells (0+1*a1w (D prog ρ i)) (D prog ρ y).cells.toList)=_
 rw[hx,hi,hy,a6W]
 show Value.agg (spl (l.map ii).toArray (0+1*((d:Nat):Int).toNat) [ii z])=_
 rw[Int.toNat_natCast,Nat.zero_add,Nat.one_mul]
 show Value.agg ((l.map ii).toArray.setIfInBounds d (ii z))=Value.agg _
 congr 1
 rw[<-Array.toList_inj]
 simp[List.map_set]
theorem z_8:a0G prog 179=arI (List.replicate 8 0):=by kernel_rfl
theorem c6Z {ρ:List Value} {x:SV} {l:List Int} {y:Int} (hx:D prog ρ x=arI l) (hd:l[0]? =some y):D prog ρ (.cell x 0 0 noI)=ii y:=by
 show(D prog ρ x).cells.getD (0+0*a1w (D prog ρ noI)) undef=_
 rw[hx,a6W,Nat.zero_mul,Array.getD_eq_getD_getElem?,List.getElem?_toArray,List.getElem?_map,hd]
 rfl
theorem d3I {ρ:List Value} {a b:SV} {x y:Int} (ha:D prog ρ a=ii x) (hb:D prog ρ b=ii y):D prog ρ (.op2 .add .i64 a b)=ii (IntKind.i64.wrap (x+y)):=by
 show a1H .add .i64 (intOf (D prog ρ a)) (intOf (D prog ρ b))=_
 rw[ha,hb];rfl
end Go.Proofs.YtkcjbfoejpfbbaaGreatDoor

/- Chapter 32: drafts: the plan is allowed. -/
import Derived.Test.YtmannekkmdockaaGreatDoorGtE
import Derived.Test.YtmannekkmdockaaGreatDoorProg
import Derived.Test.YtmannekkmdockaaGreatDoorRxW
import Derived.Test.YtmannekkmdockaaGreatDoorGzC
import Derived.Test.YtmannekkmdockaaGreatDoorGdF
import Derived.Test.YtmannekkmdockaaGreatDoorWdB
import Derived.Lib.Bytealg
import Derived.Laws.StructEq
namespace Go.GS
theorem c2c {es:List (Nat×Nat)} {t:List Int} (hok:∀z∈t,0<=z/\z.toNat<es.length):∀e∈etl es t,e∈es:=fun e he=>by
 obtain⟨i,hi,rfl⟩:=a1P he
 have ho:=(hok i hi).2
 unfold Ed
 rw[List.getD_eq_getElem?_getD,List.getElem?_eq_getElem ho]
 exact List.getElem_mem ho
theorem c2d {n:Nat} {es:List (Nat×Nat)} {t:List Int} (hg:GV n es) (hok:∀z∈t,0<=z/\z.toNat<es.length):Inn (2^n-1) (etl es t):=fun e he=>by
 have:=hg.ed e (c2c hok e he)
 have hb:∀y,bit (2^n-1) y=decide (y<n):=fun y=>Nat.testBit_two_pow_sub_one n y
 rw[hb,hb]
 exact⟨decide_eq_true (by omega),decide_eq_true this.2⟩
theorem c2e (p wl:List Int) (d:Nat):∀i,dsm p wl i d=(((List.range i).filter fun x=>decide (p.getD x 0=(d:Int))).map fun x=>wl.getD x 0).sum
 |0=>rfl
 |i+1=>by
  rw[dsm,c2e p wl d i,List.range_succ,List.filter_append,List.map_append,List.sum_append]
  congr 1
  by_cases h:p.getD i 0=(d:Int)
  ·rw[if_pos h,List.filter_cons_of_pos (by simpa using h)];simp
  ·rw[if_neg h,List.filter_cons_of_neg (by simpa using h)];rfl
theorem c5G {p wl:List Int} {n d:Nat} (hl:p.length=n) (hn:n<=64):c6t wl (a0R p (d:Nat))=dsm p wl n d:=by
 rw[c2e]
 unfold c6t
 congr 2
 refine a8L (a2v _) (List.pairwise_lt_range.filter _) fun x=> ?_
 have hM:a0R p (d:Nat)<M64:=c6r p _ (by omega)
 rw[a2a hM,a0K,List.mem_filter,List.mem_range,decide_eq_true_iff,decide_eq_true_iff]
 constructor
 ·intro h
  have:=(List.getElem?_eq_some_iff.1 h).1
  exact⟨by omega,by rw[List.getD_eq_getElem?_getD,h];rfl⟩
 ·rintro⟨h1,h2⟩
  rw[List.getD_eq_getElem?_getD,List.getElem?_eq_getElem (by omega)]at h2
  rw[List.getElem?_eq_getElem (by omega)]
  exact congrArg some h2
theorem d1i {n k:Nat} {L es:List (Nat×Nat)} {wl p:List Int} {lo hi:Int} (hL:LabA n L n k p) (hLe:∀e∈L,e∈es) (hn:n<=64) (h1:1<=n) (hk1:1<=k) (hk8:k<=8) (hw:∀d,d<k->lo<=dsm p wl n d/\dsm p wl n d<=hi):a4B n es wl lo hi (k:Nat) p=true:=by
 obtain⟨a,b⟩:=c6Z hL hn h1
 unfold a4B
 rw[Bool.and_eq_true]
 refine⟨decide_eq_true ?_,List.all_eq_true.2 fun m hm=> ?_⟩
 ·unfold plE
  rw[if_neg (by omega),if_pos ⟨hL.len,a,by rw[Int.toNat_natCast];exact b⟩]
 ·rw[Int.toNat_natCast]at hm
  obtain⟨d,hd,rfl⟩:=mem_masks.1 hm
  have:=hw d hd
  unfold alB
  rw[cnB_iff.2 (d4p hL hLe hd),c5G hL.len hn,decide_eq_true (show dsm p wl n d≥lo from this.1),decide_eq_true this.2];rfl
end Go.GS
namespace Go.Proofs.YtmannekkmdockaaGreatDoor
open Go.Proofs.Tryz
open Go.RowKit Go.RX Go.GS
def d4q (H:PH) (r:Value):Prop:=∃(n:Nat) (w:Value) (es:List (Nat×Nat)) (wts:Value) (wl:List Int) (lo hi:Int) (k:Nat) (u:Value) (p:List Int),
 r= .tuple #[gv n w,bv wts lo hi (k:Nat),u]/\SG H w es/\GV n es/\n<=9/\Cn es (2^n-1)/\SI H wts wl/\1<=k/\k<=4/\SI H u p/\bdE n wl lo hi (k:Nat)=0/\a4B n es wl lo hi (k:Nat) p=true
section
variable {H:PH} {s wv cu:Value} {more:List (Nat×Nat)} {wl0 cuts:List Nat} {da db dc dk s0 s1 tr:Nat}
set_option maxHeartbeats 4000000 in
theorem b3Z (hs:SE H 2 bc s more) (hwv:SE H 1 c8 wv wl0) (hcu:SE H 1 c8 cu cuts) (hc256:∀c∈cuts,c<256) (htr:tr<256):Con prog 8 [cv da db dc s wv cu dk s0 s1 tr] H fun r H'=>PH.le H H'/\d4q H' r:=by
 refine a0b mixed c0d (by kernel_rfl) rfl ?_
 refine a0a (c6J (a0A hs) (a0A hwv) (a0A hcu) _ _ _ _ _ _ _) ?_
 refine a0a ⟨_,rfl⟩ ?_
 refine a0d (b7i (da:=da%3) (db:=db) (dc:=dc) hs) (a3k (d0d rfl hs.cells)) ?_
 rintro _ H1 ⟨l1,w0,es0,rfl,o1,hg0⟩
 refine⟨fun h=>(nomatch h),?_⟩
 simp only[cA,nA]
 have hn9:(1+da%3%4)*(1+db%3)<=9:=Nat.mul_le_mul (show 1+da%3%4<=3 by omega) (show 1+db%3<=3 by omega)
 generalize (1+da%3%4)*(1+db%3)=n0 at hg0 hn9
 have hn1:=hg0.n1
 have hp2:2^n0-1<2^n0:=Nat.sub_lt (Nat.two_pow_pos n0) (by decide)
 have hpM:2^n0<M64:=a0P (by omega)
 refine a0a (a0S o1.se) ?_
 refine a0s (a1h (n:=n0) (by omega)) rfl ?_
 simp only[cA,nA]
 have hD1:∀ρ,D prog ρ (.v 2)=uv (2^n0)->D prog ρ (.op2 .sub .u64 (.v 2) (.k (.int .u64 1)))=uv (2^n0-1):=fun ρ h=>b4N (B:=1) h rfl hpM (Nat.two_pow_pos n0)
 refine a0a ⟨_,rfl⟩ ?_
 refine a0q (b3w o1.se hg0 hp2) (a1l rfl (hD1 _ rfl)) fun H2 l2=> ?_
 simp only[cA,nA]
 refine a0a ⟨_,rfl⟩ ?_
 refine⟨(fun l H'=>PH.le H H'/\∃n w es,l=[uv (2^n-1),gv n w]/\SG H' w es/\GV n es/\n<=9/\Cn es (2^n-1)),?_,?_⟩
 ·skip
  refine a0e (b:= !cnB es0 (2^n0-1)) rfl (fun h=> ?_) (fun h=> ?_)
  ·skip
   refine a0W el_edge (l:=a6p) (vs:=[ev2 (0,1),ev2 (0,2),ev2 (1,3),ev2 (2,3)]) rfl (by decide) (by decide) rfl rfl (d1x (c4R (a:=0) (b:=1) rfl rfl) (c4R (a:=0) (b:=2) rfl rfl) (c4R (a:=1) (b:=3) rfl rfl) (c4R (a:=2) (b:=3) rfl rfl)) fun v H4 l4 o4 _=> ?_
   simp only[cA,nA]
   refine a0a o4.se.one ?_
   exact⟨(l1.trans l2).trans l4,4,v,a6p,a1l rfl (by show Value.agg (#[ii 4]++v.cells)=_;rw[o4.se.cells];rfl),o4.se,c4V,by decide,c4W⟩
  ·skip
   exact⟨l1.trans l2,n0,w0,es0,a1l (hD1 _ rfl) rfl,o1.se.mono l2,hg0,hn9,cnB_iff.1 (by simpa using h)⟩
 rintro _ H3 _ ⟨l3,n,w,es,rfl,hw,hg,hn,hC⟩
 simp only[cA,nA]
 have hn1:=hg.n1
 have hes:=hg.len
 have hcard:=c4U ⟨n,by omega⟩
 simp only at hcard
 have hne:2^n-1≠0:=by have:=Nat.pow_le_pow_right (n:=2) (by decide) hn1;omega
 have hp2:2^n-1<2^n:=Nat.sub_lt (Nat.two_pow_pos n) (by decide)
 refine a0d (b7h hw hg hp2 hne (by omega)) rfl ?_
 rintro v6 H4 ⟨l4,sl,⟨o6,htrs,hsl⟩,hnil⟩
 refine⟨fun h=>(nomatch h),?_⟩
 simp only[cA,nA]
 have hs0:0<sl.length:=List.length_pos_iff.2 (hnil hC)
 refine a0a ⟨_,rfl⟩ ?_
 refine a0g b2a rfl rfl o6.se rfl ?_
 refine a0a ⟨_,rfl⟩ ?_
 refine a0a (show((sl.length:Nat):Int)≠0 by omega) ?_
 have htm:tr%sl.length<sl.length:=Nat.mod_lt _ hs0
 have hsa:=List.getElem?_eq_getElem htm
 refine a0i b2a rfl rfl rfl rfl (fun _=>rfl) o6.se hsa (a1l rfl (c6K rfl htr rfl)) (fun _=>rfl) fun _=> ?_
 simp only[cA,nA]
 obtain⟨t0,ot,hT⟩:=htrs _ (List.mem_of_getElem? hsa)
 have htl:=hT.len
 refine a0a ⟨_,rfl⟩ ?_
 refine a0a ⟨_,rfl⟩ ?_
 refine⟨(fun l H'=>H'=H4/\∃k:Nat,l=[ii (k:Nat)]/\1<=k/\k<=4/\k<=n),?_,?_⟩
 ·skip
  have hdk:=Nat.mod_lt dk (show 0<4 by decide)
  have hDk:∀ρ:List Value,D prog ρ (.v 0)=cv da db dc s wv cu dk s0 s1 tr->D prog ρ (.op2 .add .i64 (.k (.int .i64 1)) (.cv .i64 (.op2 .rem .u8 (.cell (.v 0) 6 0 noI) (.k (.int .u8 4)))))=ii ((1+dk%4:Nat):Int):=fun ρ h=>c4Q (m:=4) (mi:=4) (by show(D prog ρ (.v 0)).cells.getD _ undef=_;rw[h];rfl) rfl (by decide) (by decide)
  refine a0e (b:=decide (((1+dk%4:Nat):Int)>(n:Nat))) (by show Value.bool (decide (intOf (D prog _ (.op2 .add .i64 _ _))>_))=_;rw[hDk _ rfl];rfl) (fun h=> ?_) (fun h=> ?_)
  ·replace h:=of_decide_eq_true h
   exact⟨rfl,n,rfl,hn1,by omega,Nat.le_refl _⟩
  ·replace h:=of_decide_eq_false h
   exact⟨rfl,1+dk%4,a3k (hDk _ rfl),by omega,by omega,by omega⟩
 rintro _ H4 _ ⟨rfl,k,rfl,hk1,hk4,hkn⟩
 simp only[cA,nA]
 have lH4:=l3.trans l4
 refine a0k (α:=List Int×Value×Nat) (fun⟨t,u,i⟩=>[u,ii (i:Nat)]) (fun⟨t,u,i⟩=>fun H'=>PH.le H4 H'/\SI H' u t/\i<=k-1/\t.length+1+i=n/\(∀z∈t,0<=z/\z.toNat<es.length)/\Acy (etl es t) (etl es t).length) (fun⟨t,u,i⟩=>k-i) ((t0,vs sl[tr%sl.length],0)) rfl (⟨PH.le.refl _,ot.se,Nat.zero_le _,by omega,(fun z hz=>⟨(hT.ok z hz).1,(hT.ok z hz).2.1⟩),by rw[show(etl es t0).length=t0.length from List.length_map _];exact hT.acy⟩) fun⟨t,u,i⟩ H' hQ=> ?_
 simp only[cA,nA]
 obtain⟨l5,hu,hi,hlen,hok,hac⟩:=hQ
 have hcu2:=hcu.mono (lH4.trans l5)
 refine a0a ⟨_,rfl⟩ ?_
 refine a0a ⟨_,rfl⟩ ?_
 refine a0e (b:=decide (((i:Nat):Int)<((k:Nat):Int)-1)) (by show Value.bool (decide (((i:Nat):Int)<IntKind.i64.wrap (((k:Nat):Int)-1)))=_;rw[show IntKind.i64.wrap (((k:Nat):Int)-1)=((k:Nat):Int)-1 by rw[IntKind.wrap_i64];omega]) (fun h=> ?_) (fun h=> ?_)
 ·replace h:=of_decide_eq_true h
  refine a0g c4T rfl rfl hcu2 rfl ?_
  refine a0a ⟨_,rfl⟩ ?_
  refine⟨(fun l H''=>H''=H'/\∃j:Nat,l=[ii (j:Nat)]/\j<t.length),?_,?_⟩
  ·skip
   refine a0e (b:=decide (((i:Nat):Int)<(cuts.length:Nat))) rfl (fun h2=> ?_) (fun h2=> ?_)
   ·replace h2:=of_decide_eq_true h2
    have hi2:i<cuts.length:=by omega
    refine a0i c4T rfl rfl rfl rfl (fun _=>rfl) hcu2 (List.getElem?_eq_getElem hi2) rfl (fun _=>rfl) fun _=> ?_
    simp only[cA,nA]
    refine a0a ⟨_,rfl⟩ ?_
    refine a0g el_int rfl rfl hu rfl ?_
    refine a0a ⟨_,rfl⟩ ?_
    refine a0a (show((t.length:Nat):Int)≠0 by omega) ?_
    exact⟨rfl,cuts[i]%t.length,a3k (c6K rfl (hc256 _ (List.getElem_mem hi2)) rfl),Nat.mod_lt _ (by omega)⟩
   ·replace h2:=of_decide_eq_false h2
    exact⟨rfl,0,rfl,by omega⟩
  rintro _ H' _ ⟨rfl,j,rfl,hj⟩
  simp only[cA,nA]
  refine a3g el_int rfl rfl fun v15 H6 l6 o6 _=> ?_
  simp only[cA,nA]
  obtain⟨u2,hy2,hs2⟩:=b8v el_int (vs:=[u,ii (j:Nat)]) (k:= .i64) (j:=j) a8q rfl rfl (hu.mono l6) (by omega)
  refine a0h (hy2.rds _) rfl ?_
  simp only[cA,nA]
  have hl2:(t.take j).length<=64:=by rw[List.length_take];omega
  refine a1k el_int rfl rfl rfl l6 o6 hs2 (by simp only[List.length_nil];omega) rfl rfl fun v17 H7 l7 o7 _=> ?_
  simp only[cA,nA]
  obtain⟨u3,hy3,hs3⟩:=b8w el_int (vs:=[u,ii ((j+1:Nat):Int)]) (k:= .i64) (j:=j+1) a8r rfl rfl (hu.mono l7) (by omega)
  refine a0a ⟨_,rfl⟩ ?_
  refine a0h (hy3.rds _) (a1l rfl (a0r rfl (by omega))) ?_
  simp only[cA,nA]
  have hl3:(t.drop (j+1)).length<=64:=by rw[List.length_drop];omega
  refine a1k el_int rfl rfl rfl l7 o7 hs3 (by rw[List.nil_append];omega) rfl rfl fun v19 H8 l8 o8 _=> ?_
  simp only[cA,nA]
  rw[List.nil_append]at o8
  have hlen2:(t.take j++t.drop (j+1)).length+1+(i+1)=n:=by rw[List.length_append,List.length_take,List.length_drop];omega
  have hok2:∀z∈t.take j++t.drop (j+1),0<=z/\z.toNat<es.length:=fun z hz=>hok z ((List.mem_append.1 hz).elim List.mem_of_mem_take List.mem_of_mem_drop)
  have hac2:Acy (etl es (t.take j++t.drop (j+1))) (etl es (t.take j++t.drop (j+1))).length:=by
   have e:etl es (t.take j++t.drop (j+1))=(etl es t).take j++(etl es t).drop (j+1):=by unfold etl;rw[List.map_append,List.map_take,List.map_drop]
   rw[e]
   exact c5F (c2d hg hok) hac j
  exact⟨(t.take j++t.drop (j+1),v19,i+1),by show k-(i+1)<k-i;omega,(a1l rfl (a0r rfl (by omega))),⟨l5.trans l8,o8.se,by show i+1<=k-1;omega,hlen2,hok2,hac2⟩⟩
 ·replace h:=of_decide_eq_false h
  have hie:i=k-1:=by omega
  have hw5:SG H' w es:=hw.mono (l4.trans l5)
  refine a0d (b3Y hw5 hg hu hok (by omega)) rfl ?_
  rintro v13 H9 ⟨l9,p,nx,hp,hL⟩
  refine⟨fun h=>(nomatch h),?_⟩
  simp only[cA,nA]
  have hel:(etl es t).length=t.length:=List.length_map _
  have hnk:k=nx:=by
   have:=d1h hL (by omega) (c2d hg hok) hcard hac
   omega
  subst hnk
  obtain⟨hlo,hus⟩:=c6Z hL (by omega) hn1
  have hpl:=hL.len
  have hp8:∀x∈p,0<=x/\x<8:=fun x hx=>by have:=hlo.1 x hx;omega
  refine a0a (b2i _) ?_
  have lH9:=(lH4.trans l5).trans l9
  refine a0k (α:=Nat×Value×List Int) (fun⟨x,wt,wl⟩=>[ii (x:Nat),bv wt 0 0 (k:Nat)]) (fun⟨x,wt,wl⟩=>fun H'=>PH.le H9 H'/\x<=n/\SO H9 H' 3 1 (fun z:Int=>[ii z]) wt wl/\wl.length=x/\(∀z∈wl,0<=z/\z<=9)) (fun⟨x,wt,wl⟩=>n-x) ((0,.slice none 0 0,[])) (a1l rfl (d6k rfl)) (⟨PH.le.refl _,Nat.zero_le _,SO.nil _ _ _ _ _,rfl,fun z hz=>by cases hz⟩) fun⟨x,wt,wl⟩ H10 hQ10=> ?_
  simp only[cA,nA]
  obtain⟨l10,hx,o10,hwl,hz9⟩:=hQ10
  have hwv2:=hwv.mono (lH9.trans l10)
  refine a0a ⟨_,rfl⟩ ?_
  refine a0e (b:=decide (((x:Nat):Int)<(n:Nat))) rfl (fun h2=> ?_) (fun h2=> ?_)
  ·replace h2:=of_decide_eq_true h2
   refine a0g c4T rfl rfl hwv2 rfl ?_
   refine a0a ⟨_,rfl⟩ ?_
   refine⟨(fun l H''=>H''=H10/\∃z:Int,l=[ii z]/\0<=z/\z<=9),?_,?_⟩
   ·skip
    refine a0e (b:=decide (((x:Nat):Int)<(wl0.length:Nat))) rfl (fun h3=> ?_) (fun h3=> ?_)
    ·replace h3:=of_decide_eq_true h3
     refine a0i c4T rfl rfl rfl rfl (fun _=>rfl) hwv2 (List.getElem?_eq_getElem (show x<wl0.length by omega)) rfl (fun _=>rfl) fun _=> ?_
     simp only[cA,nA]
     have hrm:=Nat.mod_lt wl0[x] (show 0<10 by decide)
     refine a0a ⟨_,rfl⟩ ?_
     exact⟨rfl,_,a3k (d1f rfl),by omega,by omega⟩
    ·replace h3:=of_decide_eq_false h3
     exact⟨rfl,1,rfl,by decide,by decide⟩
   rintro _ H10 _ ⟨rfl,z,rfl,hz0,hz1⟩
   simp only[cA,nA]
   refine a2o el_int rfl rfl rfl (fun _=>rfl) (fun _=>rfl) l10 o10 (by omega) rfl (fun _=>rfl) rfl fun q v19 H11 l11 o11=> ?_
   simp only[cA,nA]
   refine a0a o11.se.one ?_
   exact⟨(x+1,v19,wl++[z]),by show n-(x+1)<n-x;omega,(a1l (a0r rfl (by omega)) (d3A rfl rfl o11.se.cells)),⟨l11,by show x+1<=n;omega,o11,by show(wl++[z]).length=x+1;rw[List.length_append,hwl];rfl,fun y hy=>by rcases List.mem_append.1 hy with hy|hy;exact hz9 y hy;rw[List.mem_singleton]at hy;subst hy;exact⟨hz0,hz1⟩⟩⟩
  ·replace h2:=of_decide_eq_false h2
   have hxn:x=n:=by omega
   refine a0d (b3W (lo:=0) (hi:=0) (k:=k) hz9 (by omega) hk1 (hp.mono l10) o10.se (by omega) hp8 (by omega)) rfl ?_
   rintro _ _ ⟨rfl,a,b,rfl,ha0,hab,hb5,hds⟩
   refine⟨fun h=>(nomatch h),?_⟩
   simp only[cA,nA]
   have hlh:=d5E (s0:=s0) (s1:=s1) ha0 hab hb5
   refine a0a ⟨_,rfl,by simp⟩ ?_
   refine a0a ⟨_,rfl,by simp⟩ ?_
   refine a0a ⟨_,rfl⟩ ?_
   refine a0a ⟨_,rfl⟩ ?_
   refine a0h ((b0l (vs:=[ii 0,ii (IntKind.i64.wrap (a-IntKind.i64.wrap (Int.tmod ((s0:Nat):Int) 6)))]) rfl rfl rfl).rds _) rfl ?_
   simp only[cA,nA]
   have hB:∀(lo':Int) (ρ:List Value),D prog ρ (.v 0)=cv da db dc s wv cu dk s0 s1 tr->D prog ρ (.v 15)=bv wt 0 0 (k:Nat)->D prog ρ (.v 16)= .tuple #[ii a,ii b]->D prog ρ (.v 17)=ii lo'->D prog ρ (.cat (.sub (.v 15) 0 1 0 noI) 1 (.cat (.v 17) 1 (.cat (.op2 .add .i64 (.proj (.v 16) 1) (.cv .i64 (.op2 .rem .u8 (.cell (.v 0) 8 0 noI) (.k (.int .u8 6))))) 1 (.sub (.sub (.v 15) 2 2 0 noI) 1 1 0 noI))))=bv wt lo' (IntKind.i64.wrap (b+IntKind.i64.wrap (Int.tmod ((s1:Nat):Int) 6))) (k:Nat):=fun lo' ρ h0 h1 h2 h3=>d3B h1 h3 (by show a2E .add .i64 (intOf (match D prog ρ (.v 16)with| .tuple vs=>vs.getD 1 undef|_=>undef)) (IntKind.i64.wrap (Int.tmod (intOf ((D prog ρ (.v 0)).cells.getD (8+0*a2j (D prog ρ noI)) undef)) 6))=_;rw[h0,h2,Nat.zero_mul];rfl)
   refine a0a ⟨_,rfl⟩ ?_
   refine a0a ⟨_,rfl⟩ ?_
   refine a0a (b2i _) ?_
   refine a0a (by show(D prog _ (.cat _ 1 (.cat _ 1 (.cat _ 1 _)))).cells.size=4/\_;rw[hB _ _ rfl rfl rfl rfl];exact a2y (a0A o10.se) _ _ _) ?_
   have hwk:c6u wl:=fun z hz=>by have:=hz9 z hz;omega
   have hbd:bdE n wl (if IntKind.i64.wrap (a-IntKind.i64.wrap (Int.tmod ((s0:Nat):Int) 6))>0 then IntKind.i64.wrap (a-IntKind.i64.wrap (Int.tmod ((s0:Nat):Int) 6))else 0) (IntKind.i64.wrap (b+IntKind.i64.wrap (Int.tmod ((s1:Nat):Int) 6))) (k:Nat)=0:=if_pos ⟨by omega,hlh.1,by omega,by omega,by omega,hwk⟩
   have hft:=d1i (es:=es) (wl:=wl) (lo:=(if IntKind.i64.wrap (a-IntKind.i64.wrap (Int.tmod ((s0:Nat):Int) 6))>0 then IntKind.i64.wrap (a-IntKind.i64.wrap (Int.tmod ((s0:Nat):Int) 6))else 0)) (hi:=IntKind.i64.wrap (b+IntKind.i64.wrap (Int.tmod ((s1:Nat):Int) 6))) hL (c2c hok) (by omega) hn1 hk1 (by omega) (fun d hd=>by have:=hds d hd;rw[hpl]at this;omega)
   exact a0c (by show Value.tuple #[_,D prog _ (.cat _ 1 (.cat _ 1 (.cat _ 1 _))),_]=_;rw[hB _ _ rfl rfl rfl rfl];rfl) ⟨lH9.trans l10,n,w,es,wt,wl,_,_,k,v13,p,rfl,hw5.mono (l9.trans l10),hg,hn,hC,o10.se,hk1,hk4,hp.mono l10,hbd,hft⟩
end
end Go.Proofs.YtmannekkmdockaaGreatDoor
/- MADE BY rxgen.py (mkGT.py): trees of chapter 32. -/
namespace Go.Proofs.YtmannekkmdockaaGreatDoor
open Go.Proofs.Tryz
open Go.RowKit Go.RX
set_option maxRecDepth 100000
theorem d1j:tree prog [] [] [] [] 26=some (.call false 69 [V0,V1]
(.ri V2
(.ret [(.io .geq V2 (.ki 0))]))):=by kernel_rfl
theorem d1k:tree prog [] [] [⟨0,2,[],[]⟩] [] 69=some (.pm f69 1 1 [V0]
(.loop [(.ki 0),(.ki 0)]
(.ri V4
(.ri V2
(.br (.io .lss V4 V2)
(.pm f69 4 3 [V0,V4]
(.pm f69 4 4 [V5]
(.ru V1
(.ru V6
(.br (.uo .eql V1 V6)
(.ret [V4])
(.next 0 [V3,(.io .add V4 (.ki 1))]))))))
(.ret [(.k (.int .i64 (-1)))])))))):=by kernel_rfl
theorem d4r:tree prog [] [] [⟨0,10,[],[]⟩,⟨0,16,[],[]⟩] [⟨23,[0,0,2,6,15,31,63,63,0,383,1023],[5,0,1,1,2,0,0,0,3,4,0],[1,0,0,0,0,0,0,0,0,0,0],[0,1,2,3,4,5,6,7,8],[9,10]⟩,⟨24,[0,0,2,6,15,31,63,63,0,383,1023],[5,0,1,1,2,0,0,0,3,4,0],[1,0,0,0,0,0,0,0,0,0,0],[0,1,2,3,4,5,6,7,8],[9,10]⟩,⟨25,[0,0,2,6,0,16,48,126,255,511,1023,1023,0,6143,16383],[5,0,1,1,0,1,1,0,2,0,0,0,3,4,0],[1,0,0,0,0,0,0,0,0,0,0,0,0,0,0],[0,1,2,3,4,5,6,7,8,9,10,11,12],[13,14]⟩,⟨27,[0,0,2,6,0,16,62,0,128,384,1022,2046,4094,8191,16383,32767,32767,0,196607,524287],[5,0,5,0,0,5,0,0,5,0,0,0,2,2,0,0,0,3,4,0],[5,0,1,0,0,2,0,0,2,0,0,0,0,0,0,0,0,0,0,0],[0,1,2,3,4,5,6,7,8,9,10,11,12,13,14,15,16,17],[18,19]⟩,⟨29,[0,1,3,7,15,31,63,127,255,511,1023,2047,4095,8191,16383,32767,65535,131071,262143,524287,1048575,2097151,4194303,8388607,8388607,33554431,67108863,8388607,268435455,536870911],[0,0,0,0,0,0,0,0,0,0,0,0,0,0,0,0,0,0,0,0,0,0,0,0,0,1,1,5,1,0],[0,0,0,0,0,0,0,0,0,0,0,0,0,0,0,0,0,0,0,0,0,0,0,0,0,0,0,8,0,0],[0,1,2,3,4,5,6,7,8,9,10,11,12,13,14,15,16,17,18,19,20,21,22,23,24,25,26,27,28,29],[]⟩] 5=some (.rq (.cells 10 V0)
(.call false 7 []
(.rq (.bool V1)
(.br (.nt V1)
(.ret [(.k (.bool false))])
(.call false 8 [(.ag V0)]
(.rq (.tup 0 V2)
(.rq (.tup 1 V2)
(.rq (.tup 2 V2)
(.rq (.cells 2 (.proj V2 0))
(.rq (.cells 4 (.proj V2 1))
(.call false 21 [(.proj V2 2)]
(.rq (.tup 0 V3)
(.rq (.tup 1 V3)
(.call false 12 [(.ag (.proj V2 0)),(.ag (.proj V2 1)),(.proj V2 2)]
(.rq (.tup 0 V4)
(.rq (.tup 1 V4)
(.rq (.tup 2 V4)
(.call false 25 [(.proj V3 0),(.cell (.proj V2 1) 3 0 noI)]
(.rq (.tup 0 V5)
(.rq (.tup 1 V5)
(.rq (.int .i64 (.proj V4 2))
(.br (.io .neq (.proj V4 2) (.ki 0))
(.ret [(.k (.bool false))])
(.rq (.int .i64 (.proj V5 1))
(.br (.io .neq (.proj V5 1) (.ki 0))
(.ret [(.k (.bool false))])
(.pm f5 7 8 [(.proj V4 0)]
(.pm f5 7 10 [(.proj V4 1)]
(.ri V6
(.ri V7
(.br (.io .neq V6 V7)
(.ret [(.k (.bool false))])
(.pm f5 9 1 [(.proj V4 0)]
(.loop [(.k (.bool false)),(.ki 0)]
(.ri V10
(.ri V8
(.br (.io .lss V10 V8)
(.pm f5 11 1 [(.proj V4 0),V10]
(.pm f5 11 2 [V11]
(.call false 20 [V12,(.proj V3 0)]
(.rq (.bool V13)
(.br V13
(.next 0 [V9,(.io .add V10 (.ki 1))])
(.call false 25 [V12,(.cell (.proj V2 1) 3 0 noI)]
(.rq (.tup 0 V14)
(.rq (.tup 1 V14)
(.pm f5 15 1 [(.proj V14 0)]
(.loop [(.k (.slice none 0 0)),(.ki 0)]
(.ri V17
(.ri V15
(.br (.io .lss V17 V15)
(.pm f5 17 0 [(.proj V14 0),V17]
(.pm f5 17 1 [V18]
(.call false 26 [(.proj V5 0),V19]
(.rq (.bool V20)
(.br (.nt V20)
(.ef false f5 19 2 [V19]
(.ef false f5 19 3 [V16,V21]
(.next 1 [V22,(.io .add V17 (.ki 1))])))
(.next 1 [V16,(.io .add V17 (.ki 1))]))))))
(.rq (.int .i64 (.proj V14 1))
(.br (.io .neq (.proj V14 1) (.ki 0))
(.ret [(.k (.bool false))])
(.pm f5 21 4 [V16]
(.ri V18
(.br (.io .neq V18 (.ki 2))
(.ret [(.k (.bool false))])
(.pm f5 23 2 [V16,(.ki 0)]
(.pm f5 23 3 [V19]
(.call true 27 [(.ag (.proj V2 0)),V20]
(.rq (.tup 0 V21)
(.rq (.tup 1 V21)
(.rq (.cells 8 (.proj V21 0))
(.pm f5 24 2 [V16,(.ki 1)]
(.pm f5 24 3 [V22]
(.call true 27 [(.ag (.proj V2 0)),V23]
(.rq (.tup 0 V24)
(.rq (.tup 1 V24)
(.rq (.cells 8 (.proj V24 0))
(.pm f5 25 2 [V16,(.ki 0)]
(.pm f5 25 3 [V25]
(.pm f5 25 5 [V16,(.ki 1)]
(.pm f5 25 6 [V27]
(.ru V26
(.ru V28
(.call true 27 [(.ag (.proj V2 0)),(.uo .or V26 V28)]
(.rq (.tup 0 V29)
(.rq (.tup 1 V29)
(.rq (.cells 8 (.proj V29 0))
(.call false 28 [(.ag (.proj V21 0)),(.ag (.proj V24 0))]
(.rq (.tup 0 V30)
(.rq (.tup 1 V30)
(.rq (.cells 8 (.proj V30 0))
(.rq (.int .i64 (.cell (.proj V2 0) 0 0 noI))
(.rq (.int .i64 (.cell (.proj V2 1) 3 0 noI))
(.call true 29 [(.io .quo (.io .mul (.io .mul (.io .sub (.cell (.proj V2 0) 0 0 noI) (.ki 1)) (.cell (.proj V2 1) 3 0 noI)) (.io .sub (.cell (.proj V2 1) 3 0 noI) (.ki 1))) (.ki 2))]
(.call true 28 [(.ag (.proj V29 0)),V31]
(.rq (.tup 0 V32)
(.rq (.tup 1 V32)
(.rq (.cells 8 (.proj V32 0))
(.call false 30 [(.ag (.proj V30 0)),(.ag (.proj V32 0))]
(.rq (.tup 0 V33)
(.rq (.tup 1 V33)
(.rq (.cells 16 (.proj V33 0))
(.rq (.int .i64 (.proj V21 1))
(.br (.io .neq (.proj V21 1) (.ki 0))
(.ret [(.k (.bool false))])
(.rq (.int .i64 (.proj V24 1))
(.br (.io .neq (.proj V24 1) (.ki 0))
(.ret [(.k (.bool false))])
(.rq (.int .i64 (.proj V29 1))
(.br (.io .neq (.proj V29 1) (.ki 0))
(.ret [(.k (.bool false))])
(.rq (.int .i64 (.proj V30 1))
(.br (.io .neq (.proj V30 1) (.ki 0))
(.ret [(.k (.bool false))])
(.rq (.int .i64 (.proj V32 1))
(.br (.io .neq (.proj V32 1) (.ki 0))
(.ret [(.k (.bool false))])
(.rq (.int .i64 (.proj V33 1))
(.br (.io .neq (.proj V33 1) (.ki 0))
(.ret [(.k (.bool false))])
(.pm f5 29 25 [(.proj V4 1),V10]
(.pm f5 29 26 [V34]
(.pm f5 29 28 [V35,(.ag (.proj V33 0))]
(.rq (.bool V36)
(.br V36
(.ret [(.k (.bool false))])
(.next 0 [V9,(.io .add V10 (.ki 1))])))))))))))))))))))))))))))))))))))))))))))))))))))))))))))))))))))))))))
(.ret [(.k (.bool true))]))))))))))))))))))))))))))))))))))):=by kernel_rfl
end Go.Proofs.YtmannekkmdockaaGreatDoor
/- Package share: contracts. Printed by mkShC.py. -/
namespace Go.WD
open Go.RX
theorem sgI_zero (y z:Int):(sgI y z !=0)= !decide (y=z):=by
 unfold sgI
 by_cases h1:y<z
 ·rw[if_pos h1,decide_eq_false (by omega)];rfl
 ·rw[if_neg h1]
  by_cases h2:y=z
  ·rw[if_pos h2,decide_eq_true h2];rfl
  ·rw[if_neg h2,decide_eq_false h2];rfl
end Go.WD
namespace Go.Proofs.YtmannekkmdockaaGreatDoor
open Go.Proofs.Tryz
open Go.RowKit Go.RX Go.WD
section
variable {H:PH} {x y v:Value} {r s:Rat} {n d m e:Nat}
theorem a9n (r:Rat):∃(n d:Nat) (e:Int),a4g r= .tuple #[shv n d,.int .i64 e]:=by
 unfold a4g;split
 ·exact⟨_,_,0,rfl⟩
 ·exact⟨0,0,6,rfl⟩
def b0O (p q:Int):Value:=if q=0 then .tuple #[shv 0 0,.int .i64 7]else a4g (Rat.divInt p q)
theorem b7x (p q:Int):∃(n d:Nat) (e:Int),b0O p q= .tuple #[shv n d,.int .i64 e]:=by
 unfold b0O;split
 ·exact⟨0,0,7,rfl⟩
 ·exact a9n _
theorem c2f (d:Nat):d%M=0↔toI d=0:=by
 have:=b1y
 have:=c2s
 have:=Nat.mod_lt d a9L
 unfold toI
 split<;>omega
set_option maxRecDepth 100000 in
theorem b2A (n d:Nat):Con prog 30 [wd n,wd d] H fun u H'=>PH.le H H'/\u=b0O (toI n) (toI d):=by
 refine a0b mixed c5i (by kernel_rfl) rfl (a0a ⟨words_size n,words_one n⟩ (a0a ⟨words_size d,words_one d⟩ (a0h ((c7K (a:=d) (b:=0) rfl rfl rfl rfl rfl).rds _) ?_ (a0a ⟨_,rfl⟩ (a0e (b:=decide (d%M=0%M)) rfl (fun h=> ?_) (fun h=> ?_))))))
 ·simp only[rxs,a6e];rfl
 ·have h:=of_decide_eq_true h
  rw[Nat.zero_mod,c2f]at h
  unfold b0O
  rw[if_pos h]
  exact a0c (congrArg (fun z=>Value.tuple #[z,.int .i64 7]) b0C) ⟨PH.le.refl _,rfl⟩
 ·have h:=of_decide_eq_false h
  rw[Nat.zero_mod,c2f]at h
  unfold b0O
  rw[if_neg h]
  refine a0d (a3o n) rfl ?_
  rintro u1 H1 ⟨l1,hu1⟩
  simp only[cA,nA]
  refine⟨fun _=>l1,a0d (a3o d) rfl ?_⟩
  rintro u2 H2 ⟨l2,hu2⟩
  simp only[cA,nA]
  refine⟨fun _=>l2,a0d (a3s (hu1.mono l2) hu2 (c6l n) (c6l d) h) rfl ?_⟩
  rintro u3 H3 ⟨l3,hu3⟩
  simp only[cA,nA]
  refine⟨fun _=>l3,a0d (a4e hu3) rfl ?_⟩
  rintro u4 H4 ⟨l4,rfl⟩
  obtain⟨a,b,c,ht⟩:=a9n (Rat.divInt (toI n) (toI d))
  rw[ht]
  exact⟨fun _=>l4,a0a ⟨_,rfl,Nat.zero_lt_succ _⟩ (a0a ⟨_,rfl,Nat.lt_succ_self _⟩ (a0a (a1O a b) (a0c rfl ⟨l1.trans (l2.trans (l3.trans l4)),rfl⟩)))⟩
theorem d1l (p q:Int) (p0: -9223372036854775808<=p) (p1:p<9223372036854775808) (q0: -9223372036854775808<=q) (q1:q<9223372036854775808):Con prog 79 [.int .i64 p,.int .i64 q] H fun u H'=>PH.le H H'/\u=b0O p q:=by
 refine a0b mixed d3N (by kernel_rfl) rfl (a0s (b4C p p0 p1) rfl (a0s (b4C q q0 q1) rfl (a0d (b2A (rs p) (rs q)) rfl ?_)))
 rintro u1 H1 ⟨l1,rfl⟩
 rw[toI_rs (a5z p0 p1),toI_rs (a5z q0 q1)]
 obtain⟨a,b,c,ht⟩:=b7x p q
 rw[ht]
 exact⟨fun h=>(nomatch h),a0a ⟨_,rfl,Nat.zero_lt_succ _⟩ (a0a ⟨_,rfl,Nat.lt_succ_self _⟩ (a0a (a1O a b) (a0c rfl ⟨l1,rfl⟩)))⟩
end
end Go.Proofs.YtmannekkmdockaaGreatDoor
/- strings.Builder: WriteByte, String. -/
namespace Go.RX
open Go.RowKit
theorem Sl.cells {H:PH} {sz n:Nat} {v:Value} {xs:List Value} (h:Sl H sz v n xs):v.cells= #[v]:=by
 obtain⟨_,a,c,h2,_⟩:=h;rw[h2];rfl
theorem Sl.one {H:PH} {sz n:Nat} {v:Value} {xs:List Value} (h:Sl H sz v n xs):v.cells.size=1/\a0t v.cells:=by
 rw[h.cells]
 obtain⟨_,a,c,h2,_⟩:=h
 refine⟨rfl,fun c hc=> ?_⟩
 simp at hc;rw[hc,h2];rfl
end Go.RX
/- MADE BY rxgen.py: the trees of the helpers of the laws of chapter 02. -/
namespace Go.Proofs.YtmannekkmdockaaGreatDoor
open Go.Proofs.Tryz
open Go.RowKit Go.RX Go.WD
theorem b4a {a b:Nat} (d:Nat) (w:World):(Op.equalIn (d+2) 56 (wd a) (wd b)).run prog w= .ok (decide (a%M=b%M)) w:=by
 obtain⟨i,hi⟩:∃i,prog.info? 54=some i:=by
  have h:=a2f
  unfold a2k at h;rw[Bool.and_eq_true,Option.isSome_iff_exists]at h;exact h.1
 show(Op.equalIn (d+1+1) 56 (.agg (wf (dig a))) (.agg (wf (dig b)))).run prog w=_
 rw[run_equalIn_array (n:=8) (e:=54) w (d+1) _ _ (by kernel_rfl) hi,a6f a2f a2W b8N (by kernel_rfl) d (dig a) (dig b) w _ (fun i hi=>List.mem_range.1 hi)]
 refine congrArg (fun z=>Result.ok z w) ?_
 rw[Bool.eq_iff_iff,decide_eq_true_iff,decide_eq_true_iff];exact a6g a b
theorem a3R {a b:Nat} (w:World):(Op.equalIn 9999 56 (wd a) (wd b)).run prog w= .ok (decide (a%M=b%M)) w:=b4a 9997 w
noncomputable def fN:Field:=((prog.fieldsOf 58)[0]?).getD default
noncomputable def fD:Field:=((prog.fieldsOf 58)[1]?).getD default
theorem d1m:(prog.fieldsOf 58).toList=[fN,fD]:=by kernel_rfl
theorem d6q:fN.type=56:=by kernel_rfl
theorem d6r:fN.offset=0:=by kernel_rfl
theorem d6s:(fN.name≠ "_")=True:=eq_true (by decide+kernel)
theorem d6t:fD.type=56:=by kernel_rfl
theorem d6u:fD.offset=8:=by kernel_rfl
theorem d6v:(fD.name≠ "_")=True:=eq_true (by decide+kernel)
theorem a2m:prog.cellsOf 56=8:=by kernel_rfl
theorem d4s (a b:Nat) (w:World):(part 56 (words a++words b) 0).run prog w= .ok (wd a) w:=by
 rw[a3C (by kernel_rfl) (by rw[a2m,(a1O a b).1];omega) (by rw[a2m];omega) w,a2m,show a0M prog 56=true from by kernel_rfl,if_pos rfl]
 rw[d6m]
theorem c7a (a b:Nat) (w:World):(part 56 (words a++words b) 8).run prog w= .ok (wd b) w:=by
 rw[a3C (by kernel_rfl) (by rw[a2m,(a1O a b).1];omega) (by rw[a2m];omega) w,a2m,show a0M prog 56=true from by kernel_rfl,if_pos rfl]
 rw[d6n]
theorem a6m (a b c d:Nat) (w:World):(Op.equalIn 10000 58 (shv a b) (shv c d)).run prog w= .ok (decide (a%M=c%M)&&decide (b%M=d%M)) w:=by
 show(Op.equalIn (9999+1) 58 (.agg (words a++words b)) (.agg (words c++words d))).run prog w=_
 rw[run_equalIn_struct w 9999 _ _ _ (by kernel_rfl) (by kernel_rfl),d1m]
 simp only[Op.eqFields,d6s,d6v,d6q,d6r,d6t,d6u,if_true,Sem.run_bind,d4s,Result.andThen_ok,a3R]
 by_cases h1:a%M=c%M
 ·by_cases h2:b%M=d%M
  ·simp[h1,h2,c7a,a3R]
  ·simp[h1,h2,c7a,a3R]
 ·simp[h1]
section
variable {o:Oper} {x y:Operand} {H:PH} {a b c d:Nat}
theorem c5H (ho:o.op= .binOp .eql 58 x y 58) (hx:∀u v,a0f [x,y] [u,v] x=u) (hy:∀u v,a0f [x,y] [u,v] y=v):Yld prog o [shv a b,shv c d] (.bool (decide (a%M=c%M)&&decide (b%M=d%M))):=fun w=>by
 have hos:o.op.operands.toList=[x,y]:=by simp[ho,Op.operands]
 rw[hos]
 have h1:=run_eql_struct (P:=prog) w 58 (words a++words b) (words c++words d)
 have h2:=run_eqGuard_agg (P:=prog) w .eql 58 x y (words a++words b) (words c++words d) (by kernel_rfl)
 have h3:=a6m a b c d w
 simp only[shv]at h3
 rw[h3]at h1
 simp only[execOp,ho,hx,hy,shv,Sem.run_bind,h2,h1,Result.andThen_ok]
 rfl
theorem c5I (ho:o.op= .binOp .neq 58 x y 58) (hx:∀u v,a0f [x,y] [u,v] x=u) (hy:∀u v,a0f [x,y] [u,v] y=v):Yld prog o [shv a b,shv c d] (.bool (!(decide (a%M=c%M)&&decide (b%M=d%M)))):=fun w=>by
 have hos:o.op.operands.toList=[x,y]:=by simp[ho,Op.operands]
 rw[hos]
 have h1:=run_neq_struct (P:=prog) w 58 (words a++words b) (words c++words d)
 have h2:=run_eqGuard_agg (P:=prog) w .neq 58 x y (words a++words b) (words c++words d) (by kernel_rfl)
 have h3:=a6m a b c d w
 simp only[shv]at h3
 rw[h3]at h1
 simp only[execOp,ho,hx,hy,shv,Sem.run_bind,h2,h1,Result.andThen_ok]
 rfl
end
def shR (r:Rat):Value:=shv (rs r.num) (rs (r.den:Int))
end Go.Proofs.YtmannekkmdockaaGreatDoor

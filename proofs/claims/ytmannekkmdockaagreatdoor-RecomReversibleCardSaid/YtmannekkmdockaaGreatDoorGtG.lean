/- Chapter 32: drafts: labels of a forest are its trees. -/
import Derived.Test.YtmannekkmdockaaGreatDoorGtD
import Derived.Test.YtmannekkmdockaaGreatDoorGzG
import Derived.Test.YtmannekkmdockaaGreatDoorProg
import Derived.Test.YtmannekkmdockaaGreatDoorRxW
import Derived.Test.YtmannekkmdockaaGreatDoorGtC
import Derived.Test.YtmannekkmdockaaGreatDoorGdI
import Derived.Test.YtmannekkmdockaaGreatDoorSsA
import Derived.Test.YtmannekkmdockaaGreatDoorRfC
namespace Go.Proofs.YtmannekkmdockaaGreatDoor
open Go.Proofs.Tryz
open Go.RowKit Go.RX Go.GS
section
variable {H:PH} {u w wts:Value} {t:List Int} {n:Nat} {es:List (Nat×Nat)}
theorem d7k {j:Nat} (h:j<t.length) {y:Int} (hy:t[j]? =some y):(etl es t).getD j (0,0)=Ed es y:=by
 rw[List.getD_eq_getElem?_getD,c1M hy];rfl
theorem b4O (hw:SG H w es) (hg:GV n es) (hu:SI H u t) (ht:∀i∈t,0<=i/\i.toNat<es.length) (hl:t.length<=64):Con prog 43 [gv n w,u] H fun r H'=>PH.le H H'/\∃p next,SI H' r p/\LabA n (etl es t) n next p:=by
 refine a0b mixed c1H (by kernel_rfl) rfl ?_
 have h64:=hg.n64
 refine a0a (a0T hw) ?_
 refine a3j el_plan (z:=(0:Int)) b8b rfl rfl rfl (by omega) rfl fun v H1 l1 o1 _=> ?_
 simp only[cA,nA]
 refine a0k (α:=Nat) (fun i=>[ii (i:Nat)]) (fun i=>fun H'=>i<=n/\PH.le H H'/\SO H H' 3 1 (fun z:Int=>[ii z]) v (List.replicate i (-1)++List.replicate (n-i) 0)) (fun i=>n-i) (0) rfl (⟨Nat.zero_le _,l1,o1⟩) fun i H' hQ=> ?_
 simp only[cA,nA]
 obtain⟨hi,l2,o2⟩:=hQ
 refine a0a ⟨_,rfl⟩ ?_
 refine a0a ⟨_,rfl⟩ ?_
 refine a0e (b:=decide (((i:Nat):Int)<(n:Nat))) rfl (fun h=> ?_) (fun h=> ?_)
 ·replace h:=of_decide_eq_true h
  refine a0R el_plan (a:=(-1:Int)) rfl rfl rfl rfl (fun _=>rfl) (fun _=>rfl) l2 o2 (by simp;omega) rfl (fun _=>rfl) rfl fun q u' H3 l3 o3 _=> ?_
  simp only[cA,nA]
  exact⟨i+1,by omega,(a3K (a0w rfl (by omega))),⟨by omega,l3,by rw[d1L (by omega)]at o3;exact o3⟩⟩
 ·replace h:=of_decide_eq_false h
  have hie:i=n:=by omega
  subst hie
  rw[Nat.sub_self,List.replicate_zero,List.append_nil]at o2
  refine a0k (α:=Nat×Nat×List Int) (fun⟨next,x,p⟩=>[ii (next:Nat),ii (x:Nat),gv i w]) (fun⟨next,x,p⟩=>fun H2=>x<=i/\PH.le H H2/\SO H H2 3 1 (fun z:Int=>[ii z]) v p/\LabA i (etl es t) x next p) (fun⟨next,x,p⟩=>i-x) ((0,0,List.replicate i (-1))) rfl (⟨Nat.zero_le _,l2,o2,LabA.start i (etl es t)⟩) fun⟨next,x,p⟩ H2 hQ2=> ?_
  simp only[cA,nA]
  obtain⟨hx,l3,o3,hI⟩:=hQ2
  refine a0a ⟨_,rfl⟩ ?_
  refine a0a ⟨_,rfl⟩ ?_
  refine a0e (b:=decide (((x:Nat):Int)<(i:Nat))) rfl (fun h=> ?_) (fun h=> ?_)
  ·replace h:=of_decide_eq_true h
   have hx':x<i:=by omega
   obtain⟨z,hz⟩:∃z,p[x]? =some z:=⟨_,List.getElem?_eq_getElem (by rw[hI.len];exact hx')⟩
   refine a0i el_plan rfl rfl rfl rfl (fun _=>rfl) o3.se hz rfl (fun _=>rfl) fun _=> ?_
   simp only[cA,nA]
   refine a0a ⟨_,rfl⟩ ?_
   refine a0e (b:=decide (z≥0)) rfl (fun h2=> ?_) (fun h2=> ?_)
   ·replace h2:=of_decide_eq_true h2
    exact⟨(next,x+1,p),by show i-(x+1)<i-x;omega,(a8T rfl (a0w rfl (by omega)) rfl),⟨hx',l3,o3,hI.skip hz h2⟩⟩
   ·replace h2:=of_decide_eq_false h2
    refine a0R el_plan (a:=(next:Int)) rfl rfl rfl rfl (fun _=>rfl) (fun _=>rfl) l3 o3 (by rw[hI.len];exact hx') rfl (fun _=>rfl) rfl fun q u' H3 l4 o4 _=> ?_
    simp only[cA,nA]
    have hnx:=hI.nx
    have hJ0:=hI.begin hz (by omega)
    have hel:(etl es t).length=t.length:=List.length_map _
    have hll:t.length*t.length<=64*64:=Nat.mul_le_mul hl hl
    have hDl:∀ρ:List Value,D prog ρ (.v 12)=ii (t.length:Nat)->D prog ρ (.v 13)=ii (t.length:Nat)->D prog ρ (.op2 .mul .i64 (.v 12) (.v 13))=ii ((t.length*t.length:Nat):Int):=fun ρ a b=>by
     show a2O .mul .i64 (intOf (D prog ρ (.v 12))) (intOf (D prog ρ (.v 13)))=_
     rw[a,b]
     show Value.int .i64 (IntKind.i64.wrap (((t.length:Nat):Int)*((t.length:Nat):Int)))=Value.int .i64 _
     congr 1
     rw[<-Int.natCast_mul,c7P (by omega)]
    refine a0k (α:=Nat×List Int) (fun⟨j,p'⟩=>[ii (j:Nat)]) (fun⟨j,p'⟩=>fun H4=>j<=t.length*t.length/\PH.le H H4/\SO H H4 3 1 (fun z:Int=>[ii z]) v p'/\LabB i (etl es t) x next j p') (fun⟨j,p'⟩=>t.length*t.length-j) ((0,p.set x (next:Int))) rfl (⟨Nat.zero_le _,l4,o4,hJ0⟩) fun⟨j,p'⟩ H4 hQ4=> ?_
    simp only[cA,nA]
    obtain⟨hj,l5,o5,hJ⟩:=hQ4
    refine a0h el_int rfl rfl (hu.mono l5) rfl ?_
    refine a0h el_int rfl rfl (hu.mono l5) rfl ?_
    refine a0a ⟨_,rfl⟩ ?_
    refine a0a ⟨_,rfl⟩ ?_
    refine a0a ⟨_,rfl⟩ ?_
    refine a0e (b:=decide (((j:Nat):Int)<(t.length*t.length:Nat))) (by show Value.bool (decide (((j:Nat):Int)<intOf (D prog _ (.op2 .mul .i64 (.v 12) (.v 13)))))=_;rw[hDl _ rfl rfl];rfl) (fun h3=> ?_) (fun h3=> ?_)
    ·replace h3:=of_decide_eq_true h3
     have htl:0<t.length:=Nat.pos_of_ne_zero fun e=>by rw[e]at h3;simp at h3;omega
     refine a0h el_int rfl rfl (hu.mono l5) rfl ?_
     refine a0a ⟨_,rfl⟩ ?_
     refine a0a (by show((t.length:Nat):Int)≠0;omega) ?_
     have hmod:j%t.length<t.length:=Nat.mod_lt _ htl
     obtain⟨y,hy,_⟩:=a0B hmod
     refine a0i el_int rfl rfl rfl rfl (fun _=>rfl) (hu.mono l5) hy (a1s rfl (by show Value.int .i64 (Int.tmod ((j:Nat):Int) ((t.length:Nat):Int))=Value.int .i64 _;congr 1)) (fun _=>rfl) fun _=> ?_
     simp only[cA,nA]
     obtain⟨hy1,hy2⟩:=ht y (List.mem_of_getElem? hy)
     obtain⟨m,rfl⟩:∃m:Nat,y=(m:Int):=⟨y.toNat,by omega⟩
     rw[Int.toNat_natCast]at hy2
     have hem:=a4d (es:=es) hy2
     have hed:=hg.mem hem
     refine a0i el_edge rfl rfl rfl rfl (fun _=>rfl) (hw.mono l5) hem rfl (fun _=>rfl) fun _=> ?_
     simp only[cA,nA]
     refine a0a (el_edge.vcells (Ed es (m:Nat))) ?_
     have hlen:=hJ.len
     obtain⟨za,hza⟩:∃z,p'[(Ed es (m:Nat)).1]? =some z:=⟨_,List.getElem?_eq_getElem (by omega)⟩
     obtain⟨zb,hzb⟩:∃z,p'[(Ed es (m:Nat)).2]? =some z:=⟨_,List.getElem?_eq_getElem (by omega)⟩
     have hget:(etl es t).getD (j%(etl es t).length) (0,0)=Ed es (m:Nat):=by rw[hel];exact d7k hmod hy
     have hboth:p'[(Ed es (m:Nat)).1]? =some (next:Int)\/p'[(Ed es (m:Nat)).2]? =some (next:Int)->LabB i (etl es t) x next (j+1) ((p'.set (Ed es (m:Nat)).1 (next:Int)).set (Ed es (m:Nat)).2 (next:Int)):=hJ.step h64 hget (a3H (List.mem_of_getElem? hy)) (by omega) (by omega) (by omega)
     refine a0i el_plan rfl rfl rfl rfl (fun _=>rfl) o5.se hza rfl (fun _=>rfl) fun _=> ?_
     simp only[cA,nA]
     refine a0a ⟨_,rfl⟩ ?_
     refine a0a ⟨_,rfl⟩ ?_
     refine a0e (b:=decide (za=(next:Int))) (bE _ _) (fun h4=> ?_) (fun h4=> ?_)
     ·replace h4:=of_decide_eq_true h4
      refine a0R el_plan (a:=(next:Int)) rfl rfl rfl rfl (fun _=>rfl) (fun _=>rfl) l5 o5 (by omega) rfl (fun _=>rfl) rfl fun q5 u5 H5 l6 o6 _=> ?_
      simp only[cA,nA]
      refine a0R el_plan (a:=(next:Int)) rfl rfl rfl rfl (fun _=>rfl) (fun _=>rfl) l6 o6 (by rw[List.length_set];omega) rfl (fun _=>rfl) rfl fun q6 u6 H6 l7 o7 _=> ?_
      simp only[cA,nA]
      exact⟨(j+1,(p'.set (Ed es (m:Nat)).1 (next:Int)).set (Ed es (m:Nat)).2 (next:Int)),by show t.length*t.length-(j+1)<t.length*t.length-j;omega,(a3K (a0w rfl (by omega))),⟨by show j+1<=_;omega,l7,o7,hboth (.inl (by rw[hza,h4]))⟩⟩
     ·replace h4:=of_decide_eq_false h4
      refine a0i el_plan rfl rfl rfl rfl (fun _=>rfl) o5.se hzb rfl (fun _=>rfl) fun _=> ?_
      simp only[cA,nA]
      refine a0a ⟨_,rfl⟩ ?_
      refine a0e (b:=decide (zb=(next:Int))) (bE _ _) (fun h5=> ?_) (fun h5=> ?_)
      ·replace h5:=of_decide_eq_true h5
       refine a0R el_plan (a:=(next:Int)) rfl rfl rfl rfl (fun _=>rfl) (fun _=>rfl) l5 o5 (by omega) rfl (fun _=>rfl) rfl fun q5 u5 H5 l6 o6 _=> ?_
       simp only[cA,nA]
       refine a0R el_plan (a:=(next:Int)) rfl rfl rfl rfl (fun _=>rfl) (fun _=>rfl) l6 o6 (by rw[List.length_set];omega) rfl (fun _=>rfl) rfl fun q6 u6 H6 l7 o7 _=> ?_
       simp only[cA,nA]
       exact⟨(j+1,(p'.set (Ed es (m:Nat)).1 (next:Int)).set (Ed es (m:Nat)).2 (next:Int)),by show t.length*t.length-(j+1)<t.length*t.length-j;omega,(a3K (a0w rfl (by omega))),⟨by show j+1<=_;omega,l7,o7,hboth (.inr (by rw[hzb,h5]))⟩⟩
      ·replace h5:=of_decide_eq_false h5
       exact⟨(j+1,p'),by show t.length*t.length-(j+1)<t.length*t.length-j;omega,(a3K (a0w rfl (by omega))),⟨by show j+1<=_;omega,l5,o5,hJ.pass h64 hget (by omega) (by omega) ⟨(by rw[hza];exact fun e=>h4 (Option.some.inj e)),by rw[hzb];exact fun e=>h5 (Option.some.inj e)⟩⟩⟩
    ·replace h3:=of_decide_eq_false h3
     have hje:j=(etl es t).length*(etl es t).length:=by rw[hel];omega
     rw[hje]at hJ
     have hend:=hJ.end (by omega) (a9M hg ht)
     refine a0a ⟨_,rfl⟩ ?_
     exact⟨(next+1,x+1,p'),by show i-(x+1)<i-x;omega,(a8T (a0w rfl (by omega)) (a0w rfl (by omega)) rfl),⟨hx',l5,o5,hend⟩⟩
  ·replace h:=of_decide_eq_false h
   have hxe:x=i:=by omega
   subst hxe
   exact a0c rfl ⟨l3,p,next,o3.se,hI⟩
end
end Go.Proofs.YtmannekkmdockaaGreatDoor
/- Chapter 32: drafts: the plan is allowed. -/
namespace Go.GS
theorem c3u {es:List (Nat×Nat)} {t:List Int} (hok:∀z∈t,0<=z/\z.toNat<es.length):∀e∈etl es t,e∈es:=fun e he=>by
 obtain⟨i,hi,rfl⟩:=a1S he
 have ho:=(hok i hi).2
 unfold Ed
 rw[List.getD_eq_getElem?_getD,List.getElem?_eq_getElem ho]
 exact List.getElem_mem ho
theorem c3v {n:Nat} {es:List (Nat×Nat)} {t:List Int} (hg:GV n es) (hok:∀z∈t,0<=z/\z.toNat<es.length):Inn (2^n-1) (etl es t):=fun e he=>by
 have:=hg.ed e (c3u hok e he)
 have hb:∀y,bit (2^n-1) y=decide (y<n):=fun y=>Nat.testBit_two_pow_sub_one n y
 rw[hb,hb]
 exact⟨decide_eq_true (by omega),decide_eq_true this.2⟩
theorem c3w (p wl:List Int) (d:Nat):∀i,dsm p wl i d=(((List.range i).filter fun x=>decide (p.getD x 0=(d:Int))).map fun x=>wl.getD x 0).sum
 |0=>rfl
 |i+1=>by
  rw[dsm,c3w p wl d i,List.range_succ,List.filter_append,List.map_append,List.sum_append]
  congr 1
  by_cases h:p.getD i 0=(d:Int)
  ·rw[if_pos h,List.filter_cons_of_pos (by simpa using h)];simp
  ·rw[if_neg h,List.filter_cons_of_neg (by simpa using h)];rfl
theorem c7j {p wl:List Int} {n d:Nat} (hl:p.length=n) (hn:n<=64):c7V wl (a0o p (d:Nat))=dsm p wl n d:=by
 rw[c3w]
 unfold c7V
 congr 2
 refine a9F (a2G _) (List.pairwise_lt_range.filter _) fun x=> ?_
 have hM:a0o p (d:Nat)<M64:=c0Y p _ (by omega)
 rw[a1Y hM,a0M,List.mem_filter,List.mem_range,decide_eq_true_iff,decide_eq_true_iff]
 constructor
 ·intro h
  have:=(List.getElem?_eq_some_iff.1 h).1
  exact⟨by omega,by rw[List.getD_eq_getElem?_getD,h];rfl⟩
 ·rintro⟨h1,h2⟩
  rw[List.getD_eq_getElem?_getD,List.getElem?_eq_getElem (by omega)]at h2
  rw[List.getElem?_eq_getElem (by omega)]
  exact congrArg some h2
theorem d2O {n k:Nat} {L es:List (Nat×Nat)} {wl p:List Int} {lo hi:Int} (hL:LabA n L n k p) (hLe:∀e∈L,e∈es) (hn:n<=64) (h1:1<=n) (hk1:1<=k) (hk8:k<=8) (hw:∀d,d<k->lo<=dsm p wl n d/\dsm p wl n d<=hi):a3L n es wl lo hi (k:Nat) p=true:=by
 obtain⟨a,b⟩:=c8x hL hn h1
 unfold a3L
 rw[Bool.and_eq_true]
 refine⟨decide_eq_true ?_,List.all_eq_true.2 fun m hm=> ?_⟩
 ·unfold plE
  rw[if_neg (by omega),if_pos ⟨hL.len,a,by rw[Int.toNat_natCast];exact b⟩]
 ·rw[Int.toNat_natCast]at hm
  obtain⟨d,hd,rfl⟩:=mem_masks.1 hm
  have:=hw d hd
  unfold alB
  rw[cnB_iff.2 (d5W hL hLe hd),c7j hL.len hn,decide_eq_true (show dsm p wl n d≥lo from this.1),decide_eq_true this.2];rfl
end Go.GS
namespace Go.Proofs.YtmannekkmdockaaGreatDoor
open Go.Proofs.Tryz
open Go.RowKit Go.RX Go.GS
def d5X (H:PH) (r:Value):Prop:=∃(n:Nat) (w:Value) (es:List (Nat×Nat)) (wts:Value) (wl:List Int) (lo hi:Int) (k:Nat) (u:Value) (p:List Int),
 r= .tuple #[gv n w,bv wts lo hi (k:Nat),u]/\SG H w es/\GV n es/\n<=9/\Cn es (2^n-1)/\SI H wts wl/\1<=k/\k<=4/\SI H u p/\bdE n wl lo hi (k:Nat)=0/\a3L n es wl lo hi (k:Nat) p=true
section
variable {H:PH} {s wv cu:Value} {more:List (Nat×Nat)} {wl0 cuts:List Nat} {da db dc dk s0 s1 tr:Nat}
set_option maxHeartbeats 4000000 in
theorem b4P (hs:SE H 2 bc s more) (hwv:SE H 1 c8 wv wl0) (hcu:SE H 1 c8 cu cuts) (hc256:∀c∈cuts,c<256) (htr:tr<256):Con prog 8 [cv da db dc s wv cu dk s0 s1 tr] H fun r H'=>PH.le H H'/\d5X H' r:=by
 refine a0b mixed c1G (by kernel_rfl) rfl ?_
 refine a0a (c8i (a0z hs) (a0z hwv) (a0z hcu) _ _ _ _ _ _ _) ?_
 refine a0a ⟨_,rfl⟩ ?_
 refine a0d (b8m (da:=da%3) (db:=db) (dc:=dc) hs) (a3K (d1N rfl hs.cells)) ?_
 rintro _ H1 ⟨l1,w0,es0,rfl,o1,hg0⟩
 refine⟨fun h=>(nomatch h),?_⟩
 simp only[cA,nA]
 have hn9:(1+da%3%4)*(1+db%3)<=9:=Nat.mul_le_mul (show 1+da%3%4<=3 by omega) (show 1+db%3<=3 by omega)
 generalize (1+da%3%4)*(1+db%3)=n0 at hg0 hn9
 have hn1:=hg0.n1
 have hp2:2^n0-1<2^n0:=Nat.sub_lt (Nat.two_pow_pos n0) (by decide)
 have hpM:2^n0<M64:=a0S (by omega)
 refine a0a (a0T o1.se) ?_
 refine a0u (a1i (n:=n0) (by omega)) rfl ?_
 simp only[cA,nA]
 have hD1:∀ρ,D prog ρ (.v 2)=uv (2^n0)->D prog ρ (.op2 .sub .u64 (.v 2) (.k (.int .u64 1)))=uv (2^n0-1):=fun ρ h=>b5M (B:=1) h rfl hpM (Nat.two_pow_pos n0)
 refine a0a ⟨_,rfl⟩ ?_
 refine a0n (b4r o1.se hg0 hp2) (a1s rfl (hD1 _ rfl)) fun H2 l2=> ?_
 simp only[cA,nA]
 refine a0a ⟨_,rfl⟩ ?_
 refine⟨(fun l H'=>PH.le H H'/\∃n w es,l=[uv (2^n-1),gv n w]/\SG H' w es/\GV n es/\n<=9/\Cn es (2^n-1)),?_,?_⟩
 ·skip
  refine a0e (b:= !cnB es0 (2^n0-1)) rfl (fun h=> ?_) (fun h=> ?_)
  ·skip
   refine a0X el_edge (l:=a6V) (vs:=[ev2 (0,1),ev2 (0,2),ev2 (1,3),ev2 (2,3)]) rfl (by decide) (by decide) rfl rfl (d3a (c6x (a:=0) (b:=1) rfl rfl) (c6x (a:=0) (b:=2) rfl rfl) (c6x (a:=1) (b:=3) rfl rfl) (c6x (a:=2) (b:=3) rfl rfl)) fun v H4 l4 o4 _=> ?_
   simp only[cA,nA]
   refine a0a o4.se.one ?_
   exact⟨(l1.trans l2).trans l4,4,v,a6V,a1s rfl (by show Value.agg (#[ii 4]++v.cells)=_;rw[o4.se.cells];rfl),o4.se,c6B,by decide,c6C⟩
  ·skip
   exact⟨l1.trans l2,n0,w0,es0,a1s (hD1 _ rfl) rfl,o1.se.mono l2,hg0,hn9,cnB_iff.1 (by simpa using h)⟩
 rintro _ H3 _ ⟨l3,n,w,es,rfl,hw,hg,hn,hC⟩
 simp only[cA,nA]
 have hn1:=hg.n1
 have hes:=hg.len
 have hcard:=c6A ⟨n,by omega⟩
 simp only at hcard
 have hne:2^n-1≠0:=by have:=Nat.pow_le_pow_right (n:=2) (by decide) hn1;omega
 have hp2:2^n-1<2^n:=Nat.sub_lt (Nat.two_pow_pos n) (by decide)
 refine a0d (b8l hw hg hp2 hne (by omega)) rfl ?_
 rintro v6 H4 ⟨l4,sl,⟨o6,htrs,hsl⟩,hnil⟩
 refine⟨fun h=>(nomatch h),?_⟩
 simp only[cA,nA]
 have hs0:0<sl.length:=List.length_pos_iff.2 (hnil hC)
 refine a0a ⟨_,rfl⟩ ?_
 refine a0h b2R rfl rfl o6.se rfl ?_
 refine a0a ⟨_,rfl⟩ ?_
 refine a0a (show((sl.length:Nat):Int)≠0 by omega) ?_
 have htm:tr%sl.length<sl.length:=Nat.mod_lt _ hs0
 have hsa:=List.getElem?_eq_getElem htm
 refine a0i b2R rfl rfl rfl rfl (fun _=>rfl) o6.se hsa (a1s rfl (c8j rfl htr rfl)) (fun _=>rfl) fun _=> ?_
 simp only[cA,nA]
 obtain⟨t0,ot,hT⟩:=htrs _ (List.mem_of_getElem? hsa)
 have htl:=hT.len
 refine a0a ⟨_,rfl⟩ ?_
 refine a0a ⟨_,rfl⟩ ?_
 refine⟨(fun l H'=>H'=H4/\∃k:Nat,l=[ii (k:Nat)]/\1<=k/\k<=4/\k<=n),?_,?_⟩
 ·skip
  have hdk:=Nat.mod_lt dk (show 0<4 by decide)
  have hDk:∀ρ:List Value,D prog ρ (.v 0)=cv da db dc s wv cu dk s0 s1 tr->D prog ρ (.op2 .add .i64 (.k (.int .i64 1)) (.cv .i64 (.op2 .rem .u8 (.cell (.v 0) 6 0 noI) (.k (.int .u8 4)))))=ii ((1+dk%4:Nat):Int):=fun ρ h=>c6w (m:=4) (mi:=4) (by show(D prog ρ (.v 0)).cells.getD _ undef=_;rw[h];rfl) rfl (by decide) (by decide)
  refine a0e (b:=decide (((1+dk%4:Nat):Int)>(n:Nat))) (by show Value.bool (decide (intOf (D prog _ (.op2 .add .i64 _ _))>_))=_;rw[hDk _ rfl];rfl) (fun h=> ?_) (fun h=> ?_)
  ·replace h:=of_decide_eq_true h
   exact⟨rfl,n,rfl,hn1,by omega,Nat.le_refl _⟩
  ·replace h:=of_decide_eq_false h
   exact⟨rfl,1+dk%4,a3K (hDk _ rfl),by omega,by omega,by omega⟩
 rintro _ H4 _ ⟨rfl,k,rfl,hk1,hk4,hkn⟩
 simp only[cA,nA]
 have lH4:=l3.trans l4
 refine a0k (α:=List Int×Value×Nat) (fun⟨t,u,i⟩=>[u,ii (i:Nat)]) (fun⟨t,u,i⟩=>fun H'=>PH.le H4 H'/\SI H' u t/\i<=k-1/\t.length+1+i=n/\(∀z∈t,0<=z/\z.toNat<es.length)/\Acy (etl es t) (etl es t).length) (fun⟨t,u,i⟩=>k-i) ((t0,vs sl[tr%sl.length],0)) rfl (⟨PH.le.refl _,ot.se,Nat.zero_le _,by omega,(fun z hz=>⟨(hT.ok z hz).1,(hT.ok z hz).2.1⟩),by rw[show(etl es t0).length=t0.length from List.length_map _];exact hT.acy⟩) fun⟨t,u,i⟩ H' hQ=> ?_
 simp only[cA,nA]
 obtain⟨l5,hu,hi,hlen,hok,hac⟩:=hQ
 have hcu2:=hcu.mono (lH4.trans l5)
 refine a0a ⟨_,rfl⟩ ?_
 refine a0a ⟨_,rfl⟩ ?_
 refine a0e (b:=decide (((i:Nat):Int)<((k:Nat):Int)-1)) (by show Value.bool (decide (((i:Nat):Int)<IntKind.i64.wrap (((k:Nat):Int)-1)))=_;rw[show IntKind.i64.wrap (((k:Nat):Int)-1)=((k:Nat):Int)-1 by rw[IntKind.wrap_i64];omega]) (fun h=> ?_) (fun h=> ?_)
 ·replace h:=of_decide_eq_true h
  refine a0h c6z rfl rfl hcu2 rfl ?_
  refine a0a ⟨_,rfl⟩ ?_
  refine⟨(fun l H''=>H''=H'/\∃j:Nat,l=[ii (j:Nat)]/\j<t.length),?_,?_⟩
  ·skip
   refine a0e (b:=decide (((i:Nat):Int)<(cuts.length:Nat))) rfl (fun h2=> ?_) (fun h2=> ?_)
   ·replace h2:=of_decide_eq_true h2
    have hi2:i<cuts.length:=by omega
    refine a0i c6z rfl rfl rfl rfl (fun _=>rfl) hcu2 (List.getElem?_eq_getElem hi2) rfl (fun _=>rfl) fun _=> ?_
    simp only[cA,nA]
    refine a0a ⟨_,rfl⟩ ?_
    refine a0h el_int rfl rfl hu rfl ?_
    refine a0a ⟨_,rfl⟩ ?_
    refine a0a (show((t.length:Nat):Int)≠0 by omega) ?_
    exact⟨rfl,cuts[i]%t.length,a3K (c8j rfl (hc256 _ (List.getElem_mem hi2)) rfl),Nat.mod_lt _ (by omega)⟩
   ·replace h2:=of_decide_eq_false h2
    exact⟨rfl,0,rfl,by omega⟩
  rintro _ H' _ ⟨rfl,j,rfl,hj⟩
  simp only[cA,nA]
  refine a3y el_int rfl rfl fun v15 H6 l6 o6 _=> ?_
  simp only[cA,nA]
  obtain⟨u2,hy2,hs2⟩:=c0v el_int (vs:=[u,ii (j:Nat)]) (k:= .i64) (j:=j) a9b rfl rfl (hu.mono l6) (by omega)
  refine a0g (hy2.rds _) rfl ?_
  simp only[cA,nA]
  have hl2:(t.take j).length<=64:=by rw[List.length_take];omega
  refine a1l el_int rfl rfl rfl l6 o6 hs2 (by simp only[List.length_nil];omega) rfl rfl fun v17 H7 l7 o7 _=> ?_
  simp only[cA,nA]
  obtain⟨u3,hy3,hs3⟩:=c0w el_int (vs:=[u,ii ((j+1:Nat):Int)]) (k:= .i64) (j:=j+1) a9c rfl rfl (hu.mono l7) (by omega)
  refine a0a ⟨_,rfl⟩ ?_
  refine a0g (hy3.rds _) (a1s rfl (a0w rfl (by omega))) ?_
  simp only[cA,nA]
  have hl3:(t.drop (j+1)).length<=64:=by rw[List.length_drop];omega
  refine a1l el_int rfl rfl rfl l7 o7 hs3 (by rw[List.nil_append];omega) rfl rfl fun v19 H8 l8 o8 _=> ?_
  simp only[cA,nA]
  rw[List.nil_append]at o8
  have hlen2:(t.take j++t.drop (j+1)).length+1+(i+1)=n:=by rw[List.length_append,List.length_take,List.length_drop];omega
  have hok2:∀z∈t.take j++t.drop (j+1),0<=z/\z.toNat<es.length:=fun z hz=>hok z ((List.mem_append.1 hz).elim List.mem_of_mem_take List.mem_of_mem_drop)
  have hac2:Acy (etl es (t.take j++t.drop (j+1))) (etl es (t.take j++t.drop (j+1))).length:=by
   have e:etl es (t.take j++t.drop (j+1))=(etl es t).take j++(etl es t).drop (j+1):=by unfold etl;rw[List.map_append,List.map_take,List.map_drop]
   rw[e]
   exact c7i (c3v hg hok) hac j
  exact⟨(t.take j++t.drop (j+1),v19,i+1),by show k-(i+1)<k-i;omega,(a1s rfl (a0w rfl (by omega))),⟨l5.trans l8,o8.se,by show i+1<=k-1;omega,hlen2,hok2,hac2⟩⟩
 ·replace h:=of_decide_eq_false h
  have hie:i=k-1:=by omega
  have hw5:SG H' w es:=hw.mono (l4.trans l5)
  refine a0d (b4O hw5 hg hu hok (by omega)) rfl ?_
  rintro v13 H9 ⟨l9,p,nx,hp,hL⟩
  refine⟨fun h=>(nomatch h),?_⟩
  simp only[cA,nA]
  have hel:(etl es t).length=t.length:=List.length_map _
  have hnk:k=nx:=by
   have:=d2N hL (by omega) (c3v hg hok) hcard hac
   omega
  subst hnk
  obtain⟨hlo,hus⟩:=c8x hL (by omega) hn1
  have hpl:=hL.len
  have hp8:∀x∈p,0<=x/\x<8:=fun x hx=>by have:=hlo.1 x hx;omega
  refine a0a (b2Y _) ?_
  have lH9:=(lH4.trans l5).trans l9
  refine a0k (α:=Nat×Value×List Int) (fun⟨x,wt,wl⟩=>[ii (x:Nat),bv wt 0 0 (k:Nat)]) (fun⟨x,wt,wl⟩=>fun H'=>PH.le H9 H'/\x<=n/\SO H9 H' 3 1 (fun z:Int=>[ii z]) wt wl/\wl.length=x/\(∀z∈wl,0<=z/\z<=9)) (fun⟨x,wt,wl⟩=>n-x) ((0,.slice none 0 0,[])) (a1s rfl (d8e rfl)) (⟨PH.le.refl _,Nat.zero_le _,SO.nil _ _ _ _ _,rfl,fun z hz=>by cases hz⟩) fun⟨x,wt,wl⟩ H10 hQ10=> ?_
  simp only[cA,nA]
  obtain⟨l10,hx,o10,hwl,hz9⟩:=hQ10
  have hwv2:=hwv.mono (lH9.trans l10)
  refine a0a ⟨_,rfl⟩ ?_
  refine a0e (b:=decide (((x:Nat):Int)<(n:Nat))) rfl (fun h2=> ?_) (fun h2=> ?_)
  ·replace h2:=of_decide_eq_true h2
   refine a0h c6z rfl rfl hwv2 rfl ?_
   refine a0a ⟨_,rfl⟩ ?_
   refine⟨(fun l H''=>H''=H10/\∃z:Int,l=[ii z]/\0<=z/\z<=9),?_,?_⟩
   ·skip
    refine a0e (b:=decide (((x:Nat):Int)<(wl0.length:Nat))) rfl (fun h3=> ?_) (fun h3=> ?_)
    ·replace h3:=of_decide_eq_true h3
     refine a0i c6z rfl rfl rfl rfl (fun _=>rfl) hwv2 (List.getElem?_eq_getElem (show x<wl0.length by omega)) rfl (fun _=>rfl) fun _=> ?_
     simp only[cA,nA]
     have hrm:=Nat.mod_lt wl0[x] (show 0<10 by decide)
     refine a0a ⟨_,rfl⟩ ?_
     exact⟨rfl,_,a3K (d2L rfl),by omega,by omega⟩
    ·replace h3:=of_decide_eq_false h3
     exact⟨rfl,1,rfl,by decide,by decide⟩
   rintro _ H10 _ ⟨rfl,z,rfl,hz0,hz1⟩
   simp only[cA,nA]
   refine a3k el_int rfl rfl rfl (fun _=>rfl) (fun _=>rfl) l10 o10 (by omega) rfl (fun _=>rfl) rfl fun q v19 H11 l11 o11=> ?_
   simp only[cA,nA]
   refine a0a o11.se.one ?_
   exact⟨(x+1,v19,wl++[z]),by show n-(x+1)<n-x;omega,(a1s (a0w rfl (by omega)) (d5l rfl rfl o11.se.cells)),⟨l11,by show x+1<=n;omega,o11,by show(wl++[z]).length=x+1;rw[List.length_append,hwl];rfl,fun y hy=>by rcases List.mem_append.1 hy with hy|hy;exact hz9 y hy;rw[List.mem_singleton]at hy;subst hy;exact⟨hz0,hz1⟩⟩⟩
  ·replace h2:=of_decide_eq_false h2
   have hxn:x=n:=by omega
   refine a0d (b4M (lo:=0) (hi:=0) (k:=k) hz9 (by omega) hk1 (hp.mono l10) o10.se (by omega) hp8 (by omega)) rfl ?_
   rintro _ _ ⟨rfl,a,b,rfl,ha0,hab,hb5,hds⟩
   refine⟨fun h=>(nomatch h),?_⟩
   simp only[cA,nA]
   have hlh:=d7j (s0:=s0) (s1:=s1) ha0 hab hb5
   refine a0a ⟨_,rfl,by simp⟩ ?_
   refine a0a ⟨_,rfl,by simp⟩ ?_
   refine a0a ⟨_,rfl⟩ ?_
   refine a0a ⟨_,rfl⟩ ?_
   refine a0g ((b1j (vs:=[ii 0,ii (IntKind.i64.wrap (a-IntKind.i64.wrap (Int.tmod ((s0:Nat):Int) 6)))]) rfl rfl rfl).rds _) rfl ?_
   simp only[cA,nA]
   have hB:∀(lo':Int) (ρ:List Value),D prog ρ (.v 0)=cv da db dc s wv cu dk s0 s1 tr->D prog ρ (.v 15)=bv wt 0 0 (k:Nat)->D prog ρ (.v 16)= .tuple #[ii a,ii b]->D prog ρ (.v 17)=ii lo'->D prog ρ (.cat (.sub (.v 15) 0 1 0 noI) 1 (.cat (.v 17) 1 (.cat (.op2 .add .i64 (.proj (.v 16) 1) (.cv .i64 (.op2 .rem .u8 (.cell (.v 0) 8 0 noI) (.k (.int .u8 6))))) 1 (.sub (.sub (.v 15) 2 2 0 noI) 1 1 0 noI))))=bv wt lo' (IntKind.i64.wrap (b+IntKind.i64.wrap (Int.tmod ((s1:Nat):Int) 6))) (k:Nat):=fun lo' ρ h0 h1 h2 h3=>d5m h1 h3 (by show a2O .add .i64 (intOf (match D prog ρ (.v 16)with| .tuple vs=>vs.getD 1 undef|_=>undef)) (IntKind.i64.wrap (Int.tmod (intOf ((D prog ρ (.v 0)).cells.getD (8+0*a2r (D prog ρ noI)) undef)) 6))=_;rw[h0,h2,Nat.zero_mul];rfl)
   refine a0a ⟨_,rfl⟩ ?_
   refine a0a ⟨_,rfl⟩ ?_
   refine a0a (b2Y _) ?_
   refine a0a (by show(D prog _ (.cat _ 1 (.cat _ 1 (.cat _ 1 _)))).cells.size=4/\_;rw[hB _ _ rfl rfl rfl rfl];exact a2J (a0z o10.se) _ _ _) ?_
   have hwk:c7W wl:=fun z hz=>by have:=hz9 z hz;omega
   have hbd:bdE n wl (if IntKind.i64.wrap (a-IntKind.i64.wrap (Int.tmod ((s0:Nat):Int) 6))>0 then IntKind.i64.wrap (a-IntKind.i64.wrap (Int.tmod ((s0:Nat):Int) 6))else 0) (IntKind.i64.wrap (b+IntKind.i64.wrap (Int.tmod ((s1:Nat):Int) 6))) (k:Nat)=0:=if_pos ⟨by omega,hlh.1,by omega,by omega,by omega,hwk⟩
   have hft:=d2O (es:=es) (wl:=wl) (lo:=(if IntKind.i64.wrap (a-IntKind.i64.wrap (Int.tmod ((s0:Nat):Int) 6))>0 then IntKind.i64.wrap (a-IntKind.i64.wrap (Int.tmod ((s0:Nat):Int) 6))else 0)) (hi:=IntKind.i64.wrap (b+IntKind.i64.wrap (Int.tmod ((s1:Nat):Int) 6))) hL (c3u hok) (by omega) hn1 hk1 (by omega) (fun d hd=>by have:=hds d hd;rw[hpl]at this;omega)
   exact a0c (by show Value.tuple #[_,D prog _ (.cat _ 1 (.cat _ 1 (.cat _ 1 _))),_]=_;rw[hB _ _ rfl rfl rfl rfl];rfl) ⟨lH9.trans l10,n,w,es,wt,wl,_,_,k,v13,p,rfl,hw5.mono (l9.trans l10),hg,hn,hC,o10.se,hk1,hk4,hp.mono l10,hbd,hft⟩
end
end Go.Proofs.YtmannekkmdockaaGreatDoor
/- MADE BY rxgen.py (mkGT.py): trees of chapter 32. -/
namespace Go.Proofs.YtmannekkmdockaaGreatDoor
open Go.Proofs.Tryz
open Go.RowKit Go.RX
set_option maxRecDepth 100000
theorem d2P:tree prog [] [] [⟨0,4,[],[2]⟩] [] 33=some (.rq (.cells 2 V0)
(.call false 29 [(.ki 1)]
(.rq (.cells 8 V3)
(.call false 25 [V1,V2]
(.rq (.tup 0 V4)
(.rq (.tup 1 V4)
(.pm f33 3 1 [(.proj V4 0)]
(.loop [(.ki 0),V3]
(.ri V6
(.ri V5
(.br (.io .lss V6 V5)
(.pm f33 5 0 [(.proj V4 0),V6]
(.pm f33 5 1 [V8]
(.call false 27 [(.ag V0),V9]
(.rq (.tup 0 V10)
(.rq (.tup 1 V10)
(.rq (.cells 8 (.proj V10 0))
(.call false 28 [(.ag V7),(.ag (.proj V10 0))]
(.rq (.tup 0 V11)
(.rq (.tup 1 V11)
(.rq (.cells 8 (.proj V11 0))
(.next 0 [(.io .add V6 (.ki 1)),(.proj V11 0)])))))))))))
(.ret [(.ag V7)])))))))))))):=by kernel_rfl
theorem d5Y:tree prog [] [] [⟨0,10,[],[]⟩] [⟨6,[0,1,3,7,15,31,63,127,255,127,639,2047,4095,8191,16383,16383,65535,131071],[0,0,0,0,0,0,0,0,1,0,1,0,0,0,5,2,1,0],[0,0,0,0,0,0,0,0,0,0,0,0,0,0,3,0,0,0],[0,1,2,3,4,5,6,7,8,9,10,11,12,13,14,15,16,17],[]⟩,⟨14,[0,0,0,6,14,31,63,127,127,0,767,2047],[5,0,0,1,1,2,0,0,0,3,4,0],[4,0,0,0,0,0,0,0,0,0,0,0],[0,1,2,3,4,5,6,7,8,9],[10,11]⟩] 6=some (.rq (.cells 10 V0)
(.call false 7 []
(.rq (.bool V1)
(.br (.nt V1)
(.ret [(.k (.bool false))])
(.call false 8 [(.ag V0)]
(.rq (.tup 0 V2)
(.rq (.tup 1 V2)
(.rq (.tup 2 V2)
(.rq (.cells 2 (.proj V2 0))
(.rq (.cells 4 (.proj V2 1))
(.call false 12 [(.ag (.proj V2 0)),(.ag (.proj V2 1)),(.proj V2 2)]
(.rq (.tup 0 V3)
(.rq (.tup 1 V3)
(.rq (.tup 2 V3)
(.call false 31 [(.proj V3 1)]
(.rq (.tup 0 V4)
(.rq (.tup 1 V4)
(.rq (.cells 16 (.proj V4 0))
(.rq (.int .i64 (.proj V3 2))
(.br (.io .neq (.proj V3 2) (.ki 0))
(.ret [(.k (.bool false))])
(.rq (.int .i64 (.proj V4 1))
(.br (.io .neq (.proj V4 1) (.ki 0))
(.ret [(.k (.bool false))])
(.pm f6 6 8 [(.proj V3 0)]
(.pm f6 6 10 [(.proj V3 1)]
(.ri V5
(.ri V6
(.br (.io .neq V5 V6)
(.ret [(.k (.bool false))])
(.call true 32 [(.ki 1),(.ki 1)]
(.pm f6 6 16 [(.ag (.proj V4 0)),V7]
(.rq (.bool V8)
(.br V8
(.ret [(.k (.bool false))])
(.call false 33 [(.ag (.proj V2 0)),(.proj V2 2),(.cell (.proj V2 1) 3 0 noI)]
(.call false 29 [(.ki 1)]
(.call false 30 [V9,V10]
(.rq (.tup 0 V11)
(.rq (.tup 1 V11)
(.rq (.cells 16 (.proj V11 0))
(.pm f6 9 1 [(.proj V3 0)]
(.loop [(.k (.bool false)),(.ki 0)]
(.ri V14
(.ri V12
(.br (.io .lss V14 V12)
(.pm f6 11 1 [(.proj V3 0),V14]
(.pm f6 11 2 [V15]
(.call false 16 [(.ag (.proj V2 0)),(.ag (.proj V2 1)),V16,(.proj V2 2)]
(.rq (.tup 0 V17)
(.rq (.tup 1 V17)
(.rq (.cells 16 (.proj V17 0))
(.call false 33 [(.ag (.proj V2 0)),V16,(.cell (.proj V2 1) 3 0 noI)]
(.call false 29 [(.ki 1)]
(.call false 30 [V18,V19]
(.rq (.tup 0 V20)
(.rq (.tup 1 V20)
(.rq (.cells 16 (.proj V20 0))
(.pm f6 14 3 [(.proj V3 1),V14]
(.pm f6 14 4 [V21]
(.call true 34 [(.ag (.proj V11 0)),V22]
(.rq (.tup 0 V23)
(.rq (.tup 1 V23)
(.rq (.cells 16 (.proj V23 0))
(.call false 34 [(.ag (.proj V20 0)),(.ag (.proj V17 0))]
(.rq (.tup 0 V24)
(.rq (.tup 1 V24)
(.rq (.cells 16 (.proj V24 0))
(.pm f6 16 2 [(.proj V3 1),V14]
(.pm f6 16 3 [V25]
(.call false 23 [V26]
(.rq (.tup 0 V27)
(.rq (.tup 1 V27)
(.rq (.int .i64 (.proj V17 1))
(.br (.io .neq (.proj V17 1) (.ki 0))
(.ret [(.k (.bool false))])
(.rq (.int .i64 (.proj V23 1))
(.br (.io .neq (.proj V23 1) (.ki 0))
(.ret [(.k (.bool false))])
(.rq (.int .i64 (.proj V24 1))
(.br (.io .neq (.proj V24 1) (.ki 0))
(.ret [(.k (.bool false))])
(.rq (.int .i64 (.proj V27 1))
(.br (.io .neq (.proj V27 1) (.ki 0))
(.ret [(.k (.bool false))])
(.pm f6 17 17 [(.ag (.proj V23 0)),(.ag (.proj V24 0))]
(.rq (.bool V28)
(.br V28
(.ret [(.k (.bool false))])
(.rq (.int .i64 (.proj V27 0))
(.br (.io .neq (.proj V27 0) (.ki 1))
(.ret [(.k (.bool false))])
(.call false 24 [(.ag (.proj V2 0)),(.ag (.proj V2 1)),V16]
(.rq (.bool V29)
(.br (.nt V29)
(.ret [(.k (.bool false))])
(.next 0 [V13,(.io .add V14 (.ki 1))]))))))))))))))))))))))))))))))))))))))))))))
(.ret [(.k (.bool true))]))))))))))))))))))))))))))))))))))))))))))):=by kernel_rfl
end Go.Proofs.YtmannekkmdockaaGreatDoor
/- Chapter 32: the law RecomFormula returns true. -/
namespace Go.Proofs.YtmannekkmdockaaGreatDoor
open Go.Proofs.Tryz
open Go.RowKit Go.RX Go.GS Go.RZ
open Go.WD (BP a1E wd iw rs toI HM sgI Rb a8Y)
set_option maxRecDepth 100000
section
variable {H:PH} {u v w wts:Value} {l:List Nat} {p wl:List Int} {n k:Nat} {es:List (Nat×Nat)} {lo hi:Int}
theorem d5Z (hg:GV n es) (hn:n<=9) (h1:1<=k) (h4:k<=4) (hf:a3L n es wl lo hi (k:Nat) p=true):SitO es n k (a0x p)/\LabOk p (k:Nat)/\a3B p k/\p.length=n:=by
 obtain⟨k',he,_,_,hl,hL,hU,_⟩:=b7c hf
 obtain rfl:k=k':=by omega
 exact⟨⟨hg,hn,a2y hL hU,a1M hL hU,a8M p,by rw[a0Q];exact hl,h1,h4⟩,hL,hU,hl⟩
theorem a5Q (hb:bdE n wl lo hi (k:Nat)=0) (hn:n<=12) (l:List (List Int)) (hf:∀p∈l,a3L n es wl lo hi (k:Nat) p=true):smE n es wl lo hi (k:Nat) l=0:=by
 unfold smE
 rw[if_neg (by rw[hb];simp),if_neg (by omega),if_neg]
 rw[List.any_eq_true]
 rintro⟨p,hp,h⟩
 rw[hf p hp]at h;cases h
theorem d6a {H':PH} {r:Value} (h:SitO es n k (a0x p)) (hs:smE n es wl lo hi (k:Nat) [p]=0) (hO:d2D H' n es wl lo hi (k:Nat) p r):
  ∃(ps:List (List Int)) (pv ov:Value) (m:List Slc) (cont:Slc->List Int),ps.Perm ((a1Z es wl lo hi n k (a0x p)).map fun x=>x.1.take n)/\r= .tuple #[pv,ov,ii 0]/\SE H' 1 (fun s:Slc=>[vs s]) pv m/\m.map cont=ps/\(∀s∈m,SI H' (vs s) (cont s))/\SE H' 16 shc ov (ps.map fun q=>tpr (vO (a1Z es wl lo hi n k (a0x p)) (a0r q))):=by
 unfold d2D at hO
 rw[Int.toNat_natCast]at hO
 rcases hO with⟨h1,_⟩|⟨_,ps,h2,_,h3⟩
 ·exact absurd hs h1
 ·rcases h3 with⟨_,pv,ov,m,cont,a1,a2,a3,a4,a5⟩|⟨⟨q,hq,h4⟩,_⟩
  ·exact⟨ps,pv,ov,m,cont,h2,a1,a2,a3,a4,a5⟩
  ·obtain⟨_,h5⟩:=h.outv (h2.mem_iff.1 hq)
   rw[c8w (h.tok h5).2.2]at h4;cases h4
end
end Go.Proofs.YtmannekkmdockaaGreatDoor

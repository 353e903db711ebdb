/- Chapter 32: what the examples are made of, in plain terms. -/
import Derived.Test.YtmannekkmdockaaGreatDoorGtC
import Derived.Test.YtmannekkmdockaaGreatDoorGdI
import Derived.Test.YtmannekkmdockaaGreatDoorGsZ
import Derived.Test.YtmannekkmdockaaGreatDoorGsY
import Derived.Test.YtmannekkmdockaaGreatDoorGsM
namespace Go.GS
def cnC (es:List (Nat×Nat)) (S:Nat):Bool:= !decide (S=0)&&decide (a2U S es es.length (2^lst S)=S)
theorem d5V {es:List (Nat×Nat)} {S n:Nat} (hg:GV n es) (hs:S<M64):cnB es S=cnC es S:=by
 rw[Bool.eq_iff_iff,cnB_iff]
 unfold cnC
 by_cases h0:S=0
 ·subst h0
  simp only[decide_true,Bool.not_true,Bool.false_and,Bool.false_eq_true,iff_false]
  rintro⟨x,hx,_⟩
  rw[a0J]at hx;cases hx
 ·have hx:=a6O hs h0
  have hL:∀e∈es,e.1<64/\e.2<64:=fun e he=>by have:=hg.ed e he;have:=hg.n64;omega
  have hc:=b2J hx (a1C (set:=S) hL (a0S (a1r hs hx)) es.length).1 (b1h S es (2^lst S))
  rw[decide_eq_false h0,Bool.not_false,Bool.true_and,decide_eq_true_iff]
  constructor
  ·intro hC
   refine a0F fun y=> ?_
   rw[Bool.eq_iff_iff,hc.2]
   exact⟨fun h=>h.mem hx,fun h=>hC.all hx h⟩
  ·intro e
   refine⟨lst S,hx,fun y hy=>(hc.2 y).1 (by rw[e];exact hy)⟩
def alC (es:List (Nat×Nat)) (wl:List Int) (lo hi:Int) (S:Nat):Bool:=cnC es S&&(decide (c7V wl S≥lo)&&decide (c7V wl S<=hi))
theorem b0c {es:List (Nat×Nat)} {wl:List Int} {lo hi:Int} {S n:Nat} (hg:GV n es) (hs:S<M64):alB es wl lo hi S=alC es wl lo hi S:=by
 unfold alB alC;rw[d5V hg hs]
theorem d2F {n:Nat} {es:List (Nat×Nat)} {wl p:List Int} {lo hi ds:Int} (hg:GV n es) (hl:p.length<=64):a3L n es wl lo hi ds p=(decide (plE n p ds=0)&&(masks p ds.toNat).all (alC es wl lo hi)):=by
 unfold a3L
 congr 1
 rw[Bool.eq_iff_iff,List.all_eq_true,List.all_eq_true]
 refine⟨fun h m hm=> ?_,fun h m hm=> ?_⟩
 ·rw[<-b0c hg (Nat.lt_of_lt_of_le (b1d hm hl) (Nat.pow_le_pow_right (n:=2) (by decide) hl))];exact h m hm
 ·rw[b0c hg (Nat.lt_of_lt_of_le (b1d hm hl) (Nat.pow_le_pow_right (n:=2) (by decide) hl))];exact h m hm
def es3:List (Nat×Nat):=[(0,1),(1,2),(2,3)]
def wl1:List Int:=[1,1,1,1]
theorem gv3:GV 4 es3:=⟨by decide,by decide,by decide,by decide,by unfold es3 elt;simp⟩
theorem bd3:bdE 4 wl1 1 3 2=0/\bdE 4 wl1 2 3 2=0:=by decide
theorem d7g:a3L 4 es3 wl1 1 3 2 [0,1,0,1]=false/\a3L 4 es3 wl1 1 3 2 [0,0,0,0]=false/\a3L 4 es3 wl1 1 3 2 [0,0,1,1]=true/\a3L 4 es3 wl1 2 3 2 [0,0,1,1]=true/\a3L 4 es3 wl1 1 3 2 [1,1,1,0]=true:=by
 refine⟨?_,?_,?_,?_,?_⟩<;>(rw[d2F gv3 (by decide)];decide+kernel)
theorem d2G:TreeOk es3 15 [0,1,2]:=by
 refine⟨by simp,fun i hi=> ?_,fun i e hi he=> ?_,by decide⟩
 ·simp only[List.mem_cons,List.not_mem_nil,or_false]at hi
  rcases hi with rfl|rfl|rfl
  ·exact(by decide:OkI es3 15 0)
  ·exact(by decide:OkI es3 15 1)
  ·exact(by decide:OkI es3 15 2)
 ·simp only[List.length_cons,List.length_nil]at hi
  match i,hi with
  |0,_=>cases he;decide
  |1,_=>cases he;decide
  |2,_=>cases he;decide
theorem bal3:c1P es3 wl1 1 3 15 [0,1,2] [0,1,2]=[0,1,2]/\c1P es3 wl1 2 3 15 [0,1,2] [0,1,2]=[1]:=by
 have h:∀lo,c1P es3 wl1 lo 3 15 [0,1,2] [0,1,2]=[0,1,2].filter fun k=>alC es3 wl1 lo 3 (a2V es3 15 [0,1,2] k)&&alC es3 wl1 lo 3 (sdf 15 (a2V es3 15 [0,1,2] k)):=fun lo=>by
  refine List.filter_congr fun k _=> ?_
  have h1:=b1l (by decide) (by decide) d2G k
  rw[b0c gv3 (Nat.lt_of_le_of_lt (sub_le h1) (by decide)),b0c gv3 (sdf_lt (by decide))]
 rw[h,h]
 decide+kernel
end Go.GS
namespace Go.Proofs.YtmannekkmdockaaGreatDoor
open Go.Proofs.Tryz
open Go.RowKit Go.RX Go.GS Go.RZ
open Go.WD (BP a1E wd rs toI HM sgI Rb)
theorem sit3:SitO es3 4 2 [0,0,1,1]:=⟨gv3,by decide,by decide,by decide,by decide,by decide,by decide,by decide⟩
def d7I (lo:Int) (a:Nat):Bool:=alC es3 wl1 lo 3 a&&(alC es3 wl1 lo 3 (sdf 15 a)&& !decide (a0r [0,0,1,1]=a0r (a2h [0,0,1,1] (0,1) a)))
theorem tr3:trN es3 15 [] 0=1/\trN es3 7 [] 0=1/\trN es3 8 [] 0=1/\trN es3 1 [] 0=1/\trN es3 14 [] 0=1:=by decide+kernel
theorem tn3 {S:Nat} (hs:S<M64) (h0:S≠0) (h:trN es3 S [] 0=1):tn es3 S=1:=by
 have h1:=b3d (es:=es3) hs h0
 rw[h]at h1
 unfold tn;omega
theorem d7J {lo:Int}:a8U es3 wl1 lo 3 [0,0,1,1] (0,1)=(a1z 15).filter (d7I lo):=by
 have hu:unP [0,0,1,1] (0,1)=15:=by decide
 unfold a8U
 rw[hu,if_neg (by rw[a8N (by decide) (by decide),tn3 (by decide) (by decide) tr3.1];decide)]
 refine List.filter_congr fun a ha=> ?_
 have h1:=(a8E (S:=15) (by decide) (by decide) ha).1
 unfold c6Y d7I
 rw[hu,b0c gv3 (Nat.lt_of_le_of_lt (sub_le h1) (by decide)),b0c gv3 (sdf_lt (by decide))]
theorem par3a:a8U es3 wl1 1 3 [0,0,1,1] (0,1)=[7,1]/\a8U es3 wl1 2 3 [0,0,1,1] (0,1)=[]:=by
 rw[d7J,d7J]
 decide+kernel
theorem idx3:a6W es3 wl1 1 3 2 [0,0,1,1]=[((0,1),7),((0,1),1)]/\a6W es3 wl1 2 3 2 [0,0,1,1]=[]:=by
 have hd:a0A 2=[(0,1)]:=by decide
 unfold a6W
 rw[hd]
 simp only[List.flatMap_cons,List.flatMap_nil,List.append_nil,par3a.1,par3a.2,List.map_cons,List.map_nil,and_self]
theorem d7K {a:Nat} (ha:a∈a1z 15) (h1:tn es3 a=1) (h2:tn es3 (sdf 15 a)=1):c3e es3 4 1 [0,0,1,1] (0,1) a=1/3:=by
 have hu:unP [0,0,1,1] (0,1)=15:=by decide
 rw[b3j (k:=2) (sit3.pr (pr:=(0,1)) (by decide)) (by decide) (by rw[hu];exact ha),hu,h1,h2,tn3 (by decide) (by decide) tr3.1]
 decide+kernel
theorem val3a:c3e es3 4 1 [0,0,1,1] (0,1) 7=1/3/\c3e es3 4 1 [0,0,1,1] (0,1) 1=1/3:=by
 have hm:7∈a1z 15/\1∈a1z 15:=by decide+kernel
 refine⟨d7K hm.1 (tn3 (by decide) (by decide) tr3.2.1) ?_,d7K hm.2 (tn3 (by decide) (by decide) tr3.2.2.2.1) ?_⟩
 ·exact tn3 (S:=sdf 15 7) (by decide) (by decide) (by have:=tr3.2.2.1;exact this)
 ·exact tn3 (S:=sdf 15 1) (by decide) (by decide) (by have:=tr3.2.2.2.2;exact this)
theorem odds3:a1J es3 wl1 1 3 4 2 [0,0,1,1]=[(a0r [0,0,0,1],1/3),(a0r [0,1,1,1],1/3)]/\a1J es3 wl1 2 3 4 2 [0,0,1,1]=[]:=by
 rw[sit3.odds,sit3.odds,idx3.1,idx3.2]
 have hl:(a0A 2).length=1:=by decide
 have e1:a2h [0,0,1,1] (0,1) 7=[0,0,0,1]:=by decide
 have e2:a2h [0,0,1,1] (0,1) 1=[0,1,1,1]:=by decide
 simp only[List.map_cons,List.map_nil,c8o,hl,val3a.1,val3a.2,e1,e2,and_self]
theorem tot3:a6v es3 wl1 1 3 4 2 [0,0,1,1]=2/3/\a6v es3 wl1 2 3 4 2 [0,0,1,1]=0:=by
 unfold a6v
 rw[odds3.1,odds3.2]
 simp only[List.map_cons,List.map_nil,sQ]
 decide+kernel
theorem d7h:a1Z es3 wl1 1 3 4 2 [0,0,1,1]=[(a0r [0,0,0,1],1/3),(a0r [0,1,1,1],1/3),(a0r [0,0,1,1],1/3)]:=by
 rw[sit3.all,odds3.1,tot3.1,if_pos (by decide+kernel),show(1:Rat)-2/3=1/3 by decide+kernel];rfl
theorem go3:goQ es3 wl1 1 3 4 2 [0,0,1,1] [1,1,1,0]=1/3/\goQ es3 wl1 2 3 4 2 [0,0,1,1] [0,0,1,1]=1:=by
 have hc:a0x [0,0,1,1]=[0,0,1,1]:=by decide
 have hc2:a0x [1,1,1,0]=[0,0,0,1]:=by decide
 unfold goQ
 rw[hc,hc2]
 refine⟨a5K a6R (by rw[d7h];simp),?_⟩
 rw[sit3.stayv,tot3.2];decide+kernel
theorem rb3:Rb 256 (1/3)/\Rb 256 1:=by
 unfold Rb;decide+kernel
theorem d8h {ps:List (List Int)} (hp:ps.Perm ((a1Z es3 wl1 1 3 4 2 [0,0,1,1]).map fun x=>x.1.take 4)) (ho:ps.Pairwise (fun a b=>¬a2W b a<0)):ps=[[0,0,0,1],[0,0,1,1],[0,1,1,1]]:=by
 rw[d7h]at hp
 have hp2:ps.Perm [[0,0,0,1],[0,0,1,1],[0,1,1,1]]:=hp.trans (by decide+kernel)
 refine List.Perm.eq_of_pairwise (le:=fun a b=>¬a2W b a<0) (fun a b ha hb h1 h2=> ?_) ho (by decide) hp2
 have ha':=hp2.mem_iff.1 ha
 have hb':=hb
 revert h1 h2
 simp only[List.mem_cons,List.not_mem_nil,or_false]at ha' hb'
 rcases ha' with rfl|rfl|rfl<;>rcases hb' with rfl|rfl|rfl<;>decide
theorem d7i {q:List Int} (hq:q∈[[0,0,0,1],[0,0,1,1],[0,1,1,1]]):vO (a1Z es3 wl1 1 3 4 2 [0,0,1,1]) (a0r q)=1/3:=by
 refine a5K a6R ?_
 rw[d7h]
 simp only[List.mem_cons,List.not_mem_nil,or_false]at hq
 rcases hq with rfl|rfl|rfl<;>simp
end Go.Proofs.YtmannekkmdockaaGreatDoor
/- Chapter 32: drafts: the bounds fit the plan. -/
namespace Go.GS
def dsm (p wl:List Int):Nat->Nat->Int
 |0,_=>0
 |i+1,d=>dsm p wl i d+if p.getD i 0=(d:Int)then wl.getD i 0 else 0
theorem a8R {p wl:List Int} (h:∀z∈wl,0<=z/\z<=9):∀i d,0<=dsm p wl i d/\dsm p wl i d<=9*i
 |0,_=>⟨Int.le_refl _,Int.le_refl _⟩
 |i+1,d=>by
  have ih:=a8R (p:=p) h i d
  have hz:0<=wl.getD i 0/\wl.getD i 0<=9:=by
   rw[List.getD_eq_getElem?_getD]
   cases e:wl[i]? with
   |none=>exact⟨by simp,by simp⟩
   |some z=>exact h z (List.mem_of_getElem? e)
  simp only[dsm]
  split<;>omega
end Go.GS
namespace Go.Proofs.YtmannekkmdockaaGreatDoor
open Go.Proofs.Tryz
open Go.RowKit Go.RX Go.GS
section
variable {H:PH} {u wts:Value} {p wl:List Int} {lo hi:Int} {k:Nat}
theorem d2H {a b z:Int} (h1:z<=a) (h2:z<=b):z<=(if b<a then b else a):=by split<;>omega
theorem d2I {a b z:Int} (h1:a<=z) (h2:b<=z):(if b>a then b else a)<=z:=by split<;>omega
theorem d2J {l:List Int} {z:Int} (h:l[0]? =some z) {d':Nat} {y:Int} (hd':d'<1) (hy:l[d']? =some y):z<=y/\y<=z:=by
 obtain rfl:d'=0:=by omega
 rw[h]at hy;cases hy;exact⟨Int.le_refl _,Int.le_refl _⟩
theorem d2K {l:List Int} {a b z:Int} {d:Nat} (h:∀(d':Nat) (y:Int),d'<d->l[d']? =some y->a<=y/\y<=b) (hd:l[d]? =some z) {d':Nat} {y:Int} (hd':d'<d+1) (hy:l[d']? =some y):(if z<a then z else a)<=y/\y<=(if z>b then z else b):=by
 by_cases e:d'=d
 ·subst e;rw[hd]at hy;cases hy;refine⟨?_,?_⟩<;>split<;>omega
 ·have:=h d' y (by omega) hy;refine⟨?_,?_⟩<;>split<;>omega
theorem c7h {p wl l:List Int} (hz9:∀z∈wl,0<=z/\z<=9) {i d:Nat} {x:Int} (hx:p[i]? =some ((d:Nat):Int)) (hw:wl[i]? =some x) (hi:i<64) (hds:∀d,d<8->l[d]? =some (dsm p wl i d)) (hl:l.length=8) (hd8:d<8) {d':Nat} (hd':d'<8):(l.set d (IntKind.i64.wrap (l[d]'(by omega)+x)))[d']? =some (dsm p wl (i+1) d'):=by
 have e1:l[d]'(by omega)=dsm p wl i d:=by
  have:=hds d hd8
  rw[List.getElem?_eq_getElem (by omega)]at this
  exact Option.some.inj this
 have hb:=a8R (p:=p) hz9 i d
 have hx9:=hz9 x (List.mem_of_getElem? hw)
 have ep:p.getD i 0=(d:Int):=by rw[List.getD_eq_getElem?_getD,hx];rfl
 have ew:wl.getD i 0=x:=by rw[List.getD_eq_getElem?_getD,hw];rfl
 rw[List.getElem?_set,e1,IntKind.wrap_i64]
 simp only[dsm]
 rw[ep,ew]
 by_cases e:d=d'
 ·subst e
  rw[if_pos rfl,if_pos (by omega),if_pos rfl]
  congr 1;omega
 ·rw[if_neg e,if_neg (by omega),hds d' hd',Int.add_zero]
theorem b4M (hz9:∀z∈wl,0<=z/\z<=9) (hp64:p.length<=64) (hk1:1<=k) (hu:SI H u p) (hwt:SI H wts wl) (hlen:p.length<=wl.length) (hp:∀x∈p,0<=x/\x<8) (hk:k<=8):Con prog 44 [bv wts lo hi (k:Nat),u] H fun r H'=>H'=H/\∃a b,r= .tuple #[ii a,ii b]/\0<=a/\a<=b/\b<=576/\∀d,d<k->a<=dsm p wl p.length d/\dsm p wl p.length d<=b:=by
 refine a0b mixed c1I (by kernel_rfl) rfl ?_
 have hpl:=hu.len
 refine a0a (a2J (a0z hwt) _ _ _) ?_
 refine a0K (α:=Nat×List Int) (fun⟨i,l⟩=>[ii (i:Nat),arI l]) (fun⟨i,l⟩=>i<=p.length/\l.length=8/\∀d,d<8->l[d]? =some (dsm p wl i d)) (fun⟨i,l⟩=>p.length-i) ((0,List.replicate 8 0)) (a1s rfl z_8) (⟨Nat.zero_le _,rfl,fun d hd=>by rw[List.getElem?_replicate,if_pos hd];rfl⟩) fun⟨i,l⟩ hQ=> ?_
 simp only[cA,nA]
 obtain⟨hi',hl,hds⟩:=hQ
 refine a0h el_plan rfl rfl hu rfl ?_
 refine a0a ⟨_,rfl⟩ ?_
 refine a0a ⟨_,rfl⟩ ?_
 refine a0e (b:=decide (((i:Nat):Int)<(p.length:Nat))) rfl (fun h=> ?_) (fun h=> ?_)
 ·replace h:=of_decide_eq_true h
  have hi2:i<p.length:=by omega
  obtain⟨x,hx,_⟩:=a0B hi2
  obtain⟨hx0,hx8⟩:=hp x (List.mem_of_getElem? hx)
  obtain⟨d,rfl⟩:∃d:Nat,x=(d:Int):=⟨x.toNat,by omega⟩
  have hd:l[d]? =some l[d]:=List.getElem?_eq_getElem (by omega)
  refine a0i el_plan rfl rfl rfl rfl (fun _=>rfl) hu hx rfl (fun _=>rfl) fun _=> ?_
  simp only[cA,nA]
  refine a0i el_plan rfl rfl rfl rfl (fun _=>rfl) hu hx rfl (fun _=>rfl) fun _=> ?_
  simp only[cA,nA]
  refine a0a ⟨_,_,rfl⟩ ?_
  refine a0a ⟨hx0,hx8⟩ ?_
  refine a0i el_int rfl rfl rfl rfl (fun _=>rfl) hwt (List.getElem?_eq_getElem (show i<wl.length by omega)) rfl (fun _=>rfl) fun _=> ?_
  simp only[cA,nA]
  refine a0a ⟨_,c6u rfl rfl hd⟩ ?_
  refine a0a ⟨_,rfl⟩ ?_
  refine a0a ⟨_,_,rfl⟩ ?_
  refine a0a ⟨hx0,hx8⟩ ?_
  exact⟨(i+1,l.set d (IntKind.i64.wrap (l[d]+wl[i]))),by show p.length-(i+1)<p.length-i;omega,(a1s (a0w rfl (by omega)) (c6v rfl (d5g (c6u rfl rfl hd) rfl) rfl)),⟨⟨hi2,by rw[List.length_set];exact hl,fun d' hd'=>c7h hz9 hx (List.getElem?_eq_getElem (show i<wl.length by omega)) (by omega) hds hl (by omega) hd'⟩,rfl⟩⟩
 ·replace h:=of_decide_eq_false h
  have h0:l[0]? =some l[0]:=List.getElem?_eq_getElem (by omega)
  have hb0:∀(d:Nat) (y:Int),l[d]? =some y->0<=y/\y<=576:=fun d y hy=>by
   have hd8:d<8:=by have:=(List.getElem?_eq_some_iff.1 hy).1;omega
   rw[hds d hd8]at hy;cases hy
   have:=a8R (p:=p) hz9 i d;omega
  refine a0K (α:=Nat×Int×Int) (fun⟨d,a,b⟩=>[ii a,ii b,ii (d:Nat)]) (fun⟨d,a,b⟩=>1<=d/\d<=8/\0<=a/\b<=576/\∀d' y,d'<d->l[d']? =some y->a<=y/\y<=b) (fun⟨d,a,b⟩=>8-d) ((1,l[0],l[0])) (a8T (c8g rfl h0) (c8g rfl h0) rfl) (⟨Nat.le_refl _,by decide,(hb0 0 _ h0).1,(hb0 0 _ h0).2,fun d' y hd' hy=>d2J h0 hd' hy⟩) fun⟨d,a,b⟩ hQ=> ?_
  simp only[cA,nA]
  obtain⟨hd1,hd8,ha0,hb5,hab⟩:=hQ
  refine a0a ⟨_,rfl⟩ ?_
  refine a0a ⟨_,rfl⟩ ?_
  refine a0e (b:=decide (((d:Nat):Int)<(k:Nat))) rfl (fun h2=> ?_) (fun h2=> ?_)
  ·replace h2:=of_decide_eq_true h2
   have hd:l[d]? =some l[d]:=List.getElem?_eq_getElem (by omega)
   refine a0a ⟨_,_,rfl⟩ ?_
   refine a0a ⟨by show(0:Int)<=((d:Nat):Int);omega,by show((d:Nat):Int)<8;omega⟩ ?_
   refine a0g ((b6b (vs:=[ii a,ii l[d]]) rfl rfl rfl).rds _) (a1s rfl (c6u rfl rfl hd)) ?_
   simp only[cA,nA]
   refine a0g ((b1j (vs:=[ii b,ii l[d]]) rfl rfl rfl).rds _) (a1s rfl (c6u rfl rfl hd)) ?_
   simp only[cA,nA]
   exact⟨(d+1,(if l[d]<a then l[d]else a),(if l[d]>b then l[d]else b)),by show 8-(d+1)<8-d;omega,(a8T rfl rfl (a0w rfl (by omega))),⟨⟨by show 1<=d+1;omega,by show d+1<=8;omega,(d2H ha0 (hb0 d _ hd).1),(d2I hb5 (hb0 d _ hd).2),fun d' y hd' hy=>d2K hab hd hd' hy⟩,rfl⟩⟩
  ·replace h2:=of_decide_eq_false h2
   have hie:i=p.length:=by omega
   subst hie
   exact a0c rfl ⟨rfl,a,b,rfl,ha0,Int.le_trans (hab 0 _ (by omega) h0).1 (hab 0 _ (by omega) h0).2,hb5,fun d' hd'=>hab d' _ (by omega) (hds d' (by omega))⟩
end
theorem a3p {z:Int} (h0: -100000<=z) (h1:z<=100000):IntKind.i64.wrap z=z:=by
 rw[IntKind.wrap_i64];omega
theorem d2L {ρ:List Value} {x:SV} {a:Nat} (hx:D prog ρ x= .int .u8 (a:Nat)):D prog ρ (.cv .i64 (.op2 .rem .u8 x (.k (.int .u8 10))))=ii ((a%10:Nat):Int):=by
 show Value.int .i64 (IntKind.i64.wrap (Int.tmod (intOf (D prog ρ x)) 10))=_
 rw[hx]
 show Value.int .i64 (IntKind.i64.wrap (Int.tmod ((a:Nat):Int) ((10:Nat):Int)))=_
 have:=Nat.mod_lt a (show 0<10 by decide)
 rw[<-Int.ofNat_tmod,a3p (by omega) (by omega)]
 rfl
theorem d7j {a b:Int} {s0 s1:Nat} (h0:0<=a) (h1:a<=b) (h2:b<=576):0<=(if IntKind.i64.wrap (a-IntKind.i64.wrap (Int.tmod ((s0:Nat):Int) 6))>0 then IntKind.i64.wrap (a-IntKind.i64.wrap (Int.tmod ((s0:Nat):Int) 6))else 0)/\(if IntKind.i64.wrap (a-IntKind.i64.wrap (Int.tmod ((s0:Nat):Int) 6))>0 then IntKind.i64.wrap (a-IntKind.i64.wrap (Int.tmod ((s0:Nat):Int) 6))else 0)<=a/\b<=IntKind.i64.wrap (b+IntKind.i64.wrap (Int.tmod ((s1:Nat):Int) 6))/\IntKind.i64.wrap (b+IntKind.i64.wrap (Int.tmod ((s1:Nat):Int) 6))<=1000:=by
 have e0:Int.tmod ((s0:Nat):Int) 6=((s0%6:Nat):Int):=(Int.ofNat_tmod s0 6).symm
 have e1:Int.tmod ((s1:Nat):Int) 6=((s1%6:Nat):Int):=(Int.ofNat_tmod s1 6).symm
 have l0:=Nat.mod_lt s0 (show 0<6 by decide)
 have l1:=Nat.mod_lt s1 (show 0<6 by decide)
 rw[e0,e1]
 generalize s0%6=x at*
 generalize s1%6=y at*
 have w0:IntKind.i64.wrap ((x:Nat):Int)=(x:Nat):=a3p (by omega) (by omega)
 have w1:IntKind.i64.wrap ((y:Nat):Int)=(y:Nat):=a3p (by omega) (by omega)
 have w2:IntKind.i64.wrap (a-(x:Nat))=a-(x:Nat):=a3p (by omega) (by omega)
 have w3:IntKind.i64.wrap (b+(y:Nat))=b+(y:Nat):=a3p (by omega) (by omega)
 rw[w0,w1,w2,w3]
 split<;>omega
end Go.Proofs.YtmannekkmdockaaGreatDoor
/- Labels of what some edges join. -/
namespace Go.GS
def b4N (L:List (Nat×Nat)) (j:Nat):List (Nat×Nat):=(List.range j).map fun i=>L.getD (i%L.length) (0,0)
section
variable {L:List (Nat×Nat)} {n x next j:Nat} {p:List Int}
theorem b3m (L:List (Nat×Nat)) (j:Nat):b4N L (j+1)=b4N L j++[L.getD (j%L.length) (0,0)]:=by
 unfold b4N;rw[List.range_succ,List.map_append];rfl
theorem b7d (L:List (Nat×Nat)) (s:Nat):∀m,rnd a1u (b4N L (m*L.length)) s=a2U a1u L m s
 |0=>by rw[Nat.zero_mul];rfl
 |m+1=>by
  have h:b4N L ((m+1)*L.length)=b4N L (m*L.length)++L:=by
   unfold b4N
   rw[Nat.succ_mul,List.range_add,List.map_append,List.map_map]
   congr 1
   apply List.ext_getElem?
   intro i
   by_cases hi:i<L.length
   ·rw[List.getElem?_map,List.getElem?_eq_getElem (by simpa using hi)]
    simp only[List.getElem_range,Option.map_some,Function.comp]
    rw[show(m*L.length+i)%L.length=i by rw[Nat.mul_comm,Nat.mul_add_mod,Nat.mod_eq_of_lt hi],List.getD_eq_getElem?_getD,List.getElem?_eq_getElem hi];rfl
   ·rw[List.getElem?_eq_none (by simp;omega),List.getElem?_eq_none (by omega)]
  rw[h]
  unfold rnd
  rw[List.foldl_append]
  show rnd a1u L (rnd a1u (b4N L (m*L.length)) s)=_
  rw[b7d L s m];rfl
structure LabA (n:Nat) (L:List (Nat×Nat)) (x next:Nat) (p:List Int):Prop where
 len:p.length=n
 nx:next<=x
 rng:∀(y:Nat) (z:Int),p[y]? =some z-> -1<=z/\z<(next:Int)
 done:∀(y:Nat) (z:Int),y<x->p[y]? =some z->0<=z
 use:∀d:Nat,d<next->∃y:Nat,p[y]? =some (d:Int)
 cls:∀y z d:Nat,p[y]? =some (d:Int)->(p[z]? =some (d:Int)↔Rch L a1u y z)
structure LabB (n:Nat) (L:List (Nat×Nat)) (x next j:Nat) (p:List Int):Prop where
 len:p.length=n
 nx:next<=x
 rng:∀(y:Nat) (z:Int),p[y]? =some z-> -1<=z/\z<(next:Int)+1
 done:∀(y:Nat) (z:Int),y<x+1->p[y]? =some z->0<=z
 use:∀d:Nat,d<next+1->∃y:Nat,p[y]? =some (d:Int)
 old:∀y z d:Nat,d<next->p[y]? =some (d:Int)->(p[z]? =some (d:Int)↔Rch L a1u y z)
 cur:∀y:Nat,p[y]? =some (next:Int)↔bit (rnd a1u (b4N L j) (2^x)) y=true
theorem LabA.start (n:Nat) (L:List (Nat×Nat)):LabA n L 0 0 (List.replicate n (-1)) where
 len:=List.length_replicate
 nx:=Nat.le_refl 0
 rng:=fun y z h=>by
  rw[List.getElem?_replicate]at h
  split at h
  ·injection h with h;omega
  ·cases h
 done:=fun y z h=>by omega
 use:=fun d h=>by omega
 cls:=fun y z d h=>by
  rw[List.getElem?_replicate]at h
  split at h
  ·injection h with h;omega
  ·cases h
theorem LabA.skip {z:Int} (h:LabA n L x next p) (hz:p[x]? =some z) (h0:0<=z):LabA n L (x+1) next p:=by
 refine⟨h.len,Nat.le_succ_of_le h.nx,h.rng,fun y w hy hw=> ?_,h.use,h.cls⟩
 by_cases e:y=x
 ·subst e;rw[hz]at hw;injection hw with hw;omega
 ·exact h.done y w (by omega) hw
theorem LabA.begin {z:Int} (h:LabA n L x next p) (hz:p[x]? =some z) (h0:z<0):LabB n L x next 0 (p.set x (next:Int)):=by
 have hx:=(List.getElem?_eq_some_iff.1 hz).1
 have hs:∀y,(p.set x (next:Int))[y]? =if x=y then some (next:Int)else p[y]?:=fun y=>by
  rw[List.getElem?_set]
  by_cases e:x=y
  ·rw[if_pos e,if_pos e,if_pos (by omega)]
  ·rw[if_neg e,if_neg e]
 refine⟨by rw[List.length_set];exact h.len,h.nx,fun y w hw=> ?_,fun y w hy hw=> ?_,fun d hd=> ?_,fun y w d hd hy=> ?_,fun y=> ?_⟩
 ·rw[hs]at hw
  split at hw
  ·injection hw with hw;omega
  ·have:=h.rng y w hw;omega
 ·rw[hs]at hw
  split at hw
  ·injection hw with hw;omega
  ·exact h.done y w (by omega) hw
 ·by_cases e:d=next
  ·exact⟨x,by rw[hs,if_pos rfl,e]⟩
  ·obtain⟨y,hy⟩:=h.use d (by omega)
   refine⟨y,?_⟩
   rw[hs,if_neg]
   ·exact hy
   ·intro e;subst e;rw[hz]at hy;injection hy with hy;omega
 ·rw[hs]at hy
  split at hy
  ·injection hy with hy;omega
  ·rw[hs]
   by_cases e:x=w
   ·subst e
    rw[if_pos rfl]
    refine⟨fun hh=>by injection hh with hh;omega,fun hr=> ?_⟩
    have:=(h.cls y x d hy).2 hr
    rw[hz]at this;injection this with this;omega
   ·rw[if_neg e];exact h.cls y w d hy
 ·rw[hs]
  show _↔bit (2^x) y=true
  rw[a0v,decide_eq_true_iff]
  split
  ·rename_i e;simp[e]
  ·rename_i e
   refine⟨fun hh=> ?_,fun hh=>absurd hh e⟩
   have:=h.rng y _ hh;omega
theorem LabB.step {e:Nat×Nat} (h:LabB n L x next j p) (hn:n<=64) (he:L.getD (j%L.length) (0,0)=e) (hm:e∈L) (h1:e.1<n) (h2:e.2<n) (hne:e.1≠e.2) (hh:p[e.1]? =some (next:Int)\/p[e.2]? =some (next:Int)):LabB n L x next (j+1) ((p.set e.1 (next:Int)).set e.2 (next:Int)):=by
 have hlen:=h.len
 have hs:∀y,((p.set e.1 (next:Int)).set e.2 (next:Int))[y]? =if e.1=y\/e.2=y then some (next:Int)else p[y]?:=fun y=>by
  rw[List.getElem?_set,List.getElem?_set,List.length_set]
  by_cases a:e.2=y
  ·rw[if_pos a,if_pos (by omega),if_pos (.inr a)]
  ·rw[if_neg a]
   by_cases b:e.1=y
   ·rw[if_pos b,if_pos (by omega),if_pos (.inl b)]
   ·rw[if_neg b,if_neg (fun hh=>hh.elim b a)]
 have hbit:∀y,y<64->bit a1u y=true:=fun y=>a2M
 have hno:∀y d:Nat,d<next->p[y]? =some (d:Int)->¬(e.1=y\/e.2=y):=fun y d hd hy hc=>by
  have key:∀u v:Nat,adj L u v->v<64->p[u]? =some (d:Int)->p[v]? =some (next:Int)->False:=fun u v ha hv hu hv'=>by
   have:=(h.old u v d hd hu).2 (Rch.base.step ha (hbit v hv))
   rw[hv']at this;injection this with this;omega
  have a12:adj L e.1 e.2:=⟨e,hm,.inl ⟨rfl,rfl⟩⟩
  rcases hc with rfl|rfl
  ·rcases hh with hh|hh
   ·rw[hy]at hh;injection hh with hh;omega
   ·exact key _ _ a12 (by omega) hy hh
  ·rcases hh with hh|hh
   ·exact key _ _ a12.symm (by omega) hy hh
   ·rw[hy]at hh;injection hh with hh;omega
 refine⟨by rw[List.length_set,List.length_set];exact hlen,h.nx,fun y w hw=> ?_,fun y w hy hw=> ?_,fun d hd=> ?_,fun y w d hd hy=> ?_,fun y=> ?_⟩
 ·rw[hs]at hw
  split at hw
  ·injection hw with hw;omega
  ·exact h.rng y w hw
 ·rw[hs]at hw
  split at hw
  ·injection hw with hw;omega
  ·exact h.done y w hy hw
 ·by_cases hd':d=next
  ·exact⟨e.1,by rw[hs,if_pos (.inl rfl),hd']⟩
  ·obtain⟨y,hy⟩:=h.use d hd
   exact⟨y,by rw[hs,if_neg (hno y d (by omega) hy)];exact hy⟩
 ·rw[hs]at hy
  split at hy
  ·injection hy with hy;omega
  ·rw[hs]
   split
   ·rename_i hc
    refine⟨fun hq=>by injection hq with hq;omega,fun hr=> ?_⟩
    exact absurd hc (hno w d hd ((h.old y w d hd hy).2 hr))
   ·exact h.old y w d hd hy
 ·rw[hs,b3m,he]
  unfold rnd
  rw[List.foldl_append]
  show _↔bit (rst a1u (rnd a1u (b4N L j) (2^x)) e) y=true
  rw[a7e (by omega) (by omega)]
  rw[h.cur,h.cur]at hh
  have a3:(bit (rnd a1u (b4N L j) (2^x)) e.1||bit (rnd a1u (b4N L j) (2^x)) e.2)=true:=by rw[Bool.or_eq_true];exact hh
  rw[if_pos a3,a0G,a0G,a0v,a0v]
  by_cases hc:e.1=y\/e.2=y
  ·rw[if_pos hc]
   rcases hc with hc|hc<;>simp[hc]
  ·rw[if_neg hc,h.cur y]
   rw[decide_eq_false (fun a=>hc (.inl a)),decide_eq_false (fun a=>hc (.inr a))]
   simp
theorem LabB.pass {e:Nat×Nat} (h:LabB n L x next j p) (hn:n<=64) (he:L.getD (j%L.length) (0,0)=e) (h1:e.1<n) (h2:e.2<n) (hh:p[e.1]?≠some (next:Int)/\p[e.2]?≠some (next:Int)):LabB n L x next (j+1) p:=by
 refine⟨h.len,h.nx,h.rng,h.done,h.use,h.old,fun y=> ?_⟩
 rw[b3m,he]
 unfold rnd
 rw[List.foldl_append]
 show _↔bit (rst a1u (rnd a1u (b4N L j) (2^x)) e) y=true
 rw[a7e (by omega) (by omega)]
 have a1:=mt (h.cur e.1).2 hh.1
 have a2:=mt (h.cur e.2).2 hh.2
 have a3:¬(bit (rnd a1u (b4N L j) (2^x)) e.1||bit (rnd a1u (b4N L j) (2^x)) e.2)=true:=by rw[Bool.or_eq_true];exact fun hc=>hc.elim a1 a2
 rw[if_neg a3]
 exact h.cur y
theorem LabB.end (h:LabB n L x next (L.length*L.length) p) (hx:x<64) (hL:∀e∈L,e.1<64/\e.2<64):LabA n L (x+1) (next+1) p:=by
 have hc:∀y,p[y]? =some (next:Int)↔Rch L a1u x y:=fun y=>by
  rw[h.cur,b7d]
  exact(b2J (a2M hx) (a1C hL (a0S hx) L.length).1 (b1h a1u L (2^x))).2 y
 refine⟨h.len,Nat.succ_le_succ h.nx,fun y z hz=>by have:=h.rng y z hz;omega,h.done,h.use,fun y z d hy=> ?_⟩
 by_cases hd:d<next
 ·exact h.old y z d hd hy
 ·obtain rfl:d=next:=by have:=h.rng y _ hy;omega
  have hxy:=(hc y).1 hy
  rw[hc]
  exact⟨fun hz=>(hxy.symm (a2M hx)).trans hz,fun hz=>hxy.trans hz⟩
end
section
variable {L es:List (Nat×Nat)} {n next k:Nat} {p:List Int}
theorem LabA.at (h:LabA n L n next p) {y:Nat} (hy:y<n):∃d:Nat,d<next/\p[y]? =some (d:Int):=by
 have h1:=List.getElem?_eq_getElem (show y<p.length by rw[h.len];exact hy)
 have h2:=h.rng y _ h1
 have h3:=h.done y _ hy h1
 exact⟨(p[y]'(by rw[h.len];exact hy)).toNat,by omega,by rw[h1];congr 1;omega⟩
open Classical in
theorem d2M (h:LabA n L n next p) (hn:n<=64) (hin:Inn (2^n-1) L):next=cnt (lab L) (2^n-1):=by
 have hb:∀y,bit (2^n-1) y=decide (y<n):=fun y=>Nat.testBit_two_pow_sub_one n y
 have hM:2^n-1<M64:=by
  have:=Nat.pow_le_pow_right (n:=2) (by decide) hn
  have:=Nat.two_pow_pos n
  have e:(2:Nat)^64=M64:=by decide
  omega
 have hrl:∀y z,y<n->z<n->(lab L y=lab L z↔Rch L a1u y z):=fun y z hy hz=>by
  rw[a4c hin (by rw[hb];exact decide_eq_true hy) (by rw[hb];exact decide_eq_true hz)]
  exact(a5z hM hin (by rw[hb];exact decide_eq_true hy)).symm
 have hlt:∀y,y<n->lab L y<n:=fun y hy=>by
  have:=a3m hin y (by rw[hb];exact decide_eq_true hy)
  rw[hb,decide_eq_true_iff]at this;exact this
 unfold cnt
 refine Nat.le_antisymm ?_ ?_
 ·have:=a8J (l:=List.range next) (m:=(List.range 64).filter fun x=>bit (2^n-1) x&&decide (lab L x=x)) (fun d=>if hd:∃y:Nat,p[y]? =some (d:Int)then lab L (Classical.choose hd)else 0) List.nodup_range (fun d hd d' hd' e=> ?_) (fun d hd=> ?_)
  ·simpa using this
  ·have u:=h.use d (List.mem_range.1 hd)
   have u':=h.use d' (List.mem_range.1 hd')
   simp only[dif_pos u,dif_pos u']at e
   have s:=Classical.choose_spec u
   have s':=Classical.choose_spec u'
   have l:=(List.getElem?_eq_some_iff.1 s).1
   have l':=(List.getElem?_eq_some_iff.1 s').1
   rw[h.len]at l l'
   have r:=(hrl _ _ l l').1 e
   have:=(h.cls _ _ d s).2 r
   rw[s']at this;injection this with this;omega
  ·have u:=h.use d (List.mem_range.1 hd)
   simp only[dif_pos u]
   have s:=Classical.choose_spec u
   have l:=(List.getElem?_eq_some_iff.1 s).1
   rw[h.len]at l
   have h2:=hlt _ l
   rw[List.mem_filter,hb,(Lb.lab L).idm]
   exact⟨List.mem_range.2 (by omega),by simp[h2]⟩
 ·have:=a8J (l:=(List.range 64).filter fun x=>bit (2^n-1) x&&decide (lab L x=x)) (m:=List.range next) (fun y=>(p.getD y 0).toNat) (List.nodup_range.filter _) (fun y hy z hz e=> ?_) (fun y hy=> ?_)
  ·simpa using this
  ·have f:∀{y},y∈((List.range 64).filter fun x=>bit (2^n-1) x&&decide (lab L x=x))->y<n/\lab L y=y:=fun hy=>by
    have:=(List.mem_filter.1 hy).2
    rw[hb]at this
    simpa using this
   obtain⟨y1,y2⟩:=f hy
   obtain⟨z1,z2⟩:=f hz
   obtain⟨d,_,hd⟩:=h.at y1
   obtain⟨d',_,hd'⟩:=h.at z1
   rw[List.getD_eq_getElem?_getD,List.getD_eq_getElem?_getD,hd,hd']at e
   have e:d=d':=by simpa using e
   subst e
   have:=(hrl y z y1 z1).2 ((h.cls y z d hd).1 hd')
   rw[y2,z2]at this;exact this
  ·have hy:=(List.mem_filter.1 hy).2
   rw[hb]at hy
   have hy:y<n:=by simp at hy;exact hy.1
   obtain⟨d,hd,e⟩:=h.at hy
   rw[List.getD_eq_getElem?_getD,e]
   simpa using hd
theorem d2N (h:LabA n L n next p) (hn:n<=64) (hin:Inn (2^n-1) L) (hc:card (2^n-1)=n) (ha:Acy L L.length):next+L.length=n:=by
 have hM:2^n-1<M64:=by
  have:=Nat.pow_le_pow_right (n:=2) (by decide) hn
  have:=Nat.two_pow_pos n
  have e:(2:Nat)^64=M64:=by decide
  omega
 have h3:=a6j hM hin L.length (Nat.le_refl _)
 rw[List.take_length,(a4b _ (Nat.le_refl _)).2 ha,hc,<-d2M h hn hin]at h3
 exact h3
theorem c8x (h:LabA n L n next p) (hn:n<=64) (h1:1<=n):LabOk p (next:Nat)/\a3B p next:=by
 refine⟨⟨fun z hz=> ?_,by rw[h.len];omega,by rw[h.len];exact hn⟩,fun d hd=> ?_⟩
 ·obtain⟨y,hy⟩:=List.mem_iff_getElem?.1 hz
  have hyl:=(List.getElem?_eq_some_iff.1 hy).1
  rw[h.len]at hyl
  have h2:=h.rng y z hy
  have h3:=h.done y z hyl hy
  omega
 ·obtain⟨y,hy⟩:=h.use d hd
  exact mask_mem2.2 (List.mem_of_getElem? hy)
theorem d5W (h:LabA n L n next p) (hL:∀e∈L,e∈es) {d:Nat} (hd:d<next):Cn es (a0o p (d:Nat)):=by
 obtain⟨y,hy⟩:=h.use d hd
 refine⟨y,by rw[a0M];exact decide_eq_true hy,fun z hz=> ?_⟩
 rw[a0M,decide_eq_true_iff]at hz
 have hr:=(h.cls y z d hy).1 hz
 clear hz
 induction hr with
 |base=>exact .base
 |step h1 ha hz ih=>
  obtain⟨e,he,hh⟩:=ha
  exact ih.step ⟨e,hL e he,hh⟩ (by rw[a0M];exact decide_eq_true ((h.cls y _ d hy).2 (h1.step ⟨e,he,hh⟩ hz)))
theorem c7i (hin:Inn (2^n-1) L) (ha:Acy L L.length) (j:Nat):Acy (L.take j++L.drop (j+1)) (L.take j++L.drop (j+1)).length:=by
 intro i e hi he
 by_cases hij:i<j
 ·have hl:(L.take j).length=min j L.length:=List.length_take
  by_cases hiL:i<L.length
  ·rw[List.getElem?_append_left (by rw[hl];omega),List.getElem?_take,if_pos hij]at he
   rw[List.take_append_of_le_length (by rw[hl];omega),List.take_take,Nat.min_eq_left (by omega)]
   exact ha i e hiL he
  ·simp only[List.length_append,List.length_take,List.length_drop]at hi;omega
 ·by_cases hj:j<L.length
  ·have hl:(L.take j).length=j:=by rw[List.length_take];omega
   rw[List.getElem?_append_right (by omega),hl,List.getElem?_drop]at he
   have he':L[i+1]? =some e:=by rw[<-he];congr 1;omega
   have hi1:=(List.getElem?_eq_some_iff.1 he').1
   have h2:=ha (i+1) e hi1 he'
   intro hc
   apply h2
   have hmem:∀f∈(L.take j++L.drop (j+1)).take i,f∈L.take (i+1):=fun f hf=>by
    rw[List.take_append,hl]at hf
    rcases List.mem_append.1 hf with hf|hf
    ·rw[List.take_of_length_le (by rw[hl];omega)]at hf
     obtain⟨m,hm⟩:=List.mem_iff_getElem?.1 hf
     rw[List.getElem?_take]at hm
     split at hm
     ·exact List.mem_iff_getElem?.2 ⟨m,by rw[List.getElem?_take,if_pos (by omega)];exact hm⟩
     ·cases hm
    ·obtain⟨m,hm⟩:=List.mem_iff_getElem?.1 hf
     rw[List.getElem?_take]at hm
     split at hm
     ·rw[List.getElem?_drop]at hm
      exact List.mem_iff_getElem?.2 ⟨j+1+m,by rw[List.getElem?_take,if_pos (by omega)];exact hm⟩
     ·cases hm
   have in1:Inn (2^n-1) (L.take (i+1)):=fun f hf=>hin f (List.mem_of_mem_take hf)
   have in2:Inn (2^n-1) ((L.take j++L.drop (j+1)).take i):=fun f hf=>in1 f (hmem f hf)
   have hee:=hin e (List.mem_of_getElem? he')
   rw[a4c in1 hee.1 hee.2]
   rw[a4c in2 hee.1 hee.2]at hc
   exact hc.mono hmem fun z hz=>hz
  ·simp only[List.length_append,List.length_take,List.length_drop]at hi
   have e1:L.take j=L:=List.take_of_length_le (by omega)
   have e2:L.drop (j+1)=[]:=List.drop_of_length_le (by omega)
   rw[e1,e2,List.append_nil]at he⊢
   exact ha i e (by omega) he
end
end Go.GS

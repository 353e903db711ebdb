/- Spanning trees by determinants: each edge's two ways, and the tree of a number. -/
import Derived.Test.YtmannekkmdockaaGreatDoorGsU
import Derived.Test.YtmannekkmdockaaGreatDoorGsN
import Derived.Test.YtmannekkmdockaaGreatDoorProg
import Derived.Test.YtmannekkmdockaaGreatDoorRxW
import Derived.Test.YtmannekkmdockaaGreatDoorGtT
import Derived.Test.YtmannekkmdockaaGreatDoorLgC
import Derived.Test.YtmannekkmdockaaGreatDoorGyC
import Derived.Test.YtmannekkmdockaaGreatDoorRxQ
namespace Go.GS
def lst (set:Nat):Nat:=(els set).headD 64
def b2X (set:Nat) (f:Nat->Nat):List Nat:=(List.range 64).filter fun x=>bit set x&&decide (f x=x)&&decide (x≠f (lst set))
def KK (E:List (Nat×Nat)) (set:Nat) (f:Nat->Nat):Int:=Dg E f (b2X set f).reverse
theorem c8a (set:Nat) (f:Nat->Nat):(b2X set f).Nodup:=List.nodup_range.filter _
theorem c2m (set:Nat) (f:Nat->Nat):(b2X set f).reverse.Nodup:=by unfold List.Nodup;rw[List.pairwise_reverse];exact(c8a set f).imp fun h hh=>h hh.symm
theorem d1x {set x:Nat} {f:Nat->Nat} (hs:set<M64):x∈b2X set f↔bit set x=true/\f x=x/\x≠f (lst set):=by
 unfold b2X
 rw[List.mem_filter,List.mem_range]
 simp only[Bool.and_eq_true,decide_eq_true_eq]
 exact⟨fun h=>⟨h.2.1.1,h.2.1.2,h.2.2⟩,fun h=>⟨a1r hs h.1,⟨h.1,h.2.1⟩,h.2.2⟩⟩
theorem d4X (E:List (Nat×Nat)) (set:Nat) (f:Nat->Nat):0<=KK E set f:=b1r E f _ (c2m set f)
theorem b6v {set x:Nat} (hs:set<M64) (hx:bit set x=true):lst set<=x:=by
 have h0:set≠0:=fun h=>by rw[h]at hx;simp[bit]at hx
 obtain⟨y,r,he,hy,_,hl⟩:=a9d hs h0
 unfold lst
 rw[he]
 show y<=x
 rcases Nat.lt_or_ge x y with h|h
 ·rw[hl x h]at hx;cases hx
 ·exact h
theorem b8j {f:Nat->Nat} (h:Lb f) {e:Nat×Nat} (hne:f e.1≠f e.2) (y:Nat):a1H f e y=y↔f y=y/\y≠max (f e.1) (f e.2):=by
 unfold a1H
 have ha:=h.idm e.1
 have hb:=h.idm e.2
 generalize f e.1=a at*
 generalize f e.2=b at*
 constructor
 ·intro hj
  split at hj
  ·rename_i hfy
   exfalso
   rcases Nat.le_total a b with hh|hh
   ·rw[Nat.min_eq_left hh]at hj
    rw[Nat.max_eq_right hh,<-hj,ha]at hfy
    exact hne hfy
   ·rw[Nat.min_eq_right hh]at hj
    rw[Nat.max_eq_left hh,<-hj,hb]at hfy
    exact hne hfy.symm
  ·rename_i hfy
   exact⟨hj,fun e2=>hfy (by rw[hj,e2])⟩
 ·rintro⟨h3,h4⟩
  rw[if_neg (by rw[h3];exact h4)];exact h3
section
variable {set:Nat} {f:Nat->Nat} {e:Nat×Nat} {E:List (Nat×Nat)}
theorem d1y (h:Lb f) (hs:set<M64) (h1:bit set (f e.1)=true) (h2:bit set (f e.2)=true) (hl:bit set (lst set)=true) (hne:f e.1≠f e.2):max (f e.1) (f e.2)∈b2X set f:=by
 rw[d1x hs]
 have ha:=h.idm e.1
 have hb:=h.idm e.2
 have l0:=h.le (lst set)
 have l1:=b6v hs h1
 have l2:=b6v hs h2
 generalize f e.1=a at*
 generalize f e.2=b at*
 rcases Nat.le_total a b with hh|hh
 ·rw[Nat.max_eq_right hh];exact⟨h2,hb,by omega⟩
 ·rw[Nat.max_eq_left hh];exact⟨h1,ha,by omega⟩
theorem c6i (h:Lb f) (hs:set<M64) (h1:bit set (f e.1)=true) (h2:bit set (f e.2)=true) (hne:f e.1≠f e.2):b2X set (a1H f e)=a0V (b2X set f) (max (f e.1) (f e.2)):=by
 unfold b2X a0V
 rw[List.filter_filter]
 refine List.filter_congr fun x _=> ?_
 have hm:a1H f e (lst set)=f (lst set):=by
  unfold a1H
  rw[if_neg]
  intro hh
  have l0:=h.le (lst set)
  have l1:=b6v hs h1
  have l2:=b6v hs h2
  omega
 rw[hm]
 have:=b8j h hne x
 rw[Bool.eq_iff_iff]
 simp only[Bool.and_eq_true,decide_eq_true_eq,bne_iff_ne,this]
 exact⟨fun h=>⟨h.1.2.2,⟨h.1.1,h.1.2.1⟩,h.2⟩,fun h=>⟨⟨h.2.1.1,h.2.1.2,h.1⟩,h.2.2⟩⟩
theorem d4Y (h:Lb f) (hs:set<M64) (h1:bit set (f e.1)=true) (h2:bit set (f e.2)=true) (hl:bit set (lst set)=true) (hne:f e.1≠f e.2):KK (e::E) set f=KK E set f+KK E set (a1H f e):=by
 have he:Ends f e (min (f e.1) (f e.2)) (max (f e.1) (f e.2)):=by
  refine⟨by omega,?_⟩
  rcases Nat.le_total (f e.1) (f e.2)with hh|hh
  ·rw[Nat.max_eq_right hh,Nat.min_eq_left hh];exact .inl ⟨rfl,rfl⟩
  ·rw[Nat.max_eq_left hh,Nat.min_eq_right hh];exact .inr ⟨rfl,rfl⟩
 have:=a9P (E:=E) he (List.mem_reverse.2 (d1y h hs h1 h2 hl hne)) (c2m set f)
 unfold KK
 rw[this,d4V,<-c6i h hs h1 h2 hne]
 rfl
theorem d1z (h:f e.1=f e.2):KK (e::E) set f=KK E set f:=b4w h
theorem c2n (E:List (Nat×Nat)) (set:Nat) (f:Nat->Nat):KK (E.filter fun e=>f e.1 !=f e.2) set f=KK E set f:=c2l ..
end
theorem d1A {set:Nat} {f:Nat->Nat} (h:Lb f) (hs:set<M64) (h0:set≠0) (hin:∀x,bit set x=true->bit set (f x)=true):cnt f set=(b2X set f).length+1:=by
 obtain⟨x,r,he,hx,_,_⟩:=a9d hs h0
 have hl:lst set=x:=by unfold lst;rw[he];rfl
 have hr:=hin x hx
 have:=c1p (p:=fun x=>bit set x&&decide (f x=x)) (q:=fun x=>bit set x&&decide (f x=x)&&decide (x≠f (lst set))) (x:=f x) (by simp[hr,h.idm]) (fun y=>by rw[hl]) (List.range 64) (List.mem_range.2 (a1r hs hr)) List.nodup_range
 unfold cnt b2X
 omega
theorem c8b {set:Nat} {f:Nat->Nat} (h:Lb f) (hs:set<M64) (h0:set≠0) (hin:∀x,bit set x=true->bit set (f x)=true):KK [] set f=if cnt f set=1 then 1 else 0:=by
 unfold KK
 rw[c2k]
 have:=d1A h hs h0 hin
 by_cases hc:b2X set f=[]
 ·rw[if_pos (by rw[hc];rfl),if_pos (by rw[this,hc];rfl)]
 ·rw[if_neg (by simpa using hc),if_neg]
  intro hh
  exact hc (List.eq_nil_of_length_eq_zero (by omega))
def inE (es:List (Nat×Nat)) (set j:Nat):List (Nat×Nat):=(es.drop j).filter (inB set)
theorem d1B {es:List (Nat×Nat)} {set j:Nat} {e:Nat×Nat} (h:es[j]? =some e) (hb:inB set e=true):inE es set j=e::inE es set (j+1):=by
 obtain⟨hj,rfl⟩:=List.getElem?_eq_some_iff.1 h
 unfold inE
 rw[List.drop_eq_getElem_cons hj,List.filter_cons_of_pos hb]
theorem d4Z {es:List (Nat×Nat)} {set j:Nat} {e:Nat×Nat} (h:es[j]? =some e) (hb:inB set e=false):inE es set j=inE es set (j+1):=by
 obtain⟨hj,rfl⟩:=List.getElem?_eq_some_iff.1 h
 unfold inE
 rw[List.drop_eq_getElem_cons hj,List.filter_cons_of_neg (by rw[hb];simp)]
theorem c2o {es:List (Nat×Nat)} {set j:Nat} (h:es.length<=j):inE es set j=[]:=by
 unfold inE;rw[List.drop_eq_nil_of_le h];rfl
def trN (es:List (Nat×Nat)) (set:Nat) (t:List Int) (j:Nat):Int:=KK (inE es set j) set (lab (etl es t))
def trH (es:List (Nat×Nat)) (set:Nat) (t:List Int) (j:Nat):Int:=if lab (etl es t) (Ed es (j:Nat)).1=lab (etl es t) (Ed es (j:Nat)).2 then 0 else trN es set (t++[(j:Int)]) (j+1)
section
variable {es:List (Nat×Nat)} {set j:Nat} {t:List Int}
theorem c8c:0<=trN es set t j:=d4X _ _ _
theorem d5a:0<=trH es set t j:=by unfold trH;split;exact Int.le_refl 0;exact c8c
theorem b6w {e:Nat×Nat} (h:es[j]? =some e) (hb:inB set e=false):trN es set t j=trN es set t (j+1):=by
 unfold trN;rw[d4Z h hb]
theorem a6O (hs:set<M64) (h0:set≠0):bit set (lst set)=true:=by
 obtain⟨x,r,he,hx,_,_⟩:=a9d hs h0
 unfold lst;rw[he];exact hx
theorem b6x (hs:set<M64) (h0:set≠0) (hin:Inn set (etl es t)) (hj:j<es.length) (hb:inB set (Ed es (j:Nat))=true):trN es set t j=trN es set t (j+1)+trH es set t j:=by
 have he:=a4d hj
 have hb':=hb
 unfold inB at hb'
 simp only[Bool.and_eq_true]at hb'
 unfold trH
 unfold trN
 rw[d1B he hb]
 by_cases hl:lab (etl es t) (Ed es (j:Nat)).1=lab (etl es t) (Ed es (j:Nat)).2
 ·rw[if_pos hl,d1z hl];omega
 ·rw[if_neg hl,d4Y (Lb.lab _) hs (a3m hin _ hb'.1) (a3m hin _ hb'.2) (a6O hs h0) hl,a2L,a3C]
theorem Beg.add {t:List Int} (h:Beg es set t) (hlt:∀i∈t,i<(j:Int)) (hj:j<es.length) (hb:inB set (Ed es (j:Nat))=true) (hl:lab (etl es t) (Ed es (j:Nat)).1≠lab (etl es t) (Ed es (j:Nat)).2):Beg es set (t++[(j:Int)]):=by
 unfold inB at hb
 simp only[Bool.and_eq_true]at hb
 refine⟨b4s h.asc hlt,?_,?_⟩
 ·intro i hi
  rw[List.mem_append,List.mem_singleton]at hi
  rcases hi with hi|rfl
  ·exact h.ok i hi
  ·exact⟨by omega,by omega,hb⟩
 ·rw[a2L,List.length_append]
  exact h.acy.snoc hl
theorem b1t (hs:set<M64) (h0:set≠0):∀(k j:Nat) (t:List Int),es.length-j=k->Beg es set t->(∀i∈t,i<(j:Int))->Spn es set t j->0<trN es set t j
 |k,j,t,hk,hb,hlt,h=>by
  by_cases hj:j<es.length
  ·cases hi:inB set (Ed es (j:Nat))with
   |false=>
    rw[b6w (a4d hj) hi]
    exact b1t hs h0 (es.length-(j+1)) (j+1) t rfl hb (fun i hi=>by have:=hlt i hi;omega) (h.skip (a4d hj) hi)
   |true=>
    rw[b6x hs h0 hb.inn hj hi]
    have hi':=hi
    unfold inB at hi'
    simp only[Bool.and_eq_true]at hi'
    by_cases hl:lab (etl es t) (Ed es (j:Nat)).1=lab (etl es t) (Ed es (j:Nat)).2
    ·have:=b1t hs h0 (es.length-(j+1)) (j+1) t rfl hb (fun i hi=>by have:=hlt i hi;omega) (h.cyc (a4d hj) ((a4c hb.inn hi'.1 hi'.2).1 hl))
     have h2:0<=trH es set t j:=d5a
     omega
    ·have:=b1t hs h0 (es.length-(j+1)) (j+1) (t++[(j:Int)]) rfl (hb.add hlt hj hi hl) (fun i hi=>by
      rcases List.mem_append.1 hi with hi|hi
      ·have:=hlt i hi;omega
      ·rw[List.mem_singleton]at hi;omega) (h.take hj)
     have h2:0<=trN es set t (j+1):=c8c
     have h3:trH es set t j=trN es set (t++[(j:Int)]) (j+1):=if_neg hl
     omega
  ·have hl:=h.end hs h0 (by omega) hb.inn hb.acy
   unfold trN
   rw[c2o (by omega),c8b (Lb.lab _) hs h0 (a3m hb.inn)]
   have h3:=a6j hs hb.inn (etl es t).length (Nat.le_refl _)
   rw[List.take_length,(a4b _ (Nat.le_refl _)).2 hb.acy]at h3
   rw[if_pos (by omega)];decide
 termination_by k=>k
 decreasing_by all_goals omega
end
end Go.GS
/- Determinants by steps without fractions. -/
namespace Go.GS
def blk (k:Nat):List Nat:=(List.range k).reverse
theorem b6y (k:Nat):blk (k+1)=k::blk k:=by unfold blk;rw[List.range_succ,List.reverse_append];rfl
theorem b1u (k:Nat):(blk k).length=k:=by unfold blk;simp
def gk (F:Nat->Nat->Int) (k i j:Nat):Int:=dt (j::blk k) (F i::(blk k).map F)
def pk (F:Nat->Nat->Int) (k:Nat):Int:=dt (blk k) ((blk k).map F)
section
variable {F:Nat->Nat->Int} {k i j n:Nat}
theorem b6z (F:Nat->Nat->Int) (k:Nat):gk F k k k=pk F (k+1):=by unfold gk pk;rw[b6y];rfl
theorem c2p (F:Nat->Nat->Int):pk F 0=1:=rfl
theorem d1C (F:Nat->Nat->Int) (i j:Nat):gk F 0 i j=F i j:=by simp[gk,blk,dt,dx]
theorem d1D:pk F k*gk F (k+1) i j=gk F k i j*gk F k k k-gk F k i k*gk F k k j:=by
 have:=d1s (blk k) ((blk k).map F) (F k) (F i) k j
 unfold gk pk
 rw[b6y,List.map_cons,this]
 grind
theorem d5b (h:pk F k≠0):(gk F k i j*gk F k k k-gk F k i k*gk F k k j)/pk F k=gk F (k+1) i j:=by
 rw[<-d1D,Int.mul_ediv_cancel_left _ h]
theorem c6j {B:Nat} (h:∀i j,(F i j).natAbs<=B) (k i j:Nat):(gk F k i j).natAbs<=((k+1)*B)^(k+1):=by
 have:=b1s (B:=B) (j::blk k) (F i::(blk k).map F) (k+1) (by simp[b1u]) (fun r hr c hc=>by
  rcases List.mem_cons.1 hr with rfl|hr
  ·exact h _ _
  ·obtain⟨x,_,rfl⟩:=List.mem_map.1 hr
   exact h _ _)
 unfold gk;simpa[b1u]using this
end
theorem c8d {C R:Type} (φ:R->C) (c:R) (cs:List R) (ih:∀l:List (C->Int),dt (cs.map φ) l=dt cs (l.map fun r x=>r (φ x))):∀(l p:List (C->Int)),dx (φ c) (dt (cs.map φ)) p l=dx c (dt cs) (p.map fun r x=>r (φ x)) (l.map fun r x=>r (φ x))
 |[],_=>rfl
 |x::l,p=>by
  simp only[List.map_cons,dx]
  rw[ih,c8d φ c cs ih l (p++[x]),List.map_append,List.map_append]
  rfl
theorem c8e {C R:Type} (φ:R->C):∀(cs:List R) (l:List (C->Int)),dt (cs.map φ) l=dt cs (l.map fun r x=>r (φ x))
 |[],[]=>rfl
 |[],_::_=>rfl
 |c::cs,l=>c8d φ c cs (c8e φ cs) l []
def c6k (E:List (Nat×Nat)) (lab:Nat->Nat) (V:List Nat) (i j:Nat):Int:=Fm E (cv lab (V.getD i 0)) (cv lab (V.getD j 0))
theorem c6l (V:List Nat) {k:Nat} (hk:k<=V.length):(blk k).map (fun i=>V.getD i 0)=(V.take k).reverse:=by
 unfold blk
 rw[List.map_reverse]
 congr 1
 apply List.ext_getElem?
 intro i
 rw[List.getElem?_map,List.getElem?_take]
 by_cases h:i<k
 ·rw[List.getElem?_range h,if_pos h,Option.map_some,List.getD_eq_getElem?_getD,List.getElem?_eq_getElem (by omega)]
  rfl
 ·rw[if_neg h,List.getElem?_eq_none (by simp;omega)]
  rfl
theorem c8f (E:List (Nat×Nat)) (lab:Nat->Nat) (V:List Nat) {k:Nat} (hk:k<=V.length):pk (c6k E lab V) k=Dg E lab (V.take k).reverse:=by
 unfold Dg Dv
 rw[<-c6l V hk,List.map_map,List.map_map,c8e,List.map_map]
 rfl
theorem b4x (E:List (Nat×Nat)) (lab:Nat->Nat) (V:List Nat):pk (c6k E lab V) V.length=Dg E lab V.reverse:=by
 rw[c8f E lab V (Nat.le_refl _),List.take_length]
theorem c2q (E:List (Nat×Nat)) (lab:Nat->Nat) {V:List Nat} (hn:V.Nodup) {k:Nat} (hk:k<=V.length) (h:pk (c6k E lab V) k=0):Dg E lab V.reverse=0:=by
 rw[c8f E lab V hk]at h
 have e:V.reverse=(V.drop k).reverse++(V.take k).reverse:=by rw[<-List.reverse_append,List.take_append_drop]
 rw[e]
 refine a3n E lab _ _ ?_ h
 rw[<-e]
 unfold List.Nodup;rw[List.pairwise_reverse];exact hn.imp fun h hh=>h hh.symm
theorem a8x (E:List (Nat×Nat)) (lab:Nat->Nat) (V:List Nat) (i j:Nat):(c6k E lab V i j).natAbs<=E.length:=b6u lab _ _ E
end Go.GS
/- Chapter 30: determinants of matrices of long integers. -/
namespace Go.RX
open Go.RowKit
theorem a6P {P:Program} {G:Value->PH->Prop} {nx:List (List Value->PH->Prop)} {ρ:List Value} {X H:PH} {pf:Bool} {f:FuncId} {args:List SV} {t:Tree} {vs:List Value} {W:Value->PH->Prop} (hc:Con P f vs X fun u X'=>PH.le X X'/\W u X') (hX:PH.le X H) (ha:args.map (D P ρ)=vs)
  (n:∀u X' H',PH.le X X'->W u X'->PH.le X' H'->PH.le H H'->(∀k,H k≠none->X k=none->X' k=none)->den P G t nx (ρ++[u]) H'):den P G (.call pf f args t) nx ρ H:=by
 refine a0d (hc.frame hX) ha ?_
 rintro u H' ⟨X',⟨h1,h2⟩,h3,h4⟩
 have hle:PH.le H H':=fun k ob hk=>by
  cases e:X k with
  |none=>exact(h4 k ob hk e).2
  |some o2=>
   have:=hX _ _ e
   rw[this]at hk
   rw[<-hk]
   exact h3 _ _ (h1 _ _ e)
 exact⟨fun _=>hle,n u X' H' h1 h2 h3 hle fun k hk e=>by
  obtain⟨ob,hk⟩:=Option.ne_none_iff_exists'.1 hk
  exact(h4 k ob hk e).1⟩
end Go.RX
namespace Go.Proofs.YtmannekkmdockaaGreatDoor
open Go.Proofs.Tryz
open Go.RowKit Go.RX Go.GS Go.WD
set_option maxRecDepth 100000
abbrev LV:=Bool×Slc
def lc (x:LV):List Value:=[.bool x.1,vs x.2]
def lv (x:LV):Value:= .agg #[.bool x.1,vs x.2]
theorem el_long:El prog 202 116 2 true lc lv where
 und:=by kernel_rfl
 has:=by kernel_rfl
 cel:=by kernel_rfl
 agg:=by kernel_rfl
 pos:=by decide
 one1:=fun h=>(nomatch h)
 small:=by decide
 inf:=⟨(prog.info? 116).getD default,lv (false,(none,0,0)),by kernel_rfl,by kernel_rfl,by kernel_rfl,rfl,of_decide_eq_true (by kernel_rfl)⟩
 len:=fun _=>rfl
 val:=fun _=>rfl
 cells:=fun _=>rfl
 one:=fun x c hc=>by simp[lc]at hc;rcases hc with rfl|rfl<;>rfl
theorem a1I:El prog 201 202 1 false (fun s:Slc=>[vs s]) vs where
 und:=by kernel_rfl
 has:=by kernel_rfl
 cel:=by kernel_rfl
 agg:=by kernel_rfl
 pos:=by decide
 one1:=fun _=>rfl
 small:=by decide
 inf:=⟨(prog.info? 202).getD default,vs (none,0,0),by kernel_rfl,by kernel_rfl,by kernel_rfl,rfl,of_decide_eq_true (by kernel_rfl)⟩
 len:=fun _=>rfl
 val:=fun _=>rfl
 cells:=fun _=>rfl
 one:=fun x c hc=>by simp at hc;subst hc;rfl
theorem b4y {H:PH} {v:Value} {z:Int} (h:Lw H v z):∃x,v=lv x:=by
 obtain⟨w,rfl,l,⟨⟨_,a,c,rfl,_⟩,_⟩,_⟩:=h
 exact⟨(_,(a,l.length,c)),rfl⟩
theorem d6Z:a0I prog 116=lv (false,(none,0,0)):=by kernel_rfl
theorem d1E (H:PH):Lw H (lv (false,(none,0,0))) 0:=⟨.slice none 0 0,rfl,[],⟨⟨rfl,none,0,rfl,Nat.le_refl _,by simp[maxLen],.inl rfl⟩,fun d hd=>by cases hd⟩,fun i hi=>by simp at hi⊢,rfl⟩
def b1M (M:Nat->Nat->LV) (n i:Nat):List LV:=(List.range n).map (M i)
theorem a4Z {M:Nat->Nat->LV} {n i j:Nat} (h:j<n):(b1M M n i)[j]? =some (M i j):=by unfold b1M;rw[List.getElem?_map,List.getElem?_range h];rfl
theorem b6A (M:Nat->Nat->LV) (n i:Nat):(b1M M n i).length=n:=by unfold b1M;simp
def putM (M:Nat->Nat->LV) (i j:Nat) (x:LV):Nat->Nat->LV:=fun a b=>if a=i/\b=j then x else M a b
theorem c6m (M:Nat->Nat->LV) (n i j:Nat) (x:LV):b1M (putM M i j x) n i=(b1M M n i).set j x:=by
 apply List.ext_getElem?
 intro b
 unfold b1M putM
 rw[List.getElem?_set,List.getElem?_map,List.getElem?_map]
 by_cases hb:b<n
 ·rw[List.getElem?_range hb]
  by_cases e:b=j
  ·subst e;simp[hb]
  ·have e':¬j=b:=fun h=>e h.symm
   simp[e,e']
 ·rw[List.getElem?_eq_none (by simp;omega)]
  by_cases e:j=b
  ·subst e;simp[hb]
  ·simp[e]
theorem c6n {M:Nat->Nat->LV} {n i a j:Nat} {x:LV} (h:a≠i):b1M (putM M i j x) n a=b1M M n a:=by
 unfold b1M putM
 exact List.map_congr_left fun b _=>if_neg fun hh=>h hh.1
def rsl (n g:Nat):Slc:=(some ⟨g,0,none⟩,n,n)
structure MX (X H:PH) (gs:List Nat) (n:Nat) (M:Nat->Nat->LV):Prop where
 nd:gs.Nodup
 n64:n<=64
 row:∀(i g:Nat),gs[i]? =some g->X g=none/\SO (a1B H g) H 116 2 lc (vs (rsl n g)) (b1M M n i)
theorem a5B (H:PH) (g:Nat):a1B H g g=none:=if_pos rfl
theorem a6n {α:Type} {e:TypeId} {sz:Nat} {ce:α->List Value} {H H':PH} {g n:Nat} {l:List α} (h:SO (a1B H g) H e sz ce (vs (rsl n g)) l) (hk:∀ob,H g=some ob->H' g=some ob):SO (a1B H' g) H' e sz ce (vs (rsl n g)) l:=by
 obtain⟨h1,⟨h2,h3⟩|⟨g',cap,cur,h2,h3,h4,h5⟩⟩:=h
 ·cases h2
 ·simp only[vs,rsl,Value.slice.injEq,Option.some.injEq,Addr.mk.injEq]at h2
  obtain⟨⟨rfl,-,-⟩,h6,h7⟩:=h2
  exact⟨h1,.inr ⟨g,cap,cur,by simp only[vs,rsl];rw[<-h6,<-h7],a5B _ _,hk _ h4,h5⟩⟩
section
variable {X H X' H':PH} {gs:List Nat} {n i j g:Nat} {M:Nat->Nat->LV} {x:LV} {v:Value} {z:Int}
theorem MX.se (h:MX X H gs n M) (hg:gs[i]? =some g):SE H 2 lc (vs (rsl n g)) (b1M M n i):=(h.row i g hg).2.se
theorem MX.bound (h:MX X H gs n M) (hg:gs[i]? =some g):∃ob,H g=some ob:=by
 obtain⟨h1,⟨h2,h3⟩|⟨g',cap,cur,h2,h3,h4,h5⟩⟩:=(h.row i g hg).2
 ·cases h2
 ·simp only[vs,rsl,Value.slice.injEq,Option.some.injEq,Addr.mk.injEq]at h2
  obtain⟨⟨rfl,-,-⟩,h6,h7⟩:=h2
  exact⟨_,h4⟩
theorem MX.mono (h:MX X H gs n M) (hl:PH.le H H') (hk:∀k,H k≠none->X k=none->X' k=none):MX X' H' gs n M:=
 ⟨h.nd,h.n64,fun i g hg=>by
  obtain⟨ob,hb⟩:=h.bound hg
  exact⟨hk g (by rw[hb];simp) (h.row i g hg).1,a6n (h.row i g hg).2 fun o ho=>hl _ _ ho⟩⟩
theorem MX.put (h:MX X H gs n M) (hg:gs[i]? =some g) (hl:PH.le (a1B H g) H') (ho:SO (a1B H g) H' 116 2 lc (vs (rsl n g)) ((b1M M n i).set j x)):MX X H' gs n (putM M i j x):=
 ⟨h.nd,h.n64,fun a b hb=>by
  by_cases e:a=i
  ·subst e
   obtain rfl:g=b:=Option.some.inj (hg.symm.trans hb)
   refine⟨(h.row a g hg).1,?_⟩
   rw[c6m]
   have hc:a1B (a1B H g) g=a1B H g:=by
    funext k;unfold a1B;split<;>simp_all
   have:SO (a1B H' g) H' 116 2 lc (vs (rsl n g)) ((b1M M n a).set j x):=by
    obtain⟨h1,⟨h2,h3⟩|⟨g',cap,cur,h2,h3,h4,h5⟩⟩:=ho
    ·cases h2
    ·simp only[vs,rsl,Value.slice.injEq,Option.some.injEq,Addr.mk.injEq]at h2
     obtain⟨⟨rfl,-,-⟩,h6,h7⟩:=h2
     exact⟨h1,.inr ⟨g,cap,cur,by simp only[vs,rsl];rw[<-h6,<-h7],a5B _ _,h4,h5⟩⟩
   exact this
  ·have hne:b≠g:=fun hh=>by
    subst hh
    have l1:=(List.getElem?_eq_some_iff.1 hg).1
    exact e ((List.getElem?_inj l1 h.nd).1 (hg.trans hb.symm)).symm
   obtain⟨h1,h2⟩:=h.row a b hb
   rw[c6n e]
   exact⟨h1,a6n h2 fun ob hob=>hl _ _ (by unfold a1B;rw[if_neg hne];exact hob)⟩⟩
theorem MX.cut (h:MX X H gs n M) (hg:gs[i]? =some g) (hX:PH.le X H):PH.le X (a1B H g):=fun k ob hk=>by
 unfold a1B
 rw[if_neg (fun e=>by subst e;rw[(h.row i k hg).1]at hk;cases hk)]
 exact hX _ _ hk
end
def Vl (X:PH) (n k:Nat) (M:Nat->Nat->LV) (Z:Nat->Nat->Int):Prop:=∀i j,k<=i->k<=j->i<n->j<n->Lw X (lv (M i j)) (Z i j)
theorem Vl.mono {X X':PH} {n k:Nat} {M:Nat->Nat->LV} {Z:Nat->Nat->Int} (h:Vl X n k M Z) (hl:PH.le X X'):Vl X' n k M Z:=fun i j a b c d=>(h i j a b c d).mono hl
theorem Vl.put {X:PH} {n k i j:Nat} {M:Nat->Nat->LV} {Z Z':Nat->Nat->Int} {x:LV} (h:Vl X n k M Z) (hx:Lw X (lv x) (Z' i j)) (hz:∀a b,k<=a->k<=b->a<n->b<n->¬(a=i/\b=j)->Z' a b=Z a b):Vl X n k (putM M i j x) Z':=fun a b h1 h2 h3 h4=>by
 unfold putM
 by_cases e:a=i/\b=j
 ·rw[if_pos e,e.1,e.2];exact hx
 ·rw[if_neg e,hz a b h1 h2 h3 h4 e];exact h a b h1 h2 h3 h4
def Zk (F:Nat->Nat->Int) (k r c i j:Nat):Int:=if k<i/\(i<r\/i=r/\j<c)then(gk F k i j*gk F k k k-gk F k i k*gk F k k j)/pk F k else gk F k i j
def SmZ (z:Int):Prop:=z.natAbs<BP 100
theorem SmZ.lm {z:Int} (h:SmZ z):Lm z:=Nat.lt_of_lt_of_le h (a1E (by decide))
theorem SmZ.mul {y z:Int} (hy:SmZ y) (hz:SmZ z):(y*z).natAbs<BP 200:=by
 rw[Int.natAbs_mul,show 200=100+100 from rfl,d3A]
 exact Nat.mul_lt_mul'' hy hz
theorem d5c {z:Int} (h:z.natAbs<BP 200):Lm z:=Nat.lt_of_lt_of_le h (a1E (by decide))
theorem d5d {y z:Int} (hy:y.natAbs<BP 200) (hz:z.natAbs<BP 200):Lm (y-z):=by
 have h:BP 201<=BP 10000:=a1E (by decide)
 rw[BP_succ]at h
 unfold Lm
 omega
theorem a3D {gs:List Nat} {n i g:Nat} (h:gs[i]? =some g):(gs.map (rsl n))[i]? =some (rsl n g):=by rw[List.getElem?_map,h];rfl
theorem d1F {gs:List Nat} {i n:Nat} (hn:gs.length=n) (h:i<n):∃g,gs[i]? =some g:=⟨_,List.getElem?_eq_getElem (by omega)⟩
structure Mt (X0 X H:PH) (gs:List Nat) (n k:Nat) (M:Nat->Nat->LV) (Z:Nat->Nat->Int):Prop where
 x0:PH.le X0 X
 xh:PH.le X H
 mx:MX X H gs n M
 vl:Vl X n k M Z
theorem Mt.grow {X0 X H X' H':PH} {gs:List Nat} {n k:Nat} {M:Nat->Nat->LV} {Z:Nat->Nat->Int} (h:Mt X0 X H gs n k M Z) (a:PH.le X X') (b:PH.le X' H') (c:PH.le H H') (d:∀k,H k≠none->X k=none->X' k=none):Mt X0 X' H' gs n k M Z:=⟨h.x0.trans a,b,h.mx.mono c d,h.vl.mono a⟩
theorem d7a {F:Nat->Nat->Int} (hb:∀k i j,k<=64->SmZ (gk F k i j)) {k:Nat} (hk:k<=64):SmZ (pk F k):=by
 cases k with
 |zero=>
  rw[c2p]
  show(1:Nat)<BP 100
  have:BP 0<BP 100:=BP_lt_iff.2 (by decide)
  rw[BP_zero]at this;exact this
 |succ k=>rw[<-b6z];exact hb k k k (by omega)
theorem a9Q {F:Nat->Nat->Int} {k r c i j:Nat} (h:¬(k<i/\(i<r\/i=r/\j<c))):Zk F k r c i j=gk F k i j:=if_neg h
theorem d5e {F:Nat->Nat->Int} {k r c i j:Nat} (h:¬(i=r/\j=c)):Zk F k r (c+1) i j=Zk F k r c i j:=by
 unfold Zk;split<;>split<;>(first|rfl|omega)
theorem d5f {F:Nat->Nat->Int} {k r c i j:Nat} (h:k<=j) (hj:j<c):Zk F k (r+1) k i j=Zk F k r c i j:=by
 unfold Zk;split<;>split<;>(first|rfl|omega)
theorem sgI_zeroG {z:Int}:(sgI z 0==0)=true↔z=0:=by
 unfold sgI
 rw[beq_iff_eq]
 split<;>(try split)<;>simp<;>omega
theorem c6o {H X:PH} {v:Value} {gs:List Nat} {n:Nat} {M:Nat->Nat->LV} {F:Nat->Nat->Int} (hX:PH.le X H) (hv:SE X 1 (fun s:Slc=>[vs s]) v (gs.map (rsl n))) (hM:MX X H gs n M) (hn:gs.length=n) (hF:Vl X n 0 M F) (hb:∀k i j,k<=64->SmZ (gk F k i j)) (hc:∀k,k<=n->pk F k=0->pk F n=0):
  Con prog 125 [v] H fun u H'=>∃X',PH.le X X'/\PH.le X' H'/\Lw X' u (pk F n):=by
 refine a0b mixed d1d (by kernel_rfl) rfl ?_
 have h64:=hM.n64
 refine a6P (a2c 1 (by omega) (by omega)) hX rfl fun v1 X1 H1 a1 w1 b1 c1 d1=> ?_
 simp only[cA,nA]
 replace hM:=hM.mono c1 d1
 obtain⟨x1,rfl⟩:=b4y w1
 refine a0a w1.rq ?_
 refine a0h a1I rfl rfl (hv.mono (a1.trans b1)) rfl ?_
 simp only[cA,nA]
 rw[List.length_map,hn]
 refine a0k (α:=Nat×Value×LV) (fun⟨k,y,l⟩=>[ii (k:Nat),y,lv l]) (fun⟨k,y,l⟩=>fun H'=>k<=n/\∃X' M',Mt X X' H' gs n k M' (gk F k)/\Lw X' (lv l) (pk F k)/\pk F k≠0) (fun⟨k,y,l⟩=>n+1-k) ((0,a0I prog 116,x1)) rfl (⟨Nat.zero_le _,X1,M,⟨a1,b1,hM,fun i j h1 h2 h3 h4=>by rw[d1C];exact(hF i j h1 h2 h3 h4).mono a1⟩,w1,by rw[c2p];omega⟩) fun⟨k,y,l⟩ H2 ⟨hk,X2,M2,t2,hl2,hp2⟩=> ?_
 simp only[cA,nA]
 refine a0a ⟨_,rfl⟩ ?_
 refine a0a ⟨_,rfl⟩ ?_
 refine a0e (b:=decide (((k:Nat):Int)<(n:Nat))) rfl (fun h=> ?_) (fun h=> ?_)
 ·replace h:=of_decide_eq_true h
  have hkn:k<n:=by omega
  obtain⟨g,hg⟩:=d1F hn hkn
  refine a0i a1I rfl rfl rfl rfl (fun _=>rfl) (hv.mono (t2.x0.trans t2.xh)) (a3D hg) rfl (fun _=>rfl) fun _=> ?_
  simp only[cA,nA]
  refine a0i el_long rfl rfl rfl rfl (fun _=>rfl) (t2.mx.se hg) (a4Z hkn) rfl (fun _=>rfl) fun _=> ?_
  simp only[cA,nA]
  refine a0d (a3g ((t2.vl k k (Nat.le_refl _) (Nat.le_refl _) hkn hkn).mono t2.xh)) rfl ?_
  rintro _ _ ⟨rfl,rfl⟩
  refine⟨fun h=>(nomatch h),?_⟩
  simp only[cA,nA]
  refine a0a ⟨_,rfl⟩ ?_
  refine a0e (b:=(sgI (gk F k k k) 0==0)) rfl (fun h2=> ?_) (fun h2=> ?_)
  ·skip
   refine a6P (a2c 0 (by omega) (by omega)) t2.xh rfl fun v11 X3 H3 a3 w3 b3 c3 d3=> ?_
   simp only[cA,nA]
   obtain⟨x3,rfl⟩:=b4y w3
   refine a0a w3.rq ?_
   exact a0c rfl ⟨X3,t2.x0.trans a3,b3,by rw[hc (k+1) hkn (by rw[<-b6z];exact sgI_zeroG.1 h2)];exact w3⟩
  ·skip
   have hpiv:gk F k k k≠0:=fun e=>by rw[sgI_zeroG.2 e]at h2;cases h2
   refine a0k (α:=Nat) (fun r=>[ii (r:Nat),y,lv l]) (fun r=>fun H'=>k<r/\r<=n/\∃X' M',Mt X X' H' gs n k M' (Zk F k r k)/\Lw X' (lv l) (pk F k)) (fun r=>n+1-r) (k+1) (a8T (a0w rfl (by omega)) rfl rfl) (⟨by omega,by omega,X2,M2,⟨t2.x0,t2.xh,t2.mx,fun i j h1 h2 h3 h4=>by rw[a9Q (by omega)];exact t2.vl i j h1 h2 h3 h4⟩,hl2⟩) fun r H3 ⟨hr1,hr2,X3,M3,t3,hl3⟩=> ?_
   simp only[cA,nA]
   refine a0h a1I rfl rfl (hv.mono (t3.x0.trans t3.xh)) rfl ?_
   simp only[cA,nA]
   rw[List.length_map,hn]
   refine a0a ⟨_,rfl⟩ ?_
   refine a0a ⟨_,rfl⟩ ?_
   refine a0e (b:=decide (((r:Nat):Int)<(n:Nat))) rfl (fun h3=> ?_) (fun h3=> ?_)
   ·replace h3:=of_decide_eq_true h3
    have hrn:r<n:=by omega
    obtain⟨g2,hg2⟩:=d1F hn hrn
    refine a0i a1I rfl rfl rfl rfl (fun _=>rfl) (hv.mono (t3.x0.trans t3.xh)) (a3D hg2) rfl (fun _=>rfl) fun _=> ?_
    simp only[cA,nA]
    refine a0i el_long rfl rfl rfl rfl (fun _=>rfl) (t3.mx.se hg2) (a4Z hkn) rfl (fun _=>rfl) fun _=> ?_
    simp only[cA,nA]
    generalize hf:M3 r k=f
    have hf3:Lw X3 (lv f) (gk F k r k):=by rw[<-hf,<-a9Q (F:=F) (k:=k) (r:=r) (c:=k) (i:=r) (j:=k) (by omega)];exact t3.vl r k (by omega) (Nat.le_refl _) hrn hkn
    refine a0a (el_long.vcells f) ?_
    refine a0k (α:=Nat) (fun c=>[ii (c:Nat)]) (fun c=>fun H'=>k<=c/\c<=n/\∃X' M',Mt X X' H' gs n k M' (Zk F k r c)/\Lw X' (lv l) (pk F k)/\Lw X' (lv f) (gk F k r k)) (fun c=>n+1-c) (k) rfl (⟨Nat.le_refl _,by omega,X3,M3,t3,hl3,hf3⟩) fun c H4 ⟨hc1,hc2,X4,M4,t4,hl4,hf4⟩=> ?_
    simp only[cA,nA]
    refine a0h a1I rfl rfl (hv.mono (t4.x0.trans t4.xh)) rfl ?_
    simp only[cA,nA]
    rw[List.length_map,hn]
    refine a0a ⟨_,rfl⟩ ?_
    refine a0a ⟨_,rfl⟩ ?_
    refine a0e (b:=decide (((c:Nat):Int)<(n:Nat))) rfl (fun h4=> ?_) (fun h4=> ?_)
    ·replace h4:=of_decide_eq_true h4
     have hcn:c<n:=by omega
     refine a0i a1I rfl rfl rfl rfl (fun _=>rfl) (hv.mono (t4.x0.trans t4.xh)) (a3D hg2) rfl (fun _=>rfl) fun _=> ?_
     simp only[cA,nA]
     refine a0i el_long rfl rfl rfl rfl (fun _=>rfl) (t4.mx.se hg2) (a4Z hcn) rfl (fun _=>rfl) fun _=> ?_
     simp only[cA,nA]
     refine a0i a1I rfl rfl rfl rfl (fun _=>rfl) (hv.mono (t4.x0.trans t4.xh)) (a3D hg) rfl (fun _=>rfl) fun _=> ?_
     simp only[cA,nA]
     refine a0i el_long rfl rfl rfl rfl (fun _=>rfl) (t4.mx.se hg) (a4Z hkn) rfl (fun _=>rfl) fun _=> ?_
     simp only[cA,nA]
     refine a0i a1I rfl rfl rfl rfl (fun _=>rfl) (hv.mono (t4.x0.trans t4.xh)) (a3D hg) rfl (fun _=>rfl) fun _=> ?_
     simp only[cA,nA]
     refine a0i el_long rfl rfl rfl rfl (fun _=>rfl) (t4.mx.se hg) (a4Z hcn) rfl (fun _=>rfl) fun _=> ?_
     simp only[cA,nA]
     have e1:Lw X4 (lv (M4 r c)) (gk F k r c):=by rw[<-a9Q (F:=F) (k:=k) (r:=r) (c:=c) (i:=r) (j:=c) (by omega)];exact t4.vl r c (by omega) hc1 hrn hcn
     have e2:Lw X4 (lv (M4 k k)) (gk F k k k):=by rw[<-a9Q (F:=F) (k:=k) (r:=r) (c:=c) (i:=k) (j:=k) (by omega)];exact t4.vl k k (by omega) (Nat.le_refl _) hkn hkn
     have e3:Lw X4 (lv (M4 k c)) (gk F k k c):=by rw[<-a9Q (F:=F) (k:=k) (r:=r) (c:=c) (i:=k) (j:=c) (by omega)];exact t4.vl k c (by omega) hc1 hkn hcn
     have s1:=hb k r c (by omega)
     have s2:=hb k k k (by omega)
     have s3:=hb k k c (by omega)
     have s4:=hb k r k (by omega)
     refine a6P (a1y e1 e2 s1.lm s2.lm) t4.xh rfl fun u1 X5 H5 a5 w5 b5 c5 d5=> ?_
     simp only[cA,nA]
     replace t4:=t4.grow a5 b5 c5 d5
     refine a6P (a1y (hf4.mono a5) (e3.mono a5) s4.lm s3.lm) t4.xh rfl fun u2 X6 H6 a6 w6 b6 c6 d6=> ?_
     simp only[cA,nA]
     replace t4:=t4.grow a6 b6 c6 d6
     refine a6P (a9z (w5.mono a6) w6 (d5c (s1.mul s2)) (d5c (s4.mul s3))) t4.xh rfl fun u3 X7 H7 a7 w7 b7 c7 d7=> ?_
     simp only[cA,nA]
     replace t4:=t4.grow a7 b7 c7 d7
     obtain⟨x7,rfl⟩:=b4y w7
     refine a0a w7.rq ?_
     refine a0i a1I rfl rfl rfl rfl (fun _=>rfl) (hv.mono (t4.x0.trans t4.xh)) (a3D hg2) rfl (fun _=>rfl) fun _=> ?_
     simp only[cA,nA]
     refine a6P ((a5Z w7 (hl4.mono (a5.trans (a6.trans a7))) (d5d (s1.mul s2) (s4.mul s3)) (d7a hb (by omega)).lm hp2)) t4.xh rfl fun u4 X8 H8 a8 w8 b8 c8 d8=> ?_
     simp only[cA,nA]
     replace t4:=t4.grow a8 b8 c8 d8
     obtain⟨qa,qb,rfl,q1,q2⟩:=w8
     obtain⟨x8,rfl⟩:=b4y q1
     refine a0a ⟨_,rfl,by simp⟩ ?_
     refine a0a ⟨_,rfl,by simp⟩ ?_
     refine a0R el_long (a:=x8) rfl rfl rfl rfl (fun _=>rfl) (fun _=>rfl) (b2N H8 g2) (t4.mx.row r g2 hg2).2 (show c<(b1M M4 n r).length by rw[b6A];exact hcn) rfl (fun _=>rfl) rfl fun p9 u9 H9 l9 o9 _=> ?_
     simp only[cA,nA]
     exact⟨c+1,by omega,(a3K (a0w rfl (by omega))),⟨by omega,by omega,X8,putM M4 r c x8,⟨t4.x0,(t4.mx.cut hg2 t4.xh).trans l9,t4.mx.put hg2 l9 o9,t4.vl.put (by show Lw X8 (lv x8) (Zk F k r (c+1) r c);unfold Zk;rw[if_pos (by omega)];exact q1) (fun i j h1 h2 h3 h4 h5=>d5e h5)⟩,hl4.mono (a5.trans (a6.trans (a7.trans a8))),hf4.mono (a5.trans (a6.trans (a7.trans a8)))⟩⟩
    ·replace h4:=of_decide_eq_false h4
     exact⟨r+1,by omega,(a8T (a0w rfl (by omega)) rfl rfl),⟨by omega,by omega,X4,M4,⟨t4.x0,t4.xh,t4.mx,fun i j h1 h2 h3 h4=>by have:=t4.vl i j h1 h2 h3 h4;rw[d5f (c:=c) h2 (by omega)];exact this⟩,hl4⟩⟩
   ·replace h3:=of_decide_eq_false h3
    have hrn:r=n:=by omega
    refine a0i a1I rfl rfl rfl rfl (fun _=>rfl) (hv.mono (t3.x0.trans t3.xh)) (a3D hg) rfl (fun _=>rfl) fun _=> ?_
    simp only[cA,nA]
    refine a0i el_long rfl rfl rfl rfl (fun _=>rfl) (t3.mx.se hg) (a4Z hkn) rfl (fun _=>rfl) fun _=> ?_
    simp only[cA,nA]
    refine a0a (el_long.vcells _) ?_
    exact⟨(k+1,y,M3 k k),by show n+1-(k+1)<n+1-k;omega,(a8T (a0w rfl (by omega)) rfl rfl),⟨hkn,X3,M3,⟨t3.x0,t3.xh,t3.mx,fun i j h1 h2 h3 h4=>by have:=t3.vl i j (by omega) (by omega) h3 h4;rw[<-d5b hp2];unfold Zk at this;rw[if_pos (by omega)]at this;exact this⟩,by rw[<-b6z,<-a9Q (F:=F) (k:=k) (r:=r) (c:=k) (i:=k) (j:=k) (by omega)];exact t3.vl k k (Nat.le_refl _) (Nat.le_refl _) hkn hkn,by rw[<-b6z];exact hpiv⟩⟩
 ·replace h:=of_decide_eq_false h
  have hke:k=n:=by omega
  subst hke
  exact a0c rfl ⟨X2,t2.x0,t2.xh,hl2⟩
end Go.Proofs.YtmannekkmdockaaGreatDoor
/- Chapter 32: walks without loops, and the trees that are drawn with them. -/
namespace Go.GS
theorem a8y {d n:Nat} (h:d<2^n) (h64:n<=64):card d<=n:=by
 have hd:d<M64:=Nat.lt_of_lt_of_le h (Nat.pow_le_pow_right (n:=2) (by decide) h64)
 have hnd:(els d).Nodup:=by
  unfold els
  exact List.Nodup.sublist List.filter_sublist List.nodup_range
 have:=List.Nodup.length_le_of_subset hnd (l₂:=List.range n) fun x hx=>by
  rw[List.mem_range]
  apply Nat.lt_of_not_le
  intro hh
  have h1:=(a1Y hd).1 hx
  have:d.testBit x=false:=Nat.testBit_lt_two_pow (Nat.lt_of_lt_of_le h (Nat.pow_le_pow_right (n:=2) (by decide) hh))
  unfold bit at h1;rw[this]at h1;cases h1
 rwa[List.length_range]at this
def b6B (l:List Int):List Int:=l.foldl d3b []
theorem c2r (l:List Int):(b6B l).Perm l/\(b6B l).Pairwise (· <= ·):=by
 induction l using a2I with
 |nil=>exact⟨List.Perm.refl _,List.Pairwise.nil⟩
 |snoc l x ih=>
  have e:b6B (l++[x])=d3b (b6B l) x:=by unfold b6B;rw[List.foldl_append];rfl
  rw[e]
  exact⟨(c0T _ _).trans (ih.1.append_right [x]),d0y ih.2⟩
end Go.GS
/- Chapter 32: walks without loops, and random spanning trees. -/
namespace Go.Proofs.YtmannekkmdockaaGreatDoor
open Go.Proofs.Tryz
open Go.RowKit Go.RX Go.GS
theorem a3E:prog.underlying 140=some (.map 3 3):=by kernel_rfl
theorem a4g:prog.underlying 3=some (.int .i64):=by kernel_rfl
theorem c2s:∀w,(zeroValue 3).run prog w= .ok (.int .i64 0) w:=fun w=>by
 have h:(prog.info? 3).bind (·.zero)=some (.int .i64 0):=by kernel_rfl
 cases hi:prog.info? 3 with
 |none=>rw[hi]at h;cases h
 |some i=>
  rw[hi]at h
  simp only[Option.bind_some]at h
  simp[zeroValue,typeInfo,hi,h]
end Go.Proofs.YtmannekkmdockaaGreatDoor

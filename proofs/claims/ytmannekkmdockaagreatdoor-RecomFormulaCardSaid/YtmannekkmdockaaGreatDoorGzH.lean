/- slices.SortFunc of the shelf as a contract with memory. -/
import Derived.Test.YtmannekkmdockaaGreatDoorGsD
import Derived.Shelf.SlSortCmp.Whole1
import Derived.Test.YtmannekkmdockaaGreatDoorGzS
namespace Go.RX
open Go.Proofs Go.Shelf Go.RowKit Go.Lib Go.Sort
theorem c5z {w w':World} (h:Ext w w'):∃q os',w'=grow (w.drewN q) os':=by
 refine⟨w'.drawn-w.drawn,w'.heap.extract w.heap.size w'.heap.size,?_⟩
 have hs:=h.size
 have hd:=h.dr
 have hh:w'.heap=w.heap++w'.heap.extract w.heap.size w'.heap.size:=by
  apply Array.ext_getElem?
  intro k
  by_cases hk:k<w.heap.size
  ·rw[Array.getElem?_append_left hk,h.blk k hk]
  ·rw[Array.getElem?_append_right (by omega),Array.getElem?_extract]
   split
   ·congr 1;omega
   ·rw[Array.getElem?_eq_none];omega
 have h1:=h.os
 have h2:=h.tape
 have h3:=h.output
 obtain⟨hp',tp',dr',os',out'⟩:=w'
 obtain⟨hp,tp,dr,os,out⟩:=w
 simp only at h1 h2 h3 hh hd
 subst h1 h2 h3
 simp only[grow,World.drewN]
 congr 1
 omega
section
variable {P:Program} {α:Type} [Inhabited α] {enc:α->Value} {H B:PH} {blk:Nat} {cur:Array Value} {T:TypeId} {d:Array α}
theorem b2x {w:World} (hw:H.In w) (hb:H blk=some (.cells cur T (0,0))) (n:Nat) (dk:Array α) (os:Array Obj):Step H w (H.put blk (.cells (putCells enc 0 dk cur) T (0,0))) (sortWorld enc w blk 0 n dk os):=by
 have hwb:=hw _ _ hb
 have hlt:=a0C hwb
 have hsz:(w.heap.modify blk (onCells (putCells enc 0 dk))).size=w.heap.size:=by simp
 have hne:∀k,k<w.heap.size->k≠blk->(w.heap.modify blk (onCells (putCells enc 0 dk))++os)[k]? =w.heap[k]?:=fun k hk h=>by
  rw[Array.getElem?_append_left (by omega),Array.getElem?_modify,if_neg (fun e=>h e.symm)]
 refine⟨rfl,rfl,rfl,by show w.heap.size<=(w.heap.modify blk (onCells (putCells enc 0 dk))++os).size;simp,fun k hk hn=> ?_,fun k ob hk=> ?_,fun k hk=> ?_,Nat.le_add_right _ _⟩
 ·exact hne k hk (fun e=>by rw[e,hb]at hn;cases hn)
 ·show(w.heap.modify blk (onCells (putCells enc 0 dk))++os)[k]? =_
  unfold PH.put at hk
  split at hk
  ·rename_i e;subst e;cases hk
   rw[Array.getElem?_append_left (by omega),Array.getElem?_modify,if_pos rfl,hwb]
   rfl
  ·rename_i e
   rw[hne k (a0C (hw _ _ hk)) e];exact hw _ _ hk
 ·unfold PH.put at hk
  split at hk
  ·rename_i e;subst e;left;rw[hb];simp
  ·exact .inl hk
theorem c5A {g:Nat} {cb:Array Value} {cf:α->α->Int} {size:Nat} {w:World} (hw:H.In w) (hb:H blk=some (.cells cur T (0,0))) (hle:PH.le B H) (hn:B blk=none) (h:∀x y,a3y P g (enc x::enc y::cb.toList) B (.int .i64 (cf x y))):CmpLays1 P g cb enc cf blk 0 size w:=fun m os dk _ x y=>by
 have hs:=b2x (enc:=enc) hw hb m dk os
 have hB:B.In (sortWorld enc w blk 0 m dk os):=fun b ob hk=>hs.holds b ob (by
  rw[PH.put_ne _ _ (fun e=>by rw[e,hn]at hk;cases hk)];exact hle _ _ hk)
 have h1:=h x y _ hB
 have ha:(enc x::enc y::cb.toList).toArray= #[enc x,enc y]++cb:=by
  rw[<-Array.toList_inj];simp
 rw[ha]at h1
 refine h1.mono fun e w' ⟨v,H',he,hst,hl,hv⟩=>⟨by rw[he,hv],c5z (hst.toExt hB hl)⟩
theorem c1W {ρ:Ren} (L:SlLaysF.n6 P ρ) (h1:OneCell enc) {cf:α->α->Int} (hO:SWO (ltOf cf)) {g:Nat} {cb:Array Value} {cap:Nat} (eg:a5r P g=true) (hb:H blk=some (.cells cur T (0,0))) (hcur:cur.toList.take d.size=d.toList.map enc) (hsz:d.size<4611686018427387904)
  (hle:PH.le B H) (hn:B blk=none) (h:∀x y,a3y P g (enc x::enc y::cb.toList) B (.int .i64 (cf x y))):
  Con P (ρ.f 6) [.slice (some ⟨blk,0,none⟩) d.size cap,.func (.func g) #[] cb] H fun v H'=>v= .tuple #[]/\∃d':Array α,d'.size=d.size/\d'.toList.Perm d.toList/\SortedIn (ltOf cf) 0 d.size d'/\H'=H.put blk (.cells (putCells enc 0 d' cur) T (0,0)):=fun w hw=>by
 have hwb:=hw _ _ hb
 have hH:Holds enc w blk 0 d:=fun j hj=>by
  have hj2:cur.toList[j]? =some (enc d[j]!):=by
   have:(cur.toList.take d.size)[j]? =cur.toList[j]?:=List.getElem?_take_of_lt hj
   rw[<-this,hcur,List.getElem?_map,Array.getElem?_toList,Array.getElem?_eq_getElem hj,getElem!_pos d j hj];rfl
  constructor
  ·rw[Nat.zero_add]
   unfold World.cell?
   simp only[hwb]
   rw[if_neg (by simp),<-Array.getElem?_toList,hj2]
  ·unfold World.frozen?
   simp[hwb]
 have hc:=Any.slices_SortFunc L enc h1 cf hO g cb blk 0 cap d w (a4M eg) (c5A hw hb hle hn h) hH (a0C hwb) hsz
 refine hc.mono fun e w' ⟨he,d',n,os,hp,hs,hw'⟩=>⟨.tuple #[],_,he,by rw[hw'];exact b2x hw hb n d' os,rfl,d',hp.1,?_,hs,rfl⟩
 have:=hp.2.2
 have e1:d'.extract 0 d.size=d':=by rw[<-hp.1];simp
 have e2:d.extract 0 d.size=d:=by simp
 rwa[e1,e2]at this
end
end Go.RX
/- Chapter 32: the sort of plans. -/
namespace Go.Proofs.YtmannekkmdockaaGreatDoor
open Go.Proofs.Tryz
open Go.RowKit Go.RX Go.GS Go.RZ Go.Sort
set_option maxRecDepth 100000
theorem a5S:∀l m k:List Int,(a2L l m<0->a2L m k<0->a2L l k<0)/\(0<=a2L l m->0<=a2L m k->0<=a2L l k)
 |[],[],[]=>by simp[a2L]
 |[],[],_::_=>by simp[a2L]
 |[],_::_,[]=>by simp[a2L]
 |[],_::_,_::_=>by simp[a2L]
 |_::_,[],[]=>by simp[a2L]
 |_::_,[],_::_=>by simp[a2L]
 |_::_,_::_,[]=>by simp[a2L]
 |x::l,y::m,z::k=>by
  have ih:=a5S l m k
  simp only[a2L,b0T]
  grind
theorem b2y:∀l:List Int,a2L l l=0
 |[]=>rfl
 |x::l=>by simp[a2L,b0T,b2y l]
theorem d0M {α:Type} (f:α->List Int):SWO (ltOf fun x y=>a2L (f x) (f y)) where
 irrefl x:=by show decide (a2L (f x) (f x)<0)=false;rw[b2y];rfl
 trans x y z h1 h2:=by
  exact decide_eq_true ((a5S _ _ _).1 (of_decide_eq_true h1) (of_decide_eq_true h2))
 ntrans x y z h1 h2:=by
  have h1:¬a2L (f x) (f y)<0:=of_decide_eq_false h1
  have h2:¬a2L (f y) (f z)<0:=of_decide_eq_false h2
  have:=(a5S (f x) (f y) (f z)).2 (by omega) (by omega)
  exact decide_eq_false (by show ¬a2L (f x) (f z)<0;omega)
section
variable {H:PH} {u v:Value} {l m:List Int}
theorem c1X (hu:SI H u l) (hv:SI H v m):Asks prog 50 [u,v] H (ii (a2L l m)):=by
 refine a0b mixed c3W (by kernel_rfl) rfl ?_
 have hl:=hu.len
 have hm:=hv.len
 refine a0g el_plan rfl rfl hu rfl ?_
 refine a0E (α:=Nat×Int) (fun⟨i,p⟩=>[ii p,ii (i:Nat)]) (fun⟨i,p⟩=>i<=l.length/\a2L (l.drop i) (m.drop i)=a2L l m) (fun⟨i,p⟩=>l.length-i) ((0,0)) rfl (⟨Nat.zero_le _,rfl⟩) fun⟨i,p⟩ hQ=> ?_
 simp only[cA,nA]
 obtain⟨hi,hc⟩:=hQ
 refine a0a ⟨_,rfl⟩ ?_
 refine a0a ⟨_,rfl⟩ ?_
 refine a0e (b:=decide (((i:Nat):Int)<(l.length:Nat))) rfl (fun h=> ?_) (fun h=> ?_)
 ·replace h:=of_decide_eq_true h
  have hi':i<l.length:=by omega
  obtain⟨x,hx,hdx⟩:=a0u hi'
  refine a0i el_plan rfl rfl rfl rfl (fun _=>rfl) hu hx rfl (fun _=>rfl) fun _=> ?_
  simp only[cA,nA]
  refine a0g el_plan rfl rfl hv rfl ?_
  refine a0a ⟨_,rfl⟩ ?_
  refine a0e (b:=decide (((i:Nat):Int)≥(m.length:Nat))) rfl (fun h2=> ?_) (fun h2=> ?_)
  ·replace h2:=of_decide_eq_true h2
   have:m.drop i=[]:=List.drop_eq_nil_of_le (by omega)
   rw[hdx,this]at hc
   exact a0c rfl ⟨rfl,by rw[<-hc];rfl⟩
  ·replace h2:=of_decide_eq_false h2
   obtain⟨y,hy,hdy⟩:=a0u (l:=m) (i:=i) (by omega)
   refine a0i el_plan rfl rfl rfl rfl (fun _=>rfl) hv hy rfl (fun _=>rfl) fun _=> ?_
   simp only[cA,nA]
   rw[hdx,hdy]at hc
   refine a0s (b4Q x y) rfl ?_
   simp only[cA,nA]
   refine a0a ⟨_,rfl⟩ ?_
   refine a0e (b:=decide (b0T x y≠0)) (by show Value.bool (b0T x y !=0)=_;congr 1;by_cases e:b0T x y=0<;>simp[e]) (fun h3=> ?_) (fun h3=> ?_)
   ·replace h3:=of_decide_eq_true h3
    exact a0c rfl ⟨rfl,by rw[<-hc];simp only[a2L];rw[if_pos h3];rfl⟩
   ·replace h3:=of_decide_eq_false h3
    exact⟨(i+1,p),by show l.length-(i+1)<l.length-i;omega,(a1l rfl (a0r rfl (by omega))),⟨⟨by show i+1<=_;omega,by rw[<-hc];simp only[a2L];rw[if_neg h3]⟩,rfl⟩⟩
 ·replace h:=of_decide_eq_false h
  have hle:i=l.length:=by omega
  subst hle
  rw[List.drop_length]at hc
  refine a0g el_plan rfl rfl hu rfl ?_
  refine a0g el_plan rfl rfl hv rfl ?_
  refine a0a ⟨_,rfl⟩ ?_
  refine a0a ⟨_,rfl⟩ ?_
  refine a0e (b:=decide (((l.length:Nat):Int)<(m.length:Nat))) rfl (fun h2=> ?_) (fun h2=> ?_)
  ·replace h2:=of_decide_eq_true h2
   obtain⟨y,hy,hdy⟩:=a0u (l:=m) (i:=l.length) (by omega)
   rw[hdy]at hc
   exact a0c rfl ⟨rfl,by rw[<-hc];rfl⟩
  ·replace h2:=of_decide_eq_false h2
   have:m.drop l.length=[]:=List.drop_eq_nil_of_le (by omega)
   rw[this]at hc
   exact a0c rfl ⟨rfl,by rw[<-hc];rfl⟩
theorem b7v (hu:SI H u l) (hv:SI H v m):Asks prog 49 [u,v] H (ii (a2L l m)):=by
 refine a0b mixed b9D (by kernel_rfl) rfl ?_
 refine a0I (c1X hu hv) rfl ?_
 simp only[cA,nA]
 exact a0c rfl ⟨rfl,rfl⟩
theorem b7w:a5r prog 49=true:=by kernel_rfl
end
section
variable {B H:PH} {v:Value} {l:List Slc} {cont:Slc->List Int}
theorem c5B {α:Type} [Inhabited α] {enc:α->Value} (d:Array α) (c:Array Value) (h:d.size<=c.size):(putCells enc 0 d c).toList.take d.size=d.toList.map enc:=by
 apply List.ext_getElem?
 intro i
 by_cases hi:i<d.size
 ·rw[List.getElem?_take_of_lt hi,Array.getElem?_toList]
  unfold putCells
  rw[Array.getElem?_mapIdx,Array.getElem?_eq_getElem (by omega)]
  simp[hi]
 ·rw[List.getElem?_eq_none (by simp;omega),List.getElem?_eq_none (by simp;omega)]
theorem c1Y (hle:PH.le B H) (ho:SO B H 33 1 (fun s:Slc=>[vs s]) v l) (h0:l≠[]) (hl:l.length<4611686018427387904) (hp:∀s∈l,SI B (vs s) (cont s)):
  Con prog 48 [v,.func (.func 49) #[] #[]] H fun _ H'=>PH.le B H'/\∃m:List Slc,m.Perm l/\(m.map cont).Pairwise (fun a b=>¬a2L b a<0)/\SO B H' 33 1 (fun s:Slc=>[vs s]) v m:=by
 obtain⟨h1,⟨_,h2⟩|⟨g,cap,cur,rfl,hB,hH,hc1,hc2,hc3,hc4⟩⟩:=ho
 ·exact absurd (List.eq_nil_of_length_eq_zero h2) h0
 rw[Nat.mul_one]at hc3 hc4
 have hfm:∀k:List Slc,(k.flatMap fun s:Slc=>[vs s])=k.map vs:=fun k=>by
  induction k with
  |nil=>rfl
  |cons a k ih=>rw[List.flatMap_cons,ih];rfl
 rw[hfm]at hc4
 haveI:Inhabited {s:Slc//s∈l}:=⟨⟨l.head h0,List.head_mem h0⟩⟩
 have hds:l.attach.toArray.size=l.length:=by simp
 have hcon:=c1W (P:=prog) (ρ:=Tryz.srtL_ren) (α:={s:Slc//s∈l}) (enc:=fun x=>vs x.1) (H:=H) (B:=B) (blk:=g) (cur:=cur) (T:=33) (d:=l.attach.toArray) Tryz.srtL (fun _=>rfl) (d0M fun x:{s:Slc//s∈l}=>cont x.1) (g:=49) (cb:= #[]) (cap:=cap) b7w hH
  (by rw[hds,hc4,List.toList_toArray,show(fun x:{s:Slc//s∈l}=>vs x.1)=vs ∘ Subtype.val from rfl,<-List.map_map,List.attach_map_subtype_val]) (by omega) hle hB (fun x y=>(b7v (hp _ x.2) (hp _ y.2)).give)
 rw[hds]at hcon
 refine Con.mono hcon ?_
 rintro _ H' ⟨rfl,d',hs,hpm,hso,rfl⟩
 refine⟨fun k ob hk=> ?_,d'.toList.map (·.1),?_,?_,?_⟩
 ·rw[PH.put_ne _ _ (fun e=>by rw[e,hB]at hk;cases hk)];exact hle _ _ hk
 ·have:=hpm.map (·.1)
  rwa[List.toList_toArray,List.attach_map_subtype_val]at this
 ·rw[List.map_map,List.pairwise_map,List.pairwise_iff_getElem]
  intro i j hi hj hij
  have:=hso i j (Nat.zero_le _) hij (by simp at hj;omega)
  unfold ltOf at this
  rw[decide_eq_false_iff_not]at this
  rw[getElem!_pos d' i (by simpa using hi),getElem!_pos d' j (by simpa using hj)]at this
  simpa using this
 ·have hln:(d'.toList.map (·.1)).length=l.length:=by rw[List.length_map,Array.length_toList,hs]
  refine⟨by rw[hfm];simp,.inr ⟨g,cap,putCells (fun x:{s:Slc//s∈l}=>vs x.1) 0 d' cur,by rw[hln],hB,PH.put_self _ _ _,by rw[hln];exact hc1,hc2,by unfold putCells;rw[Array.size_mapIdx,hc3,Nat.mul_one],?_⟩⟩
  rw[hln,Nat.mul_one,hfm,List.map_map,<-hs,c5B d' cur (by omega)]
  rfl
end
end Go.Proofs.YtmannekkmdockaaGreatDoor

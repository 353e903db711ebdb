/- Chapter 32: recom, part 1. -/
import Derived.Test.YtmannekkmdockaaGreatDoorGsM
import Derived.Test.YtmannekkmdockaaGreatDoorGmT
open Bool renaming and_eq_true->aF,or_eq_true->bW,true_and->jZ
open Classical renaming byContradiction->aP
open Int renaming toNat_natCast->bB
open List renaming filter_congr->eL,filter_cons->bX,getD_eq_getElem?_getD->aB,getElem?_eq_getElem->aA,getElem_mem->eH,mem_append_left->mB,mem_append_right->lT,mem_cons->aL,mem_cons_of_mem->gY,mem_of_mem_take->jL,mem_range->cK,mem_singleton->aQ,nodup_range->fJ,not_mem_nil->cF,range->bL
open List.Pairwise renaming filter->mO
open Nat renaming le_refl->aN,le_total->fL,max_eq_left->eX,max_eq_right->eT,min_eq_left->cD,min_eq_right->fU,zero_le->bI
namespace Go.Proofs.Z
open Go.Proofs.Tryz
open Go.RowKit Go.RX Go.GS
def bv (wts:Value) (lo hi ds:Int):Value:= .agg #[wts,ii lo,ii hi,ii ds]
def chv (wts:Value) (lo hi ds:Int) (n:Nat) (w:Value):Value:= .agg #[wts,ii lo,ii hi,ii ds,ii n,w]
theorem Af {H:PH} {sz:Nat} {α:Type} {ce:α->List Value} {v:Value} {l:List α} (h:SE H sz ce v l):Dx v=true:=h.one.2 v (by rw[h.cells];simp)
theorem Gs {wts:Value} (h:Dx wts=true) (lo hi ds:Int):(bv wts lo hi ds).cells.size=4/\s8 (bv wts lo hi ds).cells:=by
 refine⟨rfl,fun c hc=> ?_⟩;rw[bv,It]at hc;simp only[aL,cF,or_false]at hc;rcases hc with rfl|rfl|rfl|rfl
 ·exact h
 all_goals rfl
theorem Pe {wts w:Value} (h:Dx wts=true) (h2:Dx w=true) (lo hi ds:Int) (n:Nat):(chv wts lo hi ds n w).cells.size=6/\s8 (chv wts lo hi ds n w).cells:=by
 refine⟨rfl,fun c hc=> ?_⟩;rw[chv,It]at hc;simp only[aL,cF,or_false]at hc;rcases hc with rfl|rfl|rfl|rfl|rfl|rfl
 ·exact h
 ·rfl
 ·rfl
 ·rfl
 ·rfl
 ·exact h2
theorem Pg:FA prog 109 0 0:=⟨by kernel_rfl,oDt (by kernel_rfl),by kernel_rfl,by kernel_rfl,oDt (by kernel_rfl)⟩
theorem Vm:FA prog 109 1 4:=⟨by kernel_rfl,oDt (by kernel_rfl),by kernel_rfl,by kernel_rfl,oDt (by kernel_rfl)⟩
theorem d9U:FA prog 39 0 0:=⟨by kernel_rfl,oDt (by kernel_rfl),by kernel_rfl,by kernel_rfl,oDt (by kernel_rfl)⟩
theorem d9V:FA prog 39 1 1:=⟨by kernel_rfl,oDt (by kernel_rfl),by kernel_rfl,by kernel_rfl,oDt (by kernel_rfl)⟩
theorem d9W:FA prog 39 2 2:=⟨by kernel_rfl,oDt (by kernel_rfl),by kernel_rfl,by kernel_rfl,oDt (by kernel_rfl)⟩
theorem Zj:FA prog 39 3 3:=⟨by kernel_rfl,oDt (by kernel_rfl),by kernel_rfl,by kernel_rfl,oDt (by kernel_rfl)⟩
theorem d7l:Sc prog 32:=⟨by kernel_rfl,by kernel_rfl,by kernel_rfl⟩
theorem Zl:Ag prog 37 2:=⟨by kernel_rfl,by kernel_rfl,by kernel_rfl⟩
theorem Zm:Ag prog 109 6:=⟨by kernel_rfl,by kernel_rfl,by kernel_rfl⟩
theorem c2B:Au prog 105=true:=by kernel_rfl
theorem c2C:Au prog 179=true:=by kernel_rfl
theorem c2D:Au prog 108=true:=by kernel_rfl
section
variable {H:PH} {u v w wts:Value} {p wl:List Int} {n:Nat} {es:List (Nat×Nat)} {lo hi ds:Int} {set:Nat}
theorem c2E (x:Int):Asks prog 105 [ii x] H (.bool (decide (x<0)||decide (x>1000000000))):=by
 refine j3 mixed c7F ?_;refine d4 ?_;refine i0 (b:=decide (x<0)) rfl (fun h=> ?_) (fun h=> ?_)
 ·replace h:=oDt h;exact g8 rfl ⟨rfl,by rw[oDd h];rfl⟩
 ·replace h:=oDf h;exact g8 rfl ⟨rfl,by rw[decide_eq_false h];rfl⟩
theorem Vn {h:¬(wl.length=n/\0<=lo/\lo<=hi/\1<=ds/\ds<=8/\Oz wl)}:bdE n wl lo hi ds=320:=if_neg h
theorem Zn (hw:SG H w es) (hg:GV n es) (qV:SI H wts wl):Ao prog 60 [gv n w,bv wts lo hi ds] H (ii (bdE n wl lo hi ds)):=by
 refine j3 mixed d3q ?_;refine d9 (Ap hw) ?_;refine d9 (Gs (Af qV) _ _ _) ?_;refine x9 (Za hw hg) rfl fun H1 l1=> ?_;refine d4 ?_;refine t6 (bF (p:=(0:Int)≠0) (by simp)) ?_;refine j7 el_int (qV.mono l1) ?_;refine d4 (d4 ?_);refine r9 (p:=(wl.length≠n)) (by show Value.bool (((wl.length:Nat):Int) !=((n:Nat):Int))=_;rw[bN];congr 1;apply decide_eq_decide.2;omega) (fun h=> ?_) fun h=> ?_
 ·exact g8 rfl ⟨l1,by rw[Vn (h:=fun e=>h e.1)];rfl⟩
 ·refine d4 ?_;refine i0 (b:=decide (lo<0)) rfl (fun h2=> ?_) (fun h2=> ?_)
  ·replace h2:=oDt h2;exact g8 rfl ⟨l1,by rw[Vn (h:=fun e=>by omega)];rfl⟩
  ·replace h2:=oDf h2;refine d4 ?_;refine i0 (b:=decide (lo>hi)) rfl (fun h3=> ?_) (fun h3=> ?_)
   ·replace h3:=oDt h3;exact g8 rfl ⟨l1,by rw[Vn (h:=fun e=>by omega)];rfl⟩
   ·replace h3:=oDf h3;refine d4 ?_;refine i0 (b:=decide (ds<1)) rfl (fun h4=> ?_) (fun h4=> ?_)
    ·replace h4:=oDt h4;exact g8 rfl ⟨l1,by rw[Vn (h:=fun e=>by omega)];rfl⟩
    ·replace h4:=oDf h4;refine i0 (b:=decide (ds>8)) rfl (fun h5=> ?_) (fun h5=> ?_)
     ·replace h5:=oDt h5;exact g8 rfl ⟨l1,by rw[Vn (h:=fun e=>by omega)];rfl⟩
     ·replace h5:=oDf h5;refine x9 (c2s (caps:=[]) (q:=fun x=>decide (x<0)||decide (x>1000000000)) (qV.mono l1) c2B (fun H' x _ _=>(c2E x).give)) rfl fun H2 l2=> ?_;refine d4 ?_;refine i0 (b:=wl.any fun x=>decide (x<0)||decide (x>1000000000)) rfl (fun h6=> ?_) (fun h6=> ?_)
      ·skip
       rw[List.any_eq_true]at h6;obtain⟨x,sZ,rR⟩:=h6;exact g8 rfl ⟨l1.trans l2,by rw[Vn (h:=fun e=>by have:=e.2.2.2.2.2 x sZ;simp at rR;omega)];rfl⟩
      ·skip
       have hW:Oz wl:=by
        intro x hx;rw[List.any_eq_false]at h6;have:=h6 x hx;simp at this;omega
       exact g8 rfl ⟨l1.trans l2,by rw[show bdE n wl lo hi ds=0 from if_pos ⟨by omega,by omega,by omega,by omega,by omega,hW⟩];rfl⟩
theorem b9j {b:Nat} {T:TypeId} {x:Nat} {y:Int} (hb:H b=some (.cells #[wts,ii lo,ii hi,ii ds,ii n,w] T (0,0))) (qV:SI H wts wl) (hx:wl[x]? =some y):Ao prog 179 [ii (x:Nat),.pointer (some ⟨b,0,none⟩)] H (ii y):=by
 refine j3 mixed c7H ?_;refine s6 Pg ?_;refine s6 d9U ?_;refine w9 d7l rfl rfl hb rfl rfl ?_;refine j8 el_int qV hx fun _=> ?_;exact g8 rfl ⟨PH.le.refl _,rfl⟩
theorem c2F {f:FuncId} {caps:List Value} (hT:Tb H) (hs:set<M64) (hwl:Oz wl) (hsn:∀x,bit set x=true->x<wl.length) (rC:Au prog f=true) (hf:∀H' x y,PH.le H H'->wl[x]? =some y->Ao prog f (ii (x:Nat)::caps) H' (ii y)):Ao prog 178 [uv set,.func (.func f) #[] caps.toArray] H (ii (Oy wl set)):=by
 refine j3 mixed d3t ?_;refine s9 (α:=Nat×Nat) (fun⟨k,s⟩=>[ii (((els set).take k).map fun x=>wl.getD x 0).sum,uv s]) (fun⟨k,s⟩=>fun H'=>PH.le H H'/\s<M64/\k<=(els set).length/\els s=(els set).drop k) (fun⟨k,s⟩=>(els set).length-k) ((0,set)) rfl (⟨PH.le.refl _,hs,bI _,rfl⟩) fun⟨k,s⟩ H' hQ=> ?_;simp only[cA,nA];obtain⟨l1,qF,hk,he⟩:=hQ;refine d4 ?_;refine r9 (p:=(s≠0)) (bN0 s) (fun h=> ?_) fun h=> ?_
 ·obtain⟨x,r,rJ⟩:∃x r,els s=x::r:=by
   cases rJ:els s with
   |nil=>exact absurd (Uz qF rJ) h
   |cons x r=>exact⟨x,r,rfl⟩
  have htz:tz s=x:=by simp[tz,rJ]
  have qO:k<(els set).length:=by
   apply Nat.lt_of_not_le;intro hh;rw[List.drop_eq_nil_of_le hh,rJ]at he;cases he
  obtain⟨y,hy,vC⟩:=t7 qO;rw[<-he,rJ]at vC;obtain⟨rfl,hr'⟩:=List.cons.inj vC;have tV:=hsn x ((Gf hs).1 (List.mem_of_getElem? hy));have hwx:wl[x]? =some wl[x]:=aA tV;refine Aq (Yu (hT.mono l1) qF) rfl ?_;simp only[cA,nA];rw[htz];refine r4 (Uh (f:=f) (caps:=caps.toArray) (vs:=[ii (x:Nat)]) rfl rfl rfl rC (hf _ x _ l1 hwx)) rfl ?_;rintro _ H2 ⟨l2,rfl⟩;refine nmI ?_;simp only[cA,nA];have uZ:=c2v (((els set).take k).map fun x=>wl.getD x 0) (by
   intro z hz;rw[List.mem_map]at hz;obtain⟨a,ha,rfl⟩:=hz;have vA:=hsn a ((Gf hs).1 (jL ha));rw[aB,aA vA];exact hwl _ (eH vA))
  have qK:=Me set;have hlk:((((els set).take k).map fun x=>wl.getD x 0)).length<=64:=by
   rw[List.length_map,List.length_take];unfold card at qK;omega
  have wC:=hwl _ (eH tV);refine d4 (d4 ?_);exact⟨(k+1,s&&&(s-1)),by show(els set).length-(k+1)<(els set).length-k;omega,(j4 (by rw[ik rfl rfl (by omega) (by omega)];show ii _=ii (((els set).take (k+1)).map fun x=>wl.getD x 0).sum;rw[take_snoc hy,List.map_append,List.sum_append,List.map_cons,List.map_nil,List.sum_cons,List.sum_nil,Int.add_zero,aB,hwx];rfl) (Ej rfl (Yz (B:=1) rfl rfl qF (by omega)) qF (Nat.lt_of_le_of_lt (Nat.sub_le _ _) qF))),⟨l1.trans l2,gw qF,qO,by rw[wc qF rJ,hr']⟩⟩
 ·have h0:s=0:=by omega
  rw[h0,wa]at he;have sV:(els set).length<=k:=by
   apply Nat.le_of_not_lt;intro hh;rw[List.drop_eq_getElem_cons hh]at he;cases he
  exact g8 rfl ⟨l1,by rw[List.take_of_length_le sV];rfl⟩
structure Chn (H:PH) (n:Nat) (w wts:Value) (es:List (Nat×Nat)) (wl:List Int):Prop where
 tb:Tb H
 gr:SG H w es
 ok:GV n es
 wt:SI H wts wl
 len:wl.length=n
 wok:Oz wl
theorem Chn.mono {H':PH} (h:Chn H n w wts es wl) (hl:PH.le H H'):Chn H' n w wts es wl:=⟨h.tb.mono hl,h.gr.mono hl,h.ok,h.wt.mono hl,h.len,h.wok⟩
theorem Ry (hc:Chn H n w wts es wl) (hs:set<2^n):Ao prog 109 [chv wts lo hi ds n w,uv set] H (.bool (alB es wl lo hi set)):=by
 refine j3 mixed d3s ?_;have qF:=Ci hc.ok.n64 hs;refine d9 (Pe (Af hc.wt) (Af hc.gr) _ _ _ _) ?_;refine Ee (cs:= #[wts,ii lo,ii hi,ii ds,ii n,w]) rfl fun b hb=> ?_;simp only[cA,nA];have l1:=PH.le_put hb (.cells #[wts,ii lo,ii hi,ii ds,ii n,w] 109 (0,0));have b1:=PH.put_self H b (.cells #[wts,ii lo,ii hi,ii ds,ii n,w] 109 (0,0));generalize H.put b (.cells #[wts,ii lo,ii hi,ii ds,ii n,w] 109 (0,0))=H1 at l1 b1;have sG:=hc.mono l1;refine He (La (vs:=[.pointer (some ⟨b,0,none⟩)]) rfl rfl) rfl ?_;simp only[cA,nA];refine x9 (c2F (caps:=[.pointer (some ⟨b,0,none⟩)]) (wl:=wl) sG.tb qF hc.wok (fun x hx=>by rw[hc.len];exact Zg hs hx) c2C (fun H' x y hl hx=>b9j (hl _ _ b1) (sG.wt.mono hl) hx)) rfl fun H2 l2=> ?_;simp only[cA,nA];have rD:=sG.mono l2;have b2:=l2 _ _ b1;refine s6 Vm ?_;simp only[cA,nA];refine Fj (vs:=[ii n,w]) Zl rfl rfl b2 rfl (by simp) rfl ?_;simp only[cA,nA];refine x9 (ya rD.tb rD.gr hc.ok qF) rfl fun H3 l3=> ?_;simp only[cA,nA];have b3:=l3 _ _ b2;rw[show Vk n es set= .tuple #[.bool (cnB es set),ii 0]from if_pos hs];refine i8 (i8 (d4 ?_));refine i0 (b:=cnB es set) rfl (fun h1=> ?_) (fun h1=> ?_)
 ·skip
  refine s6 Pg ?_;simp only[cA,nA];refine s6 d9V ?_;simp only[cA,nA];refine w9 sc_int rfl rfl b3 rfl rfl ?_;simp only[cA,nA];refine d4 (d4 ?_);refine i0 (b:=decide (Oy wl set≥lo)) rfl (fun h2=> ?_) (fun h2=> ?_)
  ·replace h2:=oDt h2;refine s6 Pg ?_;simp only[cA,nA];refine s6 d9W ?_;simp only[cA,nA];refine w9 sc_int rfl rfl b3 rfl rfl ?_;simp only[cA,nA];refine d4 ?_;exact g8 rfl ⟨(l1.trans l2).trans l3,by unfold alB;rw[h1,oDd h2];rfl⟩
  ·replace h2:=oDf h2;exact g8 rfl ⟨(l1.trans l2).trans l3,by unfold alB;rw[h1,decide_eq_false h2];rfl⟩
 ·skip
  exact g8 rfl ⟨(l1.trans l2).trans l3,by unfold alB;rw[h1];rfl⟩
theorem b9k {b:Nat} {T:TypeId} (hc:Chn H n w wts es wl) (hb:H b=some (.cells #[wts,ii lo,ii hi,ii ds,ii n,w] T (0,0))) (hs:set<2^n):Ao prog 108 [uv set,.pointer (some ⟨b,0,none⟩)] H (.bool (!alB es wl lo hi set)):=by
 refine j3 mixed c7G ?_;refine Fj (vs:=[wts,ii lo,ii hi,ii ds,ii n,w]) Zm rfl rfl hb rfl (by simp) rfl ?_;simp only[cA,nA];refine x9 (Ry hc hs) rfl fun H1 l1=> ?_;simp only[cA,nA];refine d4 ?_;exact g8 rfl ⟨l1,rfl⟩
theorem jf (hc:Chn H n w wts es wl) (hu:SI H u p):Ao prog 61 [chv wts lo hi ds n w,u] H (.bool (y8 n es wl lo hi ds p)):=by
 refine j3 mixed d3r ?_;refine d9 (Pe (Af hc.wt) (Af hc.gr) _ _ _ _) ?_;refine Ee (cs:= #[wts,ii lo,ii hi,ii ds,ii n,w]) rfl fun b hb=> ?_;have l1:=PH.le_put hb (.cells #[wts,ii lo,ii hi,ii ds,ii n,w] 109 (0,0));have b1:=PH.put_self H b (.cells #[wts,ii lo,ii hi,ii ds,ii n,w] 109 (0,0));generalize H.put b (.cells #[wts,ii lo,ii hi,ii ds,ii n,w] 109 (0,0))=H1 at l1 b1;have sG:=hc.mono l1;refine s6 Vm ?_;refine Fj (vs:=[ii n,w]) Zl rfl rfl b1 rfl (by simp) rfl ?_;refine s6 Pg ?_;refine s6 Zj ?_;refine w9 sc_int rfl rfl b1 rfl rfl ?_;refine x9 (c2u sG.gr hc.ok (hu.mono l1) ds) rfl fun H2 l2=> ?_;refine d4 ?_;refine r9 (p:=(plE n p ds≠0)) (bN _ _) (fun h=> ?_) fun h=> ?_
 ·exact g8 rfl ⟨l1.trans l2,by unfold y8;rw[decide_eq_false h];rfl⟩
 ·have h0:plE n p ds=0:=aP h;have hp0:=xy h0;have rD:=sG.mono l2;have b2:=l2 _ _ b1;refine s6 Pg ?_;refine s6 Zj ?_;refine w9 sc_int rfl rfl b2 rfl rfl ?_;obtain⟨k,rfl⟩:∃k:Nat,ds=(k:Int):=⟨ds.toNat,by omega⟩;rw[bB]at hp0;refine i6 (yb (hu.mono (l1.trans l2)) k (by omega) (by omega) hp0.2.2.2.1 hp0.2.2.2.2) rfl ?_;rintro _ H3 ⟨l3,z,rfl,hz⟩;refine nmI ?_;have vN:=rD.mono l3;have b3:=l3 _ _ b2;refine i8 (i8 ?_);refine He (La (vs:=[.pointer (some ⟨b,0,none⟩)]) rfl rfl) rfl ?_;refine x9 (c2t (caps:=[.pointer (some ⟨b,0,none⟩)]) (q:=fun s=> !alB es wl lo hi s) hz c2D (fun H' s hl hsm=>b9k (vN.mono hl) (hl _ _ b3) (by have:=xz hsm hp0.2.2.2.1.2.2;rw[hp0.2.2.1]at this;exact this))) rfl fun H4 l4=> ?_;refine d4 ?_;exact g8 rfl ⟨((l1.trans l2).trans l3).trans l4,by unfold y8;rw[oDd h0,bB,jZ];show Value.bool (!((masks p k).any fun s=> !alB es wl lo hi s))=_;rw[List.all_eq_not_any_not]⟩
theorem yc (hT:Tb H) (hw:SG H w es) (hg:GV n es) (qV:SI H wts wl) (hu:SI H u p):Ao prog 36 [gv n w,bv wts lo hi ds,u] H (.tuple #[.bool (decide (bdE n wl lo hi ds=0)&&y8 n es wl lo hi ds p),ii (bdE n wl lo hi ds)]):=by
 refine j3 mixed d3u ?_;refine d9 (Ap hw) ?_;refine d9 (Gs (Af qV) _ _ _) ?_;refine x9 (Zn hw hg qV) rfl fun H1 l1=> ?_;refine d4 ?_;refine r9 (p:=(bdE n wl lo hi ds≠0)) (bN _ _) (fun h=> ?_) fun h=> ?_
 ·exact g8 rfl ⟨l1,by rw[decide_eq_false h];rfl⟩
 ·have h0:bdE n wl lo hi ds=0:=aP h;have hb:=Rx h0;refine x9 (jf (lo:=lo) (hi:=hi) (ds:=ds) (p:=p) (u:=u) ⟨hT.mono l1,hw.mono l1,hg,qV.mono l1,hb.1,hb.2.2.2.2.2⟩ (hu.mono l1)) rfl fun H2 l2=> ?_;exact g8 rfl ⟨l1.trans l2,by rw[oDd h0,h0];rfl⟩
end
end Go.Proofs.Z
/- Search by rounds over all edges. -/
namespace Go.GS
def rst (set s:Nat) (e:Nat×Nat):Nat:=if bit set e.1&&bit set e.2&&(bit s e.1||bit s e.2)then s|||2^e.1|||2^e.2 else s
def rnd (set:Nat) (L:List (Nat×Nat)) (s:Nat):Nat:=L.foldl (rst set) s
def Ai (set:Nat) (L:List (Nat×Nat)):Nat->Nat->Nat
 |0,s=>s
 |n+1,s=>rnd set L (Ai set L n s)
def Clo (set:Nat) (L:List (Nat×Nat)) (s:Nat):Prop:=∀e∈L,bit set e.1=true->bit set e.2=true->(bit s e.1=true\/bit s e.2=true)->bit s e.1=true/\bit s e.2=true
theorem Zo {set s:Nat} {e:Nat×Nat} {y:Nat} (h:bit s y=true):bit (rst set s e) y=true:=by
 unfold rst;split
 ·rw[Ac,Ac,h];rfl
 ·exact h
theorem d7m {set s:Nat} {e:Nat×Nat} (h:s<M64) (h1:e.1<64) (h2:e.2<64):rst set s e<M64:=by
 unfold rst;split
 ·exact Hv (Hv h (An h1)) (An h2)
 ·exact h
theorem Ph {set:Nat} {L:List (Nat×Nat)}:∀{s y:Nat},bit s y=true->bit (rnd set L s) y=true:=by
 induction L with
 |nil=>intro s y h;exact h
 |cons e L ih=>intro s y h;exact ih (Zo h)
theorem Zp {set:Nat} {L:List (Nat×Nat)} (hL:∀e∈L,e.1<64/\e.2<64):∀{s:Nat},s<M64->rnd set L s<M64:=by
 induction L with
 |nil=>intro s h;exact h
 |cons e L ih=>intro s h;exact ih (fun a ha=>hL a (gY _ ha)) (d7m h (hL e (by simp)).1 (hL e (by simp)).2)
theorem c7M {set s:Nat} {e:Nat×Nat} (h:rst set s e=s) (h1:bit set e.1=true) (h2:bit set e.2=true) (h3:bit s e.1=true\/bit s e.2=true):bit s e.1=true/\bit s e.2=true:=by
 unfold rst at h;rw[if_pos (by rcases h3 with h3|h3<;>simp[h1,h2,h3])]at h;rw[<-h];simp[Ac,Ae]
theorem yd {set:Nat} {L:List (Nat×Nat)}:∀{s:Nat},rnd set L s=s->Clo set L s:=by
 induction L with
 |nil=>intro s _ e he;cases he
 |cons e L ih=>
  intro s h;have h1:rst set s e=s:=by
   apply Ax;intro y;cases hy:bit s y with
   |true=>exact Zo hy
   |false=>
    cases hz:bit (rst set s e) y with
    |false=>rfl
    |true=>
     have:bit (rnd set (e::L) s) y=true:=Ph (L:=L) hz;rw[h,hy]at this;cases this
  have h2:rnd set L s=s:=by
   have:rnd set (e::L) s=rnd set L (rst set s e):=rfl;rw[this,h1]at h;exact h
  intro a ha;rcases aL.1 ha with rfl|ha
  ·exact c7M h1
  ·exact ih h2 a ha
theorem LH {set:Nat} {L:List (Nat×Nat)} {s:Nat} (h:Clo set L s):rnd set L s=s:=by
 induction L with
 |nil=>rfl
 |cons e L ih=>
  have h1:rst set s e=s:=by
   unfold rst;split
   ·rename_i hc;simp only[aF,bW]at hc;obtain⟨h2,h3⟩:=h e (by simp) hc.1.1 hc.1.2 hc.2;apply Ax;intro y;rw[Ac,Ac,Ae,Ae];by_cases e1:e.1=y
    ·subst e1;simp[h2]
    ·by_cases e2:e.2=y
     ·subst e2;simp[h3]
     ·simp[e1,e2]
   ·rfl
  show rnd set L (rst set s e)=s;rw[h1];exact ih fun a ha=>h a (gY _ ha)
def ins (L:List (Nat×Nat)) (s:Nat):Nat:=(L.filter fun e=>bit s e.1&&bit s e.2).length
theorem LI {α:Type} {p q:α->Bool} (h:∀x,p x=true->q x=true) (l:List α):(l.filter p).length<=(l.filter q).length:=by
 induction l with
 |nil=>exact aN _
 |cons a l ih=>
  rw[bX,bX];split
  ·rename_i hp;rw[if_pos (h a hp)];simp;exact ih
  ·split
   ·simp;omega
   ·exact ih
theorem d7n {α:Type} {p q:α->Bool} (h:∀x,p x=true->q x=true) {x:α} (hq:q x=true) (hp:p x=false):∀l:List α,x∈l->(l.filter p).length<(l.filter q).length:=by
 intro l;induction l with
 |nil=>intro h;cases h
 |cons a l ih=>
  intro hx;rw[bX,bX];rcases aL.1 hx with rfl|hx
  ·rw[if_neg (by simp[hp]),if_pos hq];have:=LI h l;simp;omega
  ·have:=ih hx;split
   ·rename_i hpa;rw[if_pos (h a hpa)];simp;exact this
   ·split
    ·simp;omega
    ·exact this
theorem d3E {L:List (Nat×Nat)} {s:Nat} (h:L.length<=ins L s):∀e∈L,bit s e.1=true/\bit s e.2=true:=by
 have:(L.filter fun e=>bit s e.1&&bit s e.2).length=L.length:=Nat.le_antisymm (List.length_filter_le _ _) h;rw[List.length_filter_eq_length_iff]at this;intro e he;simpa using this e he
theorem d3F {set:Nat} {L0:List (Nat×Nat)}:∀{L:List (Nat×Nat)} {s:Nat},(∀e∈L,e∈L0)->rnd set L s=s\/ins L0 s<ins L0 (rnd set L s):=by
 intro L;induction L with
 |nil=>intro s _;exact .inl rfl
 |cons e L ih=>
  intro s hL;have hm:∀x:Nat×Nat,(bit s x.1&&bit s x.2)=true->(bit (rst set s e) x.1&&bit (rst set s e) x.2)=true:=by
   intro x hx;rw[aF]at hx⊢;exact⟨Zo hx.1,Zo hx.2⟩
  by_cases h1:rst set s e=s
  ·have:rnd set (e::L) s=rnd set L s:=by show rnd set L (rst set s e)=_;rw[h1]
   rw[this];exact ih fun a ha=>hL a (gY _ ha)
  ·right;have h2:(bit s e.1&&bit s e.2)=false:=by
    cases hc:(bit s e.1&&bit s e.2)with
    |false=>rfl
    |true=>
     exfalso;apply h1;rw[aF]at hc;apply Ax;intro y;cases hy:bit s y with
     |true=>exact Zo hy
     |false=>
      unfold rst;split
      ·rw[Ac,Ac,Ae,Ae,hy];by_cases e1:e.1=y
       ·rw[<-e1,hc.1]at hy;cases hy
       ·by_cases e2:e.2=y
        ·rw[<-e2,hc.2]at hy;cases hy
        ·simp[e1,e2]
      ·exact hy
   have h3:(bit (rst set s e) e.1&&bit (rst set s e) e.2)=true:=by
    unfold rst;split
    ·simp[Ac,Ae]
    ·rename_i hc;exact absurd (by unfold rst;rw[if_neg hc]) h1
   have h4:ins L0 s<ins L0 (rst set s e):=d7n hm h3 h2 L0 (hL e (by simp));have h5:ins L0 (rst set s e)<=ins L0 (rnd set L (rst set s e)):=LI (fun x hx=>by
    rw[aF]at hx⊢;exact⟨Ph hx.1,Ph hx.2⟩) L0
   exact Nat.lt_of_lt_of_le h4 h5
theorem c7N (set:Nat) (L:List (Nat×Nat)) (s:Nat):∀n,Clo set L (Ai set L n s)\/n<=ins L (Ai set L n s):=by
 intro n;induction n with
 |zero=>exact .inr (bI _)
 |succ n ih=>
  rcases ih with h|h
  ·left;show Clo set L (rnd set L _);rw[LH h];exact h
  ·rcases d3F (set:=set) (L0:=L) (L:=L) (s:=Ai set L n s) (fun _ h=>h)with h1|h1
   ·left;show Clo set L (rnd set L _);rw[h1];exact yd h1
   ·right;show n+1<=ins L (rnd set L _);omega
theorem ye (set:Nat) (L:List (Nat×Nat)) (s:Nat):Clo set L (Ai set L L.length s):=by
 rcases c7N set L s L.length with h|h
 ·exact h
 ·exact fun e he _ _ _=>d3E h e he
theorem Jz {set:Nat} {L:List (Nat×Nat)} (hL:∀e∈L,e.1<64/\e.2<64) {s:Nat} (hs:s<M64):∀n,Ai set L n s<M64/\(Clo set L (Ai set L n s)\/n<=card (Ai set L n s)):=by
 intro n;induction n with
 |zero=>exact⟨hs,.inr (bI _)⟩
 |succ n ih=>
  refine⟨Zp hL ih.1,?_⟩;rcases ih.2 with h|h
  ·left;show Clo set L (rnd set L _);rw[LH h];exact h
  ·by_cases h1:rnd set L (Ai set L n s)=Ai set L n s
   ·left;show Clo set L (rnd set L _);rw[h1];exact yd h1
   ·right;obtain⟨x,sZ,rR⟩:=Ru (fun e=>h1 e.symm) (fun y hy=>Ph (set:=set) (L:=L) hy);have:=Vj (fun y hy=>Ph (set:=set) (L:=L) hy) sZ rR (Db (Zp hL ih.1) sZ);show n+1<=card (rnd set L _);omega
theorem c2H {set:Nat} {L:List (Nat×Nat)} {s y:Nat} (h:bit s y=true):∀n,bit (Ai set L n s) y=true:=by
 intro n;induction n with
 |zero=>exact h
 |succ n ih=>exact Ph ih
theorem d3G {es:List (Nat×Nat)} {set s x:Nat} {e:Nat×Nat} (he:e∈es) (h:∀y,bit s y=true->Rch es set x y):∀y,bit (rst set s e) y=true->Rch es set x y:=by
 intro y hy;unfold rst at hy;split at hy
 ·rename_i hc;simp only[aF,bW]at hc;have a1:adj es e.1 e.2:=⟨e,he,.inl ⟨rfl,rfl⟩⟩;have r1:Rch es set x e.1:=hc.2.elim (h _) fun h2=>(h _ h2).step a1.symm hc.1.1;have r2:Rch es set x e.2:=hc.2.elim (fun h1=>(h _ h1).step a1 hc.1.2) (h _);rw[Ac,Ac,Ae,Ae,bW,bW]at hy;rcases hy with(hy|hy)|hy
  ·exact h y hy
  ·have:=oDt hy;subst this;exact r1
  ·have:=oDt hy;subst this;exact r2
 ·exact h y hy
theorem d3H {es:List (Nat×Nat)} {set x:Nat}:∀{L:List (Nat×Nat)} {s:Nat},(∀e∈L,e∈es)->(∀y,bit s y=true->Rch es set x y)->∀y,bit (rnd set L s) y=true->Rch es set x y:=by
 intro L;induction L with
 |nil=>intro s _ h;exact h
 |cons e L ih=>intro s hL h;exact ih (fun a ha=>hL a (gY _ ha)) (d3G (hL e (by simp)) h)
theorem Zq {es:List (Nat×Nat)} {set x n:Nat} (hx:bit set x=true) (qK:Ai set es n (2^x)<M64) (hc:Clo set es (Ai set es n (2^x))):CL es set x (Ai set es n (2^x)):=by
 refine⟨qK,fun y=>⟨?_,fun hy=> ?_⟩⟩
 ·have:∀m y,bit (Ai set es m (2^x)) y=true->Rch es set x y:=by
   intro m;induction m with
   |zero=>intro y hy;have hy:bit (2^x) y=true:=hy;rw[Ae]at hy;have:=oDt hy;subst this;exact .base
   |succ m ih=>exact d3H (fun _ h=>h) ih
  exact this n y
 ·induction hy with
  |base=>exact c2H (by rw[Ae];simp) n
  | @step u v h1 ha hz ih=>
   have hu:=h1.mem hx;obtain⟨e,he,⟨rfl,rfl⟩|⟨rfl,rfl⟩⟩:=ha
   ·exact(hc e he hu hz (.inl ih)).2
   ·exact(hc e he hz hu (.inr ih)).1
end Go.GS
/- Forests. -/
namespace Go.GS
def Bc (f:Nat->Nat) (e:Nat×Nat):Nat->Nat:=fun x=>if f x=max (f e.1) (f e.2)then min (f e.1) (f e.2)else f x
def lab (L:List (Nat×Nat)):Nat->Nat:=L.foldl Bc id
theorem Pi (L:List (Nat×Nat)) (e:Nat×Nat):lab (L++[e])=Bc (lab L) e:=by
 unfold lab;rw[List.foldl_append];rfl
theorem LJ {f:Nat->Nat} {e:Nat×Nat} (h:f e.1=f e.2):Bc f e=f:=by
 funext x;unfold Bc;rw[h,Nat.max_self,Nat.min_self];split
 ·rename_i h;exact h.symm
 ·rfl
structure Lb (f:Nat->Nat):Prop where
 idm:∀x,f (f x)=f x
 le:∀x,f x<=x
theorem Lb.join {f:Nat->Nat} (h:Lb f) (e:Nat×Nat):Lb (Bc f e):=by
 by_cases rL:f e.1=f e.2
 ·rw[LJ rL];exact h
 have ha:=h.idm e.1;have hb:=h.idm e.2;refine⟨fun x=> ?_,fun x=> ?_⟩
 ·unfold Bc;generalize f e.1=a at*;generalize f e.2=b at*;by_cases hx:f x=max a b
  ·rw[if_pos hx];by_cases a2z:a<=b
   ·rw[eT a2z,cD a2z,ha,if_neg rL]
   ·rw[eX (by omega),fU (by omega),hb,if_neg (fun h=>rL h.symm)]
  ·rw[if_neg hx,h.idm,if_neg hx]
 ·unfold Bc;split
  ·rename_i hx;have:=h.le x;omega
  ·exact h.le x
theorem Lb.lab (L:List (Nat×Nat)):Lb (lab L):=by
 induction L using Hy with
 |nil=>exact⟨fun _=>rfl,fun _=>aN _⟩
 |snoc L e ih=>rw[Pi];exact ih.join e
def Inn (set:Nat) (L:List (Nat×Nat)):Prop:=∀e∈L,bit set e.1=true/\bit set e.2=true
theorem Ib {set:Nat} {L:List (Nat×Nat)} (h:Inn set L):∀x,bit set x=true->bit set (lab L x)=true:=by
 induction L using Hy with
 |nil=>exact fun _ h=>h
 |snoc L e ih=>
  have ih:=ih fun a ha=>h a (mB _ ha);have he:=h e (lT _ (aQ.2 rfl));intro x hx;rw[Pi];unfold Bc;split
  ·rcases fL (lab L e.1) (lab L e.2)with hh|hh
   ·rw[cD hh];exact ih _ he.1
   ·rw[fU hh];exact ih _ he.2
  ·exact ih x hx
def cnt (f:Nat->Nat) (set:Nat):Nat:=((bL 64).filter fun x=>bit set x&&decide (f x=x)).length
theorem LK {p q:Nat->Bool} {x:Nat} (hx:p x=true) (hq:∀y,q y=(p y&&decide (y≠x))):∀l:List Nat,x∈l->l.Nodup->(l.filter q).length+1=(l.filter p).length:=by
 intro l;induction l with
 |nil=>intro h;cases h
 |cons a l ih=>
  intro hm hn;rw[List.nodup_cons]at hn;rcases aL.1 hm with rfl|hm
  ·have:l.filter q=l.filter p:=by
    apply eL;intro y hy;rw[hq];have:y≠x:=fun e=>hn.1 (e ▸ hy);simp[this]
   rw[bX,bX,if_pos hx,if_neg (by rw[hq];simp),this];rfl
  ·have hax:a≠x:=fun e=>hn.1 (e ▸ hm);have:=ih hm hn.2;have hqa:q a=p a:=by rw[hq];simp[hax]
   rw[bX,bX,hqa];split
   ·simp only[List.length_cons];omega
   ·exact this
theorem c7O {f:Nat->Nat} (h:Lb f) {set:Nat} {e:Nat×Nat} (h1:bit set (f e.1)=true) (h2:bit set (f e.2)=true) (hs:set<M64) (pT:f e.1≠f e.2):cnt (Bc f e) set+1=cnt f set:=by
 have hm:bit set (max (f e.1) (f e.2))=true:=by
  rcases fL (f e.1) (f e.2)with hh|hh
  ·rw[eT hh];exact h2
  ·rw[eX hh];exact h1
 have hfm:f (max (f e.1) (f e.2))=max (f e.1) (f e.2):=by
  rcases fL (f e.1) (f e.2)with hh|hh
  ·rw[eT hh];exact h.idm _
  ·rw[eX hh];exact h.idm _
 refine LK (x:=max (f e.1) (f e.2)) (by simp[hm,hfm]) (fun y=> ?_) _ (cK.2 (Db hs hm)) fJ;cases hy:bit set y with
 |false=>rfl
 |true=>
  simp only[jZ];rw[Bool.eq_iff_iff];simp only[decide_eq_true_eq,aF];unfold Bc;constructor
  ·intro hj;split at hj
   ·rename_i xX;have:=h.idm e.1;have:=h.idm e.2;exfalso;rcases fL (f e.1) (f e.2)with hh|hh
    ·rw[cD hh]at hj;rw[eT hh,<-hj,h.idm]at xX;exact pT xX
    ·rw[fU hh]at hj;rw[eX hh,<-hj,h.idm]at xX;exact pT xX.symm
   ·rename_i xX;exact⟨hj,fun e2=>xX (by rw[hj,e2])⟩
  ·rintro⟨h3,h4⟩;rw[if_neg (by rw[h3];exact h4)];exact h3
theorem d7o (set:Nat):cnt id set=card set:=by
 unfold cnt card els;congr 1;apply eL;intro x _;simp
def Rz:List (Nat×Nat)->Nat->Nat
 |_,0=>0
 |L,n+1=>Rz L n+match L[n]? with|some e=>if lab (L.take n) e.1=lab (L.take n) e.2 then 0 else 1|none=>0
theorem yf (L:List (Nat×Nat)):∀n,Rz L n<=n:=by
 intro n;induction n with
 |zero=>exact aN _
 |succ n ih=>
  unfold Rz;split
  ·split<;>omega
  ·omega
def Acy (L:List (Nat×Nat)) (n:Nat):Prop:=∀i e,i<n->L[i]? =some e->lab (L.take i) e.1≠lab (L.take i) e.2
theorem Zr {L:List (Nat×Nat)}:∀n,n<=L.length->(Rz L n=n↔Acy L n):=by
 intro n;induction n with
 |zero=>intro _;exact⟨fun _ i e hi=>by omega,fun _=>rfl⟩
 |succ n ih=>
  intro hn;have ih:=ih (by omega);have pP:=yf L n;have he:L[n]? =some L[n]:=aA hn;unfold Rz;rw[he];simp only;constructor
  ·intro h;split at h
   ·omega
   ·rename_i pT;intro i e hi uF;rcases Nat.lt_succ_iff_lt_or_eq.1 hi with hi|rfl
    ·exact ih.1 (by omega) i e hi uF
    ·rw[he]at uF;cases uF;exact pT
  ·intro h;rw[if_neg (h n _ (by omega) he),ih.2 fun i e hi=>h i e (by omega)]
theorem Vo {L:List (Nat×Nat)} {set:Nat} (hs:set<M64) (h:Inn set L):∀n,n<=L.length->cnt (lab (L.take n)) set+Rz L n=card set:=by
 intro n;induction n with
 |zero=>intro _;rw[List.take_zero];exact d7o set
 |succ n ih=>
  intro hn;have ih:=ih (by omega);have he:L[n]? =some L[n]:=aA hn;have pY:=h _ (eH hn);have hI:Inn set (L.take n):=fun a ha=>h a (jL ha);have ht:L.take (n+1)=L.take n++[L[n]]:=by rw[List.take_add_one,he];rfl
  rw[ht,Pi];unfold Rz;rw[he];simp only;split
  ·rename_i heq;rw[LJ heq];omega
  ·rename_i pT;have:=c7O (Lb.lab (L.take n)) (Ib hI _ pY.1) (Ib hI _ pY.2) hs pT;omega
def One (f:Nat->Nat) (set:Nat):Prop:=∀x y,bit set x=true->bit set y=true->f x=f y
theorem e1f {l:List Nat} (h:l.length=1):∃x,l=[x]:=by
 match l,h with
 |[x],_=>exact⟨x,rfl⟩
theorem Zs {f:Nat->Nat} (h:Lb f) {set:Nat} (hs:set<M64) (h0:set≠0) (pY:∀x,bit set x=true->bit set (f x)=true):cnt f set=1↔One f set:=by
 have qS:∀x,x∈((bL 64).filter fun x=>bit set x&&decide (f x=x))↔bit set x=true/\f x=x:=by
  intro x;rw[List.mem_filter,cK];simp only[aF,decide_eq_true_eq];exact⟨fun h=>h.2,fun h=>⟨Db hs h.1,h⟩⟩
 constructor
 ·intro hc;obtain⟨c,hl⟩:=e1f hc;have key:∀x,bit set x=true->f x=c:=by
   intro x hx;have:=(qS (f x)).2 ⟨pY x hx,h.idm x⟩;rw[hl]at this;simpa using this
  intro x y hx hy;rw[key x hx,key y hy]
 ·intro h1;obtain⟨x,hx⟩:∃x,bit set x=true:=by
   apply aP;intro hn;exact h0 (Ax fun y=>by rw[Bz];cases hy:bit set y with|false=>rfl|true=>exact absurd ⟨y,hy⟩ hn)
  have hc:=(qS (f x)).2 ⟨pY x hx,h.idm x⟩;unfold cnt;have sJ:((bL 64).filter fun x=>bit set x&&decide (f x=x)).Nodup:=mO _ fJ;generalize hg:((bL 64).filter fun x=>bit set x&&decide (f x=x))=l at*
  match l,hc with
  |[a],_=>rfl
  |a::b::r,_=>
   exfalso;have ha:=(qS a).1 (by simp);have hb:=(qS b).1 (by simp);have:a=b:=by rw[<-ha.2,<-hb.2];exact h1 a b ha.1 hb.1
   subst this;simp at sJ
theorem yg {L:List (Nat×Nat)} {set:Nat} (hs:set<M64) (h0:set≠0) (h:Inn set L) (hl:L.length+1=card set):Acy L L.length↔One (lab L) set:=by
 have h1:=Vo hs h L.length (aN _);rw[List.take_length]at h1;rw[<-Zr _ (aN _),<-Zs (Lb.lab L) hs h0 (Ib h)];have:=yf L L.length;omega
theorem Pj {L:List (Nat×Nat)} {set:Nat} (h:Inn set L) {x y:Nat} (hx:bit set x=true) (hy:bit set y=true):lab L x=lab L y↔Rch L set x y:=by
 constructor
 ·--each node reaches its label
  have key:∀L0:List (Nat×Nat),(∀e∈L0,e∈L)->∀z,bit set z=true->Rch L set z (lab L0 z):=by
   intro L0;induction L0 using Hy with
   |nil=>intro _ z _;exact .base
   |snoc L0 e ih=>
    intro hL z hz;have ih:=ih fun a ha=>hL a (mB _ ha);have he:=hL e (lT _ (aQ.2 rfl));have uF:=h e he;rw[Pi];unfold Bc;split
    ·rename_i hf;have a1:adj L e.1 e.2:=⟨e,he,.inl ⟨rfl,rfl⟩⟩;have r1:=ih e.1 uF.1;have r2:=ih e.2 uF.2;have hz':=ih z hz;have e12:Rch L set e.1 e.2:=Rch.base.step a1 uF.2;rcases fL (lab L0 e.1) (lab L0 e.2)with hh|hh
     ·rw[eT hh]at hf;rw[cD hh];rw[hf]at hz';exact hz'.trans ((r2.symm uF.2).trans ((e12.symm uF.1).trans r1))
     ·rw[eX hh]at hf;rw[fU hh];rw[hf]at hz';exact hz'.trans ((r1.symm uF.1).trans (e12.trans r2))
    ·exact ih z hz
  intro e;have h1:=key L (fun _ h=>h) x hx;have h2:=key L (fun _ h=>h) y hy;rw[e]at h1;exact h1.trans (h2.symm hy)
 ·intro hr;have a1m:∀a b,adj L a b->lab L a=lab L b:=by
   have key:∀(L0:List (Nat×Nat)) (f:Nat->Nat),(∀a b,f a=f b->(L0.foldl Bc f) a=(L0.foldl Bc f) b)/\∀e∈L0,(L0.foldl Bc f) e.1=(L0.foldl Bc f) e.2:=by
    intro L0;induction L0 with
    |nil=>intro f;exact⟨fun _ _ h=>h,fun e he=>by cases he⟩
    |cons e L0 ih=>
     intro f;have hk:∀a b,f a=f b->Bc f e a=Bc f e b:=fun a b rL=>by unfold Bc;rw[rL]
     refine⟨fun a b rL=>(ih (Bc f e)).1 a b (hk a b rL),fun a ha=> ?_⟩;rcases aL.1 ha with rfl|ha
     ·apply(ih (Bc f a)).1;unfold Bc;by_cases rL:f a.1<=f a.2
      ·rw[eT rL,cD rL,if_pos rfl];split<;>rfl
      ·rw[eX (by omega),fU (by omega),if_pos rfl];split<;>rfl
     ·exact(ih (Bc f e)).2 a ha
   rintro a b ⟨e,he,⟨rfl,rfl⟩|⟨rfl,rfl⟩⟩
   ·exact(key L id).2 e he
   ·exact((key L id).2 e he).symm
  clear hy;induction hr with
  |base=>rfl
  |step h1 ha hz ih=>rw[ih,a1m _ _ ha]
end Go.GS

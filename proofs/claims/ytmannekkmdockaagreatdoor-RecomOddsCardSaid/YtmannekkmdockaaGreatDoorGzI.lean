/- Lemmas of the proof. -/
import Derived.Test.YtmannekkmdockaaGreatDoorGzS
open Array renaming getElem?_append_left->eX,getElem?_modify->mB
open Classical renaming choose->pT,choose_spec->pU
open List renaming attach_map_subtype_val->lF,length_singleton->eV,toList_toArray->iF
open List.Perm renaming append_left->pV,refl->pN
set_option maxRecDepth 100000
namespace Go.RX
open Proofs Shelf RowKit Lib Go.Sort
theorem d0c {w w':World} (h:Ext w w'):∃q os',w'=grow (w.drewN q) os':=by
 refine⟨w'.drawn-w.drawn,w'.heap.extract w.heap.size w'.heap.size,?_⟩;have hs:=h.size;have hd:=h.dr;have hh:w'.heap=w.heap++w'.heap.extract w.heap.size w'.heap.size:=by
  apply Array.ext_getElem?;intro k;by_cases hk:k<w.heap.size
  ·rw[eX hk,h.blk k hk]
  ·rw[Array.getElem?_append_right aA,Array.getElem?_extract];split
   ·congr 1;omega
   ·rw[Array.getElem?_eq_none];omega
 have h1:=h.os;have h2:=h.tape;have h3:=h.output;obtain⟨hp',tp',dr',os',out'⟩:=w';obtain⟨hp,tp,dr,os,out⟩:=w;simp only at h1 h2 h3 hh hd;subst h1 h2 h3;simp only[grow,World.drewN];congr 1;omega
section
variable {P:Program} {α:Type} [Inhabited α] {enc:α->Value} {H B:PH} {blk:Nat} {cur:Array Value} {T:TypeId} {d:Array α}
theorem UN {w:World} (hw:H.In w) (hb:H blk=some (.cells cur T (0,0))) (n:Nat) (dk:Array α) (os:Array Obj):Step H w (H.put blk (.cells (putCells enc 0 dk cur) T (0,0))) (sortWorld enc w blk 0 n dk os):=by
 have hwb:=hw _ _ hb;have pX:=Di hwb;have rR:(w.heap.modify blk (onCells (putCells enc 0 dk))).size=w.heap.size:=aD;have qC:∀k,k<w.heap.size->k≠blk->(w.heap.modify blk (onCells (putCells enc 0 dk))++os)[k]? =w.heap[k]?:=fun k hk h=>by
  rw[eX aA,mB,if_neg (fun e=>h e.symm)]
 refine⟨rfl,rfl,rfl,by show w.heap.size<=(w.heap.modify blk (onCells (putCells enc 0 dk))++os).size;simp,fun k hk hn=> ?_,fun k ob hk=> ?_,fun k hk=> ?_,Nat.le_add_right _ _⟩
 ·exact qC k hk (fun e=>by rw[e,hb]at hn;cases hn)
 ·show(w.heap.modify blk (onCells (putCells enc 0 dk))++os)[k]? =_;unfold PH.put at hk;split at hk
  ·rename_i e;subst e;cases hk;rw[eX aA,mB,if_pos rfl,hwb];rfl
  ·rename_i e;rw[qC k (Di (hw _ _ hk)) e];exact hw _ _ hk
 ·unfold PH.put at hk;split at hk
  ·rename_i e;subst e;left;rw[hb];simp
  ·exact .inl hk
theorem d0d {g:Nat} {cb:Array Value} {cf:α->α->Int} {size:Nat} {w:World} (hw:H.In w) (hb:H blk=some (.cells cur T (0,0))) (pY:Pl B H) (hn:B blk=none) (h:∀x y,Ae P g (enc x::enc y::cb.toList) B (.int .i64 (cf x y))):CmpLays1 P g cb enc cf blk 0 size w:=fun m os dk _ x y=>by
 have hs:=UN (enc:=enc) hw hb m dk os;have hB:B.In (sortWorld enc w blk 0 m dk os):=fun b ob hk=>hs.holds b ob (by
  rw[PH.put_ne _ _ (fun e=>by rw[e,hn]at hk;cases hk)];exact pY _ _ hk)
 have h1:=h x y _ hB;have ha:(enc x::enc y::cb.toList).toArray= #[enc x,enc y]++cb:=by
  rw[<-cI];simp
 rw[ha]at h1;refine h1.mono fun e w' ⟨v,H',he,qI,hl,hv⟩=>⟨by rw[he,hv],d0c (qI.toExt hB hl)⟩
theorem c5M {ρ:Ren} (L:SlLaysF.n6 P ρ) (h1:OneCell enc) {cf:α->α->Int} (hO:SWO (ltOf cf)) {g:Nat} {cb:Array Value} {cap:Nat} (eg:Da P g=true) (hb:H blk=some (.cells cur T (0,0))) (a0k:cur.toList.take d.size=d.toList.map enc) (rR:d.size<4611686018427387904)
  (pY:Pl B H) (hn:B blk=none) (h:∀x y,Ae P g (enc x::enc y::cb.toList) B (.int .i64 (cf x y))):
  Con P (ρ.f 6) [.slice (some ⟨blk,0,none⟩) d.size cap,.func (.func g) #[] cb] H fun v H'=>v= .tuple #[]/\∃d':Array α,d'.size=d.size/\d'.toList.Perm d.toList/\SortedIn (ltOf cf) 0 d.size d'/\H'=H.put blk (.cells (putCells enc 0 d' cur) T (0,0)):=fun w hw=>by
 have hwb:=hw _ _ hb;have hH:Holds enc w blk 0 d:=fun j hj=>by
  have vG:cur.toList[j]? =some (enc d[j]!):=by
   have:(cur.toList.take d.size)[j]? =cur.toList[j]?:=dO hj;rw[<-this,a0k,bO,cT,dU hj,getElem!_pos d j hj];rfl
  constructor
  ·rw[bK];unfold World.cell?;simp only[hwb];rw[if_neg aD,<-cT,vG]
  ·unfold World.frozen?;simp[hwb]
 have hc:=Any.slices_SortFunc L enc h1 cf hO g cb blk 0 cap d w (fj eg) (d0d hw hb pY hn h) hH (Di hwb) rR;refine hc.mono fun e w' ⟨he,d',n,os,hp,hs,rP⟩=>⟨.tuple #[],_,he,by rw[rP];exact UN hw hb n d' os,rfl,d',hp.1,?_,hs,rfl⟩;have:=hp.2.2;have e1:d'.extract 0 d.size=d':=by rw[<-hp.1];simp
 have e2:d.extract 0 d.size=d:=aD
 rwa[e1,e2]at this
end
end Go.RX
namespace Go.Z
open Proofs Tryz RowKit RX GS RZ Go.Sort
theorem qe:∀l m k:List Int,(s7 l m<0->s7 m k<0->s7 l k<0)/\(0<=s7 l m->0<=s7 m k->0<=s7 l k)
 |[],[],[]=>by simp[s7]
 |[],[],_::_=>by simp[s7]
 |[],_::_,[]=>by simp[s7]
 |[],_::_,_::_=>by simp[s7]
 |_::_,[],[]=>by simp[s7]
 |_::_,[],_::_=>by simp[s7]
 |_::_,_::_,[]=>by simp[s7]
 |x::l,y::m,z::k=>by
  have ih:=qe l m k;simp only[s7,Dw]
  grind
theorem CY:∀l:List Int,s7 l l=0
 |[]=>rfl
 |x::l=>by simp[s7,Dw,CY l]
theorem d5J {α:Type} (f:α->List Int):SWO (ltOf fun x y=>s7 (f x) (f y)) where
 irrefl x:=by show decide (s7 (f x) (f x)<0)=false;rw[CY];rfl
 trans x y z h1 h2:=by
  exact oDd ((qe _ _ _).1 (oDt h1) (oDt h2))
 ntrans x y z h1 h2:=by
  have h1:¬s7 (f x) (f y)<0:=oDf h1;have h2:¬s7 (f y) (f z)<0:=oDf h2;have:=(qe (f x) (f y) (f z)).2 aA aA;exact decide_eq_false (by show ¬s7 (f x) (f z)<0;omega)
section
variable {H:PH} {u v:Value} {l m:List Int}
theorem c5N (hu:SI H u l) (hv:SI H v m):Asks prog 50 [u,v] H (ii (s7 l m)):=by
 refine i9 mixed c8L ?_;have hl:=hu.len;have hm:=hv.len;refine j1 el_plan hu ?_;refine Bf (α:=Nat×Int) (fun⟨i,p⟩=>[ii p,ii (i:Nat)]) (fun⟨i,p⟩=>i<=l.length/\s7 (l.drop i) (m.drop i)=s7 l m) (fun⟨i,p⟩=>l.length-i) ((0,0)) rfl (⟨bI _,rfl⟩) fun⟨i,p⟩ hQ=> ?_;obtain⟨hi,hc⟩:=hQ;refine d9 (d9 ?_);refine g7 (b:=decide (((i:Nat):Int)<(l.length:Nat))) rfl (fun h=> ?_) (fun h=> ?_)
 ·replace h:=oDt h;have qB:i<l.length:=aA;obtain⟨x,hx,tK⟩:=m7 qB;refine j4 el_plan hu hx fun _=> ?_;refine j1 el_plan hv ?_;refine d9 ?_;refine g7 (b:=decide (((i:Nat):Int)≥(m.length:Nat))) rfl (fun h2=> ?_) (fun h2=> ?_)
  ·replace h2:=oDt h2;have:m.drop i=[]:=eD aA;rw[tK,this]at hc;exact g6 rfl ⟨rfl,by rw[<-hc];rfl⟩
  ·replace h2:=oDf h2;obtain⟨y,hy,wO⟩:=m7 (l:=m) (i:=i) aA;refine j4 el_plan hv hy fun _=> ?_;rw[tK,wO]at hc;refine y8 (LQ x y) rfl ?_;refine d9 ?_;refine j8 (p:=(Dw x y≠0)) (by show Value.bool (Dw x y !=0)=_;congr 1;by_cases e:Dw x y=0<;>simp[e]) (fun h3=> ?_) fun h3=> ?_
   ·exact g6 rfl ⟨rfl,by rw[<-hc];simp only[s7];rw[if_pos h3];rfl⟩
   ·exact⟨(i+1,p),by show l.length-(i+1)<l.length-i;omega,(i7 rfl (i6 rfl aA)),⟨⟨by show i+1<=_;omega,by rw[<-hc];simp only[s7];rw[if_neg h3]⟩,rfl⟩⟩
 ·replace h:=oDf h;have pY:i=l.length:=aA;subst pY;rw[List.drop_length]at hc;refine j1 el_plan hu ?_;refine j1 el_plan hv ?_;refine d9 (d9 ?_);refine g7 (b:=decide (((l.length:Nat):Int)<(m.length:Nat))) rfl (fun h2=> ?_) (fun h2=> ?_)
  ·replace h2:=oDt h2;obtain⟨y,hy,wO⟩:=m7 (l:=m) (i:=l.length) aA;rw[wO]at hc;exact g6 rfl ⟨rfl,by rw[<-hc];rfl⟩
  ·replace h2:=oDf h2;have:m.drop l.length=[]:=eD aA;rw[this]at hc;exact g6 rfl ⟨rfl,by rw[<-hc];rfl⟩
theorem c0u (hu:SI H u l) (hv:SI H v m):Asks prog 49 [u,v] H (ii (s7 l m)):=by
 refine i9 mixed c3i ?_;refine s6 (c5N hu hv) rfl ?_;exact g6 rfl ⟨rfl,rfl⟩
theorem c0v:Da prog 49=true:=aB
end
section
variable {B H:PH} {v:Value} {l:List Slc} {cont:Slc->List Int}
theorem d0e {α:Type} [Inhabited α] {enc:α->Value} (d:Array α) (c:Array Value) (h:d.size<=c.size):(putCells enc 0 d c).toList.take d.size=d.toList.map enc:=by
 apply bG;intro i;by_cases hi:i<d.size
 ·rw[dO hi,cT];unfold putCells;rw[Array.getElem?_mapIdx,dU aA];simp[hi]
 ·rw[aW (by simp;omega),aW (by simp;omega)]
theorem c5O (pY:Pl B H) (ho:SO B H 33 1 (fun s:Slc=>[vs s]) v l) (h0:l≠[]) (hl:l.length<4611686018427387904) (hp:∀s∈l,SI B (vs s) (cont s)):
  Con prog 48 [v,.func (.func 49) #[] #[]] H fun _ H'=>Pl B H'/\∃m:List Slc,m.Perm l/\(m.map cont).Pairwise (fun a b=>¬s7 b a<0)/\SO B H' 33 1 (fun s:Slc=>[vs s]) v m:=by
 obtain⟨h1,⟨_,h2⟩|⟨g,cap,cur,rfl,hB,hH,sL,rY,zY,hc4⟩⟩:=ho
 ·exact absurd (aI h2) h0
 rw[dN]at zY hc4;have hfm:∀k:List Slc,(k.flatMap fun s:Slc=>[vs s])=k.map vs:=fun k=>by
  induction k with
  |nil=>rfl
  |cons a k ih=>rw[eA,ih];rfl
 rw[hfm]at hc4
 haveI:Inhabited {s:Slc//s∈l}:=⟨⟨l.head h0,List.head_mem h0⟩⟩
 have hds:l.attach.toArray.size=l.length:=aD;have a0x:=c5M (P:=prog) (ρ:=Proofs.Tryz.srtL_ren) (α:={s:Slc//s∈l}) (enc:=fun x=>vs x.1) (H:=H) (B:=B) (blk:=g) (cur:=cur) (T:=33) (d:=l.attach.toArray) Proofs.Tryz.srtL aE (d5J fun x:{s:Slc//s∈l}=>cont x.1) (g:=49) (cb:= #[]) (cap:=cap) c0v hH
  (by rw[hds,hc4,iF,show(fun x:{s:Slc//s∈l}=>vs x.1)=vs ∘ Subtype.val from rfl,<-cZ,lF]) aA pY hB (fun x y=>(c0u (hp _ x.2) (hp _ y.2)).give)
 rw[hds]at a0x;refine Con.mono a0x ?_;rintro _ H' ⟨rfl,d',hs,tQ,hso,rfl⟩;refine⟨fun k ob hk=> ?_,d'.toList.map (·.1),?_,?_,?_⟩
 ·rw[PH.put_ne _ _ (fun e=>by rw[e,hB]at hk;cases hk)];exact pY _ _ hk
 ·have:=tQ.map (·.1)
  rwa[iF,lF]at this
 ·rw[cZ,List.pairwise_map,cU];intro i j hi hj tG;have:=hso i j (bI _) tG (by simp at hj;omega);unfold ltOf at this;rw[decide_eq_false_iff_not]at this;rw[getElem!_pos d' i (by simpa using hi),getElem!_pos d' j (by simpa using hj)]at this;simpa using this
 ·have hln:(d'.toList.map (·.1)).length=l.length:=by rw[aX,dC,hs]
  refine⟨by rw[hfm];simp,.inr ⟨g,cap,putCells (fun x:{s:Slc//s∈l}=>vs x.1) 0 d' cur,by rw[hln],hB,PH.put_self _ _ _,by rw[hln];exact sL,rY,by unfold putCells;rw[Array.size_mapIdx,zY,dN],?_⟩⟩;rw[hln,dN,hfm,cZ,<-hs,d0e d' cur aA];rfl
end
open Go.WD (BP Bt wd rs toI HM sgI Rb)
def shc (p:Nat×Nat):List Value:=(shv p.1 p.2).cells.toList
theorem el_sha:El prog 49 58 16 true shc (fun p:Nat×Nat=>shv p.1 p.2) where
 und:=aB
 has:=aB
 cel:=aB
 agg:=aB
 pos:=aC
 one1:=fun h=>by cases h
 small:=aC
 inf:=⟨(prog.info? 58).getD default,shv 0 0,aB,aB,aB,rfl,oDt aB⟩
 len:=fun p=>by show(shv p.1 p.2).cells.toList.length=16;rw[dC];exact(Dx p.1 p.2).1
 val:=fun p=>rfl
 cells:=fun p=>rfl
 one:=fun p c hc=>(Dx p.1 p.2).2 c hc
theorem d8R:Ag prog 112 12:=⟨aB,aB,aB⟩
section
variable {H H0 H':PH} {u v w wts:Value} {p wl:List Int} {n k:Nat} {es:List (Nat×Nat)} {lo hi ds:Int}
theorem d5K:∀x∈Ap es wl lo hi n k p,∃q:List Int,q.length=p.length/\x.1=j5 q:=by
 have h:∀x∈Bc es wl lo hi n k p,∃q:List Int,q.length=p.length/\x.1=j5 q:=fun x hx=>by
  obtain⟨pr,_,a,_,_,_,_,_,h6,_⟩:=(bf x hx).ex;exact⟨_,by unfold Ad;rw[Fe];unfold Ax;rw[List.length_mapIdx],h6⟩
 intro x hx;unfold Ap at hx;split at hx
 ·rcases ap (x:=x.1) (y:=x.2) hx with⟨h1,_⟩|⟨_,h2⟩
  ·exact⟨p,rfl,h1⟩
  ·exact h _ h2
 ·exact h _ hx
theorem UO {q:List Int}:(j5 q).take q.length=q:=by unfold j5;simp
theorem UP {α:Type} {ce:α->List Value} {l:List α} (h:SO H0 H 3 1 ce v l) (hp:H'=H\/∃g ob,H0 g=none/\H'=H.put g ob/\(H g=none\/∃cs,H g=some (.cells cs 33 (0,0)))):SO H0 H' 3 1 ce v l:=by
 rcases hp with rfl|⟨g,ob,_,rfl,hg⟩
 ·exact h
 ·obtain⟨h1,h2|⟨g',cap,cur,h2,h3,h4,h5⟩⟩:=h
  ·exact⟨h1,.inl h2⟩
  ·refine⟨h1,.inr ⟨g',cap,cur,h2,h3,?_,h5⟩⟩;rw[PH.put_ne _ _ (fun e=> ?_)]
   ·exact h4
   ·subst e;rcases hg with hg|⟨cs,hg⟩
    ·rw[hg]at h4;cases h4
    ·rw[hg]at h4
     injection h4 with h4
     injection h4 with _ h4 _
     exact absurd h4 aC
theorem d5L {q r clock:Nat} {E:List (List Int×Value×Nat)} {seen:List Nat} (h:IT kV H q r E clock seen) (hp:H'=H\/∃g ob,H0 g=none/\H'=H.put g ob/\(H g=none\/∃cs,H g=some (.cells cs 33 (0,0)))):IT kV H' q r E clock seen:=by
 rcases hp with rfl|⟨g,ob,_,rfl,hg⟩
 ·exact h
 ·refine⟨?_,?_⟩
  ·rw[PH.put_ne _ _ (fun e=> ?_)]
   ·exact h.1
   ·subst e;rcases hg with hg|⟨cs,hg⟩
    ·have:=h.1;rw[hg]at this;cases this
    ·have:=h.1;rw[hg]at this;cases this
  ·rw[PH.put_ne _ _ (fun e=> ?_)]
   ·exact h.2
   ·subst e;rcases hg with hg|⟨cs,hg⟩
    ·have:=h.2;rw[hg]at this;cases this
    ·have:=h.2;rw[hg]at this;cases this
theorem UQ {α:Type} {e:TypeId} {sz q:Nat} {ce:α->List Value} {l:List α} {a:Option Nat} {b c:Nat} {d:Array Nat} {ob:Obj} (h:SO H0 H e sz ce v l) (hq:H q=some (.mapIter a b d c)):SO H0 (H.put q ob) e sz ce v l:=by
 obtain⟨h1,h2|⟨g',cap,cur,h2,h3,h4,h5⟩⟩:=h
 ·exact⟨h1,.inl h2⟩
 ·exact⟨h1,.inr ⟨g',cap,cur,h2,h3,by rw[PH.put_ne _ _ (fun e=>by subst e;rw[hq]at h4;cases h4)];exact h4,h5⟩⟩
theorem d5M:prog.underlying 112=some (.array 12 3):=aB
theorem d5N:w9 prog 3=true:=aB
theorem d8S {b:Nat} {l:List Int} {T:TypeId} (hb:H b=none) (hl:l.length=12) (hn:n<=12):SI (H.put b (.cells (l.map ii).toArray T (0,0))) (.slice (some ⟨b,0,none⟩) (n:Int).toNat 12) (l.take n):=by
 have hm:∀l:List Int,(l.flatMap fun z:Int=>[ii z])=l.map ii:=fun l=>by
  induction l with
  |nil=>rfl
  |cons a l ih=>rw[eA,ih];rfl
 have hln:(l.take n).length=n:=by rw[bM];omega
 refine⟨by rw[hm];simp,some ⟨b,0,none⟩,12,by rw[hln,aV],by rw[hln];exact hn,aC,.inr ⟨b,0,_,_,_,rfl,PH.put_self _ _ _,?_⟩⟩;rw[hm,hln,iF,cH,dN,List.map_take]
theorem d5O {β:Type} (L:List (List Int×β)) (x:List Int) (y:β):Cb L x y≠[]:=fun h=>by
 have:=c9S (L:=L) (k:=x) (v:=y);rw[h]at this;cases this
theorem d8T:Ap es wl lo hi n k p≠[]:=by
 unfold Ap;split
 ·exact d5O _ _ _
 ·rename_i h;intro e;rw[e]at h;exact h (by rw[bJ,sQ];grind)
theorem d5P (qS:p.length=n) (hn:n<=12) (uM:k<=8):(Ap es wl lo hi n k p).length<=2^20+1:=by
 have wV:=Vq k uM;have hOl:(Bc es wl lo hi n k p).length<=2^20:=by
  refine bD (TD (es:=es) (wl:=wl) (lo:=lo) (hi:=hi) (n:=n) (k:=k) (p:=p) fun pr _=>Wp qS aA pr) ?_;exact bD (bU wV (aR aC hn)) aC
 unfold Ap;split
 ·exact bD (SZ _ _ _) aA
 ·omega
theorem d5Q {α:Type} {e:TypeId} {sz:Nat} {ce:α->List Value} {l:List α} (h:SO H0 H e sz ce v l) (hl:l≠[]):∃g,H0 g=none/\(∃cur,H g=some (.cells cur e (0,0)))/\SO (j9 H g) H e sz ce v l:=by
 obtain⟨h1,⟨_,h2⟩|⟨g,cap,cur,h2,h3,h4,h5⟩⟩:=h
 ·exact absurd (aI h2) hl
 ·exact⟨g,h3,⟨cur,h4⟩,h1,.inr ⟨g,cap,cur,h2,by unfold j9;rw[if_pos rfl],h4,h5⟩⟩
theorem d5R (H:PH) (g:Nat):Pl (j9 H g) H:=fun k o hk=>by
 unfold j9 at hk;split at hk
 ·cases hk
 ·exact hk
theorem d5S {g:Nat} {cur:Array Value} {l:List Int} (h:SO H0 H 3 1 (fun z:Int=>[ii z]) v l) (hg:H g=some (.cells cur 33 (0,0))):SI (j9 H g) v l:=by
 have:SO H0 (j9 H g) 3 1 (fun z:Int=>[ii z]) v l:=by
  obtain⟨h1,h2|⟨g',cap,cur',h2,h3,h4,h5⟩⟩:=h
  ·exact⟨h1,.inl h2⟩
  ·refine⟨h1,.inr ⟨g',cap,cur',h2,h3,?_,h5⟩⟩;unfold j9;rw[if_neg (fun e=> ?_)]
   ·exact h4
   ·subst e;rw[hg]at h4
    injection h4 with h4
    injection h4 with _ h4 _
    exact absurd h4 aC
 exact this.se
open Classical in
noncomputable def Dh (B:PH) (s:Slc):List Int:=if h:∃p,SI B (vs s) p then pT h else[]
theorem Hn {s:Slc} (h:SI H (vs s) p):Dh H s=p:=by
 have he:∃p,SI H (vs s) p:=⟨p,h⟩;unfold Dh;rw[dif_pos he];exact UF (pU he) h
def tok (r:Rat):Bool:=decide ((-(HM:Int)<=r.num/\r.num<HM)/\(r.den:Int)<HM)
def tpr (r:Rat):Nat×Nat:=(rs r.num,rs (r.den:Int))
theorem d0f {r:Rat} (h:tok r=true):Ee r= .tuple #[shv (tpr r).1 (tpr r).2,ii 0]:=if_pos (oDt h)
theorem d5T {r:Rat} (h:tok r=false):Ee r= .tuple #[shv 0 0,ii 6]:=if_neg (oDf h)
theorem UR (r:Rat):∃(n d:Nat) (e:Int),Ee r= .tuple #[shv n d,ii e]/\((tok r=true/\e=0/\(n,d)=tpr r)\/(tok r=false/\e=6)):=by
 cases h:tok r with
 |true=>exact⟨_,_,0,d0f h,.inl ⟨rfl,rfl,rfl⟩⟩
 |false=>exact⟨_,_,6,d5T h,.inr ⟨rfl,rfl⟩⟩
def Tj (H':PH) (n:Nat) (es:List (Nat×Nat)) (wl:List Int) (lo hi ds:Int) (p:List Int) (r:Value):Prop:=
 (smE n es wl lo hi ds [p]≠0/\r= .tuple #[.slice none 0 0,.slice none 0 0,ii (smE n es wl lo hi ds [p])])\/
 (smE n es wl lo hi ds [p]=0/\∃ps:List (List Int),ps.Perm ((Ap es wl lo hi n ds.toNat (j6 p)).map fun x=>x.1.take n)/\ps.Pairwise (fun a b=>¬s7 b a<0)/\
  (((∀q∈ps,tok (vO (Ap es wl lo hi n ds.toNat (j6 p)) (j5 q))=true)/\∃(pv ov:Value) (m:List Slc) (cont:Slc->List Int),r= .tuple #[pv,ov,ii 0]/\SE H' 1 (fun s:Slc=>[vs s]) pv m/\m.map cont=ps/\(∀s∈m,SI H' (vs s) (cont s))/\SE H' 16 shc ov (ps.map fun q=>tpr (vO (Ap es wl lo hi n ds.toNat (j6 p)) (j5 q))))\/
   ((∃q∈ps,tok (vO (Ap es wl lo hi n ds.toNat (j6 p)) (j5 q))=false)/\r= .tuple #[.slice none 0 0,.slice none 0 0,ii 6])))
set_option maxHeartbeats 1000000 in
theorem CZ (hT:Tb H) (hw:SG H w es) (hg:GV n es) (qO:SI H wts wl) (hu:SI H u p):Con prog 12 [gv n w,bv wts lo hi ds,u] H fun r H'=>Pl H H'/\Tj H' n es wl lo hi ds p r:=by
 refine i9 mixed c9a ?_;obtain⟨s1,rfl⟩:=Ec hu;unfold Tj;refine d4 (t8 hw) ?_;refine d4 (Cj (u0 qO) _ _ _) ?_;refine Me Ba (a:=s1) rfl rfl rfl fun v3 H1 l1 o1 _=> ?_;refine y9 (UE (cont:=fun _=>p) (hT.mono l1) (hw.mono l1) hg (qO.mono l1) o1.se (fun s hs=>by rw[aL.1 hs];exact hu.mono l1)) rfl fun H2 l2=> ?_;refine d9 ?_;refine j8 (p:=(smE n es wl lo hi ds [p]≠0)) (bN _ _) (fun h0=> ?_) fun h0=> ?_
 ·exact g6 rfl ⟨l1.trans l2,.inl ⟨h0,rfl⟩⟩
 ·have h0:=bB h0;obtain⟨sN,vQ,hft⟩:=pz h0;have hb:=Ni sN;obtain⟨k,rfl,vM,uM,qS,hL,hU,rX⟩:=Ws (hft p (.head _));refine g9 (oh (hu.mono (l1.trans l2)) ⟨fun x hx=>by have:=hL.1 x hx;omega,hL.2⟩) rfl ?_;rintro _ H3 ⟨l3,z,rfl,hz⟩;refine nmI ?_;have l03:=(l1.trans l2).trans l3;refine i8 (i8 ?_);refine g9 (TN (p:=j6 p) (k:=k) (lo:=lo) (hi:=hi) ⟨hT.mono l03,hw.mono l03,hg,qO.mono l03,hb.1,hb.2.2.2.2.2⟩ hz.se vQ rX (by rw[Fe];exact qS) vM uM (ab hL hU) (ml hL hU)) rfl ?_;rintro v6 H5 ⟨l5,m5⟩;refine nmI ?_;have l05:=l03.trans l5;simp only[aV];have hAl:(Ap es wl lo hi n k (j6 p)).length<=2^20+1:=d5P (by rw[Fe];exact qS) vQ uM;have hA0:Ap es wl lo hi n k (j6 p)≠[]:=d8T;have hAn:((Ap es wl lo hi n k (j6 p)).map (·.1)).Nodup:=Wu;have hAk:=d5K (es:=es) (wl:=wl) (lo:=lo) (hi:=hi) (n:=n) (k:=k) (p:=j6 p);generalize hA:Ap es wl lo hi n k (j6 p)=A at m5 hAl hA0 hAn hAk⊢;obtain⟨V,⟨r,es0,clock,rfl,hHr,xU,hE,tC⟩,yK,hrp⟩:=m5;have hes:es0.map (·.1)=A.map (·.1):=by rw[<-yK,<-tC];unfold kvN;rw[cZ];rfl
  have tB:es0.length=A.length:=by have:=congrArg List.length hes;simpa using this
  refine t7 (SJ (κ:=List Int) (ke:=kV) (vs:=[.map (some r)]) rfl rfl Wm xU) rfl ?_;rintro _ _ ⟨q,hq,rfl,rfl⟩;refine nmI ?_;have yX:r≠q:=fun e=>by subst e;rw[xU]at hq;cases hq
  have hI0:IT kV (H5.put q (.mapIter (some r) clock #[] clock)) q r es0 clock []:=⟨PH.put_self _ _ _,by rw[PH.put_ne _ _ yX];exact xU⟩;refine s8 (α:=List Nat×List (Slc×List Int)×Value) (fun⟨seen,ls,v8⟩=>[v8]) (fun⟨seen,ls,v8⟩=>fun H'=>Pl H5 H'/\IT kV H' q r es0 clock seen/\SO H5 H' 33 1 (fun s:Slc=>[vs s]) v8 (ls.map (·.1))/\(∀x∈ls,SO H5 H' 3 1 (fun z:Int=>[ii z]) (vs x.1) x.2)/\(ls.map (·.2)++(left es0 seen).map fun e=>e.1.take n).Perm (es0.map fun e=>e.1.take n)) (fun⟨seen,ls,v8⟩=>(left es0 seen).length) (([],[],.slice none 0 0)) rfl (⟨PH.le_put hq _,hI0,SO.nil _ _ _ _ _,(fun x hx=>by cases hx),by rw[TJ];exact pN _⟩) fun⟨seen,ls,v8⟩ H4 ⟨l4,it4,o8,hct,tQ⟩=> ?_;refine t7 (SK (ok:=okK) (ke:=kV) (vs:=[.pointer (some ⟨q,0,none⟩)]) rfl rfl hE it4) rfl ?_;rintro v9 H6 uY;refine nmI ?_;obtain⟨b,x,y,rfl,rJ⟩:=TG uY;refine d4 (TF b x y) ?_;refine d4 ⟨b,pt b x y⟩ ?_;refine g7 (b:=b) (pt b x y) (fun qX=> ?_) (fun qX=> ?_)
  ·skip
   obtain⟨e,he,rfl,rfl,rfl⟩:∃p∈left es0 seen,x=kV p.1/\y=p.2.1/\H6=H4.put q (.mapIter (some r) clock (seen++[p.2.2]).toArray clock):=by
    rcases rJ with⟨h,_⟩|⟨_,h⟩
    ·rw[qX]at h;cases h
    ·exact h
   subst qX;have heE:e∈es0:=(bT.1 he).1;have a1y:e.1.length=12:=(hE.oks e heE).1;have hqi:=it4.1;have it5:IT kV (H4.put q (.mapIter (some r) clock (seen++[e.2.2]).toArray clock)) q r es0 clock (seen++[e.2.2]):=⟨PH.put_self _ _ _,by rw[PH.put_ne _ _ yX];exact it4.2⟩;have l5':Pl H5 (H4.put q (.mapIter (some r) clock (seen++[e.2.2]).toArray clock)):=fun b' ob' sD=>by rw[PH.put_ne _ _ (fun e=>by subst e;rw[hq]at sD;cases sD)];exact l4 _ _ sD
   have o8':=UQ (ob:= .mapIter (some r) clock (seen++[e.2.2]).toArray clock) o8 hqi;have a3n:∀x∈ls,SO H5 (H4.put q (.mapIter (some r) clock (seen++[e.2.2]).toArray clock)) 3 1 (fun z:Int=>[ii z]) (vs x.1) x.2:=fun x hx=>UQ (hct x hx) hqi;generalize H4.put q (.mapIter (some r) clock (seen++[e.2.2]).toArray clock)=H7 at it5 l5' o8' a3n⊢;refine t7 (Rds.opn' (SN (ok:=okK) (ke:=kV) (vs:=[.pointer (some ⟨q,0,none⟩)]) rfl rfl hE heE it5)) rfl ?_;rintro _ _ ⟨rfl,rfl⟩;refine nmI ?_;refine i8 ?_;simp only[cA,nA];refine Gm (cs:=(List.replicate 12 (ii 0)).toArray) aB fun b sD=> ?_;refine kh (vs:=e.1.map ii) (by rw[aX,a1y];exact d8R) rfl rfl rfl (PH.put_self _ _ _) (by simp[a1y]) (fun c hc=>by obtain⟨z,_,rfl⟩:=aY.1 hc;rfl) rfl (fun h=>(nomatch h)) ?_;rw[PH.put_put];simp only[cA,nA];refine j7 ((C1 (n:=12) (l:=(n:Int)) (vs:=[.pointer (some ⟨b,0,none⟩),ii (n:Nat)]) rfl rfl rfl d5M d5N aA aA).rds _) rfl ?_;refine g9 (QZ (d8S sD a1y vQ) (by rw[bM];omega)) rfl ?_;rintro v14 H8 ⟨l8,o14⟩;refine nmI ?_;obtain⟨s2,rfl⟩:=Ec o14.se;simp only[cA,nA];refine Me Ba (a:=s2) rfl rfl rfl fun v15 H9 l9 o15 _=> ?_;have l79:=(PH.le_put sD _).trans (l8.trans l9);refine Pj Ba rfl rfl rfl (l5'.trans l79) (o8'.mono l79) o15.se (by have:=tQ.length_eq;simp only[aM,aX,eV]at this⊢;omega) rfl rfl fun v16 H11 l11 o11 rD=> ?_;obtain⟨la,lb,xN,yW⟩:=TK (hE.asc.imp fun h=>Nat.ne_of_lt h) he;simp only[cA,nA];exact⟨(seen++[e.2.2],ls++[(s2,e.1.take n)],v16),by show(left es0 (seen++[e.2.2])).length<(left es0 seen).length;rw[xN,yW];simp,rfl,⟨l11,d5L (TM it5 l79) rD,by rw[aT];exact o11,(fun x hx=>by rw[aQ]at hx;rcases hx with hx|hx;(exact UP ((a3n x hx).mono l79) rD);(rw[aL]at hx;subst hx;exact UP ((o14.less (l5'.trans (PH.le_put sD _))).mono l9) rD)),by rw[xN]at tQ;rw[yW];simp only[aT,aN,bJ,bH,cL,cB]at tQ⊢;exact(pV _ (List.perm_middle (l₁:=la.map fun e=>e.1.take n)).symm).trans tQ⟩⟩
  ·skip
   obtain⟨a1x,h54⟩:left es0 seen=[]/\H6=H4:=by
    rcases rJ with⟨_,h⟩|⟨h,_⟩
    ·exact h
    ·rw[qX]at h;cases h
   rw[h54];rw[a1x,bJ,bQ]at tQ;have hl0:ls≠[]:=fun e=>by rw[e]at tQ;have:=tQ.length_eq;simp only[aX,bX]at this;exact hA0 (aI aA)
   have uE:ls.length=A.length:=by have:=tQ.length_eq;simp only[aX]at this;omega
   obtain⟨g,hg5,⟨cur,hg4⟩,o8c⟩:=d5Q o8 (by simpa using hl0);have hsi:∀x∈ls,SI (j9 H4 g) (vs x.1) x.2:=fun x hx=>d5S (hct x hx) hg4;refine g9 (c5O (B:=j9 H4 g) (cont:=Dh (j9 H4 g)) (d5R _ _) o8c (by simpa using hl0) (by rw[aX];omega) (fun s hs=>by obtain⟨x,hx,rfl⟩:=aY.1 hs;rw[Hn (hsi x hx)];exact hsi x hx)) rfl ?_;rintro _ H12 ⟨l12,m,hmp,tV,o12⟩;refine nmI ?_;have hmS:∀s∈m,SI (j9 H4 g) (vs s) (Dh (j9 H4 g) s):=fun s hs=>by
    obtain⟨x,hx,rfl⟩:=aY.1 (hmp.mem_iff.1 hs);rw[Hn (hsi x hx)];exact hsi x hx
   have qM:ls.map (·.2)=(ls.map (·.1)).map (Dh (j9 H4 g)):=by
    rw[cZ];exact bW fun x hx=>(Hn (hsi x hx)).symm
   have a6c:(es0.map fun e=>e.1.take n)=A.map fun x=>x.1.take n:=by have:=congrArg (List.map (List.take n)) hes;rw[cZ,cZ]at this;exact this
   have hpA:(m.map (Dh (j9 H4 g))).Perm (A.map fun x=>x.1.take n):=(hmp.map _).trans (by rw[<-qM,<-a6c];exact tQ);have hkA:∀s∈m,(Dh (j9 H4 g) s).length=n/\j5 (Dh (j9 H4 g) s)∈A.map (·.1):=fun s hs=>by
    obtain⟨x,hx,e⟩:=aY.1 (hpA.mem_iff.1 (aY.2 ⟨s,hs,rfl⟩));obtain⟨q',vB,wH⟩:=hAk x hx;rw[Fe]at vB;have h3:Dh (j9 H4 g) s=q':=by rw[<-e,wH,<-qS,<-vB];exact UO
    rw[h3];exact⟨aA,aY.2 ⟨x,hx,wH⟩⟩
   have a1z:H12 r=some (.map (eN kV es0).toArray clock):=l12 _ _ (by unfold j9;rw[if_neg (fun e=>by subst e;rw[it4.2]at hg4;cases hg4)];exact it4.2);have l5B:Pl H5 (j9 H4 g):=fun b' ob' h=>by
    have:=l4 _ _ h;unfold j9;rw[if_neg (fun e=>by subst e;rw[h]at hg5;cases hg5)];exact this
   have lH12:Pl H H12:=fun b' ob' sD=>l12 _ _ (by have h1:=l4 _ _ (l05 _ _ sD);unfold j9;rw[if_neg (fun e=>by subst e;rw[l05 _ _ sD]at hg5;cases hg5)];exact h1);refine Ji Ba rfl rfl o12.se rfl ?_;refine s8 (α:=Nat×List (Nat×Nat)×Value) (fun⟨i,sh,v14⟩=>[v8,ii 0,v14,ii (i:Nat)]) (fun⟨i,sh,v14⟩=>fun H'=>i<=m.length/\Pl H12 H'/\SO H12 H' 58 16 shc v14 sh/\sh=((m.take i).map fun s=>tpr (vO A (j5 (Dh (j9 H4 g) s))))/\∀s∈m.take i,tok (vO A (j5 (Dh (j9 H4 g) s)))=true) (fun⟨i,sh,v14⟩=>m.length-i) ((0,[],.slice none 0 0)) rfl (⟨bI _,Pl.refl _,SO.nil _ _ _ _ _,rfl,fun s hs=>by cases hs⟩) fun⟨i,sh,v14⟩ H13 ⟨hi,l13,o13,hsh,vA⟩=> ?_;refine d9 (d9 ?_);refine g7 (b:=decide (((i:Nat):Int)<(m.length:Nat))) rfl (fun h=> ?_) (fun h=> ?_)
   ·replace h:=oDt h;have qB:i<m.length:=aA;obtain⟨s,hs,_⟩:=m7 qB;have vC:=aG hs;obtain⟨hkl,hkm⟩:=hkA s vC;simp only[cA,nA];refine j4 Ba (o12.se.mono l13) hs fun _=> ?_;refine g9 (Wj ((hmS s vC).mono (l12.trans l13)) aA) rfl ?_;rintro _ H14 ⟨l14,rfl⟩;refine nmI ?_;generalize wL:Dh (j9 H4 g) s=cc at*;have a6d:∀k v q,(k,v)∈V->(k,q)∈A->Rp H14 v q:=fun k v q a b=>(hrp k v q a b).mono (l5B.trans (l12.trans (l13.trans l14)));obtain⟨b,x,yJ,tX,rG,vY⟩:=UH (V:=V) (L:=A) (κ:=j5 cc) hAn yK a6d;have a6e:okK (j5 cc):=by
     rw[<-hes]at hkm;obtain⟨e,he,h⟩:=aY.1 hkm;rw[<-h];exact hE.oks e he
    have hbt:b=true:=by
     rcases yJ with⟨_,_,h⟩|⟨h,_⟩
     ·exact absurd (by rw[yK];exact hkm) h
     ·exact h
    simp only[cA,nA];refine j7 (SH ar (vs:=[.map (some r),kV (j5 cc)]) (ok2:=false) (k:=j5 cc) (u:=x) (b:=b) rfl rfl rfl Wm a6e UG ⟨r,es0,clock,rfl,(l13.trans l14) _ _ a1z,hE,tC⟩ yJ) rfl ?_;refine g9 (jt (rG hbt)) rfl ?_;rintro u20 H15 ⟨l15,a3o⟩;refine nmI ?_;obtain⟨a7,d7,e7,wJ,ht8⟩:=UR (vO A (j5 cc));rw[wJ]at a3o;subst a3o;refine i8 (i8 ?_);refine d4 (Dx a7 d7) ?_;simp only[cA,nA];refine d9 ?_;refine j8 (p:=(e7≠0)) (bN _ _) (fun he7=> ?_) fun he7=> ?_
    ·have htf:tok (vO A (j5 cc))=false/\e7=6:=by
      rcases ht8 with⟨_,h,_⟩|h
      ·exact absurd h he7
      ·exact h
     obtain⟨htf,he6⟩:=htf;exact g6 rfl ⟨(lH12.trans l13).trans (l14.trans l15),.inr ⟨h0,m.map (Dh (j9 H4 g)),hpA,tV,.inr ⟨⟨cc,aY.2 ⟨s,vC,wL⟩,htf⟩,by rw[he6];rfl⟩⟩⟩
    ·have he7:=bB he7;have xW:tok (vO A (j5 cc))=true/\(a7,d7)=tpr (vO A (j5 cc)):=by
      rcases ht8 with⟨h,_,h2⟩|⟨_,h⟩
      ·exact⟨h,h2⟩
      ·omega
     obtain⟨xW,htp⟩:=xW;refine Me el_sha (a:=(a7,d7)) rfl rfl rfl fun v21 H16 l16 o16 _=> ?_;refine Kr el_sha rfl rfl rfl (((l13.trans l14).trans l15).trans l16) (o13.mono ((l14.trans l15).trans l16)) o16.se (by have:=hmp.length_eq;rw[hsh];simp only[aX,bM,eV]at this⊢;omega) rfl rfl fun v22 H17 l17 o17 rD=> ?_;exact⟨(i+1,sh++[(a7,d7)],v22),(by show m.length-(i+1)<m.length-i;omega),(Hz rfl rfl rfl (i6 rfl (by have:=hmp.length_eq;rw[aX]at this;omega))),⟨(by show i+1<=_;omega),l17,o17,(by show sh++[(a7,d7)]=_;rw[take_snoc hs,aT,<-hsh,htp,<-wL];rfl),fun s' qV=>by rw[take_snoc hs]at qV;rcases aQ.1 qV with h|h;(exact vA s' h);(rw[aL.1 h,wL];exact xW)⟩⟩
   ·replace h:=oDf h;rw[aF aA]at hsh vA;exact g6 rfl ⟨lH12.trans l13,.inr ⟨h0,m.map (Dh (j9 H4 g)),hpA,tV,.inl ⟨(fun q hq=>by obtain⟨s,hs,rfl⟩:=aY.1 hq;exact vA s hs),v8,v14,m,Dh (j9 H4 g),rfl,o12.se.mono l13,rfl,(fun s hs=>(hmS s hs).mono (l12.trans l13)),by rw[cZ];rw[hsh]at o13;exact o13.se⟩⟩⟩
end
end Go.Z

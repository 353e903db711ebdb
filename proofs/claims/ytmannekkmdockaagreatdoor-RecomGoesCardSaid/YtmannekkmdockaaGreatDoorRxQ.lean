/- Lemmas of the proof. -/
import Derived.Test.YtmannekkmdockaaGreatDoorGcC
open Bool renaming and_eq_true->aF,eq_false_iff->mX
open Go.Result renaming andThen_ok->aE
open Go.Sem renaming run_bind->aG,run_pure->aT
open Go.Value.int renaming injEq->kQ
open Int renaming toNat_natCast->bB
open List renaming append_eq_nil_iff->gK,drop_eq_getElem_cons->dI,drop_eq_nil_of_le->dW,ext_getElem?->cU,filter_cons->bX,getElem?_eq_getElem->aA,getElem?_eq_some_iff->aC,getElem?_inj->gZ,getElem?_map->aO,getElem?_set->bS,length_append->aJ,length_map->aR,map_map->cC,mem_append->aV,mem_cons->aL,mem_filter->bJ,mem_iff_getElem?->bP,mem_map->aH,mem_of_getElem?->aI,mem_singleton->aQ,nodup_nil->dO,take_length->kK
open List.Pairwise renaming nil->iF
open Nat renaming add_le_add_left->iI,le_add_right->nN,le_refl->aN,le_trans->aS,mul_comm->cE,pow_le_pow_right->aU,pow_succ->kH,zero_add->bM,zero_le->bI
open Option renaming map_eq_some_iff->cR
open Option.some renaming injEq->aD
open Prod.mk renaming injEq->eB
namespace Go.GS
def inB (set:Nat) (e:Nat×Nat):Bool:=bit set e.1&&bit set e.2
def Bh (es:List (Nat×Nat)) (set i:Nat):Nat:=((es.drop i).filter (inB set)).length
theorem yr {es:List (Nat×Nat)} {set i:Nat} {e:Nat×Nat} (h:es[i]? =some e) (hb:inB set e=true):Bh es set i=Bh es set (i+1)+1:=by
 obtain⟨hi,rfl⟩:=aC.1 h;unfold Bh;rw[dI hi,bX,if_pos hb];rfl
theorem jt (es:List (Nat×Nat)) (set i:Nat):Bh es set (i+1)<=Bh es set i:=by
 unfold Bh;by_cases hi:i<es.length
 ·rw[dI hi,bX];split
  ·simp
  ·exact aN _
 ·rw[dW (by omega),dW (by omega)];exact aN _
theorem MQ (es:List (Nat×Nat)) (set:Nat) {i j:Nat} (h:i<=j):Bh es set j<=Bh es set i:=by
 induction h with
 |refl=>exact aN _
 |step _ ih=>exact aS (jt es set _) ih
def Spn (es:List (Nat×Nat)) (set:Nat) (b:List Int) (j:Nat):Prop:=∀x y,bit set x=true->bit set y=true->Rch (etl es b++(es.drop j).filter (inB set)) set x y
theorem ju {L L':List (Nat×Nat)} {set:Nat} (h:∀e∈L,bit set e.1=true->bit set e.2=true->Rch L' set e.1 e.2) {x y:Nat} (hx:bit set x=true) (hr:Rch L set x y):Rch L' set x y:=by
 induction hr with
 |base=>exact .base
 |step h1 ha hz ih=>
  have hy:=h1.mem hx;obtain⟨e,he,⟨rfl,rfl⟩|⟨rfl,rfl⟩⟩:=ha
  ·exact ih.trans (h e he hy hz)
  ·exact ih.trans ((h e he hz hy).symm hz)
theorem jv {L:List (Nat×Nat)} {set:Nat} {e:Nat×Nat} (he:e∈L) (h2:bit set e.2=true):Rch L set e.1 e.2:=Rch.base.step ⟨e,he,.inl ⟨rfl,rfl⟩⟩ h2
theorem Spn.start {es:List (Nat×Nat)} {set:Nat} (h:Cn es set):Spn es set [] 0:=by
 intro x y hx hy;refine ju (fun e he h1 h2=>jv ?_ h2) hx (h.all hx hy);rw[List.drop_zero,aV];exact .inr (bJ.2 ⟨he,by unfold inB;rw[h1,h2];rfl⟩)
theorem Spn.skip {es:List (Nat×Nat)} {set j:Nat} {b:List Int} {e:Nat×Nat} (h:Spn es set b j) (he:es[j]? =some e) (hn:inB set e=false):Spn es set b (j+1):=by
 obtain⟨hi,rfl⟩:=aC.1 he;intro x y hx hy;have:=h x y hx hy;rw[dI hi,bX,if_neg (by rw[hn];decide)]at this;exact this
theorem Spn.cyc {es:List (Nat×Nat)} {set j:Nat} {b:List Int} {e:Nat×Nat} (h:Spn es set b j) (he:es[j]? =some e) (hr:Rch (etl es b) set e.1 e.2):Spn es set b (j+1):=by
 obtain⟨hi,rfl⟩:=aC.1 he;intro x y hx hy;refine ju (fun a ha h1 h2=> ?_) hx (h x y hx hy);rw[dI hi,bX]at ha;have key:a∈etl es b++(es.drop (j+1)).filter (inB set)\/a=es[j]:=by
  rw[aV]at ha⊢;rcases ha with ha|ha
  ·exact .inl (.inl ha)
  ·split at ha
   ·rcases aL.1 ha with rfl|ha
    ·exact .inr rfl
    ·exact .inl (.inr ha)
   ·exact .inl (.inr ha)
 rcases key with ha|rfl
 ·exact jv ha h2
 ·exact ju (fun a ha h1 h2=>jv (List.mem_append_left _ ha) h2) h1 hr
theorem Spn.take {es:List (Nat×Nat)} {set j:Nat} {b:List Int} (h:Spn es set b j) (hj:j<es.length):Spn es set (b++[(j:Int)]) (j+1):=by
 intro x y hx hy;refine ju (fun a ha h1 h2=>jv ?_ h2) hx (h x y hx hy);have hE:Ed es (j:Int)=es[j]:=by
  have:=Fo hj;rw[aA hj]at this;exact(Option.some.inj this).symm
 rw[Pn,hE];rw[dI hj,bX]at ha;simp only[aV,aQ]at ha⊢;rcases ha with ha|ha
 ·exact .inl (.inl ha)
 ·split at ha
  ·rcases aL.1 ha with rfl|ha
   ·exact .inl (.inr rfl)
   ·exact .inr ha
  ·exact .inr ha
theorem Spn.end {es:List (Nat×Nat)} {set j:Nat} {b:List Int} (hs:set<M64) (h0:set≠0) (h:Spn es set b j) (hj:es.length<=j) (pY:Inn set (etl es b)) (yM:Acy (etl es b) (etl es b).length):(etl es b).length+1=card set:=by
 have h1:One (lab (etl es b)) set:=fun x y hx hy=>by
  rw[Pj pY hx hy];have:=h x y hx hy;rw[dW hj,List.filter_nil,List.append_nil]at this;exact this
 have h2:=(Zs (Lb.lab (etl es b)) hs h0 (Ib pY)).2 h1;have h3:=Vo hs pY (etl es b).length (aN _);rw[kK,h2,(Zr _ (aN _)).2 yM]at h3;omega
structure Beg (es:List (Nat×Nat)) (set:Nat) (b:List Int):Prop where
 asc:b.Pairwise (· < ·)
 ok:∀i∈b,OkI es set i
 acy:Acy (etl es b) (etl es b).length
theorem Beg.nil (es:List (Nat×Nat)) (set:Nat):Beg es set []:=⟨iF,(fun a ha=>by cases ha),(fun i e hi=>by cases hi)⟩
theorem Beg.inn {es:List (Nat×Nat)} {set:Nat} {b:List Int} (h:Beg es set b):Inn set (etl es b):=by
 intro e he;unfold etl at he;rw[aH]at he;obtain⟨i,hi,rfl⟩:=he;exact(h.ok i hi).2.2
theorem Beg.tree {es:List (Nat×Nat)} {set:Nat} {b:List Int} (h:Beg es set b) (hl:b.length+1=card set):TreeOk es set b:=
 ⟨h.asc,h.ok,by have:=h.acy;rw[show(etl es b).length=b.length from aR _]at this;exact this,hl⟩
theorem Beg.snoc {es:List (Nat×Nat)} {set:Nat} {b:List Int} {j:Nat} (hs:set<M64) (h:Beg es set b) (pO:∀i∈b,i<(j:Int)) (pS:OkI es set (j:Nat)) (hr:bit (Jd (etl es b) (Ed es (j:Nat)).1) (Ed es (j:Nat)).2=false):Beg es set (b++[(j:Int)]):=by
 refine⟨yp h.asc pO,?_,?_⟩
 ·intro i hi;rw[aV,aQ]at hi;rcases hi with hi|rfl
  ·exact h.ok i hi
  ·exact pS
 ·rw[Pn,aJ];refine h.acy.snoc fun he=> ?_;have hL:∀e∈etl es b,e.1<64/\e.2<64:=fun e he=>⟨Db hs (h.inn e he).1,Db hs (h.inn e he).2⟩;have uR:=Pq hL (Db hs pS.2.2.1);rw[Pj h.inn pS.2.2.1 pS.2.2.2,<-Zt hs h.inn pS.2.2.1,<-uR.2,hr]at he;cases he
theorem Beg.cyc {es:List (Nat×Nat)} {set:Nat} {b:List Int} {j:Nat} (hs:set<M64) (h:Beg es set b) (pS:OkI es set (j:Nat)) (hr:bit (Jd (etl es b) (Ed es (j:Nat)).1) (Ed es (j:Nat)).2=true):Rch (etl es b) set (Ed es (j:Nat)).1 (Ed es (j:Nat)).2:=by
 have hL:∀e∈etl es b,e.1<64/\e.2<64:=fun e he=>⟨Db hs (h.inn e he).1,Db hs (h.inn e he).2⟩;have uR:=Pq hL (Db hs pS.2.2.1);rw[<-Zt hs h.inn pS.2.2.1];exact(uR.2 _).1 hr
theorem Beg.len {es:List (Nat×Nat)} {set:Nat} {b:List Int} (hs:set<M64) (h0:set≠0) (h:Beg es set b):b.length+1<=card set:=by
 have h3:=Vo hs h.inn (etl es b).length (aN _);rw[kK,(Zr _ (aN _)).2 h.acy,show(etl es b).length=b.length from aR _]at h3;obtain⟨x,r,_,hx,xW,_⟩:=Je hs h0;have:0<cnt (lab (etl es b)) set:=by
  have hm:lab (etl es b) x∈((List.range 64).filter fun x=>bit set x&&decide (lab (etl es b) x=x)):=by
   have pY:=Ib h.inn x hx;rw[bJ];exact⟨List.mem_range.2 (Db hs pY),by rw[pY,(Lb.lab (etl es b)).idm];simp⟩
  exact List.length_pos_of_mem hm
 omega
end Go.GS
/- Chapter 32: all spanning trees. -/
namespace Go.Proofs.Z
open Go.Proofs.Tryz
open Go.RowKit Go.RX Go.GS
abbrev Slc:=Option Addr×Nat×Nat
def vs (s:Slc):Value:= .slice s.1 s.2.1 s.2.2
theorem Zu:El prog 100 32 1 false (fun s:Slc=>[vs s]) vs where
 und:=by kernel_rfl
 has:=by kernel_rfl
 cel:=by kernel_rfl
 agg:=by kernel_rfl
 pos:=by decide
 one1:=fun _=>rfl
 small:=by decide
 inf:=⟨(prog.info? 32).getD default,vs (none,0,0),by kernel_rfl,by kernel_rfl,by kernel_rfl,rfl,oDt (by kernel_rfl)⟩
 len:=fun _=>rfl
 val:=fun _=>rfl
 cells:=fun _=>rfl
 one:=fun x c hc=>by simp at hc;subst hc;rfl
theorem Jg {H:PH} {sz:Nat} {α:Type} {ce:α->List Value} {v:Value} {l:List α} (h:SE H sz ce v l):∃s,v=vs s:=by
 obtain⟨_,a,c,h2,_⟩:=h;exact⟨(a,l.length,c),h2⟩
theorem jw {H0 H H':PH} {α:Type} {ce:α->List Value} {v:Value} {l:List α} (h:SO H0 H 3 1 ce v l) (hp:H'=H\/∃g ob,H0 g=none/\H'=H.put g ob/\(H g=none\/∃cs,H g=some (.cells cs 32 (0,0)))):SO H0 H' 3 1 ce v l:=by
 rcases hp with rfl|⟨g,ob,_,rfl,hg⟩
 ·exact h
 ·obtain⟨h1,h2|⟨g',cap,cur,h2,h3,h4,h5⟩⟩:=h
  ·exact⟨h1,.inl h2⟩
  ·refine⟨h1,.inr ⟨g',cap,cur,h2,h3,?_,h5⟩⟩;rw[PH.put_ne _ _ (fun e=> ?_)]
   ·exact h4
   ·subst e;rcases hg with hg|⟨cs,hg⟩
    ·rw[hg]at h4;cases h4
    ·rw[hg]at h4
     injection h4 with h4
     injection h4 with _ h4 _
     exact absurd h4 (by decide)
def Az (b:List Int):Nat:=match b.getLast? with|none=>0|some x=>x.toNat+1
theorem MU (b:List Int) (j:Nat):Az (b++[(j:Int)])=j+1:=by
 unfold Az;rw[List.getLast?_append];rfl
set_option maxHeartbeats 1000000 in
theorem b9r {n:Nat} {es:List (Nat×Nat)} {set:Nat} (hg:GV n es) (hs:set<2^n) (h0:set≠0) (h36:Bh es set 0<=36):∀(k:Nat) (b:List Int) (u:Value) (H:PH) {w:Value},es.length-Az b<=k->SG H w es->SI H u b->Beg es set b->
  Con prog 86 [gv n w,uv set,u] H fun r H'=>PH.le H H'/\∃l,SO H H' 32 1 (fun s:Slc=>[vs s]) r l/\(∀s∈l,∃t,SO H H' 3 1 (fun z:Int=>[ii z]) (vs s) t/\TreeOk es set t)/\l.length<=2^Bh es set (Az b)/\(Spn es set b (Az b)->l≠[]):=by
 have qF:=Ci hg.n64 hs;have zI:=hg.len;have qK:=hg.n64;intro k;induction k using Nat.strongRecOn with
 |_ k ih0=>
 intro b u H w hk hw hu hB;have sK:∀i∈b,0<=i/\i.toNat<es.length:=fun i hi=>⟨(hB.ok i hi).1,(hB.ok i hi).2.1⟩;have vY:=hB.len qF h0;have xP:=Me set;have ih:∀m,m<es.length-Az b->∀(b:List Int) (u:Value) (H:PH) {w:Value},es.length-Az b<=m->SG H w es->SI H u b->Beg es set b->Con prog 86 [gv n w,uv set,u] H fun r H'=>PH.le H H'/\∃l,SO H H' 32 1 (fun s:Slc=>[vs s]) r l/\(∀s∈l,∃t,SO H H' 3 1 (fun z:Int=>[ii z]) (vs s) t/\TreeOk es set t)/\l.length<=2^Bh es set (Az b)/\(Spn es set b (Az b)->l≠[]):=fun m hm=>ih0 m (by omega);refine j3 mixed c3a ?_;refine d9 (Ap hw) ?_;refine j7 el_int hu ?_;refine Aq (b9n qF) rfl ?_;simp only[cA,nA];refine d4 (d4 ?_);refine r9 (p:=(b.length+1=card set)) (by show Value.bool (((b.length:Nat):Int)==intOf (D prog _ (.op2 .sub .i64 (.v 4) (.k (.int .i64 1)))))=_;rw[Rn (x:=(card set:Nat)) (y:=1) rfl rfl (by omega) (by omega)];show Value.bool (((b.length:Nat):Int)==((card set:Nat):Int)-1)=_;rw[bE];congr 1;apply decide_eq_decide.2;omega) (fun pT=> ?_) fun pT=> ?_
 ·refine gq el_int rfl rfl fun v1 H1 l1 o1 _=> ?_;simp only[cA,nA];refine Lu el_int rfl rfl rfl l1 o1 (hu.mono l1) (by simp;omega) rfl rfl fun v2 H2 l2 o2 _=> ?_;simp only[cA,nA];obtain⟨s,rfl⟩:=Jg o2.se;refine On Zu (a:=s) rfl rfl rfl fun v3 H3 l3 o3 _=> ?_;simp only[cA,nA];exact g8 rfl ⟨l2.trans l3,[s],o3.less l2,fun s' qF=>by rw[aQ]at qF;subst qF;exact⟨b,o2.mono l3,hB.tree pT⟩,Nat.one_le_two_pow,fun _ h=>by cases h⟩
 ·refine j7 el_int hu ?_;refine d4 ?_;refine i0 (b:=decide (((b.length:Nat):Int)>0)) rfl (fun h1=> ?_) (fun h1=> ?_)
  ·replace h1:=oDt h1;obtain⟨m,hm⟩:∃m,b.length=m+1:=⟨b.length-1,by omega⟩;have hbm:b[m]? =some b[m]:=aA (by omega);have hgl:b.getLast? =some b[m]:=by rw[List.getLast?_eq_getElem?,show b.length-1=m by omega];exact hbm
   have hvm:=sK b[m] (List.getElem_mem _);have a3a:Az b=b[m].toNat+1:=by unfold Az;rw[hgl]
   have pO:∀i∈b,i<(Az b:Nat):=by
    intro i hi;obtain⟨q,hq,rfl⟩:=List.mem_iff_getElem.1 hi;have:b[q]<=b[m]:=by
     by_cases e:q=m
     ·subst e;exact Int.le_refl _
     ·exact Int.le_of_lt (List.pairwise_iff_getElem.1 hB.asc q m hq (by omega) (by omega))
    omega
   have hfl:Az b<=es.length:=by omega
   refine j7 el_int hu ?_;refine d4 ?_;refine Do el_int rfl rfl rfl rfl (fun _=>rfl) hu hbm (j4 rfl (by rw[Rn (x:=(b.length:Nat)) (y:=1) rfl rfl (by omega) (by omega)];show ii _=ii _;congr 1;omega)) (fun _=>rfl) fun _=> ?_;simp only[cA,nA];refine d4 ?_;refine s9 (α:=Value×List Slc×Nat) (fun⟨v,l,j⟩=>[v,ii (j:Nat)]) (fun⟨v,l,j⟩=>fun H'=>j<=es.length/\Az b<=j/\PH.le H H'/\SO H H' 32 1 (fun s:Slc=>[vs s]) v l/\(∀s∈l,∃t,SO H H' 3 1 (fun z:Int=>[ii z]) (vs s) t/\TreeOk es set t)/\l.length+2^Bh es set j<=2^Bh es set (Az b)/\(Spn es set b (Az b)->l≠[]\/Spn es set b j)) (fun⟨v,l,j⟩=>es.length-j) ((.slice none 0 0,[],Az b)) (j4 rfl (by rw[ik (x:=b[m]) (y:=1) rfl rfl (by omega) (by omega)];show ii _=ii _;congr 1;omega)) (⟨hfl,aN _,PH.le.refl _,SO.nil _ _ _ _ _,(fun s hs=>by cases hs),by simp,(fun h=> .inr h)⟩) fun⟨v,l,j⟩ H' hQ=> ?_;simp only[cA,nA];obtain⟨hj,hfj,l1,o1,wJ,tA,hsp⟩:=hQ;refine j7 el_edge (hw.mono l1) ?_;refine d4 (d4 ?_);refine i0 (b:=decide (((j:Nat):Int)<(es.length:Nat))) rfl (fun h9=> ?_) (fun h9=> ?_)
   ·replace h9:=oDt h9;have rG:j<es.length:=by omega
    have sD:=Fo rG;have hed:=hg.mem sD;have wT:2^Bh es set (j+1)<=2^Bh es set j:=aU (by decide) (jt es set j);refine Aq (MN (hw.mono l1) hg qF (j:Nat)) rfl ?_;simp only[cA,nA];refine d4 ?_;refine i0 (b:= !decide (OkI es set (j:Nat))) rfl (fun h2=> ?_) (fun h2=> ?_)
    ·skip
     exact⟨(v,l,j+1),by show es.length-(j+1)<es.length-j;omega,(j4 rfl (i9 rfl (by omega))),⟨rG,by show Az b<=j+1;omega,l1,o1,wJ,aS (iI wT _) tA,fun hS=>(hsp hS).imp (fun h=>h) fun h=>h.skip sD (mX.2 fun hb=>by unfold inB at hb;rw[aF]at hb;rw[oDd (show OkI es set (j:Nat)from⟨by omega,by rw[bB];exact rG,hb.1,hb.2⟩)]at h2;cases h2)⟩⟩
    ·skip
     have pS:OkI es set (j:Nat):=by simpa using h2
     have pY:inB set (Ed es (j:Nat))=true:=by unfold inB;rw[pS.2.2.1,pS.2.2.2];rfl
     refine Vt rfl rfl rfl rfl rfl (fun _=>rfl) (fun _=>rfl) (fun _=>rfl) (hw.mono l1) sD rfl (fun _=>rfl) (fun _ _=>rfl) fun _ _=> ?_;simp only[cA,nA];refine Vu rfl rfl rfl rfl rfl (fun _=>rfl) (fun _=>rfl) (fun _=>rfl) (hw.mono l1) sD rfl (fun _=>rfl) (fun _ _=>rfl) fun _ _=> ?_;simp only[cA,nA];refine Aq (MP (hw.mono l1) hg (hu.mono l1) sK (x:=(Ed es (j:Nat)).1) (by omega)) rfl ?_;simp only[cA,nA];have hR:=(Pq (L:=etl es b) (Vw hg sK) (x:=(Ed es (j:Nat)).1) (by omega)).1;refine Am (Ic hR (by omega)) rfl ?_;simp only[cA,nA];refine d4 ?_;refine i0 (b:=bit (Jd (etl es b) (Ed es (j:Nat)).1) (Ed es (j:Nat)).2) rfl (fun h3=> ?_) (fun h3=> ?_)
     ·skip
      exact⟨(v,l,j+1),by show es.length-(j+1)<es.length-j;omega,(j4 rfl (i9 rfl (by omega))),⟨rG,by show Az b<=j+1;omega,l1,o1,wJ,aS (iI wT _) tA,fun hS=>(hsp hS).imp (fun h=>h) fun h=>h.cyc sD (hB.cyc qF pS h3)⟩⟩
     ·skip
      have tM:=hB.snoc qF (fun i hi=>by have:=pO i hi;omega) pS h3;have hfo:Az (b++[(j:Int)])=j+1:=MU b j;refine JX el_int rfl rfl fun b1 qQ=> ?_;simp only[cA,nA];refine JZ el_int rfl rfl rfl (PH.put_self _ _ _) (hu.mono (l1.trans (PH.le_put qQ _))) (by omega) rfl fun v2 H2 l2 _ o2=> ?_;simp only[cA,nA];have o2:=o2 H' (PH.le_put qQ _) qQ;refine JY el_int (a:=(j:Int)) rfl rfl rfl fun b3 uC=> ?_;simp only[cA,nA];refine Lu el_int rfl rfl rfl (((PH.le_put qQ _).trans l2).trans (PH.le_put uC _)) (o2.mono (PH.le_put uC _)) (ig (l:=[(j:Int)]) (PH.put_self _ _ _) rfl rfl (show 1<=maxLen by decide)) (by show b.length+1<=_;omega) rfl rfl fun v4 H4 l4 o4 _=> ?_;simp only[cA,nA];have lc4:PH.le H H4:=l1.trans l4;refine i6 (ih (es.length-(j+1)) (by omega) (b++[(j:Int)]) v4 H4 (by rw[hfo];exact aN _) (hw.mono lc4) o4.se tM) rfl ?_;rintro r2 H5 ⟨l5,t2,o5,a1n,zL,zM⟩;refine nmI ?_;simp only[cA,nA];rw[hfo]at zL zM;have hic:=yr sD pY;have a5n:2^Bh es set j=2*2^Bh es set (j+1):=by rw[hic,kH,cE]
      have a5o:2^Bh es set (Az b)<=2^36:=aU (by decide) (aS (MQ es set (bI _)) h36);refine gu Zu rfl rfl rfl (lc4.trans l5) (o1.mono (l4.trans l5)) o5.se (by omega) rfl rfl fun v6 H6 l6 o6 uH=> ?_;simp only[cA,nA];exact⟨(v6,l++t2,j+1),by show es.length-(j+1)<es.length-j;omega,(j4 rfl (i9 rfl (by omega))),⟨rG,by show Az b<=j+1;omega,l6,o6,(fun s hs=>by rw[aV]at hs;rcases hs with hs|hs;(obtain⟨t,ho,ht⟩:=wJ s hs;exact⟨t,jw (ho.mono (l4.trans l5)) uH,ht⟩);(obtain⟨t,ho,ht⟩:=a1n s hs;exact⟨t,jw (ho.less lc4) uH,ht⟩)),by rw[aJ];show _+2^Bh es set (j+1)<=_;omega,fun hS=> .inl (by rcases hsp hS with h|h;(exact fun e=>h (gK.1 e).1);(exact fun e=>zM (h.take rG) (gK.1 e).2))⟩⟩
   ·replace h9:=oDf h9;exact g8 rfl ⟨l1,l,o1,wJ,aS (nN _ _) tA,fun hS=>(hsp hS).elim (fun h=>h) fun h=>absurd (by have:=h.end qF h0 (by omega) hB.inn hB.acy;rw[show(etl es b).length=b.length from aR _]at this;exact this) pT⟩
  ·replace h1:=oDf h1;have sH:b=[]:=List.eq_nil_of_length_eq_zero (by omega);have a3a:Az b=0:=by rw[sH];rfl
   have pO:∀i∈b,i<(Az b:Nat):=fun i hi=>by rw[sH]at hi;cases hi
   have hfl:Az b<=es.length:=by omega
   refine s9 (α:=Value×List Slc×Nat) (fun⟨v,l,j⟩=>[v,ii (j:Nat)]) (fun⟨v,l,j⟩=>fun H'=>j<=es.length/\Az b<=j/\PH.le H H'/\SO H H' 32 1 (fun s:Slc=>[vs s]) v l/\(∀s∈l,∃t,SO H H' 3 1 (fun z:Int=>[ii z]) (vs s) t/\TreeOk es set t)/\l.length+2^Bh es set j<=2^Bh es set (Az b)/\(Spn es set b (Az b)->l≠[]\/Spn es set b j)) (fun⟨v,l,j⟩=>es.length-j) ((.slice none 0 0,[],Az b)) (j4 rfl (by rw[a3a];rfl)) (⟨hfl,aN _,PH.le.refl _,SO.nil _ _ _ _ _,(fun s hs=>by cases hs),by simp,(fun h=> .inr h)⟩) fun⟨v,l,j⟩ H' hQ=> ?_;simp only[cA,nA];obtain⟨hj,hfj,l1,o1,wJ,tA,hsp⟩:=hQ;refine j7 el_edge (hw.mono l1) ?_;refine d4 (d4 ?_);refine i0 (b:=decide (((j:Nat):Int)<(es.length:Nat))) rfl (fun h9=> ?_) (fun h9=> ?_)
   ·replace h9:=oDt h9;have rG:j<es.length:=by omega
    have sD:=Fo rG;have hed:=hg.mem sD;have wT:2^Bh es set (j+1)<=2^Bh es set j:=aU (by decide) (jt es set j);refine Aq (MN (hw.mono l1) hg qF (j:Nat)) rfl ?_;simp only[cA,nA];refine d4 ?_;refine i0 (b:= !decide (OkI es set (j:Nat))) rfl (fun h2=> ?_) (fun h2=> ?_)
    ·skip
     exact⟨(v,l,j+1),by show es.length-(j+1)<es.length-j;omega,(j4 rfl (i9 rfl (by omega))),⟨rG,by show Az b<=j+1;omega,l1,o1,wJ,aS (iI wT _) tA,fun hS=>(hsp hS).imp (fun h=>h) fun h=>h.skip sD (mX.2 fun hb=>by unfold inB at hb;rw[aF]at hb;rw[oDd (show OkI es set (j:Nat)from⟨by omega,by rw[bB];exact rG,hb.1,hb.2⟩)]at h2;cases h2)⟩⟩
    ·skip
     have pS:OkI es set (j:Nat):=by simpa using h2
     have pY:inB set (Ed es (j:Nat))=true:=by unfold inB;rw[pS.2.2.1,pS.2.2.2];rfl
     refine Vt rfl rfl rfl rfl rfl (fun _=>rfl) (fun _=>rfl) (fun _=>rfl) (hw.mono l1) sD rfl (fun _=>rfl) (fun _ _=>rfl) fun _ _=> ?_;simp only[cA,nA];refine Vu rfl rfl rfl rfl rfl (fun _=>rfl) (fun _=>rfl) (fun _=>rfl) (hw.mono l1) sD rfl (fun _=>rfl) (fun _ _=>rfl) fun _ _=> ?_;simp only[cA,nA];refine Aq (MP (hw.mono l1) hg (hu.mono l1) sK (x:=(Ed es (j:Nat)).1) (by omega)) rfl ?_;simp only[cA,nA];have hR:=(Pq (L:=etl es b) (Vw hg sK) (x:=(Ed es (j:Nat)).1) (by omega)).1;refine Am (Ic hR (by omega)) rfl ?_;simp only[cA,nA];refine d4 ?_;refine i0 (b:=bit (Jd (etl es b) (Ed es (j:Nat)).1) (Ed es (j:Nat)).2) rfl (fun h3=> ?_) (fun h3=> ?_)
     ·skip
      exact⟨(v,l,j+1),by show es.length-(j+1)<es.length-j;omega,(j4 rfl (i9 rfl (by omega))),⟨rG,by show Az b<=j+1;omega,l1,o1,wJ,aS (iI wT _) tA,fun hS=>(hsp hS).imp (fun h=>h) fun h=>h.cyc sD (hB.cyc qF pS h3)⟩⟩
     ·skip
      have tM:=hB.snoc qF (fun i hi=>by have:=pO i hi;omega) pS h3;have hfo:Az (b++[(j:Int)])=j+1:=MU b j;refine JX el_int rfl rfl fun b1 qQ=> ?_;simp only[cA,nA];refine JZ el_int rfl rfl rfl (PH.put_self _ _ _) (hu.mono (l1.trans (PH.le_put qQ _))) (by omega) rfl fun v2 H2 l2 _ o2=> ?_;simp only[cA,nA];have o2:=o2 H' (PH.le_put qQ _) qQ;refine JY el_int (a:=(j:Int)) rfl rfl rfl fun b3 uC=> ?_;simp only[cA,nA];refine Lu el_int rfl rfl rfl (((PH.le_put qQ _).trans l2).trans (PH.le_put uC _)) (o2.mono (PH.le_put uC _)) (ig (l:=[(j:Int)]) (PH.put_self _ _ _) rfl rfl (show 1<=maxLen by decide)) (by show b.length+1<=_;omega) rfl rfl fun v4 H4 l4 o4 _=> ?_;simp only[cA,nA];have lc4:PH.le H H4:=l1.trans l4;refine i6 (ih (es.length-(j+1)) (by omega) (b++[(j:Int)]) v4 H4 (by rw[hfo];exact aN _) (hw.mono lc4) o4.se tM) rfl ?_;rintro r2 H5 ⟨l5,t2,o5,a1n,zL,zM⟩;refine nmI ?_;simp only[cA,nA];rw[hfo]at zL zM;have hic:=yr sD pY;have a5n:2^Bh es set j=2*2^Bh es set (j+1):=by rw[hic,kH,cE]
      have a5o:2^Bh es set (Az b)<=2^36:=aU (by decide) (aS (MQ es set (bI _)) h36);refine gu Zu rfl rfl rfl (lc4.trans l5) (o1.mono (l4.trans l5)) o5.se (by omega) rfl rfl fun v6 H6 l6 o6 uH=> ?_;simp only[cA,nA];exact⟨(v6,l++t2,j+1),by show es.length-(j+1)<es.length-j;omega,(j4 rfl (i9 rfl (by omega))),⟨rG,by show Az b<=j+1;omega,l6,o6,(fun s hs=>by rw[aV]at hs;rcases hs with hs|hs;(obtain⟨t,ho,ht⟩:=wJ s hs;exact⟨t,jw (ho.mono (l4.trans l5)) uH,ht⟩);(obtain⟨t,ho,ht⟩:=a1n s hs;exact⟨t,jw (ho.less lc4) uH,ht⟩)),by rw[aJ];show _+2^Bh es set (j+1)<=_;omega,fun hS=> .inl (by rcases hsp hS with h|h;(exact fun e=>h (gK.1 e).1);(exact fun e=>zM (h.take rG) (gK.1 e).2))⟩⟩
   ·replace h9:=oDf h9;exact g8 rfl ⟨l1,l,o1,wJ,aS (nN _ _) tA,fun hS=>(hsp hS).elim (fun h=>h) fun h=>absurd (by have:=h.end qF h0 (by omega) hB.inn hB.acy;rw[show(etl es b).length=b.length from aR _]at this;exact this) pT⟩
end Go.Proofs.Z
/- Maps from numbers to numbers, in memory. -/
namespace Go.RX
open Go.RowKit Go.RZ
def mE (es:List (Int×Int×Nat)):List MapEntry:=es.map fun p=>⟨.int .i64 p.1,.int .i64 p.2.1,p.2.2⟩
def kv (es:List (Int×Int×Nat)):List (Int×Int):=es.map fun p=>(p.1,p.2.1)
def MI (H:PH) (m:Value) (L:List (Int×Int)):Prop:=(L.map (·.1)).Nodup/\∃r es clock,m= .map (some r)/\H r=some (.map (mE es).toArray clock)/\kv es=L
def MO (B H:PH) (m:Value) (L:List (Int×Int)):Prop:=(L.map (·.1)).Nodup/\∃r es clock,m= .map (some r)/\B r=none/\H r=some (.map (mE es).toArray clock)/\kv es=L
theorem MO.mi {B H:PH} {m:Value} {L:List (Int×Int)} (h:MO B H m L):MI H m L:=by
 obtain⟨h0,r,es,c,h1,_,h2,h3⟩:=h;exact⟨h0,r,es,c,h1,h2,h3⟩
theorem MO.mono {B H H':PH} {m:Value} {L:List (Int×Int)} (h:MO B H m L) (hl:PH.le H H'):MO B H' m L:=by
 obtain⟨h0,r,es,c,h1,h4,h2,h3⟩:=h;exact⟨h0,r,es,c,h1,h4,hl _ _ h2,h3⟩
theorem MI.mono {H H':PH} {m:Value} {L:List (Int×Int)} (h:MI H m L) (hl:PH.le H H'):MI H' m L:=by
 obtain⟨h0,r,es,c,h1,h2,h3⟩:=h;exact⟨h0,r,es,c,h1,hl _ _ h2,h3⟩
def Dw (L:List (Int×Int)) (k v:Int):List (Int×Int):=if k∈L.map (·.1)then L.map fun p=>if p.1=k then(k,v)else p else L++[(k,v)]
theorem MV {L:List (Int×Int)} {k v:Int} (h:(L.map (·.1)).Nodup):((Dw L k v).map (·.1)).Nodup:=by
 unfold Dw;split
 ·rw[cC];have:((fun p:Int×Int=>p.1) ∘ fun p:Int×Int=>if p.1=k then(k,v)else p)=fun p:Int×Int=>p.1:=by
   funext p;simp only[Function.comp];split
   ·rename_i e;exact e.symm
   ·rfl
  rw[this];exact h
 ·rename_i hk;rw[List.map_append,List.nodup_append];refine⟨h,by simp,fun a ha b hb=> ?_⟩;simp only[List.map_cons,List.map_nil,aQ]at hb;subst hb;intro e;subst e;exact hk ha
theorem MY {L:List (Int×Int)} {k v x y:Int} (h:(L.map (·.1)).Nodup):(x,y)∈Dw L k v↔(x=k/\y=v)\/(x≠k/\(x,y)∈L):=by
 unfold Dw;split
 ·rename_i hk;rw[aH];constructor
  ·rintro⟨p,hp,e⟩;split at e
   ·rename_i e1;simp only[eB]at e;exact .inl ⟨e.1.symm,e.2.symm⟩
   ·rename_i e1;subst e;exact .inr ⟨e1,hp⟩
  ·rintro(⟨rfl,rfl⟩|⟨h1,h2⟩)
   ·obtain⟨p,hp,e⟩:=aH.1 hk;exact⟨p,hp,by rw[if_pos e]⟩
   ·exact⟨(x,y),h2,by rw[if_neg h1]⟩
 ·rename_i hk;rw[aV,aQ];constructor
  ·rintro(h1|h1)
   ·refine .inr ⟨fun e=>hk ?_,h1⟩;subst e;exact aH.2 ⟨_,h1,rfl⟩
   ·simp only[eB]at h1;exact .inl h1
  ·rintro(⟨rfl,rfl⟩|⟨_,h1⟩)
   ·exact .inr rfl
   ·exact .inl h1
section
variable {P:Program} {H:PH} {o:Oper} {x y z:Operand} {T kt et:TypeId}
theorem d4b (es:List (Int×Int×Nat)):∀e∈mE es,∃b,e.key= .int .i64 b:=fun e he=>by
 obtain⟨p,_,rfl⟩:=aH.1 he;exact⟨p.1,rfl⟩
theorem yt {L:List (Int×Int)} {es:List (Int×Int×Nat)} (rO:kv es=L) (k:Int):
  (Instr.findNow (.int .i64) (.int .i64 k) (mE es) 0=some none/\k∉L.map (·.1))\/∃j p,Instr.findNow (.int .i64) (.int .i64 k) (mE es) 0=some (some (j,.int .i64 p.2.1))/\es[j]? =some p/\p.1=k:=by
 rcases iu (q:= .i64) (n:=k) (mE es) 0 (d4b es)with⟨h1,h2⟩|⟨j,e,h1,h2,h3⟩
 ·refine .inl ⟨h1,fun hk=> ?_⟩;subst rO;unfold kv at hk;rw[cC]at hk;obtain⟨p,hp,e⟩:=aH.1 hk;exact h2 _ (aH.2 ⟨p,hp,rfl⟩) (by simp only[Function.comp]at e;rw[<-e])
 ·unfold mE at h2;rw[aO]at h2;obtain⟨p,hp,rfl⟩:=cR.1 h2;refine .inr ⟨j,p,by rw[h1,bM],hp,?_⟩;simp only[kQ,true_and]at h3;exact h3
theorem yu {B:PH} {vs:List Value} {m:Value} {L:List (Int×Int)} {k v:Int} (ho:o.op= .mapUpdate T x y z) (hx:g9 [x,y,z] vs x=m) (hy:g9 [x,y,z] vs y= .int .i64 k) (hz:g9 [x,y,z] vs z= .int .i64 v) (hu:P.underlying T=some (.map kt et)) (hk:P.underlying kt=some (.int .i64))
  (pP:PH.le B H) (h:MO B H m L):Opn P o vs H fun u H'=>u=undef/\PH.le B H'/\MO B H' m (Dw L k v)/\∃g ob E c,B g=none/\H g=some (.map E c)/\H'=H.put g ob:=fun w hw=>by
 obtain⟨h0,r,es,clock,rfl,hB,hH,rO⟩:=h;have pZ:o.op.operands.toList=[x,y,z]:=by simp[ho,Op.operands]
 have hb:=hw _ _ hH;unfold Stp;rw[pZ];have vF:∀ob,PH.le B (H.put r ob):=fun ob c cb hc=>by
  rw[PH.put_ne _ _ (fun e=>by subst e;rw[hB]at hc;cases hc)];exact pP _ _ hc
 simp only[execOp,ho,hx,hy,hz,aG,Instr.mapUpdate,run_underlying hu,aE,Iu hb,Ui hk,Instr.findKey,run_underlying hk];rcases yt rO k with⟨h1,h2⟩|⟨j,p,h1,h2,h3⟩
 ·rw[h1];simp only[aE,aT,Qu _ hb];refine⟨_,Step.setB hw hH _,by first|rfl|trivial,vF _,⟨MV h0,r,es++[(k,v,clock)],clock+1,rfl,hB,?_,?_⟩,r,_,_,_,hB,hH,rfl⟩
  ·rw[PH.put_self];simp[mE]
  ·unfold Dw;rw[if_neg h2,<-rO];simp[kv]
 ·rw[h1];have qA:∀w:World,(Instr.keyThatStays (.int .i64 k) (.int .i64 k)).run P w= .ok (.int .i64 k) w:=fun w=>by simp[Instr.keyThatStays,Instr.sameBits]
  have vT:((mE es).toArray[j]?.map (·.key)).getD (.int .i64 k)= .int .i64 k:=by
   simp[mE,h2,h3]
  simp only[aE,aT,vT,aG,qA,Qu _ hb];refine⟨_,Step.setB hw hH _,by first|rfl|trivial,vF _,⟨MV h0,r,es.set j (k,v,p.2.2),clock,rfl,hB,?_,?_⟩,r,_,_,_,hB,hH,rfl⟩
  ·rw[PH.put_self];congr 2;rw[<-Array.toList_inj];simp only[Array.toList_modify];apply cU;intro i;simp only[List.getElem?_modify,mE,aO,bS];by_cases e:j=i
   ·subst e;obtain⟨sY,h5⟩:=aC.1 h2;simp[sY,h5,h3]
   ·simp[e]
  ·have qS:k∈L.map (·.1):=by
    rw[<-rO];unfold kv;rw[cC];exact aH.2 ⟨p,aI h2,h3⟩
   unfold Dw;rw[if_pos qS,<-rO];rw[<-rO]at h0;unfold kv at h0⊢;rw[cC]at h0⊢;apply cU;intro i;simp only[aO,bS,Function.comp];by_cases e:j=i
   ·subst e;obtain⟨sY,h5⟩:=aC.1 h2;simp[sY,h5,h3]
   ·rw[if_neg e];cases hi:es[i]? with
    |none=>rfl
    |some q=>
     have pT:q.1≠k:=fun e2=>e (by
      have l1:=(aC.1 h2).1;refine(gZ (by simpa using l1) h0).1 ?_;rw[aO,aO,h2,hi];simp[h3,e2])
     simp[pT]
theorem MZ {vs:List Value} {m:Value} {L:List (Int×Int)} {k:Int} {ok:Bool} {w:World} (ho:o.op= .lookup T x y ok) (hx:g9 [x,y] vs x=m) (hy:g9 [x,y] vs y= .int .i64 k) (hu:P.underlying T=some (.map kt et)) (hk:P.underlying kt=some (.int .i64)) (hz:∀w,(zeroValue et).run P w= .ok (.int .i64 0) w) (h:MI H m L) (hw:H.In w) (u:Int) (b:Bool)
  (wU:(b=false/\u=0/\k∉L.map (·.1))\/(b=true/\(k,u)∈L)):(execOp (g9 o.op.operands.toList vs) o).run P w= .ok (.value (if ok then .tuple #[.int .i64 u,.bool b]else .int .i64 u)) w:=by
 obtain⟨h0,r,es,clock,rfl,hH,rO⟩:=h;have pZ:o.op.operands.toList=[x,y]:=by simp[ho,Op.operands]
 have hb:=hw _ _ hH;rw[pZ];simp only[execOp,ho,hx,hy,aG,Instr.lookup,run_underlying hu,aE,Iu hb,aT,Ui hk,Instr.findKey,run_underlying hk];rcases yt rO k with⟨h1,h2⟩|⟨j,p,h1,h2,h3⟩
 ·rcases wU with⟨rfl,rfl,_⟩|⟨_,hm⟩
  ·rw[h1];simp[hz]
  ·exact absurd (aH.2 ⟨_,hm,rfl⟩) h2
 ·have wV:(k,p.2.1)∈L:=by
   rw[<-rO];unfold kv;exact aH.2 ⟨p,aI h2,by rw[h3]⟩
  rcases wU with⟨_,_,hn⟩|⟨rfl,hm⟩
  ·exact absurd (aH.2 ⟨_,wV,rfl⟩) hn
  ·have:p.2.1=u:=by
    obtain⟨i1,m1⟩:=bP.1 wV;obtain⟨i2,m2⟩:=bP.1 hm;have l1:=(aC.1 m1).1;have:i1=i2:=(gZ (by simpa using l1) h0).1 (by rw[aO,aO,m1,m2];rfl);subst this;rw[m1]at m2;simp only[aD,eB,true_and]at m2;exact m2
   rw[h1,this];simp
theorem c3m {vs:List Value} {m:Value} {L:List (Int×Int)} {k u:Int} (ho:o.op= .lookup T x y false) (hx:g9 [x,y] vs x=m) (hy:g9 [x,y] vs y= .int .i64 k) (hu:P.underlying T=some (.map kt et)) (hk:P.underlying kt=some (.int .i64)) (hz:∀w,(zeroValue et).run P w= .ok (.int .i64 0) w) (h:MI H m L)
  (hm:(k,u)∈L):Rds P o vs H (.int .i64 u):=fun w hw=>by
 rw[MZ ho hx hy hu hk hz h hw u true (.inr ⟨rfl,hm⟩)];rfl
theorem Zv {vs:List Value} {m:Value} {L:List (Int×Int)} {k u:Int} {b:Bool} (ho:o.op= .lookup T x y true) (hx:g9 [x,y] vs x=m) (hy:g9 [x,y] vs y= .int .i64 k) (hu:P.underlying T=some (.map kt et)) (hk:P.underlying kt=some (.int .i64)) (hz:∀w,(zeroValue et).run P w= .ok (.int .i64 0) w) (h:MI H m L)
  (wU:(b=false/\u=0/\k∉L.map (·.1))\/(b=true/\(k,u)∈L)):Rds P o vs H (.tuple #[.int .i64 u,.bool b]):=fun w hw=>by
 rw[MZ ho hx hy hu hk hz h hw u b wU];rfl
theorem jx {t:TypeId} {vs:List Value} {m:Value} {L:List (Int×Int)} (ho:o.op= .call ⟨.builtin .len,#[x],#[t]⟩) (hx:g9 [x] vs x=m) (hu:P.underlying t=some (.map kt et)) (h:MI H m L):Rds P o vs H (.int .i64 (L.length:Nat)):=by
 obtain⟨h0,r,es,clock,rfl,hH,rO⟩:=h;have:=c7a (P:=P) ho hx hu hH;have e:(mE es).toArray.size=L.length:=by rw[<-rO];simp[mE,kv]
 rw[e]at this;exact this
theorem NA (ho:o.op= .makeMap T none):Opn P o [] H fun v H'=>PH.le H H'/\MO H H' v []:=fun w hw=>by
 refine(fi (P:=P) (H:=H) ho w hw).mono ?_;rintro u w' ⟨H',hs,r,hr,rfl,rfl⟩;exact⟨_,hs,PH.le_put hr _,dO,r,[],0,rfl,hr,by rw[PH.put_self];rfl,rfl⟩
end
end Go.RX
/- Sets of numbers as maps to true, in memory. -/
namespace Go.RX
open Go.RowKit Go.RZ
def bE (es:List (Int×Nat)):List MapEntry:=es.map fun p=>⟨.int .i64 p.1,.bool true,p.2⟩
def MB (H:PH) (m:Value) (S:List Int):Prop:=S.Nodup/\((m= .map none/\S=[])\/∃r es clock,m= .map (some r)/\H r=some (.map (bE es).toArray clock)/\es.map (·.1)=S)
theorem MB.none (H:PH):MB H (.map none) []:=⟨dO,.inl ⟨rfl,rfl⟩⟩
theorem MB.mono {H H':PH} {m:Value} {S:List Int} (h:MB H m S) (hl:PH.le H H'):MB H' m S:=by
 obtain⟨h0,h|⟨r,es,c,h1,h2,h3⟩⟩:=h
 ·exact⟨h0,.inl h⟩
 ·exact⟨h0,.inr ⟨r,es,c,h1,hl _ _ h2,h3⟩⟩
section
variable {P:Program} {H:PH} {o:Oper} {x y z:Operand} {T kt et:TypeId}
theorem d4c (es:List (Int×Nat)):∀e∈bE es,∃b,e.key= .int .i64 b:=fun e he=>by
 obtain⟨p,_,rfl⟩:=aH.1 he;exact⟨p.1,rfl⟩
theorem d4d {S:List Int} {es:List (Int×Nat)} (rO:es.map (·.1)=S) (k:Int):
  (Instr.findNow (.int .i64) (.int .i64 k) (bE es) 0=some none/\k∉S)\/∃j p,Instr.findNow (.int .i64) (.int .i64 k) (bE es) 0=some (some (j,.bool true))/\es[j]? =some p/\p.1=k:=by
 rcases iu (q:= .i64) (n:=k) (bE es) 0 (d4c es)with⟨h1,h2⟩|⟨j,e,h1,h2,h3⟩
 ·refine .inl ⟨h1,fun hk=> ?_⟩;subst rO;obtain⟨p,hp,e⟩:=aH.1 hk;exact h2 _ (aH.2 ⟨p,hp,rfl⟩) (by simp only;rw[<-e])
 ·unfold bE at h2;rw[aO]at h2;obtain⟨p,hp,rfl⟩:=cR.1 h2;refine .inr ⟨j,p,by rw[h1,bM],hp,?_⟩;simp only[kQ,true_and]at h3;exact h3
theorem NB {vs:List Value} {m:Value} {S:List Int} {k:Int} (ho:o.op= .lookup T x y false) (hx:g9 [x,y] vs x=m) (hy:g9 [x,y] vs y= .int .i64 k) (hu:P.underlying T=some (.map kt et)) (hk:P.underlying kt=some (.int .i64)) (hz:∀w,(zeroValue et).run P w= .ok (.bool false) w) (h:MB H m S):Rds P o vs H (.bool (decide (k∈S))):=fun w hw=>by
 have pZ:o.op.operands.toList=[x,y]:=by simp[ho,Op.operands]
 rw[pZ];obtain⟨h0,⟨rfl,rfl⟩|⟨r,es,clock,rfl,hH,rO⟩⟩:=h
 ·simp[execOp,ho,hx,hy,aG,Instr.lookup,run_underlying hu,aE,aT,Ui hk,hz,Instr.findKey,run_underlying hk,Instr.findNow]
 ·have hb:=hw _ _ hH;simp only[execOp,ho,hx,hy,aG,Instr.lookup,run_underlying hu,aE,Iu hb,aT,Ui hk,Instr.findKey,run_underlying hk];rcases d4d rO k with⟨h1,h2⟩|⟨j,p,h1,h2,h3⟩
  ·rw[h1];simp[hz,h2]
  ·have:k∈S:=by rw[<-rO];exact aH.2 ⟨p,aI h2,h3⟩
   rw[h1];simp[this]
end
end Go.RX

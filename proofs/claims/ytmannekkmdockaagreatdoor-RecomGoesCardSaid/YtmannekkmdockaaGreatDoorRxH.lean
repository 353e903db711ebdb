/- Lemmas of the proof. -/
import Derived.Test.YtmannekkmdockaaGreatDoorRxG
import Derived.Deep.LoopGhost
import Derived.AtR
open Array renaming length_toList->fS
open Bool renaming and_eq_true->aF,false_eq_true->cN,not_eq_true'->mR,or_eq_true->bW
open Go.Result renaming andThen_ok->aE
open Go.Sem renaming run_bind->aG,run_pure->aT
open List renaming all_eq_true->dJ,contains_iff_mem->iY,find?_some->nJ,foldl_cons->eP,getD_eq_getElem?_getD->aB,getElem?_append_left->dB,getElem?_append_right->cQ,getElem?_cons_succ->eF,getElem?_cons_zero->eE,getElem?_eq_getElem->aA,getElem?_eq_some_iff->aC,getElem?_set->bS,length_append->aJ,length_map->aR,mapM_cons->nR,map_append->aX,map_cons->aM,map_nil->cL,mem_append->aV,mem_cons->aL,mem_filter->bJ,mem_of_find?_eq_some->kT,mem_of_getElem?->aI,mem_range->cK,nodup_cons->dF,nodup_nil->dO,prefix_append->bY,prefix_refl->cM,range->bL
open Nat renaming add_assoc->kF,add_sub_cancel_left->gA,add_zero->cZ,le_refl->aN,le_trans->aS,lt_of_lt_of_le->bK,not_le->mS,zero_add->bM
open Option renaming map_eq_some_iff->cR,map_some->dK,some->bZ
open Option.some renaming injEq->aD
namespace Go.RX
open Go.RowKit
theorem ey:∀(lv:List Nat) (n:Nat) (sl:List SL),(Kw lv n sl).length=sl.length:=by
 intro lv;induction lv with
 |nil=>intro n sl;rfl
 |cons t ts ih=>intro n sl;simp only[Kw,ih,List.length_set]
theorem EX:∀(lv:List Nat) (n:Nat) (sl:List SL) (u:Nat),u∉lv->(Kw lv n sl)[u]? =sl[u]?:=by
 intro lv;induction lv with
 |nil=>intro n sl u _;rfl
 |cons t ts ih=>
  intro n sl u hu;simp only[aL,not_or]at hu;simp only[Kw,ih _ _ _ hu.2,bS];rw[if_neg (fun e=>hu.1 e.symm)]
theorem YC:∀(lv:List Nat) (n:Nat) (sl:List SL) (k u:Nat),lv.Nodup->lv[k]? =some u->u<sl.length->(Kw lv n sl)[u]? =some (.x (.v (n+k))):=by
 intro lv;induction lv with
 |nil=>intro n sl k u _ h;simp at h
 |cons t ts ih=>
  intro n sl k u sJ h pO;rw[dF]at sJ;cases k with
  |zero=>
   simp at h;subst h;simp only[Kw,EX _ _ _ _ sJ.1,bS,pO,if_true,cZ]
  |succ k=>
   simp at h;simp only[Kw];rw[ih (n+1) _ k u sJ.2 h (by simpa using pO)];congr 3;omega
theorem EY (s:SL):∀(ts:List Nat) (sl:List SL),(Nv sl ts s).length=sl.length:=by
 intro ts;induction ts with
 |nil=>intro sl;rfl
 |cons t ts ih=>intro sl;simp only[Nv,eP]at ih⊢;rw[ih];simp
theorem EZ (s:SL) (u:Nat):∀(ts:List Nat) (sl:List SL),u∉ts->(Nv sl ts s)[u]? =sl[u]?:=by
 intro ts;induction ts with
 |nil=>intro sl _;rfl
 |cons t ts ih=>
  intro sl hu;simp only[aL,not_or]at hu;simp only[Nv,eP]at ih⊢;rw[ih _ hu.2,bS,if_neg (fun e=>hu.1 e.symm)]
theorem YD (s:SL) (u:Nat):∀(ts:List Nat) (sl:List SL),u∈ts->u<sl.length->(Nv sl ts s)[u]? =some s:=by
 intro ts;induction ts with
 |nil=>intro sl h;cases h
 |cons t ts ih=>
  intro sl hu pO;by_cases h:u∈ts
  ·simp only[Nv,eP]at ih⊢;exact ih _ h (by simpa using pO)
  ·have e:u=t:=(aL.1 hu).resolve_right h;subst e;have:=EZ s u ts (sl.set u s) h;simp only[Nv,eP]at this⊢;rw[this];simp[pO]
theorem dedup_mem {x:Nat}:∀{l:List Nat},x∈Ny l↔x∈l:=by
 intro l;induction l with
 |nil=>simp[Ny]
 |cons y l ih=>
  simp only[Ny];split
  ·rename_i h;rw[iY]at h;rw[ih,aL];exact⟨.inr,fun e=>e.elim (fun e=>by rw[e];exact h) (fun e=>e)⟩
  ·rw[aL,aL,ih]
theorem YE:∀(l:List Nat),(Ny l).Nodup:=by
 intro l;induction l with
 |nil=>exact dO
 |cons y l ih=>
  simp only[Ny];split
  ·exact ih
  ·rename_i h;rw[iY]at h;exact dF.2 ⟨fun e=>h (dedup_mem.1 e),ih⟩
theorem YF (bs:List Nat) (n:Nat):∀(bl:List Blk) (i:Nat),(Qk bs n bl i).length=bl.length:=by
 intro bl;induction bl with
 |nil=>intro i;rfl
 |cons b bl ih=>intro i;simp only[Qk,List.length_cons,ih]
theorem YG (bs:List Nat) (n:Nat):∀(bl:List Blk) (i j:Nat) (B':Blk),(Qk bs n bl i)[j]? =some B'->∃B,bl[j]? =some B/\B'=(match Cm (i+j) bs 0 with|some k=>{B with c:= .v (n+k)}|none=>B):=by
 intro bl;induction bl with
 |nil=>intro i j B' h;simp[Qk]at h
 |cons b bl ih=>
  intro i j B' h;simp only[Qk]at h;cases j with
  |zero=>simp only[eE,aD]at h;exact⟨b,rfl,h.symm⟩
  |succ j=>
   simp only[eF]at h;obtain⟨B,hB,he⟩:=ih (i+1) j B' h;exact⟨B,hB,by rw[he,show i+1+j=i+(j+1)from by omega]⟩
theorem Xs {i:Nat}:∀{bs:List Nat} {j k:Nat},Cm i bs j=some k->∃k',k=j+k'/\bs[k']? =some i:=by
 intro bs;induction bs with
 |nil=>intro j k h;simp[Cm]at h
 |cons x l ih=>
  intro j k h;simp only[Cm]at h;split at h
  ·rename_i e;simp only[aD]at h;exact⟨0,by omega,by simpa using e⟩
  ·obtain⟨k',h1,h2⟩:=ih h;exact⟨k'+1,by omega,by simpa using h2⟩
theorem FB {i:Nat}:∀{bs:List Nat} {j:Nat},Cm i bs j=none->bs.contains i=false:=by
 intro bs;induction bs with
 |nil=>intro j _;rfl
 |cons x l ih=>
  intro j h;simp only[Cm]at h;split at h
  ·cases h
  ·rename_i e;simp only[List.contains_cons,ih h,Bool.or_false];simp at e⊢;exact fun e'=>e e'.symm
theorem YH {i:Nat}:∀{bs:List Nat} {j k:Nat},bs.Nodup->bs[k]? =some i->Cm i bs j=some (j+k):=by
 intro bs;induction bs with
 |nil=>intro j k _ h;simp at h
 |cons x l ih=>
  intro j k hn h;rw[dF]at hn;cases k with
  |zero=>simp only[eE,aD]at h;subst h;simp[Cm]
  |succ k=>
   simp only[eF]at h;have hm:=aI h;have pT:¬x=i:=fun e=>hn.1 (e ▸ hm);simp only[Cm,beq_iff_eq,pT,if_false,ih hn.2 h];congr 1;omega
theorem Xt:∀{l:List Nat},Nw l=true->l.Nodup:=by
 intro l;induction l with
 |nil=>intro _;exact dO
 |cons x l ih=>
  intro h;simp only[Nw,aF,mR,List.contains_eq_mem,decide_eq_false_iff_not]at h;exact dF.2 ⟨h.1,ih h.2⟩
theorem Ue {bl:List Blk}:∀{bs:List Nat} {ib:List SV},cAt bl bs=some ib->ib.length=bs.length/\∀(k i:Nat),bs[k]? =some i->∃B,bl[i]? =some B/\ib[k]? =some B.c:=by
 intro bs;induction bs with
 |nil=>intro ib h;simp only[cAt,aD]at h;subst h;exact⟨rfl,fun k i h=>by simp at h⟩
 |cons i bs ih=>
  intro ib h;simp only[cAt]at h;split at h
  ·rename_i B l hB hl;simp only[aD]at h;subst h;obtain⟨h1,h2⟩:=ih hl;refine⟨by simp[h1],fun k u hk=> ?_⟩;cases k with
   |zero=>simp only[eE,aD]at hk;subst hk;exact⟨B,hB,rfl⟩
   |succ k=>simp only[eF]at hk⊢;exact h2 k u hk
  ·cases h
theorem YI {bl:List Blk}:∀{bs:List Nat} {n:Nat} {r:Rq},r∈Xl bl bs n->∃k i B,bs[k]? =some i/\bl[i]? =some B/\r= .cells B.n (.v (n+k)):=by
 intro bs;induction bs with
 |nil=>intro n r h;simp[Xl]at h
 |cons i bs ih=>
  intro n r h;simp only[Xl,aV]at h;rcases h with h|h
  ·split at h
   ·rename_i B hB;simp only[aL,List.not_mem_nil,or_false]at h;exact⟨0,i,B,rfl,hB,h⟩
   ·cases h
  ·obtain⟨k,u,B,h1,h2,h3⟩:=ih h;exact⟨k+1,u,B,h1,h2,by rw[h3];congr 2;omega⟩
theorem ez {sl:List SL}:∀{lv:List Nat} {iv:List SV},Nx sl lv=some iv->iv.length=lv.length/\∀(k t:Nat),lv[k]? =some t->∃s,sl[t]? =some (.x s)/\iv[k]? =some s:=by
 intro lv;induction lv with
 |nil=>intro iv h;simp[Nx]at h;subst h;exact⟨rfl,fun k t h=>by simp at h⟩
 |cons t ts ih=>
  intro iv h;simp only[Nx]at h;split at h
  ·rename_i s l hs hl;simp only[aD]at h;subst h;obtain⟨h1,h2⟩:=ih hl;refine⟨by simp[h1],fun k u hk=> ?_⟩;cases k with
   |zero=>
    simp at hk;subst hk;refine⟨s,?_,rfl⟩;unfold DR at hs;split at hs
    ·rename_i s' qF;simp only[aD]at hs;subst hs;exact qF
    ·cases hs
   |succ k=>simp at hk;simpa using h2 k u hk
  ·cases h
section
variable {P:Program} {G:Value->PH->Prop} {w0:Cx} {ρ:List Value} {β:Nat->Nat} {st:St} {a:Act} {W:World}
structure Bk (w0:Cx) (β:Nat->Nat) (st:St) (a:Act) (W:World):Prop where
 df:∃Ds:List Nat,a.defers=Ds.map Qm/\Ds.Nodup/\∀D∈Ds,w0.w.heap.size<=D/\w0.K D=some (.deferred (some []))
 inj:∀b b',b<st.bl.length->b'<st.bl.length->β b=β b'->b=b'
 own:∀b,b<st.bl.length->w0.w.heap.size<=β b\/w0.H0 (β b)≠none
 sep:∀b,b<st.bl.length->w0.H (β b)=none
 fr:Step w0.H0 w0.w w0.H W
 kp:w0.K.In W
 rd:st.rd=false->w0.ro=none
 ag:∀b,b<w0.n0->β b=w0.b0 b
 ln:w0.n0<=st.bl.length
 kle:PH.le w0.K0 w0.K
 kpH:∀k,w0.K k≠none->w0.H k=none
 kpB:∀b,b<st.bl.length->w0.K (β b)=none
theorem Mt.bk {w0:Cx} (m:Mt P w0 ρ β st a W):Bk w0 β st a W:=⟨m.df,m.inj,m.own,m.sep,m.fr,m.kp,m.rd,m.ag,m.ln,m.kle,m.kpH,m.kpB⟩
theorem Bk.less {w0:Cx} {st2:St} (h:Bk w0 β st2 a W) (hl:st.bl.length<=st2.bl.length) (hrd:st.rd=false->w0.ro=none) (yX:w0.n0<=st.bl.length):Bk w0 β st a W:=
 ⟨h.df,fun i j hi hj=>h.inj i j (by omega) (by omega),fun i hi=>h.own i (by omega),fun i hi=>h.sep i (by omega),h.fr,h.kp,hrd,h.ag,yX,h.kle,h.kpH,fun i hi=>h.kpB i (by omega)⟩
theorem fc {w0:Cx} {lv dd bs:List Nat} {δ:Nat} (qL:Dl st=true) (hn:ρ.length=st.n) (rQ:∀r∈st.kn,r.holds P ρ) (hkb:∀p∈st.kb,D P ρ p.1= .bool p.2)
  {vals:List Value} (hv:vals.length=lv.length+bs.length) (sz:a.tmps.size=st.sl.length)
  (hpb:∀(t b o s:Nat) (i:SV),st.sl[t]? =some (.p b o s i)->b<st.bl.length) (sJ:lv.Nodup) (uZ:bs.Nodup)
  (h1:∀(t:Nat) (s:SL),t∉lv->t∉dd->st.sl[t]? =some s->∃v,a.tmps[t]? =some v/\ML P ρ β s v)
  (h2:∀(k t:Nat),lv[k]? =some t->a.tmps[t]? =some (vals.getD k undef))
  (hb:∀(i:Nat) (B:Blk),st.bl[i]? =some B->W.heap[β i]? =some (.cells (match Cm i bs 0 with|some k=>vals.getD (lv.length+k) undef|none=>D P ρ B.c).cells B.T (0,0))/\(match Cm i bs 0 with|some k=>vals.getD (lv.length+k) undef|none=>D P ρ B.c).cells.size=B.n/\s8 (match Cm i bs 0 with|some k=>vals.getD (lv.length+k) undef|none=>D P ρ B.c).cells)
  (bk:Bk w0 β st a W):
  Mt P w0 (ρ++vals) β (Dy st lv dd bs δ) a W:=by
 have vZ:=qL;unfold Dl at vZ;simp only[aF,dJ]at vZ;obtain⟨⟨⟨c1,c2⟩,c3⟩,c4⟩:=vZ;rw[<-hn]at c1 c2 c3 c4;have vY:(Dy st lv dd bs δ).bl.length=st.bl.length:=YF _ _ _ _;have tQ:∀k,D P (ρ++vals) (.v (st.n+k))=vals.getD k undef:=fun k=>by
  simp only[D,<-hn,aB];rw[cQ (by omega),gA]
 have lk:∀(u:Nat) (s:SL),(Dy st lv dd bs δ).sl[u]? =some s->s= .u\/(∃k,lv[k]? =some u/\s= .x (.v (st.n+k)))\/(u∉lv/\u∉dd/\st.sl[u]? =some s):=by
  intro u s hs;simp only[Dy]at hs;by_cases hd:u∈dd
  ·have pO:u<st.sl.length:=by
    have:=(aC.1 hs).1
    rwa[EY,ey]at this
   rw[YD _ _ _ _ hd (by rw[ey];exact pO)]at hs;simp only[aD]at hs;exact .inl hs.symm
  ·rw[EZ _ _ _ _ hd]at hs;by_cases hl:u∈lv
   ·obtain⟨k,hk⟩:=List.getElem?_of_mem hl;have pO:u<st.sl.length:=by
     have:=(aC.1 hs).1
     rwa[ey]at this
    rw[YC _ _ _ k u sJ hk pO]at hs;simp only[aD]at hs;exact .inr (.inl ⟨k,hk,hs.symm⟩)
   ·rw[EX _ _ _ _ hl]at hs;exact .inr (.inr ⟨hl,hd,hs⟩)
 have a0k:(Dy st lv dd bs δ).sl.length=st.sl.length:=by simp only[Dy];rw[EY,ey]
 refine{sz:=by rw[a0k];exact sz,sl:= ?_,pb:= ?_,df:=bk.df,n:= ?_,bl:= ?_,inj:= ?_,own:= ?_,sep:= ?_,fr:=bk.fr,kp:=bk.kp,rd:=bk.rd,kle:=bk.kle,ag:=bk.ag,ln:=by rw[vY];exact bk.ln,kpH:=bk.kpH,kpB:=by rw[vY];exact bk.kpB,kn:= ?_,kb:= ?_}
 ·intro u s hs;rcases lk u s hs with rfl|⟨k,hk,rfl⟩|⟨hl,hd,qF⟩
  ·have pO:u<a.tmps.size:=by
    rw[sz,<-a0k];exact(aC.1 hs).1
   exact⟨a.tmps[u],by simp[pO],trivial⟩
  ·exact⟨_,h2 k u hk,(tQ k).symm⟩
  ·obtain⟨v,zX,tR⟩:=h1 u s hl hd qF;refine⟨v,zX,?_⟩;have hl:=c1 s (aI qF);cases s with
   |x s=>simp only[ML,SL.lt]at tR hl⊢;rw[Ho P ρ vals s hl];exact tR
   |p b o s i=>simp only[ML,SL.lt]at tR hl⊢;rw[Ho P ρ vals i hl];exact tR
   |u=>trivial
 ·intro u b' o s i hs;rw[vY];rcases lk u _ hs with h|⟨k,hk,h⟩|⟨_,_,qF⟩
  ·cases h
  ·cases h
  ·exact hpb u b' o s i qF
 ·simp only[Dy,aJ,hv,hn];omega
 ·intro i B hB;obtain⟨B0,yW,rfl⟩:=YG _ _ _ _ _ _ hB;rw[bM];have:=hb i B0 yW;cases hp:Cm i bs 0 with
  |some k=>
   simp only[hp]at this⊢;have e:D P (ρ++vals) (.v (st.n+lv.length+k))=vals.getD (lv.length+k) undef:=by rw[kF];exact tQ _
   rw[e];exact this
  |none=>
   simp only[hp]at this⊢;rw[Ho P ρ vals B0.c (c2 B0 (aI yW))];exact this
 ·rw[vY];exact bk.inj
 ·rw[vY];exact bk.own
 ·rw[vY];exact bk.sep
 ·intro r hr;simp only[Dy,aV]at hr;rcases hr with hr|hr
  ·obtain⟨k,i,B,h1,h2,rfl⟩:=YI hr;have:=hb i B h2;rw[YH uZ h1,bM]at this;simp only at this;have e:D P (ρ++vals) (.v (st.n+lv.length+k))=vals.getD (lv.length+k) undef:=by rw[kF];exact tQ _
   simp only[Rq.holds,e];exact this.2
  ·exact(DT P ρ vals r (c3 r hr)).2 (rQ r hr)
 ·intro p hp;rw[Ho P ρ vals p.1 (c4 p hp)];exact hkb p hp
theorem qw (ws:List Nat):∀(a b:List SL) (i:Nat),Ub ws a b i=true->a.length=b.length/\∀t x,a[t]? =some x->∃y,b[t]? =some y/\(x.beq y||ws.contains (i+t))=true
 |[],[],_,_=>⟨rfl,fun t x h=>by simp at h⟩
 |x::a,y::b,i,h=>by
  simp only[Ub,aF]at h;obtain⟨h1,h2⟩:=qw ws a b (i+1) h.2;refine⟨by simp[h1],fun t z hz=> ?_⟩;cases t with
  |zero=>
   simp only[eE,aD]at hz;subst hz;exact⟨y,rfl,h.1⟩
  |succ t=>
   simp only[eF]at hz;obtain⟨y',g1,g2⟩:=h2 t z hz;exact⟨y',by simpa using g1,by rw[show i+(t+1)=i+1+t by omega];exact g2⟩
 |[],_::_,_,h=>by simp[Ub]at h
 |_::_,[],_,h=>by simp[Ub]at h
theorem YJ {ws:List Nat} {x y:List SL} (h:Xm ws x y=true):x.length=y.length:=(qw ws x y 0 h).1
theorem YK {ws:List Nat} {x y:List SL} (h:Xm ws x y=true) {t:Nat} (ht:t∉ws) {s:SL} (hs:x[t]? =some s):∃s',y[t]? =some s'/\(s=s'\/s= .u):=by
 obtain⟨s',h1,h2⟩:=(qw ws x y 0 h).2 t s hs;rw[bM,bW,iY]at h2;exact⟨s',h1,SL.beq_sound (h2.resolve_right ht)⟩
theorem FC {bs:List Nat}:∀{x y:List Blk} {j:Nat},Nz bs x y j=true->x.length<=y.length/\∀(i:Nat) (B:Blk),x[i]? =some B->∃B',y[i]? =some B'/\B'.T=B.T/\B'.n=B.n/\(bs.contains (j+i)=false->B'.c=B.c):=by
 intro x;induction x with
 |nil=>intro y j _;exact⟨by simp,fun i B h=>by simp at h⟩
 |cons b x ih=>
  intro y j h;cases y with
  |nil=>simp[Nz]at h
  |cons c y=>
   simp only[Nz,aF,beq_iff_eq,bW]at h;obtain⟨⟨⟨h1,h2⟩,h3⟩,h4⟩:=h;obtain⟨k1,k2⟩:=ih h4;refine⟨by simp;exact k1,fun i B hB=> ?_⟩;cases i with
   |zero=>
    simp only[eE,aD]at hB;subst hB;refine⟨c,rfl,h1.symm,h2.symm,fun hc=> ?_⟩;rcases h3 with h3|h3
    ·rw[cZ,h3]at hc;cases hc
    ·exact(SV.beq_sound h3).symm
   |succ i=>
    simp only[eF]at hB⊢;obtain⟨B',q1,q2,q3,q4⟩:=k2 i B hB;exact⟨B',q1,q2,q3,fun hc=>q4 (by rw[show j+1+i=j+(i+1)from by omega];exact hc)⟩
theorem FD {c1:Bs} {H K H3 K3:PH} {β2:Nat->Nat} {st2:St} {a2:Act} {W2:World} {r:List Value} {b:Code} {lv dd bs:List Nat} {δ:Nat} {nv nb:List SV} (qL:Dl st=true) (m:Mt P ⟨c1,H,K⟩ ρ β st a W) (m2:Mt P ⟨c1,H3,K3⟩ (ρ++r) β2 st2 a2 W2) (hlv:lv.Nodup) (qY:bs.Nodup) (a0w:∀u,u∈Ew b->u<st.sl.length->u∈lv\/u∈dd)
  (hnv:Nx st2.sl lv=some nv) (rY:cAt st2.bl bs=some nb) (xB:Xm (Ew b) st.sl st2.sl=true) (hs2:Nz bs st.bl st2.bl 0=true):Mt P ⟨c1,H3,K3⟩ (ρ++(nv++nb).map (D P (ρ++r))) β2 (Dy st lv dd bs δ) a2 W2:=by
 have vZ:=qL;unfold Dl at vZ;simp only[aF,dJ]at vZ;obtain⟨⟨⟨c1,c2⟩,c3⟩,c4⟩:=vZ;rw[<-m.n]at c1 c2 c3 c4;obtain⟨k1,k2⟩:=ez hnv;obtain⟨k3,k4⟩:=Ue rY;obtain⟨s1,s2⟩:=FC hs2;have gl:∀(l:List SV) (ρ':List Value) (j:Nat) (s:SV),l[j]? =some s->(l.map (D P ρ')).getD j undef=D P ρ' s:=fun l ρ' j s hj=>by
  simp[aB,hj]
 have a4i:st2.sl.length=st.sl.length:=(YJ xB).symm;refine fc qL m.n m.kn m.kb (by rw[aR,aJ,k1,k3]) (by rw[m2.sz,a4i]) m.pb hlv qY (fun u s hl hd hs=> ?_) (fun k' u qO=> ?_) (fun i B hB=> ?_) (m2.bk.less s1 m.rd m.ln)
 ·have hu:u∉Ew b:=fun h=>(a0w u h (aC.1 hs).1).elim hl hd;obtain⟨s',qF,vP⟩:=YK xB hu hs;obtain⟨v,hv,yF⟩:=m2.sl u s' qF;refine⟨v,hv,?_⟩;rcases vP with rfl|rfl
  ·have hl:=c1 s (aI hs);cases s with
   |x s=>simp only[ML,SL.lt]at yF hl⊢;rw[Ho P ρ r s hl]at yF;exact yF
   |p b o s i=>simp only[ML,SL.lt]at yF hl⊢;rw[Ho P ρ r i hl]at yF;exact yF
   |u=>trivial
  ·trivial
 ·obtain⟨s,hs,sV⟩:=k2 k' u qO;obtain⟨v,hv,yF⟩:=m2.sl u _ hs;rw[hv];congr 1;rw[gl _ _ k' s]
  ·exact yF
  ·rw[dB (aC.1 sV).1];exact sV
 ·obtain⟨B',tM,hT,sE,hc⟩:=s2 i B hB;have g:=m2.bl i B' tM;rw[hT,sE]at g;cases hp:Cm i bs 0 with
  |some k=>
   obtain⟨k',rfl,qO⟩:=Xs hp;obtain⟨B2,hB2,hq⟩:=k4 k' i qO;obtain rfl:B2=B':=bZ.inj (hB2.symm.trans tM);have e:((nv++nb).map (D P (ρ++r))).getD (lv.length+(0+k')) undef=D P (ρ++r) B2.c:=gl _ _ _ _ (by
    rw[cQ (by omega),k1,bM,gA];exact hq)
   simp only[e];exact g
  |none=>
   simp only;rw[hc (by rw[bM];exact FB hp),Ho P ρ r B.c (c2 B (aI hB))]at g;exact g
theorem qx {nx nx':List (List Value->PH->Prop)} (h:nx<+:nx') {d:Nat} (hd:d<nx.length):nx'.getD d (fun _ _=>False)=nx.getD d fun _ _=>False:=by
 obtain⟨r,rfl⟩:=h;simp[aB,dB hd]
def Qo (P:Program) (G:Value->PH->Prop) (c1:Bs) (rm:Nat) (c:Code) (run:St->(Exit->St->Option Tree)->Option Tree):Prop:=
 ∀(st:St) (k:Exit->St->Option Tree) (t:Tree) (ρ:List Value) (β:Nat->Nat) (a:Act) (W:World) (H K:PH) (nx:List (List Value->PH->Prop)) (Q:Exit->Act->World->Prop),
  run st k=some t->Mt P ⟨c1,H,K⟩ ρ β st a W->nx.length=st.d->den P G t nx ρ H->
  (∀e st' t' ρ' β' a' W' H' K' nx',k e st'=some t'->Mt P ⟨c1,H',K'⟩ ρ' β' st' a' W'->ρ<+:ρ'->nx<+:nx'->nx'.length=st'.d->den P G t' nx' ρ' H'->Q e a' W')->c.wpIn (Fr c1.ro) rm P Q a W
theorem Mt.depth (m:Mt P w0 ρ β st a W) (d:Nat):Mt P w0 ρ β {st with d:=d} a W:={m with}
theorem qy {c1:Bs} {rm:Nat} {c:Code} {run:St->(Exit->St->Option Tree)->Option Tree} (hr:Qo P G c1 rm c run) (ts bs:List Nat):Qo P G c1 rm c fun st k=>jn st c ts bs run k:=by
 intro st k t ρ β a W H K nx Q h m hd pU hQ;simp only[jn]at h;split at h
 ·rename_i hc;simp only[aF]at hc;obtain⟨⟨qL,hts⟩,qY⟩:=hc;split at h
  ·rename_i t1 u e1 e2;simp only[aD]at h;subst h;obtain⟨J,hJ1,hJ2⟩:=pU;refine hr _ _ t1 ρ β a W H K (nx++[J]) Q e1 (m.depth _) (by simp[hd]) hJ1 ?_;intro e st2 t2 ρ2 β2 a2 W2 H3 K3 nx2 h2 m2 rE rW qE qC;have vQ:nx<+:nx2:=(bY _ _).trans rW;cases e with
   |normal=>
    simp only at h2;split at h2
    ·rename_i nv nb hnv rY;split at h2
     ·rename_i tU;rw[aF]at tU;simp only[aD]at h2;subst h2;have hh:=qC;have e1:nx2.getD st.d (fun _ _=>False)=J:=by
       rw[qx rW (by simp[hd])];simp[aB,<-hd]
      simp only[den]at hh;rw[e1]at hh;obtain⟨r,rfl⟩:=rE;have hmt:=FD (δ:=0) (dd:=(Ew c).filter fun t=> !ts.contains t) qL m m2 (Xt hts) (Xt qY) (fun u hu _=>by
       by_cases ht:u∈ts
       ·exact .inl ht
       ·exact .inr (bJ.2 ⟨hu,by simpa using ht⟩)) hnv rY tU.1 tU.2
      refine hQ .normal _ u _ β2 a2 W2 H3 K3 nx e2 hmt (bY _ _) (cM _) (by simp[Dy,hd]) (hJ2 _ H3 ?_ hh);rw[aR,aJ,(ez hnv).1,(Ue rY).1]
     ·simp only[aD]at h2;subst h2;exact qC.elim
    ·simp only[aD]at h2;subst h2;exact qC.elim
   |exit id=>exact hQ _ _ _ _ _ _ _ _ _ _ h2 m2 rE vQ qE qC
   |goto l=>exact hQ _ _ _ _ _ _ _ _ _ _ h2 m2 rE vQ qE qC
   |ret=>exact hQ _ _ _ _ _ _ _ _ _ _ h2 m2 rE vQ qE qC
   |panic ch=>exact hQ _ _ _ _ _ _ _ _ _ _ h2 m2 rE vQ qE qC
   |outgrown=>exact hQ _ _ _ _ _ _ _ _ _ _ h2 m2 rE vQ qE qC
  ·cases h
 ·cases h
theorem YL {F:Fence} {n:Nat} {P:Program} {Q:Exit->Act->World->Prop} {a:Act} {w:World} {c:Code} (I:Nat->Act->World->Prop) (n₀:Nat) (h₀:I n₀ a w)
  (round:∀m a w,I m a w->c.wpIn F n P (Exit.then (fun a' w'=>∃n',n'<m/\I n' a' w') Q) a w):(Code.loop c).wpIn F n P Q a w:=by
 refine wpIn_loop (fun a w=>∃m,I m a w) (fun a w=>leastOf (fun m=>I m a w)) ⟨n₀,h₀⟩ ?_;intro a w hI;refine wpIn_mono (round _ a w (leastOf_spec hI).1) ?_;intro e a' w' hq;cases e with
 |normal=>
  obtain⟨n',pO,hI'⟩:=hq;exact show(∃n,I n a' w')/\leastOf (fun n=>I n a' w')<leastOf (fun n=>I n a w)from⟨⟨n',hI'⟩,Nat.lt_of_le_of_lt ((leastOf_spec ⟨n',hI'⟩).2 n' hI') pO⟩
 |exit id=>exact hq
 |goto l=>exact hq
 |ret=>exact hq
 |panic ch=>exact hq
 |outgrown=>exact hq
def Exit.noGo (Q:Exit->Act->World->Prop):Exit->Act->World->Prop
 | .goto _,_,_=>False
 |e,a,w=>Q e a w
theorem Uf {P:Program} {b:Frame} {a:Act} {k:List Item} {cs:List Frame} {w:World} {c:Code}:step P (lone (b.atR a (.code (.scope c)::k)) cs w)= .next (lone (b.atR a (.code c:: .inScope c::k)) cs w):=
 step_lone_go (by simp[stepG,stepG.exec,Frame.atR])
theorem YM {P:Program} {b:Frame} {a:Act} {k:List Item} {cs:List Frame} {w:World} {c:Code}:step P (lone (b.atR a (.inScope c::k)) cs w)= .next (lone (b.atR a k) cs w):=
 step_lone_go (by simp[stepG,stepG.exec,Frame.atR])
theorem YN {F:Fence} {n:Nat} {P:Program} {Q:Exit->Act->World->Prop} {a:Act} {w:World} {c:Code} (h:c.wpIn F n P (Exit.noGo Q) a w):(Code.scope c).wpIn F n P Q a w:=by
 intro b k cs hro hb hr;have h0:(lone (b.atR a (.code (.scope c)::k)) cs w).fenced P F:=fenced_calm hb hr rfl;obtain⟨e,a₁,w₁,hq,xG⟩:=h b (.inScope c::k) cs hro hb hr;cases e with
 |normal=>exact⟨.normal,a₁,w₁,hq,.head h0 Uf (StepsIn.trans xG (.one (fenced_calm hb hr rfl) YM))⟩
 |exit id=>
  have hx:exitTo id (.inScope c::k)=exitTo id k:=by simp[exitTo]
  exact⟨.exit id,a₁,w₁,hq,fun k' hk=> .head h0 Uf (xG.1 k' (by rw[hx];exact hk)),
   fun hr' hk=>let⟨k₁,h1,h2⟩:=xG.2 hr' (by rw[hx];exact hk);⟨k₁,h1,.head h0 Uf h2⟩⟩
 |goto l=>exact hq.elim
 |ret=>exact⟨_,a₁,w₁,hq,.of_steps (.one h0 Uf) xG⟩
 |panic ch=>exact⟨_,a₁,w₁,hq,.of_steps (.one h0 Uf) xG⟩
 |outgrown=>exact⟨_,a₁,w₁,hq,.of_steps (.one h0 Uf) xG⟩
theorem Gx {W:World} {l k:Nat} {o:Obj} (h:k≠l):(W.putObj l o).heap[k]? =W.heap[k]?:=World.putObj_heap_other h
theorem Mt.turn {c1:Bs} {H K:PH} (m:Mt P ⟨c1,H,K⟩ ρ β st a W) {l:Nat} (o':Obj) (hl:K l≠none) (ho:c1.w.heap.size<=l\/c1.H0 l≠none) {K' K0':PH} (hK':K'.In (W.putObj l o')) (hKd:∀k,K' k≠none->K k≠none) (pP:PH.le K0' K')
  {df:List Deferred} (hdf:∃Ds:List Nat,df=Ds.map Qm/\Ds.Nodup/\∀D∈Ds,c1.w.heap.size<=D/\K' D=some (.deferred (some []))):Mt P ⟨{c1 with K0:=K0'},H,K'⟩ ρ β st {a with defers:=df} (W.putObj l o'):=
 {sz:=m.sz,sl:=m.sl,pb:=m.pb,df:=hdf,n:=m.n
  bl:=fun b B hB=>by
   have pT:β b≠l:=fun e=>hl (by rw[<-e];exact m.kpB b (aC.1 hB).1);rw[Gx pT];exact m.bl b B hB
  inj:=m.inj,own:=m.own,sep:=m.sep
  fr:=⟨m.fr.os,m.fr.tape,m.fr.output,by rw[World.putObj_size];exact m.fr.size,fun k hk hn=>by
   rw[Gx (fun e=>by
    subst e;rcases ho with h|h
    ·exact Nat.lt_irrefl _ (bK hk h)
    ·exact h hn)];exact m.fr.block k hk hn,fun k ob hk=>by
   rw[Gx (fun e=>by rw[e,m.kpH l hl]at hk;cases hk)];exact m.fr.holds k ob hk,m.fr.dom,m.fr.dr⟩
  kp:=hK',rd:=m.rd,ag:=m.ag,ln:=m.ln,kle:=pP,kpH:=fun k hk=>m.kpH k (hKd k hk)
  kpB:=fun b hb=>by
   cases e:K' (β b)with
   |none=>exact e
   |some o=>exact absurd (m.kpB b hb) (hKd _ (by simp[e]))
  kn:=m.kn,kb:=m.kb}
theorem YO {c1:Bs} (hK0:∀k,c1.K0 k=none) {H:PH} {fn:Func} {R:Ending->World->Prop} {tm:Array Value}
  (h:∀(K':PH) (a':Act) (W':World),Mt P ⟨c1,H,K'⟩ ρ β st a' W'->a'.tmps=tm->∃v,(results fn tm).run P W'= .ok v W'/\R (.returned v) W'):∀(Ds:List Nat) (K:PH) (a:Act) (W:World),Mt P ⟨c1,H,K⟩ ρ β st a W->a.tmps=tm->a.defers=Ds.map Qm->Ds.Nodup->(∀D∈Ds,c1.w.heap.size<=D/\K D=some (.deferred (some [])))->
  LeavesInM Fence.wide 0 P fn tm R a.defers .returning W:=by
 intro Ds;induction Ds with
 |nil=>intro K a W m ht hd _ _;rw[hd];exact h K a W m ht
 |cons D Ds ih=>
  intro K a W m ht hd hn hD;rw[hd];obtain⟨hDs,hDK⟩:=hD D (by simp);rw[dF]at hn;have hw:=m.kp D _ hDK;refine⟨by simp,.inl ⟨D,_,rfl,run_takeDeferred hw,?_⟩⟩;have hD':∀D'∈Ds,c1.w.heap.size<=D'/\(fun k=>if k=D then none else K k) D'=some (.deferred (some [])):=fun D' h'=>by
   obtain⟨g1,g2⟩:=hD D' (by simp[h']);refine⟨g1,?_⟩;show(if D'=D then none else K D')=_;rw[if_neg (show ¬D'=D from fun e=>hn.1 (e ▸ h'))];exact g2
  have:=m.turn (.deferred none) (K':=fun k=>if k=D then none else K k) (K0':=c1.K0) (df:=Ds.map Qm) (by rw[hDK];simp) (.inl hDs) (fun k ob hk=>by
   change (if k=D then none else K k)=some ob at hk;split at hk
   ·cases hk
   ·rename_i e;rw[Gx e];exact m.kp k ob hk) (fun k hk=>by
   change (if k=D then none else K k)≠none at hk;split at hk
   ·exact absurd rfl hk
   ·exact hk) (fun k o hk=>by rw[hK0]at hk;cases hk) ⟨Ds,rfl,hn.2,hD'⟩
  exact ih _ _ _ this ht rfl hn.2 hD'
theorem PH.or_none {X K:PH} {b:Nat}:X.or K b=none↔X b=none/\K b=none:=by
 unfold PH.or;cases e:X b with
 |none=>simp
 |some o=>simp
theorem PH.le_or (X K:PH):PH.le X (X.or K):=fun b o h=>by unfold PH.or;rw[h]
theorem PH.or_r {X K:PH} (h:Disj X K):PH.le K (X.or K):=fun b o hk=>by
 unfold PH.or;cases e:X b with
 |none=>exact hk
 |some o'=>rw[h b (by simp[e])]at hk;cases hk
theorem PH.or_In {X K:PH} {w:World} (h1:X.In w) (h2:K.In w):(X.or K).In w:=fun b o h=>by
 unfold PH.or at h;cases e:X b with
 |none=>simp only[e]at h;exact h2 b o h
 |some o'=>simp only[e]at h;cases h;exact h1 b _ e
theorem Xu {X K:PH} {b:Nat} (h:X b≠none):X.or K b≠none:=fun e=>h (PH.or_none.1 e).1
theorem Step.less {H H' H'':PH} {w w':World} (h:Step H w H' w') (hl:PH.le H'' H'):Step H w H'' w':=
 ⟨h.os,h.tape,h.output,h.size,h.block,hl.In h.holds,fun b hb=>h.dom b fun e=>hb (by
  cases e2:H'' b with
  |none=>rfl
  |some o=>rw[hl b o e2]at e;cases e),h.dr⟩
def Is (P:Program) (ρ:List Value) (st:St) (bs:List Nat) (vals:List Value) (i:Nat):Value:=
 match Cm i bs 0 with
 |some k=>vals.getD k undef
 |none=>match st.bl[i]? with|some B=>D P ρ B.c|none=>undef
def Jr (P:Program) (ρ:List Value) (st:St) (bs:List Nat) (vals:List Value) (i:Nat):Obj:=
 .cells (Is P ρ st bs vals i).cells (match st.bl[i]? with|some B=>B.T|none=>0) (0,0)
def Oc (P:Program) (ρ:List Value) (st:St) (bs:List Nat) (β:Nat->Nat) (vals:List Value):PH:=fun b=>((bL st.bl.length).find? fun i=>β i==b).map (Jr P ρ st bs vals)
def Yof (P:Program) (ρ:List Value) (st:St) (bs:List Nat) (β:Nat->Nat) (l:Nat) (r:Loop) (vals:List Value) (X:PH):PH:=fun b=>
 if b=l then some (.loop r)else match Oc P ρ st bs β vals b with|some o=>some o|none=>X b
structure Fit (P:Program) (ρ:List Value) (st:St) (bs:List Nat) (β:Nat->Nat) (l:Nat) (vals:List Value) (X:PH):Prop where
 sz:∀(i:Nat) (B:Blk),st.bl[i]? =some B->(Is P ρ st bs vals i).cells.size=B.n/\s8 (Is P ρ st bs vals i).cells
 xb:∀i,i<st.bl.length->X (β i)=none
 xl:X l=none
section
variable {bs:List Nat} {vals:List Value} {l:Nat} {r:Loop} {X K:PH}
theorem YP (inj:∀b b',b<st.bl.length->b'<st.bl.length->β b=β b'->b=b') {i:Nat} (hi:i<st.bl.length):Oc P ρ st bs β vals (β i)=some (Jr P ρ st bs vals i):=by
 unfold Oc;cases e:(bL st.bl.length).find? fun j=>β j==β i with
 |none=>
  have:=List.find?_eq_none.1 e i (cK.2 hi);simp at this
 |some j=>
  have h1:=nJ e;have h2:=cK.1 (kT e);simp only[beq_iff_eq]at h1;rw[inj j i h2 hi h1];rfl
theorem qz {b:Nat} {o:Obj} (h:Oc P ρ st bs β vals b=some o):∃i,i<st.bl.length/\β i=b/\o=Jr P ρ st bs vals i:=by
 unfold Oc at h;rw[cR]at h;obtain⟨i,h1,h2⟩:=h;have h3:=nJ h1;exact⟨i,cK.1 (kT h1),by simpa using h3,h2.symm⟩
theorem Xv:Yof P ρ st bs β l r vals X l=some (.loop r):=by unfold Yof;rw[if_pos rfl]
theorem Qp (inj:∀b b',b<st.bl.length->b'<st.bl.length->β b=β b'->b=b') {i:Nat} (hi:i<st.bl.length) (pT:β i≠l):Yof P ρ st bs β l r vals X (β i)=some (Jr P ρ st bs vals i):=by
 unfold Yof;rw[if_neg pT,YP inj hi]
theorem Qq (hf:Fit P ρ st bs β l vals X):PH.le X (Yof P ρ st bs β l r vals X):=fun b o hb=>by
 unfold Yof;rw[if_neg (fun e=>by rw[e,hf.xl]at hb;cases hb)];cases e:Oc P ρ st bs β vals b with
 |none=>exact hb
 |some o'=>
  obtain⟨i,hi,rfl,_⟩:=qz e;rw[hf.xb i hi]at hb;cases hb
theorem Qr {b:Nat} (h:Yof P ρ st bs β l r vals X b≠none):b=l\/(∃i,i<st.bl.length/\β i=b)\/X b≠none:=by
 unfold Yof at h;split at h
 ·rename_i e;exact .inl e
 ·cases e:Oc P ρ st bs β vals b with
  |none=>rw[e]at h;exact .inr (.inr h)
  |some o=>obtain⟨i,hi,he,_⟩:=qz e;exact .inr (.inl ⟨i,hi,he⟩)
theorem FG {w:World} (hl:w.heap[l]? =some (.loop r)) (hb:∀i,i<st.bl.length->w.heap[β i]? =some (Jr P ρ st bs vals i)) (hx:X.In w):(Yof P ρ st bs β l r vals X).In w:=fun b o h=>by
 unfold Yof at h;split at h
 ·rename_i e;subst e;cases h;exact hl
 ·cases e:Oc P ρ st bs β vals b with
  |none=>rw[e]at h;exact hx b o h
  |some o'=>
   rw[e]at h;cases h;obtain⟨i,hi,rfl,rfl⟩:=qz e;exact hb i hi
theorem fe {i:Nat} {B:Blk} (h:st.bl[i]? =some B):Jr P ρ st bs vals i= .cells (Is P ρ st bs vals i).cells B.T (0,0):=by
 unfold Jr;rw[h]
theorem Xx {i:Nat} {B:Blk} (h:st.bl[i]? =some B):Is P ρ st bs vals i=match Cm i bs 0 with|some k=>vals.getD k undef|none=>D P ρ B.c:=by
 unfold Is;rw[h]
end
theorem YQ:∀(ps:List Nat) (xs:List Value) (tm:Array Value),ps.length=xs.length->ps.Nodup->(∀p∈ps,p<tm.size)->
  ((ps.zip xs).foldl (fun t (p:Nat×Value)=>t.setIfInBounds p.1 p.2) tm).size=tm.size/\(∀t:Nat,t∉ps->((ps.zip xs).foldl (fun t (p:Nat×Value)=>t.setIfInBounds p.1 p.2) tm)[t]? =tm[t]?)/\
  ∀(k t:Nat),ps[k]? =some t->((ps.zip xs).foldl (fun t (p:Nat×Value)=>t.setIfInBounds p.1 p.2) tm)[t]? =some (xs.getD k undef):=by
 intro ps;induction ps with
 |nil=>intro xs tm _ _ _;exact⟨rfl,fun _ _=>rfl,fun k t h=>by simp at h⟩
 |cons p ps ih=>
  intro xs tm hl hn hr;cases xs with
  |nil=>simp at hl
  |cons x xs=>
   rw[dF]at hn;simp only[List.zip_cons_cons,eP];obtain⟨g1,g2,g3⟩:=ih xs (tm.setIfInBounds p x) (by simpa using hl) hn.2 (fun q hq=>by simpa using hr q (by simp[hq]));refine⟨by rw[g1];simp,fun t ht=> ?_,fun k t hk=> ?_⟩
   ·simp only[aL,not_or]at ht;rw[g2 t ht.2,Array.getElem?_setIfInBounds_ne (fun e=>ht.1 e.symm)]
   ·cases k with
    |zero=>
     simp only[eE,aD]at hk;subst hk;rw[g2 p hn.1,Array.getElem?_setIfInBounds_self_of_lt (hr p (by simp))];rfl
    |succ k=>
     simp only[eF]at hk;rw[g3 k t hk];rfl
theorem FH {e:Exit} {l:List Exit} (h:Uc e l=true):∃r,l=e::r/\(e= .ret\/∃i,e= .exit i):=by
 unfold Uc at h;split at h
 ·exact⟨_,rfl,.inl rfl⟩
 ·rw[beq_iff_eq]at h;subst h;exact⟨_,rfl,.inr ⟨_,rfl⟩⟩
 ·cases h
theorem YR {c2:Bs} {H2 K2:PH} {bs:List Nat} {l j:Nat} {st2:St} {t2:Tree} {ρ2:List Value} {β2:Nat->Nat} {a2:Act} {w2:World} {nx2:List (List Value->PH->Prop)} (qL:Dl st=true) (hn:ρ.length=st.n) (hp:ρ<+:ρ2)
  (h2:Xn st bs j st2=some t2) (m2:Mt P ⟨c2,H2,K2⟩ ρ2 β2 st2 a2 w2) (wN:c2.n0=st.bl.length) (sH:c2.b0=β) (hl:c2.K0 l≠none) (pU:den P G t2 nx2 ρ2 H2):
  ∃vals,vals.length=bs.length/\(nx2.getD (st.d+j) fun _ _=>False) vals H2/\Fit P ρ st bs β l vals H2/\∀i,i<st.bl.length->w2.heap[β i]? =some (Jr P ρ st bs vals i):=by
 unfold Xn at h2;split at h2
 ·rename_i nb rY;split at h2
  ·rename_i hs;simp only[aD]at h2;subst h2;obtain⟨g1,g2⟩:=Ue rY;obtain⟨s1,s2⟩:=FC hs;unfold Dl at qL;simp only[aF,dJ]at qL;obtain⟨⟨⟨_,c2'⟩,_⟩,_⟩:=qL;rw[<-hn]at c2';obtain⟨rr,rfl⟩:=hp;have key:∀(i:Nat) (B:Blk),st.bl[i]? =some B->∃B',st2.bl[i]? =some B'/\B'.T=B.T/\B'.n=B.n/\Is P ρ st bs (nb.map (D P (ρ++rr))) i=D P (ρ++rr) B'.c:=fun i B hB=>by
    obtain⟨B',q1,q2,q3,q4⟩:=s2 i B hB;refine⟨B',q1,q2,q3,?_⟩;rw[Xx hB];cases e:Cm i bs 0 with
    |some k=>
     obtain⟨k',rfl,qO⟩:=Xs e;obtain⟨B2,r1,r2⟩:=g2 k' i qO;obtain rfl:B2=B':=bZ.inj (r1.symm.trans q1);simp[aB,r2]
    |none=>
     simp only;rw[q4 (by rw[bM];exact FB e),Ho P ρ rr B.c (c2' B (aI hB))]
   have hβ:∀i,i<st.bl.length->β2 i=β i:=fun i hi=>by rw[<-sH];exact m2.ag i (by show i<c2.n0;omega)
   refine⟨nb.map (D P (ρ++rr)),by rw[aR,g1],pU,⟨fun i B hB=> ?_,fun i hi=> ?_,m2.kpH l ?_⟩,fun i hi=> ?_⟩
   ·obtain⟨B',q1,q2,q3,q4⟩:=key i B hB;rw[q4,<-q3];exact(m2.bl i B' q1).2
   ·rw[<-hβ i hi];exact m2.sep i (by omega)
   ·intro e;cases e2:c2.K0 l with
    |none=>exact hl e2
    |some o=>have h3:=m2.kle l o e2;simp only at h3 e;rw[e]at h3;cases h3
   ·obtain⟨B,hB⟩:∃B,st.bl[i]? =some B:=⟨_,aA hi⟩;obtain⟨B',q1,q2,q3,q4⟩:=key i B hB;rw[fe hB,q4,<-q2,<-hβ i hi];exact(m2.bl i B' q1).1
  ·simp only[aD]at h2;subst h2;exact pU.elim
 ·simp only[aD]at h2;subst h2;exact pU.elim
theorem YS {C:List Hn} {g:Operand} {ps:Array Tmp} {asg body:Code} (ihA:∀(c1:Bs) (rm:Nat),Qo P G c1 rm asg (ex P C asg)) (ihB:∀(c1:Bs) (rm:Nat),Qo P G c1 rm body (ex P C body))
  {c1:Bs} {rm:Nat} {st:St} {k:Exit->St->Option Tree} {t:Tree} {ρ:List Value} {β:Nat->Nat} {a:Act} {W:World} {H K:PH} {nx:List (List Value->PH->Prop)} {Q:Exit->Act->World->Prop}
  (h:ex P C (.rangeFunc g ps asg body) st k=some t) (m:Mt P ⟨c1,H,K⟩ ρ β st a W) (hd:nx.length=st.d) (pU:den P G t nx ρ H)
  (hQ:∀e st' t' ρ' β' a' W' H' K' nx',k e st'=some t'->Mt P ⟨c1,H',K'⟩ ρ' β' st' a' W'->ρ<+:ρ'->nx<+:nx'->nx'.length=st'.d->den P G t' nx' ρ' H'->Q e a' W'):(Code.rangeFunc g ps asg body).wpIn (Fr c1.ro) rm P Q a W:=by
 simp only[ex]at h;split at h
 ·rename_i gv ib hrd hgv hib;split at h
  ·rename_i hc;simp only[aF]at hc;obtain⟨⟨⟨qL,qY⟩,sO⟩,yD⟩:=hc;split at h
   ·rename_i tb ta te eb ea ee;simp only[aD]at h;subst h
    revert hib qY eb ea ee
    generalize Oa st asg body=bs;intro hib qY eb ea ee;have yC:=Xt qY;have vQ:=Xt sO;have hro:c1.ro=none:=m.rd hrd;obtain⟨f,caps,X,K1,Ro,E,S,Sp,I,Ix,hg,rC,hHe,xH,hit,vR,hI0,a0x,a4j,a4k⟩:=pU;have vW:a.eval g= .func (.func f) #[] caps.toArray:=(m.val hgv).trans hg;obtain⟨qQ,qR⟩:=Ue hib;have qP:∀p∈ps.toList,p<a.tmps.size:=fun p hp=>by rw[m.sz];simpa using dJ.1 yD p hp
    rw[hro];refine wpIn_rangeFunc fun fn _=> ?_;obtain⟨rec,uD⟩:∃rec:LoopState->Option Code->Loop,rec=fun s p=>{state:=s,pending:=p,fn,tmps:=a.tmps,params:=ps,assign:=asg,body,defers:=W.heap.size}:=⟨_,rfl⟩;obtain⟨W1,hW1⟩:∃W1,(W.alloc (.deferred (some []))).alloc (.loop (rec .ready none))=W1:=⟨_,rfl⟩;have yA:(W.alloc (.deferred (some []))).heap.size=W.heap.size+1:=by show(W.heap.push _).size=_;simp
    have sZ:Ext W W1:=hW1 ▸ (Ext.alloc W _).trans (Ext.alloc _ _);have a7e:W1.heap.size=W.heap.size+2:=by
     rw[<-hW1];show((W.alloc (.deferred (some []))).heap.push _).size=_;simp[yA]
    have hD1:W1.heap[W.heap.size]? =some (.deferred (some [])):=by
     rw[<-hW1];exact(Ext.alloc _ _).block (World.alloc_heap_new W _)
    have hL1:W1.heap[W.heap.size+1]? =some (.loop (rec .ready none)):=by
     rw[<-hW1,<-yA];exact World.alloc_heap_new _ _
    obtain⟨l,hl⟩:∃l,l=W.heap.size+1:=⟨_,rfl⟩;have hβl:∀i,i<st.bl.length->β i≠l:=fun i hi=>by have:=m.lt hi;omega
    refine⟨l,[Qm W.heap.size],W1,{target:= .fn (.func f) caps.toArray,args:= #[.func (.yield l) #[] #[]]},W1,f,#[.func (.yield l) #[] #[]]++caps.toArray,W1,?_,?_,fun _ _=>trivial,?_,fun e=>by simp[Fr,Fence.wide]at e,CW ?_⟩
    ·rw[<-hW1,uD,hl];exact run_enterLoop_outer _ _ _ _ _
    ·simp only[resolve,vW];simp[go_sem]
    ·simp[invoke,go_sem,er rC]
    rw[show #[Value.func (.yield l) #[] #[]]++caps.toArray=((Value.func (.yield l) #[] #[])::caps).toArray from by simp];have Xin:X.In W:=(PH.le_or X K1).In (hHe ▸ m.fr.holds);have K1in:K1.In W:=(PH.or_r xH).In (hHe ▸ m.fr.holds);have hXl:∀Z:PH,Z.In W->Z l=none:=fun Z hZ=>by
     cases e:Z l with
     |none=>rfl
     |some o=>have:=Dk (hZ _ _ e);omega
    have hXb:∀i,i<st.bl.length->X (β i)=none/\K1 (β i)=none:=fun i hi=>by
     have:=m.sep i hi;simp only[hHe]at this;exact PH.or_none.1 this
    have round:∀(pre:List (List Value)) (xs:List Value) (vals:List Value) (X' K':PH),E pre xs->vals.length=ib.length->I pre vals X'->Fit P ρ st bs β l vals X'->Disj (Yof P ρ st bs β l (rec .ready none) vals X') K'->
      qu P l xs (Yof P ρ st bs β l (rec .ready none) vals X') K' fun v Y'=>
       (v= .bool true/\∃vals' X'',vals'.length=ib.length/\I (pre++[xs]) vals' X''/\Fit P ρ st bs β l vals' X''/\Y'=Yof P ρ st bs β l (rec .ready none) vals' X'')\/
       (v= .bool false/\∃vals' X'' e0 r0 c0,Ir body=e0::r0/\((e0= .ret/\c0=Code.ret)\/∃i,e0= .exit i/\c0=Code.exit i)/\vals'.length=ib.length/\Ix (pre++[xs]) vals' X''/\Fit P ρ st bs β l vals' X''/\Y'=Yof P ρ st bs β l (rec .done (some c0)) vals' X''):=by
     intro pre xs vals X' K' hE hvl hI hf yG w pY;obtain⟨tV,yU⟩:=a0x pre xs vals X' hE hvl hI;have wA:(Yof P ρ st bs β l (rec .ready none) vals X').In w:=(PH.le_or _ K').In pY;have a0y:K'.In w:=(PH.or_r yG).In pY;have a4l:X'.In w:=(Qq hf).In wA;have hlw:=wA l _ Xv;have hKl:K' l=none:=yG l (by rw[Xv];simp);have hKb:∀i,i<st.bl.length->K' (β i)=none:=fun i hi=>yG _ (by rw[Qp m.inj hi (hβl i hi)];simp);refine⟨fn,(ps.zip xs.toArray).foldl (fun tmps x=>match x with|(t,a)=>tmps.setIfInBounds t a) a.tmps,asg,body,?_,roundIn_of_wpIn trivial ?_⟩
     ·have:=run_yield (P:=P) (args:=xs.toArray) hlw (by rw[uD];simpa using tV);rw[uD]at this;exact this
     obtain⟨c2,rD⟩:∃c2:Bs,c2=⟨w,(Yof P ρ st bs β l (rec .ready none) vals X').or K',some l,st.bl.length,β,K'.put l (.loop (rec .ready none))⟩:=⟨_,rfl⟩;have hYl:(Yof P ρ st bs β l (rec .ready none) vals X').or K' l≠none:=Xu (by rw[Xv];simp);have a2d:∀(r:Loop) k,(K'.put l (.loop r)) k≠none->k=l\/K' k≠none:=fun r k hk=>by
      unfold PH.put at hk;split at hk
      ·rename_i e;exact .inl e
      ·exact .inr hk
     obtain⟨z1,z2,z3⟩:=YQ ps.toList xs a.tmps (by simpa using tV.symm) vQ qP;have a4m:(ps.zip xs.toArray).foldl (fun tmps x=>match x with|(t,a)=>tmps.setIfInBounds t a) a.tmps=(ps.toList.zip xs).foldl (fun t (p:Nat×Value)=>t.setIfInBounds p.1 p.2) a.tmps:=by
      rw[<-Array.foldl_toList,Array.toList_zip]
     rw[a4m];generalize (ps.toList.zip xs).foldl (fun t (p:Nat×Value)=>t.setIfInBounds p.1 p.2) a.tmps=tm at z1 z2 z3;have m0:Mt P ⟨c2,X',K'.put l (.loop (rec .ready none))⟩ (ρ++(xs++vals)) β (ql st ps.toList bs) {tmps:=tm,defers:=[]} w:=by
      refine fc (st:={st with rd:=true}) (lv:=ps.toList) (dd:=[]) (bs:=bs) (δ:=2) qL m.n m.kn m.kb (by simp[tV,hvl,qQ]) (by rw[<-m.sz];exact z1) m.pb vQ yC (fun u s hl' _ hs=> ?_) (fun k' u qO=> ?_) (fun i B hB=> ?_) ?_
      ·rw[z2 u hl'];exact m.sl u s hs
      ·rw[z3 k' u qO];have pO:=(aC.1 qO).1;rw[fS]at pO;rw[aB,aB,dB (by omega)]
      ·change st.bl[i]? =some B at hB;have hi:=(aC.1 hB).1;have e1:(match Cm i bs 0 with|some k=>(xs++vals).getD (ps.toList.length+k) undef|none=>D P ρ B.c)=Is P ρ st bs vals i:=by
        rw[Xx hB];cases Cm i bs 0 with
        |none=>rfl
        |some k=>
         simp only[aB,fS];rw[cQ (by omega),tV,gA]
       rw[e1];refine⟨?_,hf.sz i B hB⟩;rw[<-fe hB];exact wA _ _ (Qp m.inj hi (hβl i hi))
      ·subst rD;refine⟨⟨[],rfl,dO,by simp⟩,m.inj,fun i hi=> .inr (Xu (by rw[Qp m.inj hi (hβl i hi)];simp)),hf.xb,⟨rfl,rfl,rfl,aN _,fun _ _ _=>rfl,a4l,fun b hb=> .inl (Xu (fun e=>hb ?_)),aN _⟩,PH.put_in a0y hlw,(fun e=>by cases e),fun _ _=>rfl,aN _,PH.le.refl _,fun k' qO=> ?_,fun i hi=> ?_⟩
       ·cases e2:X' b with
        |none=>exact e2
        |some o=>rw[Qq hf b o e2]at e;cases e
       ·rcases a2d _ k' qO with rfl|qO
        ·exact hf.xl
        ·cases e2:X' k' with
         |none=>exact e2
         |some o=>exact absurd (yG k' (by rw[Qq hf k' o e2];simp)) qO
       ·show PH.put K' l _ (β i)=none;unfold PH.put;rw[if_neg (hβl i hi)];exact hKb i hi
     refine ihA c2 0 _ _ tb _ β _ w X' _ _ _ eb m0 (by simp[ql,Dy,hd]) yU ?_|>fun hh=>(by subst rD;exact hh);intro e st1 t1 ρ1 β1 a1 w1 H1 K1' nx1 h1 m1 uP tW yE uK;cases e with
     |exit id=>simp only[aD]at h1;subst h1;exact uK.elim
     |goto l=>simp only[aD]at h1;subst h1;exact uK.elim
     |ret=>simp only[aD]at h1;subst h1;exact uK.elim
     |panic ch=>simp only[aD]at h1;subst h1;exact uK.elim
     |outgrown=>simp only[aD]at h1;subst h1;exact uK.elim
     |normal=>
      have a0a:K1' l=some (.loop (rec .ready none)):=m1.kle l _ (by subst rD;show PH.put K' l _ l=_;unfold PH.put;rw[if_pos rfl]);have a2e:=m1.kp l _ a0a;refine⟨_,run_beginRound a2e (by rw[uD]),?_⟩;have a2f:({rec .ready none with state:= .busy}:Loop)=rec .busy none:=by rw[uD]
      rw[a2f];have a4n:=Dk a2e;obtain⟨Ds1,d1,d2,d3⟩:=m1.df;have m1':Mt P ⟨{c2 with K0:=K'.put l (.loop (rec .busy none))},H1,K1'.put l (.loop (rec .busy none))⟩ ρ1 β1 st1 {a1 with defers:=a1.defers} (w1.putObj l (.loop (rec .busy none))):=by
       refine m1.turn _ (by rw[a0a];simp) (by subst rD;exact .inr hYl) (fun k' o qO=> ?_) (fun k' qO=> ?_) (fun k' o qO=> ?_) ⟨Ds1,d1,d2,fun D hD=>⟨(d3 D hD).1,?_⟩⟩
       ·unfold PH.put at qO;split at qO
        ·rename_i e;subst e;cases qO;exact World.putObj_heap_same a4n
        ·rename_i e;rw[Gx e];exact m1.kp k' o qO
       ·unfold PH.put at qO;split at qO
        ·rename_i e;subst e;rw[a0a];simp
        ·exact qO
       ·unfold PH.put at qO⊢;split
        ·rename_i e;rw[if_pos e]at qO;exact qO
        ·rename_i e;rw[if_neg e]at qO;exact m1.kle k' o (by subst rD;show PH.put K' l _ k'=_;unfold PH.put;rw[if_neg e];exact qO)
       ·unfold PH.put;have h5:K1' D=some (.deferred (some [])):=(d3 D hD).2;rw[if_neg (fun e=>by rw[e,a0a]at h5;cases h5)];exact h5
      refine ihB {c2 with K0:=K'.put l (.loop (rec .busy none))} 0 st1 _ t1 ρ1 β1 _ _ H1 _ nx1 _ h1 m1' yE uK ?_|>fun hh=>(by subst rD;exact hh);intro e st2 t2 ρ2 β2 a2 w2 H2 K2 nx2 h2 m2 rE rW qE qC;have hpp:ρ<+:ρ2:=((bY _ _).trans uP).trans rE;have hnn:=tW.trans rW;have hK2:∀k' o,(K'.put l (.loop (rec .busy none))) k'=some o->K2 k'=some o:=fun k' o qO=>m2.kle k' o qO;have a4o:=hK2 l _ (by unfold PH.put;rw[if_pos rfl]);have a2g:=m2.kp l _ a4o;have a0z:=Dk a2g;have a2h:∀k' o,K' k'=some o->K2 k'=some o:=fun k' o qO=>hK2 k' o (by unfold PH.put;rw[if_neg (fun e=>by rw[e,hKl]at qO;cases qO)];exact qO);have fin:∀(jump:Option Code) (vals':List Value),Fit P ρ st bs β l vals' H2->(∀i,i<st.bl.length->w2.heap[β i]? =some (Jr P ρ st bs vals' i))->
        (Instr.endRound l jump).run P w2= .ok (.bool jump.isNone) (w2.putObj l (.loop (rec (if jump.isNone then .ready else .done) jump)))/\
        Step ((Yof P ρ st bs β l (rec .ready none) vals X').or K') w ((Yof P ρ st bs β l (rec (if jump.isNone then .ready else .done) jump) vals' H2).or K') (w2.putObj l (.loop (rec (if jump.isNone then .ready else .done) jump)))/\
        Disj (Yof P ρ st bs β l (rec (if jump.isNone then .ready else .done) jump) vals' H2) K':=fun jump vals' hf' a4p=>by
       have uE:Step ((Yof P ρ st bs β l (rec .ready none) vals X').or K') w H2 w2:=by have:=m2.fr;subst rD;exact this
       have hj:∀b,Yof P ρ st bs β l (rec (if jump.isNone then .ready else .done) jump) vals' H2 b≠none->K' b=none:=fun b hb=>by
        rcases Qr hb with rfl|⟨i,hi,rfl⟩|hb
        ·exact hKl
        ·exact hKb i hi
        ·cases e2:K' b with
         |none=>rfl
         |some o=>exact absurd (m2.kpH b (by show K2 b≠none;rw[a2h b o e2];simp)) hb
       refine⟨?_,⟨uE.os,uE.tape,uE.output,by rw[World.putObj_size];exact uE.size,fun k' qO sE=> ?_,PH.or_In (FG (World.putObj_heap_same a0z) (fun i hi=> ?_) fun b o hb=> ?_) fun b o hb=> ?_,fun b hb=> ?_,uE.dr⟩,hj⟩
       ·have:=run_endRound (P:=P) jump a2g;rw[this,uD]
       ·rw[Gx (fun e=>by rw[e]at sE;exact hYl sE)];exact uE.block k' qO sE
       ·rw[Gx (hβl i hi)];exact a4p i hi
       ·rw[Gx (fun e=>by rw[e,hf'.xl]at hb;cases hb)];exact m2.fr.holds b o hb
       ·rw[Gx (fun e=>by rw[e,hKl]at hb;cases hb)];exact m2.kp b o (a2h b o hb)
       ·by_cases rI:K' b=none
        ·rcases Qr (fun e=>hb (PH.or_none.2 ⟨e,rI⟩))with rfl|⟨i,hi,rfl⟩|hb
         ·exact .inl hYl
         ·exact .inl (Xu (by rw[Qp m.inj hi (hβl i hi)];simp))
         ·exact uE.dom b hb
        ·exact .inl fun e=>rI (PH.or_none.1 e).2
      have wB:=fun(j:Nat) (h2:Xn st bs j st2=some t2)=>YR (l:=l) (c2:={c2 with K0:=K'.put l (.loop (rec .busy none))}) qL m.n hpp h2 m2 (by subst rD;rfl) (by subst rD;rfl) (by show PH.put K' l _ l≠none;unfold PH.put;rw[if_pos rfl];simp) qC;have wP:∀j,j<2->(nx2.getD (st.d+j) fun _ _=>False)=((nx++[fun v h=>I (pre++[xs]) v h,fun v h=>Ix (pre++[xs]) v h]).getD (st.d+j) fun _ _=>False):=fun j hj=>qx hnn (by simp[hd];omega);cases e with
      |normal=>
       obtain⟨vals',g1,g2,g3,g4⟩:=wB 0 h2;rw[wP 0 (by omega)]at g2;have g2:I (pre++[xs]) vals' H2:=by simpa[aB,<-hd]using g2
       obtain⟨q1,q2,q3⟩:=fin none vals' g3 g4;exact⟨_,_,q1,_,_,rfl,q2,q3,.inl ⟨rfl,vals',H2,by omega,g2,g3,rfl⟩⟩
      |panic ch=>simp only[Uc,cN,if_false,aD]at h2;subst h2;exact qC.elim
      |outgrown=>simp only[Uc,cN,if_false,aD]at h2;subst h2;exact qC.elim
      |goto l=>simp only[Uc,cN,if_false,aD]at h2;subst h2;exact qC.elim
      |ret=>
       simp only at h2;split at h2
       ·rename_i hx;obtain⟨r0,hr0,_⟩:=FH hx;obtain⟨vals',g1,g2,g3,g4⟩:=wB 1 h2;rw[wP 1 (by omega)]at g2;have g2:Ix (pre++[xs]) vals' H2:=by simpa[aB,<-hd]using g2
        obtain⟨q1,q2,q3⟩:=fin (some .ret) vals' g3 g4;exact⟨_,_,q1,_,_,rfl,q2,q3,.inr ⟨rfl,vals',H2,_,r0,.ret,hr0,.inl ⟨rfl,rfl⟩,by omega,g2,g3,rfl⟩⟩
       ·simp only[aD]at h2;subst h2;exact qC.elim
      |exit id=>
       simp only at h2;split at h2
       ·rename_i hx;obtain⟨r0,hr0,_⟩:=FH hx;obtain⟨vals',g1,g2,g3,g4⟩:=wB 1 h2;rw[wP 1 (by omega)]at g2;have g2:Ix (pre++[xs]) vals' H2:=by simpa[aB,<-hd]using g2
        obtain⟨q1,q2,q3⟩:=fin (some (.exit id)) vals' g3 g4;exact⟨_,_,q1,_,_,rfl,q2,q3,.inr ⟨rfl,vals',H2,_,r0,.exit id,hr0,.inr ⟨id,rfl,rfl⟩,by omega,g2,g3,rfl⟩⟩
       ·simp only[aD]at h2;subst h2;exact qC.elim
    have fit0:Fit P ρ st bs β l (ib.map (D P ρ)) X:=by
     refine⟨fun i B hB=> ?_,fun i hi=>(hXb i hi).1,hXl X Xin⟩;have e1:Is P ρ st bs (ib.map (D P ρ)) i=D P ρ B.c:=by
      rw[Xx hB];cases e:Cm i bs 0 with
      |none=>rfl
      |some k'=>
       obtain⟨k'',rfl,a1a⟩:=Xs e;obtain⟨B2,r1,r2⟩:=qR k'' i a1a;obtain rfl:B2=B:=bZ.inj (r1.symm.trans hB);simp[aB,r2]
     rw[e1];exact(m.bl i B hB).2
    have own0:∀i,i<st.bl.length->W.heap[β i]? =some (Jr P ρ st bs (ib.map (D P ρ)) i):=fun i hi=>by
     obtain⟨B,hB⟩:∃B,st.bl[i]? =some B:=⟨_,aA hi⟩;rw[fe hB];have e1:Is P ρ st bs (ib.map (D P ρ)) i=D P ρ B.c:=by
      rw[Xx hB];cases e:Cm i bs 0 with
      |none=>rfl
      |some k'=>
       obtain⟨k'',rfl,a1a⟩:=Xs e;obtain⟨B2,r1,r2⟩:=qR k'' i a1a;obtain rfl:B2=B:=bZ.inj (r1.symm.trans hB);simp[aB,r2]
     rw[e1];exact(m.bl i B hB).1
    have dj0:Disj (Yof P ρ st bs β l (rec .ready none) (ib.map (D P ρ)) X) K1:=fun b hb=>by
     rcases Qr hb with rfl|⟨i,hi,rfl⟩|hb
     ·exact hXl K1 K1in
     ·exact(hXb i hi).2
     ·exact xH b hb
    have in0:((Yof P ρ st bs β l (rec .ready none) (ib.map (D P ρ)) X).or K1).In W1:=PH.or_In (FG (by rw[hl];exact hL1) (fun i hi=>sZ.block (own0 i hi)) (Xin.ext sZ)) (K1in.ext sZ);refine(hit l (fun pre y=>∃vals X',vals.length=ib.length/\I pre vals X'/\Fit P ρ st bs β l vals X'/\y=Yof P ρ st bs β l (rec .ready none) vals X')
     (fun pre y=>∃vals X' e0 r0 c0,Ir body=e0::r0/\((e0= .ret/\c0=Code.ret)\/∃i,e0= .exit i/\c0=Code.exit i)/\vals.length=ib.length/\Ix pre vals X'/\Fit P ρ st bs β l vals X'/\y=Yof P ρ st bs β l (rec .done (some c0)) vals X')
     ?_ ?_ _ ⟨_,X,by simp,hI0,fit0,rfl⟩ dj0 W1 in0).mono ?_
    ·rintro pre y ⟨vals,X',_,h1,h2,rfl⟩;exact(vR pre vals X' h1).trans (Qq h2)
    ·rintro pre xs y K' hE ⟨vals,X',h0,h1,h2,rfl⟩ yG;exact round pre xs vals X' K' hE h0 h1 h2 yG
    ·rintro e W2 ⟨v,H',rfl,qA,Y',K',pP,yG,a2i⟩;have back:∀(r:Loop) (vals':List Value) (X':PH),r.state≠ .busy->Y'=Yof P ρ st bs β l r vals' X'->vals'.length=ib.length->Fit P ρ st bs β l vals' X'->
       (Instr.endLoop l).run P W2= .ok r.pending (W2.putObj l (.loop {r with state:= .exhausted}))/\Disj X' K'/\
       Mt P ⟨c1,X'.or K',K.put W.heap.size (.deferred (some []))⟩ (ρ++vals') β (Dy st [] [] bs 0) {a with defers:=[Qm W.heap.size]++a.defers} (W2.putObj l (.loop {r with state:= .exhausted})):=by
      rintro r vals' X' hr rfl hvl hf;have tX:=qA.less pP;have wA:=(PH.le_or _ K').In tX.holds;have a0y:=(PH.or_r yG).In tX.holds;have tI:=wA l _ Xv;have hKl:K' l=none:=yG l (by rw[Xv];simp);have hXK:Disj X' K':=fun b hb=>yG b (by
       cases e:X' b with
       |none=>exact absurd e hb
       |some o=>rw[Qq hf b o e];simp)
      have hKW:∀b o,K b=some o->b<W.heap.size:=fun b o hb=>Dk (m.kp b o hb);have hKn:∀b,K b≠none->((Yof P ρ st bs β l (rec .ready none) (ib.map (D P ρ)) X).or K1) b=none:=fun b hb=>by
       have h1:H b=none:=m.kpH b hb;rw[hHe]at h1;obtain⟨h2,h3⟩:=PH.or_none.1 h1;refine PH.or_none.2 ⟨?_,h3⟩;cases e:Yof P ρ st bs β l (rec .ready none) (ib.map (D P ρ)) X b with
       |none=>rfl
       |some o=>
        rcases Qr (by rw[e];simp:Yof P ρ st bs β l (rec .ready none) (ib.map (D P ρ)) X b≠none)with rfl|⟨i,hi,rfl⟩|h4
        ·cases e2:K b with
         |none=>exact absurd e2 hb
         |some o2=>have:=hKW _ _ e2;omega
        ·exact absurd (m.kpB i hi) hb
        ·exact absurd h2 h4
      have hDn:((Yof P ρ st bs β l (rec .ready none) (ib.map (D P ρ)) X).or K1) W.heap.size=none:=by
       refine PH.or_none.2 ⟨?_,?_⟩
       ·cases e:Yof P ρ st bs β l (rec .ready none) (ib.map (D P ρ)) X W.heap.size with
        |none=>rfl
        |some o=>
         rcases Qr (by rw[e];simp:Yof P ρ st bs β l (rec .ready none) (ib.map (D P ρ)) X W.heap.size≠none)with h4|⟨i,hi,h4⟩|h4
         ·omega
         ·have:=m.lt hi;omega
         ·cases e2:X W.heap.size with
          |none=>exact absurd e2 h4
          |some o2=>have:=Dk (Xin _ _ e2);omega
       ·cases e:K1 W.heap.size with
        |none=>rfl
        |some o=>have:=Dk (K1in _ _ e);omega
      have yY:∀b,b<W1.heap.size->((Yof P ρ st bs β l (rec .ready none) (ib.map (D P ρ)) X).or K1) b=none->(X'.or K') b=none:=fun b hb hn=>by
       cases e:(X'.or K') b with
       |none=>rfl
       |some o=>
        have h4:(Yof P ρ st bs β l r vals' X').or K' b≠none:=fun e2=>by
         obtain⟨e3,e4⟩:=PH.or_none.1 e2;have e5:X' b=none:=by
          cases e6:X' b with
          |none=>rfl
          |some o=>rw[Qq hf b o e6]at e3;cases e3
         rw[PH.or_none.2 ⟨e5,e4⟩]at e;cases e
        rcases tX.dom b h4 with h5|h5
        ·exact absurd hn h5
        ·omega
      have hKD:K W.heap.size=none:=by
       cases e:K W.heap.size with
       |none=>rfl
       |some o=>have:=hKW _ _ e;omega
      refine⟨run_endLoop tI hr,hXK,fc (lv:=[]) (dd:=[]) (bs:=bs) (δ:=0) qL m.n m.kn m.kb (by simp[hvl,qQ]) m.sz m.pb dO yC (fun u s _ _ hs=>m.sl u s hs) (fun k' u qO=>by simp at qO) (fun i B hB=> ?_) ?_⟩
      ·have hi:=(aC.1 hB).1;have e1:(match Cm i bs 0 with|some k=>vals'.getD (([]:List Nat).length+k) undef|none=>D P ρ B.c)=Is P ρ st bs vals' i:=by
        rw[Xx hB];cases Cm i bs 0 with
        |none=>rfl
        |some k=>simp only[List.length_nil,bM]
       rw[e1,Gx (hβl i hi),<-fe hB];exact⟨wA _ _ (Qp m.inj hi (hβl i hi)),hf.sz i B hB⟩
      ·obtain⟨Ds,d1,d2,d3⟩:=m.df;have uE:=m.fr;refine⟨⟨W.heap.size::Ds,by simp[d1],dF.2 ⟨fun h=> ?_,d2⟩,fun D hD=> ?_⟩,m.inj,m.own,fun i hi=> ?_,⟨tX.os.trans (sZ.os.trans uE.os),tX.tape.trans (sZ.tape.trans uE.tape),tX.output.trans (sZ.output.trans uE.output),?_,fun k' qO sE=> ?_,fun b o hb=> ?_,fun b hb=> ?_,aS uE.dr (aS sZ.dr tX.dr)⟩,fun b o hb=> ?_,m.rd,m.ag,m.ln,fun b o hb=> ?_,fun b hb=> ?_,fun i hi=> ?_⟩
       ·have:=(d3 _ h).2;simp only at this;rw[hKD]at this;cases this
       ·rcases aL.1 hD with rfl|hD
        ·exact⟨uE.size,by show PH.put K _ _ _=_;unfold PH.put;rw[if_pos rfl]⟩
        ·refine⟨(d3 D hD).1,?_⟩;show PH.put K _ _ _=_;unfold PH.put;rw[if_neg (fun e=>by have:=(d3 D hD).2;simp only at this;rw[e,hKD]at this;cases this)];exact(d3 D hD).2
       ·exact PH.or_none.2 ⟨hf.xb i hi,yG _ (by rw[Qp m.inj hi (hβl i hi)];simp)⟩
       ·rw[World.putObj_size];exact aS uE.size (aS sZ.size tX.size)
       ·have sV:k'<W.heap.size:=bK qO uE.size;rw[Gx (by omega),tX.block k' (by omega) ?_,sZ.block' sV,uE.block k' qO sE];refine PH.or_none.2 ⟨?_,?_⟩
        ·cases e:Yof P ρ st bs β l (rec .ready none) (ib.map (D P ρ)) X k' with
         |none=>rfl
         |some o=>
          rcases Qr (by rw[e];simp:Yof P ρ st bs β l (rec .ready none) (ib.map (D P ρ)) X k'≠none)with h4|⟨i,hi,h4⟩|h4
          ·omega
          ·subst h4;rcases m.own i hi with h5|h5
           ·exact absurd h5 (mS.2 qO)
           ·exact absurd sE h5
          ·have h6:H k'≠none:=by rw[hHe];exact Xu h4
           rcases uE.dom k' h6 with h5|h5
           ·exact absurd sE h5
           ·exact absurd h5 (mS.2 qO)
        ·cases e:K1 k' with
         |none=>rfl
         |some o=>
          have h6:H k'≠none:=by rw[hHe];intro e2;rw[(PH.or_none.1 e2).2]at e;cases e
          rcases uE.dom k' h6 with h5|h5
          ·exact absurd sE h5
          ·exact absurd h5 (mS.2 qO)
       ·change (X'.or K') b=some o at hb;have pT:b≠l:=fun e=>by
         subst e;rw[PH.or_none.2 ⟨hf.xl,hKl⟩]at hb;cases hb
        rw[Gx pT];exact PH.or_In ((Qq hf).In wA) a0y b o hb
       ·by_cases pO:b<W1.heap.size
        ·by_cases rW:((Yof P ρ st bs β l (rec .ready none) (ib.map (D P ρ)) X).or K1) b=none
         ·exact absurd (yY b pO rW) hb
         ·by_cases h7:H b=none
          ·rw[hHe]at h7;obtain⟨h8,h9⟩:=PH.or_none.1 h7;rcases Qr (fun e=>rW (PH.or_none.2 ⟨e,h9⟩))with rfl|⟨i,hi,rfl⟩|h4
           ·right;have:=uE.size;simp only at this⊢;omega
           ·exact absurd (PH.or_none.2 ⟨hf.xb i hi,yG _ (by rw[Qp m.inj hi (hβl i hi)];simp)⟩) hb
           ·exact absurd h8 h4
          ·exact uE.dom b h7
        ·right;have:=uE.size;simp only at this⊢;omega
       ·change (if b=W.heap.size then some (Obj.deferred (some []))else K b)=some o at hb;split at hb
        ·rename_i e;subst e;cases hb;rw[Gx (by omega),tX.block _ (by omega) hDn];exact hD1
        ·have a0v:=m.kp b o hb;have:=hKW b o hb;rw[Gx (by omega),tX.block b (by omega) (hKn b (by rw[hb];simp))];exact sZ.block a0v
       ·show PH.put K _ _ b=some o;have h4:=m.kle b o hb;have:=hKW b o h4;unfold PH.put;rw[if_neg (by omega)];exact h4
       ·change (if b=W.heap.size then some (Obj.deferred (some []))else K b)≠none at hb;split at hb
        ·rename_i e;subst e;exact yY _ (by omega) hDn
        ·cases e2:K b with
         |none=>exact absurd e2 hb
         |some o=>have:=hKW b o e2;exact yY b (by omega) (hKn b hb)
       ·show PH.put K _ _ (β i)=none;have:=m.lt hi;unfold PH.put;rw[if_neg (by omega)];exact m.kpB i hi
     rcases a2i with⟨xs,hS,vals',X',h0,h1,h2,hY⟩|⟨pre,hS,vals',X',e0,r0,c0,ho,wQ,h0,h1,h2,hY⟩
     ·obtain⟨q1,q2,q3⟩:=back _ vals' X' (by rw[uD];simp) hY h0 h2;have q1':(Instr.endLoop l).run P W2= .ok none (W2.putObj l (.loop {rec .ready none with state:= .exhausted})):=by rw[q1,uD]
      refine⟨none,_,q1',?_⟩;exact hQ .normal _ ta (ρ++vals') β _ _ (X'.or K') _ nx ea q3 (bY _ _) (cM _) (by simp[Dy,hd]) (a4j xs vals' X' K' hS q2 h0 h1)
     ·obtain⟨q1,q2,q3⟩:=back _ vals' X' (by rw[uD];simp) hY h0 h2;have q1':(Instr.endLoop l).run P W2= .ok (some c0) (W2.putObj l (.loop {rec .done (some c0)with state:= .exhausted})):=by rw[q1,uD]
      refine⟨some c0,_,q1',?_⟩;have hk0:k e0 (Dy st [] [] bs 0)=some te:=by rw[ho]at ee;exact ee
      have:=hQ e0 _ te (ρ++vals') β _ _ (X'.or K') _ nx hk0 q3 (bY _ _) (cM _) (by simp[Dy,hd]) (a4k pre vals' X' K' hS q2 h0 h1);rcases wQ with⟨rfl,rfl⟩|⟨i,rfl,rfl⟩
      ·exact wpIn_ret this
      ·exact wpIn_exit this
   ·cases h
  ·cases h
 ·simp only[aD]at h;subst h;exact pU.elim
theorem YT {C:List Hn} (hm:P.follows .mixedOrders=true):∀(c:Code) (c1:Bs) (rm:Nat) (st:St) (k:Exit->St->Option Tree) (t:Tree) (ρ:List Value) (β:Nat->Nat) (a:Act) (W:World) (H K:PH) (nx:List (List Value->PH->Prop)) (Q:Exit->Act->World->Prop),
  ex P C c st k=some t->Mt P ⟨c1,H,K⟩ ρ β st a W->nx.length=st.d->den P G t nx ρ H->
  (∀e st' t' ρ' β' a' W' H' K' nx',k e st'=some t'->Mt P ⟨c1,H',K'⟩ ρ' β' st' a' W'->ρ<+:ρ'->nx<+:nx'->nx'.length=st'.d->den P G t' nx' ρ' H'->Q e a' W')->c.wpIn (Fr c1.ro) rm P Q a W:=by
 intro c;induction c with
 |skip=>intro c1 rm st k t ρ β a W H K nx Q h m hd pU hQ;exact wpIn_skip (hQ _ _ _ _ _ _ _ _ _ _ h m (cM _) (cM _) hd pU)
 |exit id=>intro c1 rm st k t ρ β a W H K nx Q h m hd pU hQ;exact wpIn_exit (hQ _ _ _ _ _ _ _ _ _ _ h m (cM _) (cM _) hd pU)
 |ret=>intro c1 rm st k t ρ β a W H K nx Q h m hd pU hQ;exact wpIn_ret (hQ _ _ _ _ _ _ _ _ _ _ h m (cM _) (cM _) hd pU)
 |region id ops draw=>
  intro c1 rm st k t ρ β a W H K nx Q h m hd pU hQ;have pQ:Qo P G c1 rm (.region id ops draw) (exR P C id ops draw):=by
   intro st k t ρ β a W H K nx Q h m hd pU hQ;have yD:Rg st β st β:=⟨fun _ _=>rfl,aN _⟩;cases draw with
   |false=>
    simp only[exR]at h;refine WA (kd:=fun _=>4) (ta:=fun i=>β (0*i)) ?_;exact EW (ρ:=ρ) (dn:=st.d) (nx:=nx) (tg:=fun i=>0*i) (st0:=st) (β0:=β) (fun _ _ _ _=>rfl) (fun i h=>by omega) (fun st2 t2 ρ2 β2 a2 W2 H2 h2 m2 rE qE qC=>hQ _ _ _ _ _ _ _ _ _ _ h2 m2 rE (cM _) (by rw[qE];exact hd) qC) _ st t ρ β a W H h m (cM _) rfl yD pU
   |true=>
    simp only[exR]at h;split at h
    ·rename_i c hfc;split at h
     ·rename_i hCB;simp only[DO,aF,beq_iff_eq]at hCB;obtain⟨⟨hA,hTg⟩,hB⟩:=hCB;rw[hA]at hB;have yT:∀i,(c.ks.getD i 99=5\/c.ks.getD i 99=6)->c.ts.getD i 0<st.bl.length:=fun i hi=>by
       have pO:i<c.ks.length:=by
        rcases Nat.lt_or_ge i c.ks.length with h|h
        ·exact h
        ·rw[aB,List.getElem?_eq_none h]at hi;simp at hi
       have:=dJ.1 hTg i (cK.2 pO);simp only[bW,mR,Bool.or_eq_false_iff,beq_eq_false_iff_ne,decide_eq_true_eq]at this;rcases this with⟨h1,h2⟩|h1
       ·exact absurd hi (by omega)
       ·exact h1
      have hx:=Ext.drawn W;refine VY (kd:=fun i=>c.ks.getD i 99) (tg:=fun i=>c.ts.getD i 0) (ta:=fun i=>β (c.ts.getD i 0)) hm hB (fun i j hi hj pT e=>pT (m.inj _ _ (yT i hi) (yT j hj) e)) ?_;refine YB (ρ:=ρ) (dn:=st.d) (nx:=nx) (kd:=fun i=>c.ks.getD i 99) (tg:=fun i=>c.ts.getD i 0) (st0:=st) (β0:=β) m.fr.size (fun k hk=>by
        cases e:K k with
        |none=>exact absurd e hk
        |some ob=>exact Dk (m.kp k ob e)) (fun _ _ _ h=>h) yT (fun st' t' ρ' β' a' W' H' h' m' hp qB qP qJ=> ?_) _ [] st t ρ β a _ H (fun i hi=> ?_) h (m.ext hx) (cM _) rfl yD (fun i hi=> .inl (m.lt hi)) (fun b hb=> ?_) pU
      ·exact EW (ρ:=ρ) (dn:=st.d) (nx:=nx) (kd:=fun i=>c.ks.getD i 99) (tg:=fun i=>c.ts.getD i 0) (st0:=st) (β0:=β) (fun _ _ _ h=>h) yT (fun st2 t2 ρ2 β2 a2 W2 H2 h2 m2 rE qE qC=>hQ _ _ _ _ _ _ _ _ _ _ h2 m2 rE (cM _) (by rw[qE];exact hd) qC) _ st' t' ρ' β' a' W' H' h' m' hp qB qP qJ
      ·exact dJ.1 (by
        simp only[bu,aF]at hB;exact hB.1.1.1.2) i hi
      ·cases e:H b with
       |none=>exact absurd e hb
       |some ob=>exact .inl (Dk (m.fr.holds b ob e))
     ·simp only[aD]at h;subst h;exact pU.elim
    ·simp only[aD]at h;subst h;exact pU.elim
  simp only[ex]at h;split at h
  ·exact qy pQ _ _ st k t ρ β a W H K nx Q h m hd pU hQ
  ·exact pQ st k t ρ β a W H K nx Q h m hd pU hQ
 |seq x y ihx ihy=>
  intro c1 rm st k t ρ β a W H K nx Q h m hd pU hQ;simp only[ex]at h;refine wpIn_seq (ihx c1 rm st _ t ρ β a W H K nx _ h m hd pU fun e st' t' ρ' β' a' W' H' K' nx' h' m' hp hn qB qJ=> ?_);cases e with
  |normal=>exact ihy c1 rm st' k t' ρ' β' a' W' H' K' nx' Q h' m' qB qJ fun e2 st2 t2 ρ2 β2 a2 W2 H2 K2 nx2 h2 m2 rE rW qE qC=>hQ _ _ _ _ _ _ _ _ _ _ h2 m2 (hp.trans rE) (hn.trans rW) qE qC
  |exit id=>exact hQ _ _ _ _ _ _ _ _ _ _ h' m' hp hn qB qJ
  |goto l=>exact hQ _ _ _ _ _ _ _ _ _ _ h' m' hp hn qB qJ
  |ret=>exact hQ _ _ _ _ _ _ _ _ _ _ h' m' hp hn qB qJ
  |panic ch=>exact hQ _ _ _ _ _ _ _ _ _ _ h' m' hp hn qB qJ
  |outgrown=>exact hQ _ _ _ _ _ _ _ _ _ _ h' m' hp hn qB qJ
 |cond c x y ihx ihy=>
  intro c1 rm st k t ρ β a W H K nx Q h m hd pU hQ;have pQ:Qo P G c1 rm (.cond c x y) fun st k=>match(st.val c).map (Ns st.kb)with
    |some (.k (.bool true))=>ex P C x st k
    |some (.k (.bool false))=>ex P C y st k
    |some s=>match amO st.am c with
     |some true=>Hm P [.isb true s] st fun st=>ex P C x (st.know P s true) k
     |some false=>Hm P [.isb false s] st fun st=>ex P C y (st.know P s false) k
     |none=>Hm P [.bool s] st fun st=>
      match ex P C x (st.know P s true) k,ex P C y (st.know P s false) k with
      |some t1,some t2=>some (.br s t1 t2)
      |_,_=>none
    |none=>none:=by
   intro st k t ρ β a W H K nx Q h m hd pU hQ;simp only at h;cases hv:st.val c with
   |none=>simp[hv]at h
   |some s=>
    simp only[hv,dK]at h;have he:=m.val hv;have hD:=qp (P:=P) (ρ:=ρ) m.kb s;split at h
    ·rename_i hl;simp only[aD]at hl;rw[hl]at hD;exact wpIn_cond_true (by rw[he,<-hD];rfl) (ihx c1 rm st k t ρ β a W H K nx Q h m hd pU hQ)
    ·rename_i hl;simp only[aD]at hl;rw[hl]at hD;exact wpIn_cond_false (by rw[he,<-hD];rfl) (ihy c1 rm st k t ρ β a W H K nx Q h m hd pU hQ)
    ·rename_i c' _ _ hl;simp only[aD]at hl;rw[hl]at hD;split at h
     ·obtain⟨st',t',h1,h2,h3,h4,h5⟩:=Ud h m.kn pU;have hb:D P ρ c'= .bool true:=h3 (.isb true c') (by simp);exact wpIn_cond_true (by rw[he,<-hD];exact hb) (ihx c1 rm _ k t' ρ β a W H K nx Q h4 ((m.more h1 h2).know hb) (by simp only[St.know];rw[h1.d];exact hd) h5 hQ)
     ·obtain⟨st',t',h1,h2,h3,h4,h5⟩:=Ud h m.kn pU;have hb:D P ρ c'= .bool false:=h3 (.isb false c') (by simp);exact wpIn_cond_false (by rw[he,<-hD];exact hb) (ihy c1 rm _ k t' ρ β a W H K nx Q h4 ((m.more h1 h2).know hb) (by simp only[St.know];rw[h1.d];exact hd) h5 hQ)
     obtain⟨st',t',h1,h2,h3,h4,h5⟩:=Ud h m.kn pU;obtain⟨b,hb⟩:∃b,D P ρ c'= .bool b:=h3 (.bool c') (by simp);have m':=m.more h1 h2;split at h4
     ·rename_i t1 t2 e1 e2;simp only[aD]at h4;subst h4;cases b with
      |true=>exact wpIn_cond_true (by rw[he,<-hD];exact hb) (ihx c1 rm _ k t1 ρ β a W H K nx Q e1 (m'.know hb) (by simp only[St.know];rw[h1.d];exact hd) (h5.1 hb) hQ)
      |false=>exact wpIn_cond_false (by rw[he,<-hD];exact hb) (ihy c1 rm _ k t2 ρ β a W H K nx Q e2 (m'.know hb) (by simp only[St.know];rw[h1.d];exact hd) (h5.2 hb) hQ)
     ·cases h4
    ·rename_i hl;cases hl
  simp only[ex]at h;split at h
  ·exact qy pQ _ _ st k t ρ β a W H K nx Q h m hd pU hQ
  ·exact pQ st k t ρ β a W H K nx Q h m hd pU hQ
 |block id x ih=>
  intro c1 rm st k t ρ β a W H K nx Q h m hd pU hQ;have pQ:Qo P G c1 rm (.block id x) fun st k=>ex P C x st fun e st=>match e with
    | .exit j=>if j=id then k .normal st else k (.exit j) st
    |e=>k e st:=by
   intro st k t ρ β a W H K nx Q h m hd pU hQ;simp only at h;refine wpIn_block (ih c1 rm st _ t ρ β a W H K nx _ h m hd pU fun e st' t' ρ' β' a' W' H' K' nx' h' m' hp hn qB qJ=> ?_);cases e with
   |exit j=>
    simp only[Exit.inBlock];simp only at h';split at h'
    ·rename_i e;rw[if_pos e];exact hQ _ _ _ _ _ _ _ _ _ _ h' m' hp hn qB qJ
    ·rename_i e;rw[if_neg e];exact hQ _ _ _ _ _ _ _ _ _ _ h' m' hp hn qB qJ
   |normal=>exact hQ _ _ _ _ _ _ _ _ _ _ h' m' hp hn qB qJ
   |goto l=>exact hQ _ _ _ _ _ _ _ _ _ _ h' m' hp hn qB qJ
   |ret=>exact hQ _ _ _ _ _ _ _ _ _ _ h' m' hp hn qB qJ
   |panic ch=>exact hQ _ _ _ _ _ _ _ _ _ _ h' m' hp hn qB qJ
   |outgrown=>exact hQ _ _ _ _ _ _ _ _ _ _ h' m' hp hn qB qJ
  simp only[ex]at h;split at h
  ·exact qy pQ _ _ st k t ρ β a W H K nx Q h m hd pU hQ
  ·exact pQ st k t ρ β a W H K nx Q h m hd pU hQ
 |loop b ih=>
  intro c1 rm st k t ρ β a W H K nx Q h m hd pU hQ;simp only[ex]at h;split at h
  ·rename_i iv ib hiv hib;split at h
   ·rename_i hc;rw[aF]at hc;obtain⟨qL,qY⟩:=hc;have qY:=Xt qY;rw[cR]at h;obtain⟨tb,h,rfl⟩:=h;obtain⟨I,μ,hI0,hI⟩:=pU;obtain⟨rF,tI⟩:=ez hiv;obtain⟨qQ,qR⟩:=Ue hib;have sJ:(Qj st.sl (Ew b)).Nodup:=(YE _).filter _;have a0w:∀u,u∈Ew b->u<st.sl.length->u∈Qj st.sl (Ew b)\/u∈qk st.sl (Ew b):=fun u hu pO=>by
     cases hlv:qj st.sl[u]with
     |true=>exact .inl (bJ.2 ⟨hu,by simp[pO,hlv]⟩)
     |false=>exact .inr (bJ.2 ⟨hu,by simp[pO,hlv]⟩)
    have gl:∀(l:List SV) (ρ':List Value) (j:Nat) (s:SV),l[j]? =some s->(l.map (D P ρ')).getD j undef=D P ρ' s:=fun l ρ' j s hj=>by
     simp[aB,hj]
    refine YL (fun n a' W'=>∃vals β' H' K',vals.length=(iv++ib).length/\I vals H'/\μ vals H'=n/\Mt P ⟨c1,H',K'⟩ (ρ++vals) β' (Dy st (Qj st.sl (Ew b)) (qk st.sl (Ew b)) (Ql st b) 1) a' W') (μ _ H) ⟨(iv++ib).map (D P ρ),β,H,K,by simp,hI0,rfl,?_⟩ ?_
    ·refine fc qL m.n m.kn m.kb (by rw[aR,aJ,rF,qQ]) m.sz m.pb sJ qY (fun u s _ _ hs=>m.sl u s hs) (fun k' u qO=> ?_) (fun i B hB=> ?_) m.bk
     ·obtain⟨s,hs,sV⟩:=tI k' u qO;obtain⟨v,hv,yF⟩:=m.sl u _ hs;rw[hv];congr 1;rw[gl _ ρ k' s]
      ·exact yF
      ·rw[dB (aC.1 sV).1];exact sV
     ·cases hp:Cm i (Ql st b) 0 with
      |some k'=>
       obtain⟨k'',rfl,qO⟩:=Xs hp;obtain⟨B2,hB2,hq⟩:=qR k'' i qO;obtain rfl:B2=B:=bZ.inj (hB2.symm.trans hB);have e:((iv++ib).map (D P ρ)).getD ((Qj st.sl (Ew b)).length+(0+k'')) undef=D P ρ B2.c:=gl _ _ _ _ (by
        rw[cQ (by omega),rF,bM,gA];exact hq)
       simp only[e];exact m.bl i B2 hB
      |none=>simp only;exact m.bl i B hB
    ·rintro n a1 W1 ⟨vals,β1,H2,K2,hvl,hIv,hμ,m1⟩;refine ih c1 rm _ _ tb (ρ++vals) β1 a1 W1 H2 K2 (nx++[fun l w=>I l w/\μ l w<μ vals H2]) _ h m1 (by simp[Dy,hd]) (hI vals H2 hvl hIv) ?_;intro e st2 t2 ρ2 β2 a2 W2 H3 K3 nx2 h2 m2 rE rW qE qC;have hpρ:ρ<+:ρ2:=(bY _ _).trans rE;have vQ:nx<+:nx2:=(bY _ _).trans rW;cases e with
     |normal=>
      simp only at h2;split at h2
      ·rename_i nv nb hnv rY;split at h2
       ·rename_i tU;rw[aF]at tU;simp only[aD]at h2;subst h2;have hh:=qC;have e1:nx2.getD st.d (fun _ _=>False)=fun l w=>I l w/\μ l w<μ vals H2:=by
         rw[qx rW (by simp[hd])];simp[aB,<-hd]
        simp only[den]at hh;rw[e1]at hh;obtain⟨hIn,pO⟩:=hh;obtain⟨r,rfl⟩:=hpρ;refine⟨μ _ H3,by rw[<-hμ];exact pO,(nv++nb).map (D P (ρ++r)),β2,H3,K3,?_,hIn,rfl,?_⟩
        ·rw[aR,aJ,aJ,(ez hnv).1,(Ue rY).1,rF,qQ]
        ·exact FD qL m m2 sJ qY a0w hnv rY tU.1 tU.2
       ·simp only[aD]at h2;subst h2;exact qC.elim
      ·simp only[aD]at h2;subst h2;exact qC.elim
     |exit id=>exact hQ _ _ _ _ _ _ _ _ _ _ h2 m2 hpρ vQ qE qC
     |goto l=>exact hQ _ _ _ _ _ _ _ _ _ _ h2 m2 hpρ vQ qE qC
     |ret=>exact hQ _ _ _ _ _ _ _ _ _ _ h2 m2 hpρ vQ qE qC
     |panic ch=>exact hQ _ _ _ _ _ _ _ _ _ _ h2 m2 hpρ vQ qE qC
     |outgrown=>exact hQ _ _ _ _ _ _ _ _ _ _ h2 m2 hpρ vQ qE qC
   ·cases h
  ·cases h
 |rangeFunc g ps asg body ihA ihB=>
  intro c1 rm st k t ρ β a W H K nx Q h m hd pU hQ;exact YS ihA ihB h m hd pU hQ
 |scope x ih=>
  intro c1 rm st k t ρ β a W H K nx Q h m hd pU hQ;simp only[ex]at h;refine YN (ih c1 rm st _ t ρ β a W H K nx _ h m hd pU fun e st' t' ρ' β' a' W' H' K' nx' h' m' hp hn qB qJ=> ?_);cases e with
  |goto l=>simp only[aD]at h';subst h';exact qJ.elim
  |exit id=>exact hQ _ _ _ _ _ _ _ _ _ _ h' m' hp hn qB qJ
  |normal=>exact hQ _ _ _ _ _ _ _ _ _ _ h' m' hp hn qB qJ
  |ret=>exact hQ _ _ _ _ _ _ _ _ _ _ h' m' hp hn qB qJ
  |panic ch=>exact hQ _ _ _ _ _ _ _ _ _ _ h' m' hp hn qB qJ
  |outgrown=>exact hQ _ _ _ _ _ _ _ _ _ _ h' m' hp hn qB qJ
 |label l=>intro c1 rm st k t ρ β a W H K nx Q h m hd pU hQ;exact wpIn_label (hQ _ _ _ _ _ _ _ _ _ _ h m (cM _) (cM _) hd pU)
 |goto l=>intro c1 rm st k t ρ β a W H K nx Q h m hd pU;simp only[ex,aD]at h;subst h;exact fun _=>pU.elim
 |refuse s=>intro c1 rm st k t ρ β a W H K nx Q h m hd pU;simp only[ex,aD]at h;subst h;exact fun _=>pU.elim
def Kz (tmps:Array Value):ResultVar->Sem Value
 | .tmp t=>pure (tmps.getD t undef)
 | .cell a t=>do loadVar t (<-asAddr (tmps.getD a undef))
theorem YU (m:Mt P w0 ρ β st a W):∀{rs:List ResultVar} {l:List SV},Ob P st rs=some l->(rs.mapM (Kz a.tmps)).run P W= .ok (l.map (D P ρ)) W:=by
 intro rs;induction rs with
 |nil=>intro l h;simp only[Ob,aD]at h;subst h;rfl
 |cons r rs ih=>
  intro l h;cases r with
  |tmp t=>
   simp only[Ob]at h;split at h
   ·rename_i s l' hs hl;simp only[aD]at h;subst h;obtain⟨v,hv,hm⟩:=m.sl t _ hs;have e:a.tmps.getD t undef=D P ρ s:=by
     rw[Array.getD_eq_getD_getElem?,hv];exact hm
    simp only[nR,aG,Kz,aT,aE,ih hl,e,aM]
   ·cases h
  |cell t T=>
   simp only[Ob]at h;split at h
   ·rename_i s l' hs hl;simp only[aD]at h;subst h;have a2j:=EP m (o:=⟨none,.load T (.tmp t),0, "",#[],none⟩) (T:=T) (x:= .tmp t) rfl;rw[hs]at a2j;obtain⟨_,_,v,hv,pQ⟩:=a2j (by simp);have pQ:=pQ W (.inr (.inl (Ext.refl _)));have hv:v=D P ρ s:=hv;have e:(Kz a.tmps (.cell t T)).run P W= .ok (D P ρ s) W:=by
     simp only[execOp,aG]at pQ;unfold Kz;rw[<-hv];show(asAddr (a.eval (.tmp t))>>=loadVar T).run P W=_;unfold Instr.loadAt at pQ;generalize a.eval (.tmp t)=x at pQ;cases x with
     |pointer p=>
      cases p with
      |none=>simp[Instr.sureAddr]at pQ
      |some ad=>
       simp only[Instr.sureAddr,aG,aT,aE]at pQ;simp only[asAddr,aG,aT,aE];cases hl:(loadVar T ad).run P W with
       |ok x w=>rw[hl]at pQ;simp at pQ;obtain⟨rfl,rfl⟩:=pQ;rfl
       |halt x w=>rw[hl]at pQ;simp[Result.andThen]at pQ
     |_=>simp[Instr.sureAddr]at pQ
    simp only[nR,aG,e,aE,ih hl,aT,aM]
   ·cases h
theorem YV {fn:Func} {tmps:Array Value} {l:List Value} {w:World} (h:(fn.results.toList.mapM (Kz tmps)).run P w= .ok l w):(results fn tmps).run P w= .ok (Bv l) w:=by
 unfold results;have e:(fn.results.mapM (Kz tmps)).run P w= .ok l.toArray w:=by
  rw[Array.mapM_eq_mapM_toList];have:(List.toArray<$>fn.results.toList.mapM (Kz tmps):Sem (Array Value))=(fn.results.toList.mapM (Kz tmps)>>=fun x=>pure x.toArray):=rfl;rw[this,aG,h];rfl
 show((fn.results.mapM (Kz tmps))>>=fun vs=>pure (if h:vs.size=1 then vs[0]else .tuple vs)).run P w=_;rw[aG,e];simp only[aE,aT];congr 1
 match l with
 |[]=>rfl
 |[x]=>rfl
 |x::y::r=>simp[Bv]
theorem FI (hm:P.follows .mixedOrders=true) {f:FuncId} {E:List Nat} {A:List (Nat×Bool)} {J:List Jn} {C:List Hn} {t:Tree} (ht:tree P E A J C f=some t) (args:List Value) {np:Nat} (hnp:(P.funcs[f]?).map (fun fn=>fn.params.size+fn.nfree)=some np) (qU:args.length=np) {H:PH} (pU:den P G t [] args H) (W:World) (pY:H.In W):
  Calls P f args.toArray W fun e w'=>∃v H',e= .returned v/\Step H W H' w'/\G v H':=by
 unfold tree at ht;split at ht
 ·rename_i fn hf;split at ht
  ·rename_i c hc;rw[hf]at hnp;simp only[dK,aD]at hnp;rw[hnp]at ht;refine(callsIn_wide (n:=0)).1 (callsIn_of_wp_marks hf hc trivial ?_);refine YT (G:=G) hm c ⟨W,H,none,0,fun _=>0,fun _=>none⟩ 0 _ _ t args (fun _=>0) _ W H (fun _=>none) [] _ ht ?_ rfl pU ?_
   ·refine{sz:=by simp[qU],sl:= ?_,pb:= ?_,df:=⟨[],rfl,dO,by simp⟩,n:=qU,bl:=fun b B h=>by simp at h,inj:=fun b b' h=>by simp at h,own:=fun b h=>by simp at h,sep:=fun b h=>by simp at h,fr:=Step.refl pY,kp:=(fun b o h=>by cases h),rd:=fun _=>rfl,kle:=(fun _ _ h=>by cases h),ag:=(fun b h=>by simp at h),ln:=Nat.zero_le _,kpH:=fun k h=>absurd rfl h,kpB:=fun b h=>by simp at h,kn:=by simp,kb:=by simp}
    ·intro u s hs;simp only at hs;by_cases hu:u<np
     ·rw[dB (by simpa using hu)]at hs;simp[hu]at hs;subst hs;refine⟨args[u]'(by omega),?_,?_⟩
      ·rw[Array.getElem?_append_left (by simpa[qU]using hu)];simp[qU,hu]
      ·show _=args.getD u undef;simp[aB,qU,hu]
     ·rw[cQ (by simpa using hu)]at hs;have xB:=(aC.1 hs).1;rw[List.getElem?_replicate]at hs;split at hs
      ·rename_i pO;simp only[aD]at hs;subst hs;refine⟨undef,?_,rfl⟩;rw[Array.getElem?_append_right (by simp[qU];omega),Array.getElem?_replicate,if_pos];simp[qU]at pO⊢;omega
      ·cases hs
    ·intro u b o s i hs;simp only at hs;have:=aI hs;simp at this
   ·intro e st' t' ρ' β' a' W' H' K' nx' h' m' hp hn qB qJ;have fin:(Ob P st' fn.results.toList).map Tree.ret=some t'->LeavesInM Fence.wide 0 P fn a'.tmps (fun e w'=>∃v H',e= .returned v/\Step H W H' w'/\G v H') a'.defers .returning W':=fun h'=>by
     rw[cR]at h';obtain⟨l,hl,rfl⟩:=h';obtain⟨Ds,d1,d2,d3⟩:=m'.df;exact YO (fun _=>rfl) (fun K'' a'' W'' m'' e''=>⟨_,by rw[<-e''];exact YV (YU m'' hl),_,_,rfl,m''.fr,qJ⟩) Ds _ a' W' m' rfl d1 d2 d3
    cases e with
    |normal=>exact fin h'
    |ret=>exact fin h'
    |exit id=>cases h'
    |goto l=>cases h'
    |panic ch=>cases h'
    |outgrown=>cases h'
  ·cases ht
 ·cases ht
end
open Go.RowKit
def Js (id:Nat):Code->Option (Array Oper)
 | .region j ops _=>if j=id then some ops else none
 | .seq a b=>(Js id a).orElse fun _=>Js id b
 | .cond _ a b=>(Js id a).orElse fun _=>Js id b
 | .block _ a=>Js id a
 | .loop a=>Js id a
 | .scope a=>Js id a
 | .rangeFunc _ _ a c=>(Js id a).orElse fun _=>Js id c
 |_=>none
def opr (fn:Func) (id i:Nat):Oper:=(((fn.body.bind (Js id)).bind (·[i]?))).getD default
def Det (P:Program) (f:FuncId) (args:List Value) (v:Value):Prop:=∀w,Calls P f args.toArray w fun e w'=>e= .returned v/\Ext w w'
def Yld (P:Program) (o:Oper) (args:List Value) (v:Value):Prop:=∀w,(execOp (g9 o.op.operands.toList args) o).run P w= .ok (.value v) w
def Own (P:Program) (f:FuncId) (args:List Value) (v:Value):Prop:=∀w,(callFunc f args.toArray).run P w= .ok (.value v) w
def Run (P:Program) (o:Oper) (args:List Value) (v:Value):Prop:=∀w,Stp P o (g9 o.op.operands.toList args) w fun v' w'=>v'=v/\Ext w w'
def Con (P:Program) (f:FuncId) (args:List Value) (H:PH) (V:Value->PH->Prop):Prop:=
 ∀w,H.In w->Calls P f args.toArray w fun e w'=>∃v H',e= .returned v/\Step H w H' w'/\V v H'
def Opn (P:Program) (o:Oper) (args:List Value) (H:PH) (V:Value->PH->Prop):Prop:=
 ∀w,H.In w->Stp P o (g9 o.op.operands.toList args) w fun v w'=>∃H',Step H w H' w'/\V v H'
def Rds (P:Program) (o:Oper) (args:List Value) (H:PH) (v:Value):Prop:=∀w,H.In w->(execOp (g9 o.op.operands.toList args) o).run P w= .ok (.value v) w
theorem Step.of_ext {H:PH} {w w':World} (h:H.In w) (hx:Ext w w'):Step H w H w':=(Step.refl h).ext hx
theorem Det.con {P:Program} {f:FuncId} {args:List Value} {v:Value} (h:Det P f args v) (H:PH):Con P f args H fun u H'=>u=v/\H'=H:=
 fun w hw=>(h w).mono fun e w' ⟨he,hx⟩=>⟨v,H,he,Step.of_ext hw hx,rfl,rfl⟩
theorem Con.mono {P:Program} {f:FuncId} {args:List Value} {H:PH} {V V':Value->PH->Prop} (h:Con P f args H V) (hv:∀v H',V v H'->V' v H'):Con P f args H V':=
 fun w hw=>(h w hw).mono fun e w' ⟨v,H',he,hs,hV⟩=>⟨v,H',he,hs,hv v H' hV⟩
theorem Opn.mono {P:Program} {o:Oper} {args:List Value} {H:PH} {V V':Value->PH->Prop} (h:Opn P o args H V) (hv:∀v H',V v H'->V' v H'):Opn P o args H V':=
 fun w hw=>(h w hw).mono fun v w' ⟨H',hs,hV⟩=>⟨H',hs,hv v H' hV⟩
theorem Yld.rds {P:Program} {o:Oper} {args:List Value} {v:Value} (h:Yld P o args v) (H:PH):Rds P o args H v:=fun w _=>h w
theorem Aa {P:Program} {f:FuncId} {E:List Nat} {A:List (Nat×Bool)} {J:List Jn} {C:List Hn} {t:Tree} {args:List Value} {np:Nat} {H:PH} {V:Value->PH->Prop} (hm:P.follows .mixedOrders=true) (ht:tree P E A J C f=some t) (hnp:(P.funcs[f]?).map (fun fn=>fn.params.size+fn.nfree)=some np) (qU:args.length=np)
  (h:den P V t [] args H):Con P f args H V:=fun w hw=>FI hm ht args hnp qU h w hw
theorem j3 {P:Program} {f:FuncId} {E:List Nat} {A:List (Nat×Bool)} {J:List Jn} {C:List Hn} {t:Tree} {args:List Value} {np:Nat} {H:PH} {V:Value->PH->Prop} (hm:P.follows .mixedOrders=true) (ht:tree P E A J C f=some t) (h:den P V t [] args H) (qU:args.length=np:=by exact rfl) (hnp:(P.funcs[f]?).map (fun fn=>fn.params.size+fn.nfree)=some np:=by kernel_rfl):Con P f args H V:=Aa hm ht hnp qU h
def pd (P:Program) (R:Value->Prop):Tree->List (List Value->Prop)->List Value->Prop
 | .ret l,_,ρ=>R (Bv (l.map (D P ρ)))
 | .rq r t,nx,ρ=>r.holds P ρ/\pd P R t nx ρ
 | .br c t e,nx,ρ=>(D P ρ c= .bool true->pd P R t nx ρ)/\(D P ρ c= .bool false->pd P R e nx ρ)
 | .call _ f args t,nx,ρ=>∃v,Det P f (args.map (D P ρ)) v/\pd P R t nx (ρ++[v])
 | .prim _ _ o args t,nx,ρ=>∃v,Yld P o (args.map (D P ρ)) v/\pd P R t nx (ρ++[v])
 | .eff _ _ _ o args t,nx,ρ=>∃v,Run P o (args.map (D P ρ)) v/\pd P R t nx (ρ++[v])
 | .ext f args t,nx,ρ=>∃v,Own P f (args.map (D P ρ)) v/\pd P R t nx (ρ++[v])
 | .pub _ _ _,_,_=>False
 | .dead _,_,_=>False
 | .rf _ _ _ _ _ _,_,_=>False
 | .mk _ _ _ _ _,_,_=>False
 | .loop ini t,nx,ρ=>∃(I:List Value->Prop) (μ:List Value->Nat),I (ini.map (D P ρ))/\∀vals,vals.length=ini.length->I vals->pd P R t (nx++[fun l=>I l/\μ l<μ vals]) (ρ++vals)
 | .next d l,nx,ρ=>(nx.getD d fun _=>False) (l.map (D P ρ))
 | .join n t u,nx,ρ=>∃J:List Value->Prop,pd P R t (nx++[J]) ρ/\∀vals,vals.length=n->J vals->pd P R u nx (ρ++vals)
theorem YW {P:Program} {R:Value->Prop} {H:PH}:∀(t:Tree) (nx:List (List Value->Prop)) (ρ:List Value),pd P R t nx ρ->den P (fun v h=>R v/\h=H) t (nx.map fun g l h=>g l/\h=H) ρ H:=by
 intro t;induction t with
 |ret l=>intro nx ρ h;exact⟨h,rfl⟩
 |rq r t ih=>intro nx ρ h;exact⟨h.1,ih _ _ h.2⟩
 |br c t e ih1 ih2=>intro nx ρ h;exact⟨fun hc=>ih1 _ _ (h.1 hc),fun hc=>ih2 _ _ (h.2 hc)⟩
 |call pf f args t ih=>
  intro nx ρ h w hw;obtain⟨v,hd,hn⟩:=h;exact(hd w).mono fun e w' ⟨he,hx⟩=>⟨v,H,he,Step.of_ext hw hx,fun _=>PH.le.refl H,ih _ _ hn⟩
 |prim id i o args t ih=>
  intro nx ρ h;obtain⟨v,hd,hn⟩:=h;exact⟨v,fun w _=>hd w,ih _ _ hn⟩
 |eff pf id i o args t ih=>
  intro nx ρ h w hw;obtain⟨v,hd,hn⟩:=h;exact(hd w).mono fun u w' ⟨he,hx⟩=>⟨H,Step.of_ext hw hx,fun _=>PH.le.refl H,by rw[he];exact ih _ _ hn⟩
 |ext f args t ih=>
  intro nx ρ h;obtain⟨v,hd,hn⟩:=h;exact⟨v,fun w _=>hd w,ih _ _ hn⟩
 |pub T c t ih=>intro nx ρ h;exact h.elim
 |dead n=>intro nx ρ h;exact h.elim
 |rf g np ini tb ta te=>intro nx ρ h;exact h.elim
 |mk id i o args t ih=>intro nx ρ h;exact h.elim
 |loop ini t ih=>
  intro nx ρ h;obtain⟨I,μ,h0,h1⟩:=h;refine⟨fun l h=>I l/\h=H,fun l _=>μ l,⟨h0,rfl⟩,?_⟩;rintro vals H' hl ⟨hI,rfl⟩;have:=ih _ _ (h1 vals hl hI);have e:(fun(l:List Value) (h:PH)=>(I l/\h=H')/\μ l<μ vals)=fun l h=>(I l/\μ l<μ vals)/\h=H':=by
   funext l h;exact propext ⟨fun⟨⟨a,b⟩,c⟩=>⟨⟨a,c⟩,b⟩,fun⟨⟨a,c⟩,b⟩=>⟨⟨a,b⟩,c⟩⟩
  rw[e];simpa only[aX,aM,cL]using this
 |next d l=>
  intro nx ρ h;simp only[pd]at h;simp only[den];rw[aB,List.getElem?_map];rw[aB]at h;cases hn:nx[d]? with
  |none=>simp[hn]at h
  |some g=>simp only[hn,Option.getD_some]at h;simpa using h
 |join n t u ih1 ih2=>
  intro nx ρ h;obtain⟨J,h1,h2⟩:=h;refine⟨fun l h=>J l/\h=H,?_,?_⟩
  ·simpa only[aX,aM,cL]using ih1 _ _ h1
  ·rintro vals H' hl ⟨hJ,rfl⟩;exact ih2 _ _ (h2 vals hl hJ)
theorem Fv {P:Program} {f:FuncId} {E:List Nat} {A:List (Nat×Bool)} {J:List Jn} {C:List Hn} {t:Tree} {args:List Value} {v:Value} {np:Nat} (hm:P.follows .mixedOrders=true) (ht:tree P E A J C f=some t) (hnp:(P.funcs[f]?).map (fun fn=>fn.params.size+fn.nfree)=some np) (qU:args.length=np)
  (h:pd P (fun u=>u=v) t [] args):Det P f args v:=fun w=>by
 have:=FI (H:=fun _=>none) hm ht args hnp qU (YW t [] args h) w (fun b o hb=>by cases hb);refine this.mono fun e w' ⟨u,H',he,hs,hu,hH⟩=>⟨by rw[he,hu],?_⟩;exact hs.toExt (fun b o hb=>by cases hb) (fun b o hb=>by cases hb)
section
variable {P:Program} {R:Value->Prop} {nx:List (List Value->Prop)} {ρ:List Value}
theorem j6 {r:Rq} {t:Tree} (h:r.holds P ρ) (n:pd P R t nx ρ):pd P R (.rq r t) nx ρ:=⟨h,n⟩
theorem Jt {pf:Bool} {f:FuncId} {args:List SV} {t:Tree} {vs:List Value} {v:Value} (hd:Det P f vs v) (ha:args.map (D P ρ)=vs) (n:pd P R t nx (ρ++[v])):pd P R (.call pf f args t) nx ρ:=⟨v,by rw[ha];exact hd,n⟩
theorem YX {id i:Nat} {o:Oper} {args:List SV} {t:Tree} {vs:List Value} {v:Value} (hd:Yld P o vs v) (ha:args.map (D P ρ)=vs) (n:pd P R t nx (ρ++[v])):pd P R (.prim id i o args t) nx ρ:=⟨v,by rw[ha];exact hd,n⟩
theorem YY {f:FuncId} {args:List SV} {t:Tree} {vs:List Value} {v:Value} (hd:Own P f vs v) (ha:args.map (D P ρ)=vs) (n:pd P R t nx (ρ++[v])):pd P R (.ext f args t) nx ρ:=⟨v,by rw[ha];exact hd,n⟩
theorem Da {c:SV} {t e:Tree} {b:Bool} (hc:D P ρ c= .bool b) (h1:b=true->pd P R t nx ρ) (h2:b=false->pd P R e nx ρ):pd P R (.br c t e) nx ρ:=
 ⟨fun h=>h1 (by rw[hc]at h;cases h;rfl),fun h=>h2 (by rw[hc]at h;cases h;rfl)⟩
theorem rh {c:SV} {t e:Tree} (hc:D P ρ c= .bool false) (h1:pd P R e nx ρ):pd P R (.br c t e) nx ρ:=Da hc (fun h=>by cases h) (fun _=>h1)
theorem Cf {l:List SV} {v:Value} (h:Bv (l.map (D P ρ))=v) (hR:R v):pd P R (.ret l) nx ρ:=by rw[<-h]at hR;exact hR
end
section
variable {P:Program} {G:Value->PH->Prop} {nx:List (List Value->PH->Prop)} {ρ:List Value} {H:PH}
theorem d9 {r:Rq} {t:Tree} (h:r.holds P ρ) (n:den P G t nx ρ H):den P G (.rq r t) nx ρ H:=⟨h,n⟩
theorem i6 {pf:Bool} {f:FuncId} {args:List SV} {t:Tree} {vs:List Value} {V:Value->PH->Prop} (hd:Con P f vs H V) (ha:args.map (D P ρ)=vs) (n:∀v H',V v H'->(pf=true->PH.le H H')/\den P G t nx (ρ++[v]) H'):den P G (.call pf f args t) nx ρ H:=fun w hw=>by
 rw[ha];exact(hd w hw).mono fun e w' ⟨v,H',he,hs,hV⟩=>⟨v,H',he,hs,(n v H' hV).1,(n v H' hV).2⟩
theorem Am {pf:Bool} {f:FuncId} {args:List SV} {t:Tree} {vs:List Value} {v:Value} (hd:Det P f vs v) (ha:args.map (D P ρ)=vs) (n:den P G t nx (ρ++[v]) H):den P G (.call pf f args t) nx ρ H:=
 i6 (hd.con H) ha fun u H' ⟨hu,hH⟩=>by subst hu;subst hH;exact⟨fun _=>PH.le.refl _,n⟩
theorem r4 {pf:Bool} {id i:Nat} {o:Oper} {args:List SV} {t:Tree} {vs:List Value} {V:Value->PH->Prop} (hd:Opn P o vs H V) (ha:args.map (D P ρ)=vs) (n:∀v H',V v H'->(pf=true->PH.le H H')/\den P G t nx (ρ++[v]) H'):den P G (.eff pf id i o args t) nx ρ H:=fun w hw=>by
 rw[ha];exact(hd w hw).mono fun v w' ⟨H',hs,hV⟩=>⟨H',hs,(n v H' hV).1,(n v H' hV).2⟩
theorem r7 {id i:Nat} {o:Oper} {args:List SV} {t:Tree} {vs:List Value} {v:Value} (hd:Rds P o vs H v) (ha:args.map (D P ρ)=vs) (n:den P G t nx (ρ++[v]) H):den P G (.prim id i o args t) nx ρ H:=⟨v,by rw[ha];exact hd,n⟩
theorem fg {f:FuncId} {args:List SV} {t:Tree} {vs:List Value} {v:Value} (hd:Own P f vs v) (ha:args.map (D P ρ)=vs) (n:den P G t nx (ρ++[v]) H):den P G (.ext f args t) nx ρ H:=⟨v,by rw[ha];exact fun w _=>hd w,n⟩
theorem i0 {c:SV} {t e:Tree} {b:Bool} (hc:D P ρ c= .bool b) (h1:b=true->den P G t nx ρ H) (h2:b=false->den P G e nx ρ H):den P G (.br c t e) nx ρ H:=
 ⟨fun h=>h1 (by rw[hc]at h;cases h;rfl),fun h=>h2 (by rw[hc]at h;cases h;rfl)⟩
theorem Gn {c:SV} {t e:Tree} (hc:D P ρ c= .bool true) (h1:den P G t nx ρ H):den P G (.br c t e) nx ρ H:=i0 hc (fun _=>h1) (fun h=>by cases h)
theorem t6 {c:SV} {t e:Tree} (hc:D P ρ c= .bool false) (h1:den P G e nx ρ H):den P G (.br c t e) nx ρ H:=i0 hc (fun h=>by cases h) (fun _=>h1)
theorem g8 {l:List SV} {v:Value} (h:Bv (l.map (D P ρ))=v) (hR:G v H):den P G (.ret l) nx ρ H:=by rw[<-h]at hR;exact hR
theorem d4 {r:Rq} {t:Tree} (n:den P G t nx ρ H) (h:r.holds P ρ:=by exact⟨_,rfl⟩):den P G (.rq r t) nx ρ H:=⟨h,n⟩
theorem i8 {r:Rq} {t:Tree} (n:den P G t nx ρ H) (h:r.holds P ρ:=by exact⟨_,rfl,by simp⟩):den P G (.rq r t) nx ρ H:=⟨h,n⟩
theorem r9 {c:SV} {t e:Tree} {p:Prop} [Decidable p] (hc:D P ρ c= .bool (decide p)) (h1:p->den P G t nx ρ H) (h2:¬p->den P G e nx ρ H):den P G (.br c t e) nx ρ H:=i0 hc (fun h=>h1 (oDt h)) fun h=>h2 (oDf h)
end
theorem It (cs:Array Value):(Value.agg cs).cells=cs:=rfl
theorem FK (k:IntKind) (n:Int):(Value.int k n).cells= #[.int k n]:=rfl
theorem rj (b:Bool):(Value.bool b).cells= #[.bool b]:=rfl
@[reducible] def Tree.pm (f:Func) (i j:Nat) (l:List SV) (t:Tree):Tree:= .prim i j (opr f i j) l t
@[reducible] def Tree.ef (b:Bool) (f:Func) (i j:Nat) (l:List SV) (t:Tree):Tree:= .eff b i j (opr f i j) l t
@[reducible] def Tree.mq (f:Func) (i j:Nat) (l:List SV) (t:Tree):Tree:= .mk i j (opr f i j) l t
@[reducible] def SV.ki (n:Int):SV:= .k (.int .i64 n)
@[reducible] def Tree.ri (x:SV) (t:Tree):Tree:= .rq (.int .i64 x) t
@[reducible] def Tree.ru (x:SV) (t:Tree):Tree:= .rq (.int .u64 x) t
@[reducible] def SV.io (o:BinOp) (x y:SV):SV:= .op2 o .i64 x y
@[reducible] def SV.uo (o:BinOp) (x y:SV):SV:= .op2 o .u64 x y
@[reducible] def npf (P:Program) (f:FuncId):Option Nat:=(P.funcs[f]?).map (fun fn=>fn.params.size+fn.nfree)
@[reducible] def V0:SV:= .v 0
@[reducible] def kU (n:Int):SV:= .k (.int .u64 n)
@[reducible] def kI (n:Int):SV:= .k (.int .i64 n)
@[reducible] def kB (n:Int):SV:= .k (.int .u8 n)
@[reducible] def V1:SV:= .v 1
@[reducible] def V2:SV:= .v 2
@[reducible] def V3:SV:= .v 3
@[reducible] def V4:SV:= .v 4
@[reducible] def V5:SV:= .v 5
@[reducible] def V6:SV:= .v 6
@[reducible] def V7:SV:= .v 7
@[reducible] def V8:SV:= .v 8
@[reducible] def V9:SV:= .v 9
@[reducible] def V10:SV:= .v 10
@[reducible] def V11:SV:= .v 11
@[reducible] def V12:SV:= .v 12
@[reducible] def V13:SV:= .v 13
@[reducible] def V14:SV:= .v 14
@[reducible] def V15:SV:= .v 15
@[reducible] def V16:SV:= .v 16
@[reducible] def V17:SV:= .v 17
@[reducible] def V18:SV:= .v 18
@[reducible] def V19:SV:= .v 19
@[reducible] def V20:SV:= .v 20
@[reducible] def V21:SV:= .v 21
@[reducible] def V22:SV:= .v 22
@[reducible] def V23:SV:= .v 23
@[reducible] def V24:SV:= .v 24
@[reducible] def V25:SV:= .v 25
@[reducible] def V26:SV:= .v 26
@[reducible] def V27:SV:= .v 27
@[reducible] def V28:SV:= .v 28
@[reducible] def V29:SV:= .v 29
@[reducible] def V30:SV:= .v 30
@[reducible] def V31:SV:= .v 31
@[reducible] def V32:SV:= .v 32
@[reducible] def V33:SV:= .v 33
@[reducible] def V34:SV:= .v 34
@[reducible] def V35:SV:= .v 35
@[reducible] def V36:SV:= .v 36
@[reducible] def V37:SV:= .v 37
@[reducible] def V38:SV:= .v 38
@[reducible] def V39:SV:= .v 39
@[reducible] def V40:SV:= .v 40
@[reducible] def V41:SV:= .v 41
@[reducible] def V42:SV:= .v 42
@[reducible] def V43:SV:= .v 43
@[reducible] def V44:SV:= .v 44
@[reducible] def V45:SV:= .v 45
@[reducible] def V46:SV:= .v 46
@[reducible] def V47:SV:= .v 47
@[reducible] def V48:SV:= .v 48
@[reducible] def V49:SV:= .v 49
@[reducible] def V50:SV:= .v 50
@[reducible] def V51:SV:= .v 51
@[reducible] def V52:SV:= .v 52
@[reducible] def V53:SV:= .v 53
@[reducible] def V54:SV:= .v 54
@[reducible] def V55:SV:= .v 55
@[reducible] def V56:SV:= .v 56
@[reducible] def V57:SV:= .v 57
@[reducible] def V58:SV:= .v 58
@[reducible] def V59:SV:= .v 59
@[reducible] def V60:SV:= .v 60
@[reducible] def V61:SV:= .v 61
@[reducible] def V62:SV:= .v 62
@[reducible] def V63:SV:= .v 63
@[reducible] def V64:SV:= .v 64
@[reducible] def V65:SV:= .v 65
@[reducible] def V66:SV:= .v 66
@[reducible] def V67:SV:= .v 67
@[reducible] def V68:SV:= .v 68
@[reducible] def V69:SV:= .v 69
@[reducible] def V70:SV:= .v 70
@[reducible] def V71:SV:= .v 71
@[reducible] def V72:SV:= .v 72
@[reducible] def V73:SV:= .v 73
@[reducible] def V74:SV:= .v 74
@[reducible] def V75:SV:= .v 75
@[reducible] def V76:SV:= .v 76
@[reducible] def V77:SV:= .v 77
@[reducible] def V78:SV:= .v 78
@[reducible] def V79:SV:= .v 79
@[reducible] def V80:SV:= .v 80
theorem cA {α:Type} {a:α} {l m:List α}:a::l++m=a::(l++m):=rfl
theorem nA {α:Type} {l:List α}:[]++l=l:=rfl
end Go.RX

/- Lemmas of the proof. -/
import Derived.Test.YtcdnhlplkhldbaaGreatDoorRxG
import Derived.Deep.LoopGhost
import Derived.AtR
open Bool renaming not_eq_true'->kS
open Go.Result renaming andThen_ok->eJ
open Go.Sem renaming run_bind->eK,run_pure->eL
open List renaming contains_iff_mem->jV,find?_some->nV,foldl_cons->gQ,getElem?_cons_succ->fU,getElem?_cons_zero->fS,mapM_cons->kC,mem_of_find?_eq_some->lL,nodup_cons->fM,nodup_nil->gI,prefix_append->eT,prefix_refl->eW,range->eO
open Nat renaming add_assoc->jY,add_sub_cancel_left->iH,not_le->nK
open Option renaming map_eq_some_iff->eZ,some->eX
set_option linter.all false
namespace Go.RX
open RowKit
def gm:∀(lv:List Nat) (n:Nat) (sl:List SL),(Kw lv n sl).length=sl.length:=by
 intro lv;induction lv with
 |nil=>intro n sl;rfl
 |cons t ts ih=>intro n sl;simp only[Kw,ih,cX]
def HO:∀(lv:List Nat) (n:Nat) (sl:List SL) (u:Nat),u∉lv->(Kw lv n sl)[u]? =sl[u]?:=by
 intro lv;induction lv with
 |nil=>intro n sl u _;rfl
 |cons t ts ih=>
  intro n sl u hu;simp only[bG,not_or]at hu;simp only[Kw,ih _ _ _ hu.2,dF];rw[if_neg (fun e=>hu.1 e.symm)]
def B7:∀(lv:List Nat) (n:Nat) (sl:List SL) (k u:Nat),lv.Nodup->lv[k]? =some u->u<sl.length->(Kw lv n sl)[u]? =some (.x (.v (n+k))):=by
 intro lv;induction lv with
 |nil=>intro n sl k u _ h;simp at h
 |cons t ts ih=>
  intro n sl k u uA h qB;rw[fM]at uA;cases k with
  |zero=>
   simp at h;subst h;simp only[Kw,HO _ _ _ _ uA.1,dF,qB,if_true,cJ]
  |succ k=>
   simp at h;simp only[Kw];rw[ih (n+1) _ k u uA.2 h (by simpa using qB)];congr 3;omega
def HQ (s:SL):∀(ts:List Nat) (sl:List SL),(Nx sl ts s).length=sl.length:=by
 intro ts;induction ts with
 |nil=>intro sl;rfl
 |cons t ts ih=>intro sl;simp only[Nx,gQ]at ih⊢;rw[ih];simp
def HS (s:SL) (u:Nat):∀(ts:List Nat) (sl:List SL),u∉ts->(Nx sl ts s)[u]? =sl[u]?:=by
 intro ts;induction ts with
 |nil=>intro sl _;rfl
 |cons t ts ih=>
  intro sl hu;simp only[bG,not_or]at hu;simp only[Nx,gQ]at ih⊢;rw[ih _ hu.2,dF,if_neg (fun e=>hu.1 e.symm)]
def B8 (s:SL) (u:Nat):∀(ts:List Nat) (sl:List SL),u∈ts->u<sl.length->(Nx sl ts s)[u]? =some s:=by
 intro ts;induction ts with
 |nil=>intro sl h;cases h
 |cons t ts ih=>
  intro sl hu qB;by_cases h:u∈ts
  ·simp only[Nx,gQ]at ih⊢;exact ih _ h (by simpa using qB)
  ·have e:u=t:=(bG.1 hu).resolve_right h;subst e;have:=HS s u ts (sl.set u s) h;simp only[Nx,gQ]at this⊢;rw[this];simp[qB]
def dedup_mem {x:Nat}:∀{l:List Nat},x∈Oa l↔x∈l:=by
 intro l;induction l with
 |nil=>simp[Oa]
 |cons y l ih=>
  simp only[Oa];split
  ·rename_i h;rw[jV]at h;rw[ih,bG];exact⟨.inr,fun e=>e.elim (fun e=>by rw[e];exact h) (fun e=>e)⟩
  ·rw[bG,bG,ih]
def B9:∀(l:List Nat),(Oa l).Nodup:=by
 intro l;induction l with
 |nil=>exact gI
 |cons y l ih=>
  simp only[Oa];split
  ·exact ih
  ·rename_i h;rw[jV]at h;exact fM.2 ⟨fun e=>h (dedup_mem.1 e),ih⟩
def C0 (bs:List Nat) (n:Nat):∀(bl:List Blk) (i:Nat),(Rh bs n bl i).length=bl.length:=by
 intro bl;induction bl with
 |nil=>intro i;rfl
 |cons b bl ih=>intro i;simp only[Rh,aP,ih]
def C1 (bs:List Nat) (n:Nat):∀(bl:List Blk) (i j:Nat) (B':Blk),(Rh bs n bl i)[j]? =some B'->∃B,bl[j]? =some B/\B'=(match Bg (i+j) bs 0 with|some k=>{B with c:= .v (n+k)}|none=>B):=by
 intro bl;induction bl with
 |nil=>intro i j B' h;simp[Rh]at h
 |cons b bl ih=>
  intro i j B' h;simp only[Rh]at h;cases j with
  |zero=>simp only[fS,cN]at h;exact⟨b,rfl,h.symm⟩
  |succ j=>
   simp only[fU]at h;obtain⟨B,hB,he⟩:=ih (i+1) j B' h;exact⟨B,hB,by rw[he,show i+1+j=i+(j+1)from aA]⟩
def Yt {i:Nat}:∀{bs:List Nat} {j k:Nat},Bg i bs j=some k->∃k',k=j+k'/\bs[k']? =some i:=by
 intro bs;induction bs with
 |nil=>intro j k h;simp[Bg]at h
 |cons x l ih=>
  intro j k h;simp only[Bg]at h;split at h
  ·rename_i e;simp only[cN]at h;exact⟨0,aA,by simpa using e⟩
  ·obtain⟨k',h1,h2⟩:=ih h;exact⟨k'+1,aA,by simpa using h2⟩
def HT {i:Nat}:∀{bs:List Nat} {j:Nat},Bg i bs j=none->bs.contains i=false:=by
 intro bs;induction bs with
 |nil=>intro j _;rfl
 |cons x l ih=>
  intro j h;simp only[Bg]at h;split at h
  ·cases h
  ·rename_i e;simp only[List.contains_cons,ih h,Bool.or_false];simp at e⊢;exact fun e'=>e e'.symm
def C2 {i:Nat}:∀{bs:List Nat} {j k:Nat},bs.Nodup->bs[k]? =some i->Bg i bs j=some (j+k):=by
 intro bs;induction bs with
 |nil=>intro j k _ h;simp at h
 |cons x l ih=>
  intro j k hn h;rw[fM]at hn;cases k with
  |zero=>simp only[fS,cN]at h;subst h;simp[Bg]
  |succ k=>
   simp only[fU]at h;have hm:=aK h;have qJ:¬x=i:=fun e=>hn.1 (e ▸ hm);simp only[Bg,beq_iff_eq,qJ,if_false,ih hn.2 h];congr 1;omega
def Yu:∀{l:List Nat},Ny l=true->l.Nodup:=by
 intro l;induction l with
 |nil=>intro _;exact gI
 |cons x l ih=>
  intro h;simp only[Ny,aQ,kS,List.contains_eq_mem,decide_eq_false_iff_not]at h;exact fM.2 ⟨h.1,ih h.2⟩
def Uz {bl:List Blk}:∀{bs:List Nat} {ib:List SV},cAt bl bs=some ib->ib.length=bs.length/\∀(k i:Nat),bs[k]? =some i->∃B,bl[i]? =some B/\ib[k]? =some B.c:=by
 intro bs;induction bs with
 |nil=>intro ib h;simp only[cAt,cN]at h;subst h;exact⟨rfl,fun k i h=>by simp at h⟩
 |cons i bs ih=>
  intro ib h;simp only[cAt]at h;split at h
  ·rename_i B l hB hl;simp only[cN]at h;subst h;obtain⟨h1,h2⟩:=ih hl;refine⟨by simp[h1],fun k u hk=> ?_⟩;cases k with
   |zero=>simp only[fS,cN]at hk;subst hk;exact⟨B,hB,rfl⟩
   |succ k=>simp only[fU]at hk⊢;exact h2 k u hk
  ·cases h
def C3 {bl:List Blk}:∀{bs:List Nat} {n:Nat} {r:Rq},r∈Ym bl bs n->∃k i B,bs[k]? =some i/\bl[i]? =some B/\r= .cells B.n (.v (n+k)):=by
 intro bs;induction bs with
 |nil=>intro n r h;simp[Ym]at h
 |cons i bs ih=>
  intro n r h;simp only[Ym,aV]at h;rcases h with h|h
  ·split at h
   ·rename_i B hB;simp only[bG,cF,or_false]at h;exact⟨0,i,B,rfl,hB,h⟩
   ·cases h
  ·obtain⟨k,u,B,h1,h2,h3⟩:=ih h;exact⟨k+1,u,B,h1,h2,by rw[h3];congr 2;omega⟩
def gq {sl:List SL}:∀{lv:List Nat} {iv:List SV},Nz sl lv=some iv->iv.length=lv.length/\∀(k t:Nat),lv[k]? =some t->∃s,sl[t]? =some (.x s)/\iv[k]? =some s:=by
 intro lv;induction lv with
 |nil=>intro iv h;simp[Nz]at h;subst h;exact⟨rfl,fun k t h=>by simp at h⟩
 |cons t ts ih=>
  intro iv h;simp only[Nz]at h;split at h
  ·rename_i s l hs hl;simp only[cN]at h;subst h;obtain⟨h1,h2⟩:=ih hl;refine⟨by simp[h1],fun k u hk=> ?_⟩;cases k with
   |zero=>
    simp at hk;subst hk;refine⟨s,?_,rfl⟩;unfold GL at hs;split at hs
    ·rename_i s' rD;simp only[cN]at hs;subst hs;exact rD
    ·cases hs
   |succ k=>simp at hk;simpa using h2 k u hk
  ·cases h
section
variable {P:Program} {G Xp:Value->PH->Prop} {w0:Cx} {ρ:List Value} {β:Nat->Nat} {st:St} {a:Act} {W:World}
structure Bk (w0:Cx) (β:Nat->Nat) (st:St) (a:Act) (W:World):Prop where
 df:∃Ds:List Nat,a.defers=Ds.map Kz/\Ds.Nodup/\∀D∈Ds,w0.w.heap.size<=D/\w0.K D=some (.deferred (some []))
 inj:∀b b',b<st.bl.length->b'<st.bl.length->β b=β b'->b=b'
 own:∀b,b<st.bl.length->w0.w.heap.size<=β b\/w0.H0 (β b)≠none
 sep:∀b,b<st.bl.length->w0.H (β b)=none
 fr:Step w0.H0 w0.w w0.H W
 kp:w0.K.In W
 rd:st.rd=false->w0.ro=none
 ag:∀b,b<w0.n0->β b=w0.b0 b
 ln:w0.n0<=st.bl.length
 kle:Pl w0.K0 w0.K
 kpH:∀k,w0.K k≠none->w0.H k=none
 kpB:∀b,b<st.bl.length->w0.K (β b)=none
def Mt.bk {w0:Cx} (m:Mt P w0 ρ β st a W):Bk w0 β st a W:=⟨m.df,m.inj,m.own,m.sep,m.fr,m.kp,m.rd,m.ag,m.ln,m.kle,m.kpH,m.kpB⟩
def Bk.less {w0:Cx} {st2:St} (h:Bk w0 β st2 a W) (hl:st.bl.length<=st2.bl.length) (hrd:st.rd=false->w0.ro=none) (hln:w0.n0<=st.bl.length):Bk w0 β st a W:=
 ⟨h.df,fun i j hi hj=>h.inj i j aA aA,fun i hi=>h.own i aA,fun i hi=>h.sep i aA,h.fr,h.kp,hrd,h.ag,hln,h.kle,h.kpH,fun i hi=>h.kpB i aA⟩
def gu {w0:Cx} {lv dd bs:List Nat} {δ:Nat} (qT:Bh st=true) (hn:ρ.length=st.n) (sH:∀r∈st.kn,r.holds P ρ) (hkb:∀p∈st.kb,D P ρ p.1= .bool p.2)
  {vals:List Value} (hv:vals.length=lv.length+bs.length) (sz:a.tmps.size=st.sl.length)
  (hpb:∀(t b o s:Nat) (i:SV),st.sl[t]? =some (.p b o s i)->b<st.bl.length) (uA:lv.Nodup) (wP:bs.Nodup)
  (h1:∀(t:Nat) (s:SL),t∉lv->t∉dd->st.sl[t]? =some s->∃v,a.tmps[t]? =some v/\ML P ρ β s v)
  (h2:∀(k t:Nat),lv[k]? =some t->a.tmps[t]? =some (vals.getD k undef))
  (hb:∀(i:Nat) (B:Blk),st.bl[i]? =some B->W.heap[β i]? =some (.cells (match Bg i bs 0 with|some k=>vals.getD (lv.length+k) undef|none=>D P ρ B.c).cells B.T (0,0))/\(match Bg i bs 0 with|some k=>vals.getD (lv.length+k) undef|none=>D P ρ B.c).cells.size=B.n/\j0 (match Bg i bs 0 with|some k=>vals.getD (lv.length+k) undef|none=>D P ρ B.c).cells)
  (bk:Bk w0 β st a W):
  Mt P w0 (ρ++vals) β (Bv st lv dd bs δ) a W:=by
 have vS:=qT;unfold Bh at vS;simp only[aQ,cH]at vS;obtain⟨⟨⟨c1,c2⟩,c3⟩,c4⟩:=vS;rw[<-hn]at c1 c2 c3 c4;have xJ:(Bv st lv dd bs δ).bl.length=st.bl.length:=C0 _ _ _ _;have tC:∀k,D P (ρ++vals) (.v (st.n+k))=vals.getD k undef:=fun k=>by
  simp only[D,<-hn,aJ];rw[aN aA,iH]
 have lk:∀(u:Nat) (s:SL),(Bv st lv dd bs δ).sl[u]? =some s->s= .u\/(∃k,lv[k]? =some u/\s= .x (.v (st.n+k)))\/(u∉lv/\u∉dd/\st.sl[u]? =some s):=by
  intro u s hs;simp only[Bv]at hs;by_cases hd:u∈dd
  ·have qB:u<st.sl.length:=by
    have:=(aH.1 hs).1
    rwa[HQ,gm]at this
   rw[B8 _ _ _ _ hd (by rw[gm];exact qB)]at hs;simp only[cN]at hs;exact .inl hs.symm
  ·rw[HS _ _ _ _ hd]at hs;by_cases hl:u∈lv
   ·obtain⟨k,hk⟩:=dB hl;have qB:u<st.sl.length:=by
     have:=(aH.1 hs).1
     rwa[gm]at this
    rw[B7 _ _ _ k u uA hk qB]at hs;simp only[cN]at hs;exact .inr (.inl ⟨k,hk,hs.symm⟩)
   ·rw[HO _ _ _ _ hl]at hs;exact .inr (.inr ⟨hl,hd,hs⟩)
 have a0i:(Bv st lv dd bs δ).sl.length=st.sl.length:=by simp only[Bv];rw[HQ,gm]
 refine{sz:=by rw[a0i];exact sz,sl:= ?_,pb:= ?_,df:=bk.df,n:= ?_,bl:= ?_,inj:= ?_,own:= ?_,sep:= ?_,fr:=bk.fr,kp:=bk.kp,rd:=bk.rd,kle:=bk.kle,ag:=bk.ag,ln:=by rw[xJ];exact bk.ln,kpH:=bk.kpH,kpB:=by rw[xJ];exact bk.kpB,kn:= ?_,kb:= ?_}
 ·intro u s hs;rcases lk u s hs with rfl|⟨k,hk,rfl⟩|⟨hl,hd,rD⟩
  ·have qB:u<a.tmps.size:=by
    rw[sz,<-a0i];exact(aH.1 hs).1
   exact⟨a.tmps[u],by simp[qB],trivial⟩
  ·exact⟨_,h2 k u hk,(tC k).symm⟩
  ·obtain⟨v,wM,hm'⟩:=h1 u s hl hd rD;refine⟨v,wM,?_⟩;have hl:=c1 s (aK rD);cases s with
   |x s=>simp only[ML,SL.lt]at hm' hl⊢;rw[Fg P ρ vals s hl];exact hm'
   |p b o s i=>simp only[ML,SL.lt]at hm' hl⊢;rw[Fg P ρ vals i hl];exact hm'
   |u=>trivial
 ·intro u b' o s i hs;rw[xJ];rcases lk u _ hs with h|⟨k,hk,h⟩|⟨_,_,rD⟩
  ·cases h
  ·cases h
  ·exact hpb u b' o s i rD
 ·simp only[Bv,aL,hv,hn];omega
 ·intro i B hB;obtain⟨B0,hB0,rfl⟩:=C1 _ _ _ _ _ _ hB;rw[bJ];have:=hb i B0 hB0;cases hp:Bg i bs 0 with
  |some k=>
   simp only[hp]at this⊢;have e:D P (ρ++vals) (.v (st.n+lv.length+k))=vals.getD (lv.length+k) undef:=by rw[jY];exact tC _
   rw[e];exact this
  |none=>
   simp only[hp]at this⊢;rw[Fg P ρ vals B0.c (c2 B0 (aK hB0))];exact this
 ·rw[xJ];exact bk.inj
 ·rw[xJ];exact bk.own
 ·rw[xJ];exact bk.sep
 ·intro r hr;simp only[Bv,aV]at hr;rcases hr with hr|hr
  ·obtain⟨k,i,B,h1,h2,rfl⟩:=C3 hr;have:=hb i B h2;rw[C2 wP h1,bJ]at this;simp only at this;have e:D P (ρ++vals) (.v (st.n+lv.length+k))=vals.getD (lv.length+k) undef:=by rw[jY];exact tC _
   simp only[Rq.holds,e];exact this.2
  ·exact(GM P ρ vals r (c3 r hr)).2 (sH r hr)
 ·intro p hp;rw[Fg P ρ vals p.1 (c4 p hp)];exact hkb p hp
def uh (ws:List Nat):∀(a b:List SL) (i:Nat),Uw ws a b i=true->a.length=b.length/\∀t x,a[t]? =some x->∃y,b[t]? =some y/\(x.beq y||ws.contains (i+t))=true
 |[],[],_,_=>⟨rfl,fun t x h=>by simp at h⟩
 |x::a,y::b,i,h=>by
  simp only[Uw,aQ]at h;obtain⟨h1,h2⟩:=uh ws a b (i+1) h.2;refine⟨by simp[h1],fun t z hz=> ?_⟩;cases t with
  |zero=>
   simp only[fS,cN]at hz;subst hz;exact⟨y,rfl,h.1⟩
  |succ t=>
   simp only[fU]at hz;obtain⟨y',g1,g2⟩:=h2 t z hz;exact⟨y',by simpa using g1,by rw[show i+(t+1)=i+1+t by omega];exact g2⟩
 |[],_::_,_,h=>by simp[Uw]at h
 |_::_,[],_,h=>by simp[Uw]at h
def C4 {ws:List Nat} {x y:List SL} (h:Yn ws x y=true):x.length=y.length:=(uh ws x y 0 h).1
def C5 {ws:List Nat} {x y:List SL} (h:Yn ws x y=true) {t:Nat} (ht:t∉ws) {s:SL} (hs:x[t]? =some s):∃s',y[t]? =some s'/\(s=s'\/s= .u):=by
 obtain⟨s',h1,h2⟩:=(uh ws x y 0 h).2 t s hs;rw[bJ,cO,jV]at h2;exact⟨s',h1,SL.beq_sound (h2.resolve_right ht)⟩
def HU {bs:List Nat}:∀{x y:List Blk} {j:Nat},Ob bs x y j=true->x.length<=y.length/\∀(i:Nat) (B:Blk),x[i]? =some B->∃B',y[i]? =some B'/\B'.T=B.T/\B'.n=B.n/\(bs.contains (j+i)=false->B'.c=B.c):=by
 intro x;induction x with
 |nil=>intro y j _;exact⟨aD,fun i B h=>by simp at h⟩
 |cons b x ih=>
  intro y j h;cases y with
  |nil=>simp[Ob]at h
  |cons c y=>
   simp only[Ob,aQ,beq_iff_eq,cO]at h;obtain⟨⟨⟨h1,h2⟩,h3⟩,h4⟩:=h;obtain⟨k1,k2⟩:=ih h4;refine⟨by simp;exact k1,fun i B hB=> ?_⟩;cases i with
   |zero=>
    simp only[fS,cN]at hB;subst hB;refine⟨c,rfl,h1.symm,h2.symm,fun hc=> ?_⟩;rcases h3 with h3|h3
    ·rw[cJ,h3]at hc;cases hc
    ·exact(SV.beq_sound h3).symm
   |succ i=>
    simp only[fU]at hB⊢;obtain⟨B',q1,q2,q3,q4⟩:=k2 i B hB;exact⟨B',q1,q2,q3,fun hc=>q4 (by rw[show j+1+i=j+(i+1)from aA];exact hc)⟩
def HV {c1:Bs} {H K H3 K3:PH} {β2:Nat->Nat} {st2:St} {a2:Act} {W2:World} {r:List Value} {b:Code} {lv dd bs:List Nat} {δ:Nat} {nv nb:List SV} (qT:Bh st=true) (m:Mt P ⟨c1,H,K⟩ ρ β st a W) (m2:Mt P ⟨c1,H3,K3⟩ (ρ++r) β2 st2 a2 W2) (hlv:lv.Nodup) (rF:bs.Nodup) (a0r:∀u,u∈Dj b->u<st.sl.length->u∈lv\/u∈dd)
  (hnv:Nz st2.sl lv=some nv) (rQ:cAt st2.bl bs=some nb) (tA:Yn (Dj b) st.sl st2.sl=true) (xY:Ob bs st.bl st2.bl 0=true):Mt P ⟨c1,H3,K3⟩ (ρ++(nv++nb).map (D P (ρ++r))) β2 (Bv st lv dd bs δ) a2 W2:=by
 have vS:=qT;unfold Bh at vS;simp only[aQ,cH]at vS;obtain⟨⟨⟨c1,c2⟩,c3⟩,c4⟩:=vS;rw[<-m.n]at c1 c2 c3 c4;obtain⟨k1,k2⟩:=gq hnv;obtain⟨k3,k4⟩:=Uz rQ;obtain⟨s1,s2⟩:=HU xY;have gl:∀(l:List SV) (ρ':List Value) (j:Nat) (s:SV),l[j]? =some s->(l.map (D P ρ')).getD j undef=D P ρ' s:=fun l ρ' j s hj=>by
  simp[aJ,hj]
 have a3r:st2.sl.length=st.sl.length:=(C4 tA).symm;refine gu qT m.n m.kn m.kb (by rw[aR,aL,k1,k3]) (by rw[m2.sz,a3r]) m.pb hlv rF (fun u s hl hd hs=> ?_) (fun k' u rA=> ?_) (fun i B hB=> ?_) (m2.bk.less s1 m.rd m.ln)
 ·have hu:u∉Dj b:=fun h=>(a0r u h (aH.1 hs).1).elim hl hd;obtain⟨s',rD,wR⟩:=C5 tA hu hs;obtain⟨v,hv,hmv⟩:=m2.sl u s' rD;refine⟨v,hv,?_⟩;rcases wR with rfl|rfl
  ·have hl:=c1 s (aK hs);cases s with
   |x s=>simp only[ML,SL.lt]at hmv hl⊢;rw[Fg P ρ r s hl]at hmv;exact hmv
   |p b o s i=>simp only[ML,SL.lt]at hmv hl⊢;rw[Fg P ρ r i hl]at hmv;exact hmv
   |u=>trivial
  ·trivial
 ·obtain⟨s,hs,tL⟩:=k2 k' u rA;obtain⟨v,hv,hmv⟩:=m2.sl u _ hs;rw[hv];congr 1;rw[gl _ _ k' s]
  ·exact hmv
  ·rw[aM (aH.1 tL).1];exact tL
 ·obtain⟨B',uF,hT,sC,hc⟩:=s2 i B hB;have g:=m2.bl i B' uF;rw[hT,sC]at g;cases hp:Bg i bs 0 with
  |some k=>
   obtain⟨k',rfl,rA⟩:=Yt hp;obtain⟨B2,hB2,hq⟩:=k4 k' i rA;obtain rfl:B2=B':=eX.inj (hB2.symm.trans uF);have e:((nv++nb).map (D P (ρ++r))).getD (lv.length+(0+k')) undef=D P (ρ++r) B2.c:=gl _ _ _ _ (by
    rw[aN aA,k1,bJ,iH];exact hq)
   simp only[e];exact g
  |none=>
   simp only;rw[hc (by rw[bJ];exact HT hp),Fg P ρ r B.c (c2 B (aK hB))]at g;exact g
def ui {nx nx':List (List Value->PH->Prop)} (h:nx<+:nx') {d:Nat} (hd:d<nx.length):nx'.getD d (fun _ _=>False)=nx.getD d fun _ _=>False:=by
 obtain⟨r,rfl⟩:=h;simp[aJ,aM hd]
def PnQ (P:Program) (c1:Bs) (Xp:Value->PH->Prop) (Q:Exit->Act->World->Prop):Prop:=
 ∀x ρ' β' st' a' a'' W' H' K',Mt P ⟨c1,H',K'⟩ ρ' β' st' a' W'->a''.defers=a'.defers->Xp x H'->Q (.panic [{v:=x,recovered:=false}]) a'' W'
def PnQ.of {P:Program} {c1:Bs} {Xp:Value->PH->Prop} {Q Q':Exit->Act->World->Prop} (h:PnQ P c1 Xp Q) (hh:∀ch a w,Q (.panic ch) a w->Q' (.panic ch) a w):PnQ P c1 Xp Q':=
 fun x _ _ _ _ a'' W' _ _ m hd hx=>hh _ a'' W' (h x _ _ _ _ _ _ _ _ m hd hx)
def PnQ.no {P:Program} {c1:Bs} {Q:Exit->Act->World->Prop}:PnQ P c1 noP Q:=fun _ _ _ _ _ _ _ _ _ _ _ hx=>hx.elim
def Rn (P:Program) (G Xp:Value->PH->Prop) (c1:Bs) (rm:Nat) (c:Code) (run:St->(Exit->St->Option Tree)->Option Tree):Prop:=
 ∀(st:St) (k:Exit->St->Option Tree) (t:Tree) (ρ:List Value) (β:Nat->Nat) (a:Act) (W:World) (H K:PH) (nx:List (List Value->PH->Prop)) (Q:Exit->Act->World->Prop),
  run st k=some t->Mt P ⟨c1,H,K⟩ ρ β st a W->nx.length=st.d->den P G Xp t nx ρ H->PnQ P c1 Xp Q->
  (∀e st' t' ρ' β' a' W' H' K' nx',k e st'=some t'->Mt P ⟨c1,H',K'⟩ ρ' β' st' a' W'->ρ<+:ρ'->nx<+:nx'->nx'.length=st'.d->den P G Xp t' nx' ρ' H'->Q e a' W')->c.wpIn (Fr c1.ro) rm P Q a W
def Mt.depth (m:Mt P w0 ρ β st a W) (d:Nat):Mt P w0 ρ β {st with d:=d} a W:={m with}
def uj {c1:Bs} {rm:Nat} {c:Code} {run:St->(Exit->St->Option Tree)->Option Tree} (hr:Rn P G Xp c1 rm c run) (ts bs:List Nat):Rn P G Xp c1 rm c fun st k=>jn st c ts bs run k:=by
 intro st k t ρ β a W H K nx Q h m hd qA hX hQ;simp only[jn]at h;split at h
 ·rename_i hc;simp only[aQ]at hc;obtain⟨⟨qT,hts⟩,rF⟩:=hc;split at h
  ·rename_i t1 u e1 e2;simp only[cN]at h;subst h;obtain⟨J,hJ1,hJ2⟩:=qA;refine hr _ _ t1 ρ β a W H K (nx++[J]) Q e1 (m.depth _) (by simp[hd]) hJ1 hX ?_;intro e st2 t2 ρ2 β2 a2 W2 H3 K3 nx2 h2 m2 rP vT qH qI;have uB:nx<+:nx2:=(eT _ _).trans vT;cases e with
   |normal=>
    simp only at h2;split at h2
    ·rename_i nv nb hnv rQ;split at h2
     ·rename_i tD;rw[aQ]at tD;simp only[cN]at h2;subst h2;have hh:=qI;have e1:nx2.getD st.d (fun _ _=>False)=J:=by
       rw[ui vT (by simp[hd])];simp[aJ,<-hd]
      simp only[den]at hh;rw[e1]at hh;obtain⟨r,rfl⟩:=rP;have hmt:=HV (δ:=0) (dd:=(Dj c).filter fun t=> !ts.contains t) qT m m2 (Yu hts) (Yu rF) (fun u hu _=>by
       by_cases ht:u∈ts
       ·exact .inl ht
       ·exact .inr (bZ.2 ⟨hu,by simpa using ht⟩)) hnv rQ tD.1 tD.2
      refine hQ .normal _ u _ β2 a2 W2 H3 K3 nx e2 hmt (eT _ _) (eW _) (by simp[Bv,hd]) (hJ2 _ H3 ?_ hh);rw[aR,aL,(gq hnv).1,(Uz rQ).1]
     ·simp only[cN]at h2;subst h2;exact qI.elim
    ·simp only[cN]at h2;subst h2;exact qI.elim
   |exit id=>exact hQ _ _ _ _ _ _ _ _ _ _ h2 m2 rP uB qH qI
   |goto l=>exact hQ _ _ _ _ _ _ _ _ _ _ h2 m2 rP uB qH qI
   |ret=>exact hQ _ _ _ _ _ _ _ _ _ _ h2 m2 rP uB qH qI
   |panic ch=>exact hQ _ _ _ _ _ _ _ _ _ _ h2 m2 rP uB qH qI
   |outgrown=>exact hQ _ _ _ _ _ _ _ _ _ _ h2 m2 rP uB qH qI
  ·cases h
 ·cases h
def C6 {F:Fence} {n:Nat} {P:Program} {Q:Exit->Act->World->Prop} {a:Act} {w:World} {c:Code} (I:Nat->Act->World->Prop) (n₀:Nat) (h₀:I n₀ a w)
  (round:∀m a w,I m a w->c.wpIn F n P (Exit.then (fun a' w'=>∃n',n'<m/\I n' a' w') Q) a w):(Code.loop c).wpIn F n P Q a w:=by
 refine wpIn_loop (fun a w=>∃m,I m a w) (fun a w=>leastOf (fun m=>I m a w)) ⟨n₀,h₀⟩ ?_;intro a w hI;refine wpIn_mono (round _ a w (leastOf_spec hI).1) ?_;intro e a' w' hq;cases e with
 |normal=>
  obtain⟨n',qB,hI'⟩:=hq;exact show(∃n,I n a' w')/\leastOf (fun n=>I n a' w')<leastOf (fun n=>I n a w)from⟨⟨n',hI'⟩,bO ((leastOf_spec ⟨n',hI'⟩).2 n' hI') qB⟩
 |exit id=>exact hq
 |goto l=>exact hq
 |ret=>exact hq
 |panic ch=>exact hq
 |outgrown=>exact hq
def Exit.noGo (Q:Exit->Act->World->Prop):Exit->Act->World->Prop
 | .goto _,_,_=>False
 |e,a,w=>Q e a w
def Va {P:Program} {b:Frame} {a:Act} {k:List Item} {cs:List Frame} {w:World} {c:Code}:step P (lone (b.atR a (.code (.scope c)::k)) cs w)= .next (lone (b.atR a (.code c:: .inScope c::k)) cs w):=
 step_lone_go (by simp[stepG,stepG.exec,Frame.atR])
def C7 {P:Program} {b:Frame} {a:Act} {k:List Item} {cs:List Frame} {w:World} {c:Code}:step P (lone (b.atR a (.inScope c::k)) cs w)= .next (lone (b.atR a k) cs w):=
 step_lone_go (by simp[stepG,stepG.exec,Frame.atR])
def C8 {F:Fence} {n:Nat} {P:Program} {Q:Exit->Act->World->Prop} {a:Act} {w:World} {c:Code} (h:c.wpIn F n P (Exit.noGo Q) a w):(Code.scope c).wpIn F n P Q a w:=by
 intro b k cs tN hb hr;have h0:(lone (b.atR a (.code (.scope c)::k)) cs w).fenced P F:=fenced_calm hb hr rfl;obtain⟨e,a₁,w₁,hq,xM⟩:=h b (.inScope c::k) cs tN hb hr;cases e with
 |normal=>exact⟨.normal,a₁,w₁,hq,.head h0 Va (StepsIn.trans xM (.one (fenced_calm hb hr rfl) C7))⟩
 |exit id=>
  have hx:exitTo id (.inScope c::k)=exitTo id k:=by simp[exitTo]
  exact⟨.exit id,a₁,w₁,hq,fun k' hk=> .head h0 Va (xM.1 k' (by rw[hx];exact hk)),
   fun hr' hk=>let⟨k₁,h1,h2⟩:=xM.2 hr' (by rw[hx];exact hk);⟨k₁,h1,.head h0 Va h2⟩⟩
 |goto l=>exact hq.elim
 |ret=>exact⟨_,a₁,w₁,hq,.of_steps (.one h0 Va) xM⟩
 |panic ch=>exact⟨_,a₁,w₁,hq,.of_steps (.one h0 Va) xM⟩
 |outgrown=>exact⟨_,a₁,w₁,hq,.of_steps (.one h0 Va) xM⟩
def Eu {W:World} {l k:Nat} {o:Obj} (h:k≠l):(W.putObj l o).heap[k]? =W.heap[k]?:=World.putObj_heap_other h
def Mt.turn {c1:Bs} {H K:PH} (m:Mt P ⟨c1,H,K⟩ ρ β st a W) {l:Nat} (o':Obj) (hl:K l≠none) (ho:c1.w.heap.size<=l\/c1.H0 l≠none) {K' K0':PH} (hK':K'.In (W.putObj l o')) (hKd:∀k,K' k≠none->K k≠none) (pY:Pl K0' K')
  {df:List Deferred} (rH:∃Ds:List Nat,df=Ds.map Kz/\Ds.Nodup/\∀D∈Ds,c1.w.heap.size<=D/\K' D=some (.deferred (some []))):Mt P ⟨{c1 with K0:=K0'},H,K'⟩ ρ β st {a with defers:=df} (W.putObj l o'):=
 {sz:=m.sz,sl:=m.sl,pb:=m.pb,df:=rH,n:=m.n
  bl:=fun b B hB=>by
   have qJ:β b≠l:=fun e=>hl (by rw[<-e];exact m.kpB b (aH.1 hB).1);rw[Eu qJ];exact m.bl b B hB
  inj:=m.inj,own:=m.own,sep:=m.sep
  fr:=⟨m.fr.os,m.fr.tape,m.fr.output,by rw[World.putObj_size];exact m.fr.size,fun k hk hn=>by
   rw[Eu (fun e=>by
    subst e;rcases ho with h|h
    ·exact Nat.lt_irrefl _ (aU hk h)
    ·exact h hn)];exact m.fr.block k hk hn,fun k ob hk=>by
   rw[Eu (fun e=>by rw[e,m.kpH l hl]at hk;cases hk)];exact m.fr.holds k ob hk,m.fr.dom,m.fr.dr⟩
  kp:=hK',rd:=m.rd,ag:=m.ag,ln:=m.ln,kle:=pY,kpH:=fun k hk=>m.kpH k (hKd k hk)
  kpB:=fun b hb=>by
   cases e:K' (β b)with
   |none=>exact e
   |some o=>exact absurd (m.kpB b hb) (hKd _ (by simp[e]))
  kn:=m.kn,kb:=m.kb}
def C9 {c1:Bs} (hK0:∀k,c1.K0 k=none) {H:PH} {fn:Func} {R:Ending->World->Prop} {tm:Array Value}
  (h:∀(K':PH) (a':Act) (W':World),Mt P ⟨c1,H,K'⟩ ρ β st a' W'->a'.tmps=tm->∃v,(results fn tm).run P W'= .ok v W'/\R (.returned v) W'):∀(Ds:List Nat) (K:PH) (a:Act) (W:World),Mt P ⟨c1,H,K⟩ ρ β st a W->a.tmps=tm->a.defers=Ds.map Kz->Ds.Nodup->(∀D∈Ds,c1.w.heap.size<=D/\K D=some (.deferred (some [])))->
  LeavesInM Fence.wide 0 P fn tm R a.defers .returning W:=by
 intro Ds;induction Ds with
 |nil=>intro K a W m ht hd _ _;rw[hd];exact h K a W m ht
 |cons D Ds ih=>
  intro K a W m ht hd hn hD;rw[hd];obtain⟨hDs,hDK⟩:=hD D aD;rw[fM]at hn;have hw:=m.kp D _ hDK;refine⟨aD,.inl ⟨D,_,rfl,run_takeDeferred hw,?_⟩⟩;have hD':∀D'∈Ds,c1.w.heap.size<=D'/\(fun k=>if k=D then none else K k) D'=some (.deferred (some [])):=fun D' h'=>by
   obtain⟨g1,g2⟩:=hD D' (by simp[h']);refine⟨g1,?_⟩;show(if D'=D then none else K D')=_;rw[if_neg (show ¬D'=D from fun e=>hn.1 (e ▸ h'))];exact g2
  have:=m.turn (.deferred none) (K':=fun k=>if k=D then none else K k) (K0':=c1.K0) (df:=Ds.map Kz) (by rw[hDK];simp) (.inl hDs) (fun k ob hk=>by
   change (if k=D then none else K k)=some ob at hk;split at hk
   ·cases hk
   ·rename_i e;rw[Eu e];exact m.kp k ob hk) (fun k hk=>by
   change (if k=D then none else K k)≠none at hk;split at hk
   ·exact absurd rfl hk
   ·exact hk) (fun k o hk=>by rw[hK0]at hk;cases hk) ⟨Ds,rfl,hn.2,hD'⟩
  exact ih _ _ _ this ht rfl hn.2 hD'
def D0 {c1:Bs} (hK0:∀k,c1.K0 k=none) {H:PH} {fn:Func} {R:Ending->World->Prop} {ch:List PanicEntry}
  (h:∀(K':PH) (a':Act) (W':World),Mt P ⟨c1,H,K'⟩ ρ β st a' W'->R (.panicked ch) W'):∀(Ds:List Nat) (K:PH) (a:Act) (W:World) (tm:Array Value),Mt P ⟨c1,H,K⟩ ρ β st a W->a.defers=Ds.map Kz->Ds.Nodup->(∀D∈Ds,c1.w.heap.size<=D/\K D=some (.deferred (some [])))->
  LeavesInM Fence.wide 0 P fn tm R a.defers (.panicking ch) W:=by
 intro Ds;induction Ds with
 |nil=>intro K a W tm m hd _ _;rw[hd];exact h K a W m
 |cons D Ds ih=>
  intro K a W tm m hd hn hD;rw[hd];obtain⟨hDs,hDK⟩:=hD D aD;rw[fM]at hn;have hw:=m.kp D _ hDK;refine⟨aD,.inl ⟨D,_,rfl,run_takeDeferred hw,?_⟩⟩;have hD':∀D'∈Ds,c1.w.heap.size<=D'/\(fun k=>if k=D then none else K k) D'=some (.deferred (some [])):=fun D' h'=>by
   obtain⟨g1,g2⟩:=hD D' (by simp[h']);refine⟨g1,?_⟩;show(if D'=D then none else K D')=_;rw[if_neg (show ¬D'=D from fun e=>hn.1 (e ▸ h'))];exact g2
  have:=m.turn (.deferred none) (K':=fun k=>if k=D then none else K k) (K0':=c1.K0) (df:=Ds.map Kz) (by rw[hDK];simp) (.inl hDs) (fun k ob hk=>by
   change (if k=D then none else K k)=some ob at hk;split at hk
   ·cases hk
   ·rename_i e;rw[Eu e];exact m.kp k ob hk) (fun k hk=>by
   change (if k=D then none else K k)≠none at hk;split at hk
   ·exact absurd rfl hk
   ·exact hk) (fun k o hk=>by rw[hK0]at hk;cases hk) ⟨Ds,rfl,hn.2,hD'⟩
  exact ih _ _ _ tm this rfl hn.2 hD'
def PH.or_none {X K:PH} {b:Nat}:X.or K b=none↔X b=none/\K b=none:=by
 unfold PH.or;cases e:X b with
 |none=>simp
 |some o=>simp
def PH.le_or (X K:PH):Pl X (X.or K):=fun b o h=>by unfold PH.or;rw[h]
def PH.or_r {X K:PH} (h:Disj X K):Pl K (X.or K):=fun b o hk=>by
 unfold PH.or;cases e:X b with
 |none=>exact hk
 |some o'=>rw[h b (by simp[e])]at hk;cases hk
def PH.or_In {X K:PH} {w:World} (h1:X.In w) (h2:K.In w):(X.or K).In w:=fun b o h=>by
 unfold PH.or at h;cases e:X b with
 |none=>simp only[e]at h;exact h2 b o h
 |some o'=>simp only[e]at h;cases h;exact h1 b _ e
def Yv {X K:PH} {b:Nat} (h:X b≠none):X.or K b≠none:=fun e=>h (PH.or_none.1 e).1
def Step.less {H H' H'':PH} {w w':World} (h:Step H w H' w') (hl:Pl H'' H'):Step H w H'' w':=
 ⟨h.os,h.tape,h.output,h.size,h.block,hl.In h.holds,fun b hb=>h.dom b fun e=>hb (by
  cases e2:H'' b with
  |none=>rfl
  |some o=>rw[hl b o e2]at e;cases e),h.dr⟩
def Ig (P:Program) (ρ:List Value) (st:St) (bs:List Nat) (vals:List Value) (i:Nat):Value:=
 match Bg i bs 0 with
 |some k=>vals.getD k undef
 |none=>match st.bl[i]? with|some B=>D P ρ B.c|none=>undef
def Jh (P:Program) (ρ:List Value) (st:St) (bs:List Nat) (vals:List Value) (i:Nat):Obj:=
 .cells (Ig P ρ st bs vals i).cells (match st.bl[i]? with|some B=>B.T|none=>0) (0,0)
def Of (P:Program) (ρ:List Value) (st:St) (bs:List Nat) (β:Nat->Nat) (vals:List Value):PH:=fun b=>((eO st.bl.length).find? fun i=>β i==b).map (Jh P ρ st bs vals)
def Yof (P:Program) (ρ:List Value) (st:St) (bs:List Nat) (β:Nat->Nat) (l:Nat) (r:Loop) (vals:List Value) (X:PH):PH:=fun b=>
 if b=l then some (.loop r)else match Of P ρ st bs β vals b with|some o=>some o|none=>X b
structure Fit (P:Program) (ρ:List Value) (st:St) (bs:List Nat) (β:Nat->Nat) (l:Nat) (vals:List Value) (X:PH):Prop where
 sz:∀(i:Nat) (B:Blk),st.bl[i]? =some B->(Ig P ρ st bs vals i).cells.size=B.n/\j0 (Ig P ρ st bs vals i).cells
 xb:∀i,i<st.bl.length->X (β i)=none
 xl:X l=none
section
variable {bs:List Nat} {vals:List Value} {l:Nat} {r:Loop} {X K:PH}
def D1 (inj:∀b b',b<st.bl.length->b'<st.bl.length->β b=β b'->b=b') {i:Nat} (hi:i<st.bl.length):Of P ρ st bs β vals (β i)=some (Jh P ρ st bs vals i):=by
 unfold Of;cases e:(eO st.bl.length).find? fun j=>β j==β i with
 |none=>
  have:=List.find?_eq_none.1 e i (aW.2 hi);simp at this
 |some j=>
  have h1:=nV e;have h2:=aW.1 (lL e);simp only[beq_iff_eq]at h1;rw[inj j i h2 hi h1];rfl
def uk {b:Nat} {o:Obj} (h:Of P ρ st bs β vals b=some o):∃i,i<st.bl.length/\β i=b/\o=Jh P ρ st bs vals i:=by
 unfold Of at h;rw[eZ]at h;obtain⟨i,h1,h2⟩:=h;have h3:=nV h1;exact⟨i,aW.1 (lL h1),by simpa using h3,h2.symm⟩
def Yw:Yof P ρ st bs β l r vals X l=some (.loop r):=by unfold Yof;rw[if_pos rfl]
def Rr (inj:∀b b',b<st.bl.length->b'<st.bl.length->β b=β b'->b=b') {i:Nat} (hi:i<st.bl.length) (qJ:β i≠l):Yof P ρ st bs β l r vals X (β i)=some (Jh P ρ st bs vals i):=by
 unfold Yof;rw[if_neg qJ,D1 inj hi]
def Rt (hf:Fit P ρ st bs β l vals X):Pl X (Yof P ρ st bs β l r vals X):=fun b o hb=>by
 unfold Yof;rw[if_neg (fun e=>by rw[e,hf.xl]at hb;cases hb)];cases e:Of P ρ st bs β vals b with
 |none=>exact hb
 |some o'=>
  obtain⟨i,hi,rfl,_⟩:=uk e;rw[hf.xb i hi]at hb;cases hb
def Ru {b:Nat} (h:Yof P ρ st bs β l r vals X b≠none):b=l\/(∃i,i<st.bl.length/\β i=b)\/X b≠none:=by
 unfold Yof at h;split at h
 ·rename_i e;exact .inl e
 ·cases e:Of P ρ st bs β vals b with
  |none=>rw[e]at h;exact .inr (.inr h)
  |some o=>obtain⟨i,hi,he,_⟩:=uk e;exact .inr (.inl ⟨i,hi,he⟩)
def HW {w:World} (hl:w.heap[l]? =some (.loop r)) (hb:∀i,i<st.bl.length->w.heap[β i]? =some (Jh P ρ st bs vals i)) (hx:X.In w):(Yof P ρ st bs β l r vals X).In w:=fun b o h=>by
 unfold Yof at h;split at h
 ·rename_i e;subst e;cases h;exact hl
 ·cases e:Of P ρ st bs β vals b with
  |none=>rw[e]at h;exact hx b o h
  |some o'=>
   rw[e]at h;cases h;obtain⟨i,hi,rfl,rfl⟩:=uk e;exact hb i hi
def gw {i:Nat} {B:Blk} (h:st.bl[i]? =some B):Jh P ρ st bs vals i= .cells (Ig P ρ st bs vals i).cells B.T (0,0):=by
 unfold Jh;rw[h]
def Yx {i:Nat} {B:Blk} (h:st.bl[i]? =some B):Ig P ρ st bs vals i=match Bg i bs 0 with|some k=>vals.getD k undef|none=>D P ρ B.c:=by
 unfold Ig;rw[h]
end
def D2:∀(ps:List Nat) (xs:List Value) (tm:Array Value),ps.length=xs.length->ps.Nodup->(∀p∈ps,p<tm.size)->
  ((ps.zip xs).foldl (fun t (p:Nat×Value)=>t.setIfInBounds p.1 p.2) tm).size=tm.size/\(∀t:Nat,t∉ps->((ps.zip xs).foldl (fun t (p:Nat×Value)=>t.setIfInBounds p.1 p.2) tm)[t]? =tm[t]?)/\
  ∀(k t:Nat),ps[k]? =some t->((ps.zip xs).foldl (fun t (p:Nat×Value)=>t.setIfInBounds p.1 p.2) tm)[t]? =some (xs.getD k undef):=by
 intro ps;induction ps with
 |nil=>intro xs tm _ _ _;exact⟨rfl,fun _ _=>rfl,fun k t h=>by simp at h⟩
 |cons p ps ih=>
  intro xs tm hl hn hr;cases xs with
  |nil=>simp at hl
  |cons x xs=>
   rw[fM]at hn;simp only[List.zip_cons_cons,gQ];obtain⟨g1,g2,g3⟩:=ih xs (tm.setIfInBounds p x) (by simpa using hl) hn.2 (fun q hq=>by simpa using hr q (by simp[hq]));refine⟨by rw[g1];simp,fun t ht=> ?_,fun k t hk=> ?_⟩
   ·simp only[bG,not_or]at ht;rw[g2 t ht.2,cZ (fun e=>ht.1 e.symm)]
   ·cases k with
    |zero=>
     simp only[fS,cN]at hk;subst hk;rw[g2 p hn.1,dJ (hr p aD)];rfl
    |succ k=>
     simp only[fU]at hk;rw[g3 k t hk];rfl
def HY {e:Exit} {l:List Exit} (h:Ux e l=true):∃r,l=e::r/\(e= .ret\/∃i,e= .exit i):=by
 unfold Ux at h;split at h
 ·exact⟨_,rfl,.inl rfl⟩
 ·rw[beq_iff_eq]at h;subst h;exact⟨_,rfl,.inr ⟨_,rfl⟩⟩
 ·cases h
def D3 {c2:Bs} {H2 K2:PH} {bs:List Nat} {l j:Nat} {st2:St} {t2:Tree} {ρ2:List Value} {β2:Nat->Nat} {a2:Act} {w2:World} {nx2:List (List Value->PH->Prop)} (qT:Bh st=true) (hn:ρ.length=st.n) (hp:ρ<+:ρ2)
  (h2:Yo st bs j st2=some t2) (m2:Mt P ⟨c2,H2,K2⟩ ρ2 β2 st2 a2 w2) (xF:c2.n0=st.bl.length) (xZ:c2.b0=β) (hl:c2.K0 l≠none) (qA:den P G Xp t2 nx2 ρ2 H2):
  ∃vals,vals.length=bs.length/\(nx2.getD (st.d+j) fun _ _=>False) vals H2/\Fit P ρ st bs β l vals H2/\∀i,i<st.bl.length->w2.heap[β i]? =some (Jh P ρ st bs vals i):=by
 unfold Yo at h2;split at h2
 ·rename_i nb rQ;split at h2
  ·rename_i hs;simp only[cN]at h2;subst h2;obtain⟨g1,g2⟩:=Uz rQ;obtain⟨s1,s2⟩:=HU hs;unfold Bh at qT;simp only[aQ,cH]at qT;obtain⟨⟨⟨_,c2'⟩,_⟩,_⟩:=qT;rw[<-hn]at c2';obtain⟨rr,rfl⟩:=hp;have key:∀(i:Nat) (B:Blk),st.bl[i]? =some B->∃B',st2.bl[i]? =some B'/\B'.T=B.T/\B'.n=B.n/\Ig P ρ st bs (nb.map (D P (ρ++rr))) i=D P (ρ++rr) B'.c:=fun i B hB=>by
    obtain⟨B',q1,q2,q3,q4⟩:=s2 i B hB;refine⟨B',q1,q2,q3,?_⟩;rw[Yx hB];cases e:Bg i bs 0 with
    |some k=>
     obtain⟨k',rfl,rA⟩:=Yt e;obtain⟨B2,r1,r2⟩:=g2 k' i rA;obtain rfl:B2=B':=eX.inj (r1.symm.trans q1);simp[aJ,r2]
    |none=>
     simp only;rw[q4 (by rw[bJ];exact HT e),Fg P ρ rr B.c (c2' B (aK hB))]
   have hβ:∀i,i<st.bl.length->β2 i=β i:=fun i hi=>by rw[<-xZ];exact m2.ag i (by show i<c2.n0;omega)
   refine⟨nb.map (D P (ρ++rr)),by rw[aR,g1],qA,⟨fun i B hB=> ?_,fun i hi=> ?_,m2.kpH l ?_⟩,fun i hi=> ?_⟩
   ·obtain⟨B',q1,q2,q3,q4⟩:=key i B hB;rw[q4,<-q3];exact(m2.bl i B' q1).2
   ·rw[<-hβ i hi];exact m2.sep i aA
   ·intro e;cases e2:c2.K0 l with
    |none=>exact hl e2
    |some o=>have h3:=m2.kle l o e2;simp only at h3 e;rw[e]at h3;cases h3
   ·obtain⟨B,hB⟩:∃B,st.bl[i]? =some B:=⟨_,aG hi⟩;obtain⟨B',q1,q2,q3,q4⟩:=key i B hB;rw[gw hB,q4,<-q2,<-hβ i hi];exact(m2.bl i B' q1).1
  ·simp only[cN]at h2;subst h2;exact qA.elim
 ·simp only[cN]at h2;subst h2;exact qA.elim
def D4 {C:List Da} {g:Operand} {ps:Array Tmp} {asg body:Code} (ihA:∀(c1:Bs) (rm:Nat),Rn P G noP c1 rm asg (ex P C asg)) (ihB:∀(c1:Bs) (rm:Nat),Rn P G noP c1 rm body (ex P C body))
  {c1:Bs} {rm:Nat} {st:St} {k:Exit->St->Option Tree} {t:Tree} {ρ:List Value} {β:Nat->Nat} {a:Act} {W:World} {H K:PH} {nx:List (List Value->PH->Prop)} {Q:Exit->Act->World->Prop}
  (h:ex P C (.rangeFunc g ps asg body) st k=some t) (m:Mt P ⟨c1,H,K⟩ ρ β st a W) (hd:nx.length=st.d) (qA:den P G Xp t nx ρ H)
  (hQ:∀e st' t' ρ' β' a' W' H' K' nx',k e st'=some t'->Mt P ⟨c1,H',K'⟩ ρ' β' st' a' W'->ρ<+:ρ'->nx<+:nx'->nx'.length=st'.d->den P G Xp t' nx' ρ' H'->Q e a' W'):(Code.rangeFunc g ps asg body).wpIn (Fr c1.ro) rm P Q a W:=by
 simp only[ex]at h;split at h
 ·rename_i gv ib hrd hgv hib;split at h
  ·rename_i hc;simp only[aQ]at hc;obtain⟨⟨⟨qT,rF⟩,uH⟩,xU⟩:=hc;split at h
   ·rename_i tb ta te eb ea ee;simp only[cN]at h;subst h
    revert hib rF eb ea ee
    generalize Oc st asg body=bs;intro hib rF eb ea ee;have hbn:=Yu rF;have uB:=Yu uH;have tN:c1.ro=none:=m.rd hrd;obtain⟨f,caps,X,K1,Ro,E,S,Sp,I,Ix,hg,rZ,hHe,a1w,hit,uV,hI0,a3s,a3t,a3u⟩:=qA;have uT:a.eval g= .func (.func f) #[] caps.toArray:=(m.val hgv).trans hg;obtain⟨qU,qZ⟩:=Uz hib;have qY:∀p∈ps.toList,p<a.tmps.size:=fun p hp=>by rw[m.sz];simpa using cH.1 xU p hp
    rw[tN];refine wpIn_rangeFunc fun fn _=> ?_;obtain⟨rec,tR⟩:∃rec:LoopState->Option Code->Loop,rec=fun s p=>{state:=s,pending:=p,fn,tmps:=a.tmps,params:=ps,assign:=asg,body,defers:=W.heap.size}:=⟨_,rfl⟩;obtain⟨W1,sO⟩:∃W1,(W.alloc (.deferred (some []))).alloc (.loop (rec .ready none))=W1:=⟨_,rfl⟩;have hs0:(W.alloc (.deferred (some []))).heap.size=W.heap.size+1:=by show(W.heap.push _).size=_;simp
    have sN:Ext W W1:=sO ▸ (Ext.alloc W _).trans (Ext.alloc _ _);have a6j:W1.heap.size=W.heap.size+2:=by
     rw[<-sO];show((W.alloc (.deferred (some []))).heap.push _).size=_;simp[hs0]
    have hD1:W1.heap[W.heap.size]? =some (.deferred (some [])):=by
     rw[<-sO];exact(Ext.alloc _ _).block (World.alloc_heap_new W _)
    have hL1:W1.heap[W.heap.size+1]? =some (.loop (rec .ready none)):=by
     rw[<-sO,<-hs0];exact World.alloc_heap_new _ _
    obtain⟨l,hl⟩:∃l,l=W.heap.size+1:=⟨_,rfl⟩;have hβl:∀i,i<st.bl.length->β i≠l:=fun i hi=>by have:=m.lt hi;omega
    refine⟨l,[Kz W.heap.size],W1,{target:= .fn (.func f) caps.toArray,args:= #[.func (.yield l) #[] #[]]},W1,f,#[.func (.yield l) #[] #[]]++caps.toArray,W1,?_,?_,fun _ _=>trivial,?_,fun e=>by simp[Fr,Fence.wide]at e,qm ?_⟩
    ·rw[<-sO,tR,hl];exact run_enterLoop_outer _ _ _ _ _
    ·simp only[resolve,uT];simp[go_sem]
    ·simp[invoke,go_sem,La rZ]
    rw[show #[Value.func (.yield l) #[] #[]]++caps.toArray=((Value.func (.yield l) #[] #[])::caps).toArray from aD];have Xin:X.In W:=(PH.le_or X K1).In (hHe ▸ m.fr.holds);have K1in:K1.In W:=(PH.or_r a1w).In (hHe ▸ m.fr.holds);have hXl:∀Z:PH,Z.In W->Z l=none:=fun Z hZ=>by
     cases e:Z l with
     |none=>rfl
     |some o=>have:=y9 (hZ _ _ e);omega
    have hXb:∀i,i<st.bl.length->X (β i)=none/\K1 (β i)=none:=fun i hi=>by
     have:=m.sep i hi;simp only[hHe]at this;exact PH.or_none.1 this
    have round:∀(pre:List (List Value)) (xs:List Value) (vals:List Value) (X' K':PH),E pre xs->vals.length=ib.length->I pre vals X'->Fit P ρ st bs β l vals X'->Disj (Yof P ρ st bs β l (rec .ready none) vals X') K'->
      ug P l xs (Yof P ρ st bs β l (rec .ready none) vals X') K' fun v Y'=>
       (v= .bool true/\∃vals' X'',vals'.length=ib.length/\I (pre++[xs]) vals' X''/\Fit P ρ st bs β l vals' X''/\Y'=Yof P ρ st bs β l (rec .ready none) vals' X'')\/
       (v= .bool false/\∃vals' X'' e0 r0 c0,If body=e0::r0/\((e0= .ret/\c0=Code.ret)\/∃i,e0= .exit i/\c0=Code.exit i)/\vals'.length=ib.length/\Ix (pre++[xs]) vals' X''/\Fit P ρ st bs β l vals' X''/\Y'=Yof P ρ st bs β l (rec .done (some c0)) vals' X''):=by
     intro pre xs vals X' K' hE uL hI hf yA w qL;obtain⟨sQ,xH⟩:=a3s pre xs vals X' hE uL hI;have vU:(Yof P ρ st bs β l (rec .ready none) vals X').In w:=(PH.le_or _ K').In qL;have a0s:K'.In w:=(PH.or_r yA).In qL;have a3v:X'.In w:=(Rt hf).In vU;have hlw:=vU l _ Yw;have hKl:K' l=none:=yA l (by rw[Yw];simp);have hKb:∀i,i<st.bl.length->K' (β i)=none:=fun i hi=>yA _ (by rw[Rr m.inj hi (hβl i hi)];simp);refine⟨fn,(ps.zip xs.toArray).foldl (fun tmps x=>match x with|(t,a)=>tmps.setIfInBounds t a) a.tmps,asg,body,?_,roundIn_of_wpIn trivial ?_⟩
     ·have:=run_yield (P:=P) (args:=xs.toArray) hlw (by rw[tR];simpa using sQ);rw[tR]at this;exact this
     obtain⟨c2,rR⟩:∃c2:Bs,c2=⟨w,(Yof P ρ st bs β l (rec .ready none) vals X').or K',some l,st.bl.length,β,K'.put l (.loop (rec .ready none))⟩:=⟨_,rfl⟩;have hYl:(Yof P ρ st bs β l (rec .ready none) vals X').or K' l≠none:=Yv (by rw[Yw];simp);have a1x:∀(r:Loop) k,(K'.put l (.loop r)) k≠none->k=l\/K' k≠none:=fun r k hk=>by
      unfold PH.put at hk;split at hk
      ·rename_i e;exact .inl e
      ·exact .inr hk
     obtain⟨z1,z2,z3⟩:=D2 ps.toList xs a.tmps (by simpa using sQ.symm) uB qY;have a3w:(ps.zip xs.toArray).foldl (fun tmps x=>match x with|(t,a)=>tmps.setIfInBounds t a) a.tmps=(ps.toList.zip xs).foldl (fun t (p:Nat×Value)=>t.setIfInBounds p.1 p.2) a.tmps:=by
      rw[<-Array.foldl_toList,Array.toList_zip]
     rw[a3w];generalize (ps.toList.zip xs).foldl (fun t (p:Nat×Value)=>t.setIfInBounds p.1 p.2) a.tmps=tm at z1 z2 z3;have m0:Mt P ⟨c2,X',K'.put l (.loop (rec .ready none))⟩ (ρ++(xs++vals)) β (sy st ps.toList bs) {tmps:=tm,defers:=[]} w:=by
      refine gu (st:={st with rd:=true}) (lv:=ps.toList) (dd:=[]) (bs:=bs) (δ:=2) qT m.n m.kn m.kb (by simp[sQ,uL,qU]) (by rw[<-m.sz];exact z1) m.pb uB hbn (fun u s yU _ hs=> ?_) (fun k' u rA=> ?_) (fun i B hB=> ?_) ?_
      ·rw[z2 u yU];exact m.sl u s hs
      ·rw[z3 k' u rA];have qB:=(aH.1 rA).1;rw[bA]at qB;rw[aJ,aJ,aM aA]
      ·change st.bl[i]? =some B at hB;have hi:=(aH.1 hB).1;have e1:(match Bg i bs 0 with|some k=>(xs++vals).getD (ps.toList.length+k) undef|none=>D P ρ B.c)=Ig P ρ st bs vals i:=by
        rw[Yx hB];cases Bg i bs 0 with
        |none=>rfl
        |some k=>
         simp only[aJ,bA];rw[aN aA,sQ,iH]
       rw[e1];refine⟨?_,hf.sz i B hB⟩;rw[<-gw hB];exact vU _ _ (Rr m.inj hi (hβl i hi))
      ·subst rR;refine⟨⟨[],rfl,gI,aD⟩,m.inj,fun i hi=> .inr (Yv (by rw[Rr m.inj hi (hβl i hi)];simp)),hf.xb,⟨rfl,rfl,rfl,aS _,fun _ _ _=>rfl,a3v,fun b hb=> .inl (Yv (fun e=>hb ?_)),aS _⟩,PH.put_in a0s hlw,(fun e=>by cases e),fun _ _=>rfl,aS _,Pl.refl _,fun k' rA=> ?_,fun i hi=> ?_⟩
       ·cases e2:X' b with
        |none=>exact e2
        |some o=>rw[Rt hf b o e2]at e;cases e
       ·rcases a1x _ k' rA with rfl|rA
        ·exact hf.xl
        ·cases e2:X' k' with
         |none=>exact e2
         |some o=>exact absurd (yA k' (by rw[Rt hf k' o e2];simp)) rA
       ·show PH.put K' l _ (β i)=none;unfold PH.put;rw[if_neg (hβl i hi)];exact hKb i hi
     refine ihA c2 0 _ _ tb _ β _ w X' _ _ _ eb m0 (by simp[sy,Bv,hd]) xH PnQ.no ?_|>fun hh=>(by subst rR;exact hh);intro e st1 t1 ρ1 β1 a1 w1 H1 K1' nx1 h1 m1 tZ hn1 wO uC;cases e with
     |exit id=>simp only[cN]at h1;subst h1;exact uC.elim
     |goto l=>simp only[cN]at h1;subst h1;exact uC.elim
     |ret=>simp only[cN]at h1;subst h1;exact uC.elim
     |panic ch=>simp only[cN]at h1;subst h1;exact uC.elim
     |outgrown=>simp only[cN]at h1;subst h1;exact uC.elim
     |normal=>
      have a0a:K1' l=some (.loop (rec .ready none)):=m1.kle l _ (by subst rR;show PH.put K' l _ l=_;unfold PH.put;rw[if_pos rfl]);have a1y:=m1.kp l _ a0a;refine⟨_,run_beginRound a1y (by rw[tR]),?_⟩;have a1z:({rec .ready none with state:= .busy}:Loop)=rec .busy none:=by rw[tR]
      rw[a1z];have a3x:=y9 a1y;obtain⟨Ds1,d1,d2,d3⟩:=m1.df;have m1':Mt P ⟨{c2 with K0:=K'.put l (.loop (rec .busy none))},H1,K1'.put l (.loop (rec .busy none))⟩ ρ1 β1 st1 {a1 with defers:=a1.defers} (w1.putObj l (.loop (rec .busy none))):=by
       refine m1.turn _ (by rw[a0a];simp) (by subst rR;exact .inr hYl) (fun k' o rA=> ?_) (fun k' rA=> ?_) (fun k' o rA=> ?_) ⟨Ds1,d1,d2,fun D hD=>⟨(d3 D hD).1,?_⟩⟩
       ·unfold PH.put at rA;split at rA
        ·rename_i e;subst e;cases rA;exact World.putObj_heap_same a3x
        ·rename_i e;rw[Eu e];exact m1.kp k' o rA
       ·unfold PH.put at rA;split at rA
        ·rename_i e;subst e;rw[a0a];simp
        ·exact rA
       ·unfold PH.put at rA⊢;split
        ·rename_i e;rw[if_pos e]at rA;exact rA
        ·rename_i e;rw[if_neg e]at rA;exact m1.kle k' o (by subst rR;show PH.put K' l _ k'=_;unfold PH.put;rw[if_neg e];exact rA)
       ·unfold PH.put;have h5:K1' D=some (.deferred (some [])):=(d3 D hD).2;rw[if_neg (fun e=>by rw[e,a0a]at h5;cases h5)];exact h5
      refine ihB {c2 with K0:=K'.put l (.loop (rec .busy none))} 0 st1 _ t1 ρ1 β1 _ _ H1 _ nx1 _ h1 m1' wO uC PnQ.no ?_|>fun hh=>(by subst rR;exact hh);intro e st2 t2 ρ2 β2 a2 w2 H2 K2 nx2 h2 m2 rP vT qH qI;have hpp:ρ<+:ρ2:=((eT _ _).trans tZ).trans rP;have hnn:=hn1.trans vT;have hK2:∀k' o,(K'.put l (.loop (rec .busy none))) k'=some o->K2 k'=some o:=fun k' o rA=>m2.kle k' o rA;have a3y:=hK2 l _ (by unfold PH.put;rw[if_pos rfl]);have a2a:=m2.kp l _ a3y;have a0t:=y9 a2a;have a2b:∀k' o,K' k'=some o->K2 k'=some o:=fun k' o rA=>hK2 k' o (by unfold PH.put;rw[if_neg (fun e=>by rw[e,hKl]at rA;cases rA)];exact rA);have fin:∀(jump:Option Code) (vals':List Value),Fit P ρ st bs β l vals' H2->(∀i,i<st.bl.length->w2.heap[β i]? =some (Jh P ρ st bs vals' i))->
        (Instr.endRound l jump).run P w2= .ok (.bool jump.isNone) (w2.putObj l (.loop (rec (if jump.isNone then .ready else .done) jump)))/\
        Step ((Yof P ρ st bs β l (rec .ready none) vals X').or K') w ((Yof P ρ st bs β l (rec (if jump.isNone then .ready else .done) jump) vals' H2).or K') (w2.putObj l (.loop (rec (if jump.isNone then .ready else .done) jump)))/\
        Disj (Yof P ρ st bs β l (rec (if jump.isNone then .ready else .done) jump) vals' H2) K':=fun jump vals' hf' a3z=>by
       have sU:Step ((Yof P ρ st bs β l (rec .ready none) vals X').or K') w H2 w2:=by have:=m2.fr;subst rR;exact this
       have hj:∀b,Yof P ρ st bs β l (rec (if jump.isNone then .ready else .done) jump) vals' H2 b≠none->K' b=none:=fun b hb=>by
        rcases Ru hb with rfl|⟨i,hi,rfl⟩|hb
        ·exact hKl
        ·exact hKb i hi
        ·cases e2:K' b with
         |none=>rfl
         |some o=>exact absurd (m2.kpH b (by show K2 b≠none;rw[a2b b o e2];simp)) hb
       refine⟨?_,⟨sU.os,sU.tape,sU.output,by rw[World.putObj_size];exact sU.size,fun k' rA sC=> ?_,PH.or_In (HW (World.putObj_heap_same a0t) (fun i hi=> ?_) fun b o hb=> ?_) fun b o hb=> ?_,fun b hb=> ?_,sU.dr⟩,hj⟩
       ·have:=run_endRound (P:=P) jump a2a;rw[this,tR]
       ·rw[Eu (fun e=>by rw[e]at sC;exact hYl sC)];exact sU.block k' rA sC
       ·rw[Eu (hβl i hi)];exact a3z i hi
       ·rw[Eu (fun e=>by rw[e,hf'.xl]at hb;cases hb)];exact m2.fr.holds b o hb
       ·rw[Eu (fun e=>by rw[e,hKl]at hb;cases hb)];exact m2.kp b o (a2b b o hb)
       ·by_cases rO:K' b=none
        ·rcases Ru (fun e=>hb (PH.or_none.2 ⟨e,rO⟩))with rfl|⟨i,hi,rfl⟩|hb
         ·exact .inl hYl
         ·exact .inl (Yv (by rw[Rr m.inj hi (hβl i hi)];simp))
         ·exact sU.dom b hb
        ·exact .inl fun e=>rO (PH.or_none.1 e).2
      have a0u:=fun(j:Nat) (h2:Yo st bs j st2=some t2)=>D3 (l:=l) (c2:={c2 with K0:=K'.put l (.loop (rec .busy none))}) qT m.n hpp h2 m2 (by subst rR;rfl) (by subst rR;rfl) (by show PH.put K' l _ l≠none;unfold PH.put;rw[if_pos rfl];simp) qI;have yV:∀j,j<2->(nx2.getD (st.d+j) fun _ _=>False)=((nx++[fun v h=>I (pre++[xs]) v h,fun v h=>Ix (pre++[xs]) v h]).getD (st.d+j) fun _ _=>False):=fun j hj=>ui hnn (by simp[hd];omega);cases e with
      |normal=>
       obtain⟨vals',g1,g2,g3,g4⟩:=a0u 0 h2;rw[yV 0 aA]at g2;have g2:I (pre++[xs]) vals' H2:=by simpa[aJ,<-hd]using g2
       obtain⟨q1,q2,q3⟩:=fin none vals' g3 g4;exact⟨_,_,q1,_,_,rfl,q2,q3,.inl ⟨rfl,vals',H2,aA,g2,g3,rfl⟩⟩
      |panic ch=>simp only[Ux,aY,if_false,cN]at h2;subst h2;exact qI.elim
      |outgrown=>simp only[Ux,aY,if_false,cN]at h2;subst h2;exact qI.elim
      |goto l=>simp only[Ux,aY,if_false,cN]at h2;subst h2;exact qI.elim
      |ret=>
       simp only at h2;split at h2
       ·rename_i hx;obtain⟨r0,yW,_⟩:=HY hx;obtain⟨vals',g1,g2,g3,g4⟩:=a0u 1 h2;rw[yV 1 aA]at g2;have g2:Ix (pre++[xs]) vals' H2:=by simpa[aJ,<-hd]using g2
        obtain⟨q1,q2,q3⟩:=fin (some .ret) vals' g3 g4;exact⟨_,_,q1,_,_,rfl,q2,q3,.inr ⟨rfl,vals',H2,_,r0,.ret,yW,.inl ⟨rfl,rfl⟩,aA,g2,g3,rfl⟩⟩
       ·simp only[cN]at h2;subst h2;exact qI.elim
      |exit id=>
       simp only at h2;split at h2
       ·rename_i hx;obtain⟨r0,yW,_⟩:=HY hx;obtain⟨vals',g1,g2,g3,g4⟩:=a0u 1 h2;rw[yV 1 aA]at g2;have g2:Ix (pre++[xs]) vals' H2:=by simpa[aJ,<-hd]using g2
        obtain⟨q1,q2,q3⟩:=fin (some (.exit id)) vals' g3 g4;exact⟨_,_,q1,_,_,rfl,q2,q3,.inr ⟨rfl,vals',H2,_,r0,.exit id,yW,.inr ⟨id,rfl,rfl⟩,aA,g2,g3,rfl⟩⟩
       ·simp only[cN]at h2;subst h2;exact qI.elim
    have fit0:Fit P ρ st bs β l (ib.map (D P ρ)) X:=by
     refine⟨fun i B hB=> ?_,fun i hi=>(hXb i hi).1,hXl X Xin⟩;have e1:Ig P ρ st bs (ib.map (D P ρ)) i=D P ρ B.c:=by
      rw[Yx hB];cases e:Bg i bs 0 with
      |none=>rfl
      |some k'=>
       obtain⟨k'',rfl,a0v⟩:=Yt e;obtain⟨B2,r1,r2⟩:=qZ k'' i a0v;obtain rfl:B2=B:=eX.inj (r1.symm.trans hB);simp[aJ,r2]
     rw[e1];exact(m.bl i B hB).2
    have own0:∀i,i<st.bl.length->W.heap[β i]? =some (Jh P ρ st bs (ib.map (D P ρ)) i):=fun i hi=>by
     obtain⟨B,hB⟩:∃B,st.bl[i]? =some B:=⟨_,aG hi⟩;rw[gw hB];have e1:Ig P ρ st bs (ib.map (D P ρ)) i=D P ρ B.c:=by
      rw[Yx hB];cases e:Bg i bs 0 with
      |none=>rfl
      |some k'=>
       obtain⟨k'',rfl,a0v⟩:=Yt e;obtain⟨B2,r1,r2⟩:=qZ k'' i a0v;obtain rfl:B2=B:=eX.inj (r1.symm.trans hB);simp[aJ,r2]
     rw[e1];exact(m.bl i B hB).1
    have dj0:Disj (Yof P ρ st bs β l (rec .ready none) (ib.map (D P ρ)) X) K1:=fun b hb=>by
     rcases Ru hb with rfl|⟨i,hi,rfl⟩|hb
     ·exact hXl K1 K1in
     ·exact(hXb i hi).2
     ·exact a1w b hb
    have in0:((Yof P ρ st bs β l (rec .ready none) (ib.map (D P ρ)) X).or K1).In W1:=PH.or_In (HW (by rw[hl];exact hL1) (fun i hi=>sN.block (own0 i hi)) (Xin.ext sN)) (K1in.ext sN);refine(hit l (fun pre y=>∃vals X',vals.length=ib.length/\I pre vals X'/\Fit P ρ st bs β l vals X'/\y=Yof P ρ st bs β l (rec .ready none) vals X')
     (fun pre y=>∃vals X' e0 r0 c0,If body=e0::r0/\((e0= .ret/\c0=Code.ret)\/∃i,e0= .exit i/\c0=Code.exit i)/\vals.length=ib.length/\Ix pre vals X'/\Fit P ρ st bs β l vals X'/\y=Yof P ρ st bs β l (rec .done (some c0)) vals X')
     ?_ ?_ _ ⟨_,X,aD,hI0,fit0,rfl⟩ dj0 W1 in0).mono ?_
    ·rintro pre y ⟨vals,X',_,h1,h2,rfl⟩;exact(uV pre vals X' h1).trans (Rt h2)
    ·rintro pre xs y K' hE ⟨vals,X',h0,h1,h2,rfl⟩ yA;exact round pre xs vals X' K' hE h0 h1 h2 yA
    ·rintro e W2 ⟨v,H',rfl,rB,Y',K',pY,yA,a2c⟩;have back:∀(r:Loop) (vals':List Value) (X':PH),r.state≠ .busy->Y'=Yof P ρ st bs β l r vals' X'->vals'.length=ib.length->Fit P ρ st bs β l vals' X'->
       (Instr.endLoop l).run P W2= .ok r.pending (W2.putObj l (.loop {r with state:= .exhausted}))/\Disj X' K'/\
       Mt P ⟨c1,X'.or K',K.put W.heap.size (.deferred (some []))⟩ (ρ++vals') β (Bv st [] [] bs 0) {a with defers:=[Kz W.heap.size]++a.defers} (W2.putObj l (.loop {r with state:= .exhausted})):=by
      rintro r vals' X' hr rfl uL hf;have tG:=rB.less pY;have vU:=(PH.le_or _ K').In tG.holds;have a0s:=(PH.or_r yA).In tG.holds;have tO:=vU l _ Yw;have hKl:K' l=none:=yA l (by rw[Yw];simp);have hXK:Disj X' K':=fun b hb=>yA b (by
       cases e:X' b with
       |none=>exact absurd e hb
       |some o=>rw[Rt hf b o e];simp)
      have hKW:∀b o,K b=some o->b<W.heap.size:=fun b o hb=>y9 (m.kp b o hb);have hKn:∀b,K b≠none->((Yof P ρ st bs β l (rec .ready none) (ib.map (D P ρ)) X).or K1) b=none:=fun b hb=>by
       have h1:H b=none:=m.kpH b hb;rw[hHe]at h1;obtain⟨h2,h3⟩:=PH.or_none.1 h1;refine PH.or_none.2 ⟨?_,h3⟩;cases e:Yof P ρ st bs β l (rec .ready none) (ib.map (D P ρ)) X b with
       |none=>rfl
       |some o=>
        rcases Ru (by rw[e];simp:Yof P ρ st bs β l (rec .ready none) (ib.map (D P ρ)) X b≠none)with rfl|⟨i,hi,rfl⟩|h4
        ·cases e2:K b with
         |none=>exact absurd e2 hb
         |some o2=>have:=hKW _ _ e2;omega
        ·exact absurd (m.kpB i hi) hb
        ·exact absurd h2 h4
      have hDn:((Yof P ρ st bs β l (rec .ready none) (ib.map (D P ρ)) X).or K1) W.heap.size=none:=by
       refine PH.or_none.2 ⟨?_,?_⟩
       ·cases e:Yof P ρ st bs β l (rec .ready none) (ib.map (D P ρ)) X W.heap.size with
        |none=>rfl
        |some o=>
         rcases Ru (by rw[e];simp:Yof P ρ st bs β l (rec .ready none) (ib.map (D P ρ)) X W.heap.size≠none)with h4|⟨i,hi,h4⟩|h4
         ·omega
         ·have:=m.lt hi;omega
         ·cases e2:X W.heap.size with
          |none=>exact absurd e2 h4
          |some o2=>have:=y9 (Xin _ _ e2);omega
       ·cases e:K1 W.heap.size with
        |none=>rfl
        |some o=>have:=y9 (K1in _ _ e);omega
      have yY:∀b,b<W1.heap.size->((Yof P ρ st bs β l (rec .ready none) (ib.map (D P ρ)) X).or K1) b=none->(X'.or K') b=none:=fun b hb hn=>by
       cases e:(X'.or K') b with
       |none=>rfl
       |some o=>
        have h4:(Yof P ρ st bs β l r vals' X').or K' b≠none:=fun e2=>by
         obtain⟨e3,e4⟩:=PH.or_none.1 e2;have e5:X' b=none:=by
          cases e6:X' b with
          |none=>rfl
          |some o=>rw[Rt hf b o e6]at e3;cases e3
         rw[PH.or_none.2 ⟨e5,e4⟩]at e;cases e
        rcases tG.dom b h4 with h5|h5
        ·exact absurd hn h5
        ·omega
      have hKD:K W.heap.size=none:=by
       cases e:K W.heap.size with
       |none=>rfl
       |some o=>have:=hKW _ _ e;omega
      refine⟨run_endLoop tO hr,hXK,gu (lv:=[]) (dd:=[]) (bs:=bs) (δ:=0) qT m.n m.kn m.kb (by simp[uL,qU]) m.sz m.pb gI hbn (fun u s _ _ hs=>m.sl u s hs) (fun k' u rA=>by simp at rA) (fun i B hB=> ?_) ?_⟩
      ·have hi:=(aH.1 hB).1;have e1:(match Bg i bs 0 with|some k=>vals'.getD (([]:List Nat).length+k) undef|none=>D P ρ B.c)=Ig P ρ st bs vals' i:=by
        rw[Yx hB];cases Bg i bs 0 with
        |none=>rfl
        |some k=>simp only[bX,bJ]
       rw[e1,Eu (hβl i hi),<-gw hB];exact⟨vU _ _ (Rr m.inj hi (hβl i hi)),hf.sz i B hB⟩
      ·obtain⟨Ds,d1,d2,d3⟩:=m.df;have sU:=m.fr;refine⟨⟨W.heap.size::Ds,by simp[d1],fM.2 ⟨fun h=> ?_,d2⟩,fun D hD=> ?_⟩,m.inj,m.own,fun i hi=> ?_,⟨tG.os.trans (sN.os.trans sU.os),tG.tape.trans (sN.tape.trans sU.tape),tG.output.trans (sN.output.trans sU.output),?_,fun k' rA sC=> ?_,fun b o hb=> ?_,fun b hb=> ?_,cK sU.dr (cK sN.dr tG.dr)⟩,fun b o hb=> ?_,m.rd,m.ag,m.ln,fun b o hb=> ?_,fun b hb=> ?_,fun i hi=> ?_⟩
       ·have:=(d3 _ h).2;simp only at this;rw[hKD]at this;cases this
       ·rcases bG.1 hD with rfl|hD
        ·exact⟨sU.size,by show PH.put K _ _ _=_;unfold PH.put;rw[if_pos rfl]⟩
        ·refine⟨(d3 D hD).1,?_⟩;show PH.put K _ _ _=_;unfold PH.put;rw[if_neg (fun e=>by have:=(d3 D hD).2;simp only at this;rw[e,hKD]at this;cases this)];exact(d3 D hD).2
       ·exact PH.or_none.2 ⟨hf.xb i hi,yA _ (by rw[Rr m.inj hi (hβl i hi)];simp)⟩
       ·rw[World.putObj_size];exact cK sU.size (cK sN.size tG.size)
       ·have tL:k'<W.heap.size:=aU rA sU.size;rw[Eu aA,tG.block k' aA ?_,sN.block' tL,sU.block k' rA sC];refine PH.or_none.2 ⟨?_,?_⟩
        ·cases e:Yof P ρ st bs β l (rec .ready none) (ib.map (D P ρ)) X k' with
         |none=>rfl
         |some o=>
          rcases Ru (by rw[e];simp:Yof P ρ st bs β l (rec .ready none) (ib.map (D P ρ)) X k'≠none)with h4|⟨i,hi,h4⟩|h4
          ·omega
          ·subst h4;rcases m.own i hi with h5|h5
           ·exact absurd h5 (nK.2 rA)
           ·exact absurd sC h5
          ·have h6:H k'≠none:=by rw[hHe];exact Yv h4
           rcases sU.dom k' h6 with h5|h5
           ·exact absurd sC h5
           ·exact absurd h5 (nK.2 rA)
        ·cases e:K1 k' with
         |none=>rfl
         |some o=>
          have h6:H k'≠none:=by rw[hHe];intro e2;rw[(PH.or_none.1 e2).2]at e;cases e
          rcases sU.dom k' h6 with h5|h5
          ·exact absurd sC h5
          ·exact absurd h5 (nK.2 rA)
       ·change (X'.or K') b=some o at hb;have qJ:b≠l:=fun e=>by
         subst e;rw[PH.or_none.2 ⟨hf.xl,hKl⟩]at hb;cases hb
        rw[Eu qJ];exact PH.or_In ((Rt hf).In vU) a0s b o hb
       ·by_cases qB:b<W1.heap.size
        ·by_cases vT:((Yof P ρ st bs β l (rec .ready none) (ib.map (D P ρ)) X).or K1) b=none
         ·exact absurd (yY b qB vT) hb
         ·by_cases h7:H b=none
          ·rw[hHe]at h7;obtain⟨h8,h9⟩:=PH.or_none.1 h7;rcases Ru (fun e=>vT (PH.or_none.2 ⟨e,h9⟩))with rfl|⟨i,hi,rfl⟩|h4
           ·right;have:=sU.size;simp only at this⊢;omega
           ·exact absurd (PH.or_none.2 ⟨hf.xb i hi,yA _ (by rw[Rr m.inj hi (hβl i hi)];simp)⟩) hb
           ·exact absurd h8 h4
          ·exact sU.dom b h7
        ·right;have:=sU.size;simp only at this⊢;omega
       ·change (if b=W.heap.size then some (Obj.deferred (some []))else K b)=some o at hb;split at hb
        ·rename_i e;subst e;cases hb;rw[Eu aA,tG.block _ aA hDn];exact hD1
        ·have a0q:=m.kp b o hb;have:=hKW b o hb;rw[Eu aA,tG.block b aA (hKn b (by rw[hb];simp))];exact sN.block a0q
       ·show PH.put K _ _ b=some o;have h4:=m.kle b o hb;have:=hKW b o h4;unfold PH.put;rw[if_neg aA];exact h4
       ·change (if b=W.heap.size then some (Obj.deferred (some []))else K b)≠none at hb;split at hb
        ·rename_i e;subst e;exact yY _ aA hDn
        ·cases e2:K b with
         |none=>exact absurd e2 hb
         |some o=>have:=hKW b o e2;exact yY b aA (hKn b hb)
       ·show PH.put K _ _ (β i)=none;have:=m.lt hi;unfold PH.put;rw[if_neg aA];exact m.kpB i hi
     rcases a2c with⟨xs,hS,vals',X',h0,h1,h2,hY⟩|⟨pre,hS,vals',X',e0,r0,c0,ho,vV,h0,h1,h2,hY⟩
     ·obtain⟨q1,q2,q3⟩:=back _ vals' X' (by rw[tR];simp) hY h0 h2;have q1':(Instr.endLoop l).run P W2= .ok none (W2.putObj l (.loop {rec .ready none with state:= .exhausted})):=by rw[q1,tR]
      refine⟨none,_,q1',?_⟩;exact hQ .normal _ ta (ρ++vals') β _ _ (X'.or K') _ nx ea q3 (eT _ _) (eW _) (by simp[Bv,hd]) (a3t xs vals' X' K' hS q2 h0 h1)
     ·obtain⟨q1,q2,q3⟩:=back _ vals' X' (by rw[tR];simp) hY h0 h2;have q1':(Instr.endLoop l).run P W2= .ok (some c0) (W2.putObj l (.loop {rec .done (some c0)with state:= .exhausted})):=by rw[q1,tR]
      refine⟨some c0,_,q1',?_⟩;have xW:k e0 (Bv st [] [] bs 0)=some te:=by rw[ho]at ee;exact ee
      have:=hQ e0 _ te (ρ++vals') β _ _ (X'.or K') _ nx xW q3 (eT _ _) (eW _) (by simp[Bv,hd]) (a3u pre vals' X' K' hS q2 h0 h1);rcases vV with⟨rfl,rfl⟩|⟨i,rfl,rfl⟩
      ·exact wpIn_ret this
      ·exact wpIn_exit this
   ·cases h
  ·cases h
 ·simp only[cN]at h;subst h;exact qA.elim
def D5 {C:List Da} (hm:P.follows .mixedOrders=true):∀(c:Code) (Xp:Value->PH->Prop) (c1:Bs) (rm:Nat) (st:St) (k:Exit->St->Option Tree) (t:Tree) (ρ:List Value) (β:Nat->Nat) (a:Act) (W:World) (H K:PH) (nx:List (List Value->PH->Prop)) (Q:Exit->Act->World->Prop),
  ex P C c st k=some t->Mt P ⟨c1,H,K⟩ ρ β st a W->nx.length=st.d->den P G Xp t nx ρ H->PnQ P c1 Xp Q->
  (∀e st' t' ρ' β' a' W' H' K' nx',k e st'=some t'->Mt P ⟨c1,H',K'⟩ ρ' β' st' a' W'->ρ<+:ρ'->nx<+:nx'->nx'.length=st'.d->den P G Xp t' nx' ρ' H'->Q e a' W')->c.wpIn (Fr c1.ro) rm P Q a W:=by
 intro c;induction c with
 |skip=>intro Xp c1 rm st k t ρ β a W H K nx Q h m hd qA hX hQ;exact wpIn_skip (hQ _ _ _ _ _ _ _ _ _ _ h m (eW _) (eW _) hd qA)
 |exit id=>intro Xp c1 rm st k t ρ β a W H K nx Q h m hd qA hX hQ;exact wpIn_exit (hQ _ _ _ _ _ _ _ _ _ _ h m (eW _) (eW _) hd qA)
 |ret=>intro Xp c1 rm st k t ρ β a W H K nx Q h m hd qA hX hQ;exact wpIn_ret (hQ _ _ _ _ _ _ _ _ _ _ h m (eW _) (eW _) hd qA)
 |region id ops draw=>
  intro Xp c1 rm st k t ρ β a W H K nx Q h m hd qA hX hQ;have pZ:Rn P G Xp c1 rm (.region id ops draw) (exR P C id ops draw):=by
   intro st k t ρ β a W H K nx Q h m hd qA hX hQ;have xU:Rg st β st β:=⟨fun _ _=>rfl,aS _⟩;have hXT:∀x a' w',a'.defers=a.defers->XT P c1 K Xp a.defers x w'->Q (.panic [{v:=x,recovered:=false}]) a' w':=fun x a' w' h1 ⟨ρ',β',st',a1,H',hm,h2,hx⟩=>hX x ρ' β' st' a1 a' w' H' K hm (h1.trans h2.symm) hx;cases draw with
   |false=>
    simp only[exR]at h;refine YO (X:=XT P c1 K Xp a.defers) (kd:=fun _=>4) (ta:=fun i=>β (0*i)) hXT ?_;exact HN (ρ:=ρ) (dn:=st.d) (nx:=nx) (tg:=fun i=>0*i) (st0:=st) (β0:=β) (fun _ _ _ _=>rfl) (fun i h=>aA) (fun i h=>aA) (fun st2 t2 ρ2 β2 a2 W2 H2 h2 m2 rP qH qI=>hQ _ _ _ _ _ _ _ _ _ _ h2 m2 rP (eW _) (by rw[qH];exact hd) qI) _ st t ρ β a W H rfl h m (eW _) rfl xU qA
   |true=>
    have hx:=Ext.drawn W;have tags:∀(c:Da),tgB st.bl.length c=true->∀i,((c.ks.getD i 99=5\/c.ks.getD i 99=6)->c.ts.getD i 0<st.bl.length)/\(c.ks.getD i 99=8->c.ts.getD i 0=0\/st.bl.length<=c.ts.getD i 0):=fun c hTg i=>by
     rcases dU i c.ks.length with qB|vW
     ·have:=cH.1 hTg i (aW.2 qB);simp only[aQ,cO,kS,Bool.or_eq_false_iff,beq_eq_false_iff_ne,decide_eq_true_eq,beq_iff_eq]at this;obtain⟨h1,h2⟩:=this;refine⟨fun hi=> ?_,fun hi=> ?_⟩
      ·rcases h1 with⟨h1,h1'⟩|h1
       ·exact absurd hi aA
       ·exact h1
      ·rcases h2 with h2|h2
       ·exact absurd hi h2
       ·exact h2
     ·have e:c.ks.getD i 99=99:=by rw[aJ,aO vW];rfl
      rw[e];exact⟨fun h=>aA,fun h=>aA⟩
    have one:∀(c:Da) (t0:Tree),(∀i,(c.ks.getD i 99=5\/c.ks.getD i 99=6)->c.ts.getD i 0<st.bl.length)->(∀i,c.ks.getD i 99=8->c.ts.getD i 0=0\/st.bl.length<=c.ts.getD i 0)->(c.F.all fun i=>frK (c.ks.getD i 99))=true->
      Bf P true (ckC P c) ops id (fun st'=>Bf P false (ckC P c) ops id (k .normal) c.T st') c.F st=some t0->den P G Xp t0 nx ρ H->
      wpF P ops (fun i=>c.ks.getD i 99) (fun i=>β (c.ts.getD i 0)) W.heap.size (wpT P (XT P c1 K Xp a.defers) ops (fun i=>c.ks.getD i 99) (fun i=>β (c.ts.getD i 0)) (Q .normal) c.T) c.F [] a {W with drawn:=W.drawn+1}:=fun c t0 xG sU hF h qA=>by
     refine B6 (ρ:=ρ) (dn:=st.d) (nx:=nx) (kd:=fun i=>c.ks.getD i 99) (tg:=fun i=>c.ts.getD i 0) (st0:=st) (β0:=β) m.fr.size (fun k hk=>by
       cases e:K k with
       |none=>exact absurd e hk
       |some ob=>exact y9 (m.kp k ob e)) (fun _ _ _ h=>h) xG (fun st' t' ρ' β' a' W' H' a4a h' m' hp qS qY qP=> ?_) _ [] st t0 ρ β a _ H rfl (fun i hi=> ?_) h (m.ext hx) (eW _) rfl xU (fun i hi=> .inl (m.lt hi)) (fun b hb=> ?_) qA
     ·exact HN (ρ:=ρ) (dn:=st.d) (nx:=nx) (kd:=fun i=>c.ks.getD i 99) (tg:=fun i=>c.ts.getD i 0) (st0:=st) (β0:=β) (fun _ _ _ h=>h) xG sU (fun st2 t2 ρ2 β2 a2 W2 H2 h2 m2 rP qH qI=>hQ _ _ _ _ _ _ _ _ _ _ h2 m2 rP (eW _) (by rw[qH];exact hd) qI) _ st' t' ρ' β' a' W' H' a4a h' m' hp qS qY qP
     ·exact cH.1 hF i hi
     ·cases e:H b with
      |none=>exact absurd e hb
      |some ob=>exact .inl (y9 (m.fr.holds b ob e))
    have frs:∀{ops':Array Oper} {c:Da},Nq ops' (Cm ops'.toList []) (fun i=>c.ks.getD i 99) (fun i=>c.ts.getD i 0) c.F c.T=true->(c.F.all fun i=>frK (c.ks.getD i 99))=true:=fun hB=>by
     simp only[Nq,aQ]at hB;exact hB.1.1.1.2
    simp only[exR]at h;split at h
    ·split at h
     ·split at h
      ·rename_i hCB;simp only[Yl,aQ,beq_iff_eq,bne_iff_ne]at hCB;obtain⟨uG,⟨⟨hA1,hT1⟩,hB1⟩,⟨hA2,hT2⟩,hB2⟩:=hCB;rw[hA1]at hB1;rw[hA2]at hB2;have g1:=fun i=>(tags _ hT1 i).1;have g2:=fun i=>(tags _ hT2 i).1;split at h
       ·rename_i h1 h2;simp only[cN]at h;subst h;exact YM hm uG (GH hB1 (fun i j hi hj qJ e=>qJ (m.inj _ _ (g1 i hi) (g1 j hj) e)) hXT (one _ _ g1 (fun i=>(tags _ hT1 i).2) (frs hB1) h1 qA.1))
         (GH hB2 (fun i j hi hj qJ e=>qJ (m.inj _ _ (g2 i hi) (g2 j hj) e)) hXT (one _ _ g2 (fun i=>(tags _ hT2 i).2) (frs hB2) h2 qA.2))
       ·cases h
      ·simp only[cN]at h;subst h;exact qA.elim
     ·simp only[cN]at h;subst h;exact qA.elim
    ·split at h
     ·rename_i c hfc;split at h
      ·rename_i hCB;simp only[Yl,aQ,beq_iff_eq]at hCB;obtain⟨⟨hA,hTg⟩,hB⟩:=hCB;rw[hA]at hB;have xG:=fun i=>(tags c hTg i).1;exact FZ (kd:=fun i=>c.ks.getD i 99) (tg:=fun i=>c.ts.getD i 0) (ta:=fun i=>β (c.ts.getD i 0)) hm hB (fun i j hi hj qJ e=>qJ (m.inj _ _ (xG i hi) (xG j hj) e)) hXT (one c t xG (fun i=>(tags c hTg i).2) (frs hB) h qA)
      ·simp only[cN]at h;subst h;exact qA.elim
     ·simp only[cN]at h;subst h;exact qA.elim
  simp only[ex]at h;split at h
  ·exact uj pZ _ _ st k t ρ β a W H K nx Q h m hd qA hX hQ
  ·exact pZ st k t ρ β a W H K nx Q h m hd qA hX hQ
 |seq x y ihx ihy=>
  intro Xp c1 rm st k t ρ β a W H K nx Q h m hd qA hX hQ;simp only[ex]at h;refine wpIn_seq (ihx Xp c1 rm st _ t ρ β a W H K nx _ h m hd qA (hX.of fun _ _ _ h=>h) fun e st' t' ρ' β' a' W' H' K' nx' h' m' hp hn qS qP=> ?_);cases e with
  |normal=>exact ihy Xp c1 rm st' k t' ρ' β' a' W' H' K' nx' Q h' m' qS qP hX fun e2 st2 t2 ρ2 β2 a2 W2 H2 K2 nx2 h2 m2 rP vT qH qI=>hQ _ _ _ _ _ _ _ _ _ _ h2 m2 (hp.trans rP) (hn.trans vT) qH qI
  |exit id=>exact hQ _ _ _ _ _ _ _ _ _ _ h' m' hp hn qS qP
  |goto l=>exact hQ _ _ _ _ _ _ _ _ _ _ h' m' hp hn qS qP
  |ret=>exact hQ _ _ _ _ _ _ _ _ _ _ h' m' hp hn qS qP
  |panic ch=>exact hQ _ _ _ _ _ _ _ _ _ _ h' m' hp hn qS qP
  |outgrown=>exact hQ _ _ _ _ _ _ _ _ _ _ h' m' hp hn qS qP
 |cond c x y ihx ihy=>
  intro Xp c1 rm st k t ρ β a W H K nx Q h m hd qA hX hQ;have pZ:Rn P G Xp c1 rm (.cond c x y) fun st k=>match(st.val c).map (Nv st.kb)with
    |some (.k (.bool true))=>ex P C x st k
    |some (.k (.bool false))=>ex P C y st k
    |some s=>match amO st.am c with
     |some true=>Ge P [.isb true s] st fun st=>ex P C x (st.know P s true) k
     |some false=>Ge P [.isb false s] st fun st=>ex P C y (st.know P s false) k
     |none=>Ge P [.bool s] st fun st=>
      match ex P C x (st.know P s true) k,ex P C y (st.know P s false) k with
      |some t1,some t2=>some (.br s t1 t2)
      |_,_=>none
    |none=>none:=by
   intro st k t ρ β a W H K nx Q h m hd qA hX hQ;simp only at h;cases hv:st.val c with
   |none=>simp[hv]at h
   |some s=>
    simp only[hv,cR]at h;have he:=m.val hv;have hD:=tu (P:=P) (ρ:=ρ) m.kb s;split at h
    ·rename_i hl;simp only[cN]at hl;rw[hl]at hD;exact wpIn_cond_true (by rw[he,<-hD];rfl) (ihx Xp c1 rm st k t ρ β a W H K nx Q h m hd qA hX hQ)
    ·rename_i hl;simp only[cN]at hl;rw[hl]at hD;exact wpIn_cond_false (by rw[he,<-hD];rfl) (ihy Xp c1 rm st k t ρ β a W H K nx Q h m hd qA hX hQ)
    ·rename_i c' _ _ hl;simp only[cN]at hl;rw[hl]at hD;split at h
     ·obtain⟨st',t',h1,h2,h3,h4,h5⟩:=Uy h m.kn qA;have hb:D P ρ c'= .bool true:=h3 (.isb true c') aD;exact wpIn_cond_true (by rw[he,<-hD];exact hb) (ihx Xp c1 rm _ k t' ρ β a W H K nx Q h4 ((m.more h1 h2).know hb) (by simp only[St.know];rw[h1.d];exact hd) h5 hX hQ)
     ·obtain⟨st',t',h1,h2,h3,h4,h5⟩:=Uy h m.kn qA;have hb:D P ρ c'= .bool false:=h3 (.isb false c') aD;exact wpIn_cond_false (by rw[he,<-hD];exact hb) (ihy Xp c1 rm _ k t' ρ β a W H K nx Q h4 ((m.more h1 h2).know hb) (by simp only[St.know];rw[h1.d];exact hd) h5 hX hQ)
     obtain⟨st',t',h1,h2,h3,h4,h5⟩:=Uy h m.kn qA;obtain⟨b,hb⟩:∃b,D P ρ c'= .bool b:=h3 (.bool c') aD;have m':=m.more h1 h2;split at h4
     ·rename_i t1 t2 e1 e2;simp only[cN]at h4;subst h4;cases b with
      |true=>exact wpIn_cond_true (by rw[he,<-hD];exact hb) (ihx Xp c1 rm _ k t1 ρ β a W H K nx Q e1 (m'.know hb) (by simp only[St.know];rw[h1.d];exact hd) (h5.1 hb) hX hQ)
      |false=>exact wpIn_cond_false (by rw[he,<-hD];exact hb) (ihy Xp c1 rm _ k t2 ρ β a W H K nx Q e2 (m'.know hb) (by simp only[St.know];rw[h1.d];exact hd) (h5.2 hb) hX hQ)
     ·cases h4
    ·rename_i hl;cases hl
  simp only[ex]at h;split at h
  ·exact uj pZ _ _ st k t ρ β a W H K nx Q h m hd qA hX hQ
  ·exact pZ st k t ρ β a W H K nx Q h m hd qA hX hQ
 |block id x ih=>
  intro Xp c1 rm st k t ρ β a W H K nx Q h m hd qA hX hQ;have pZ:Rn P G Xp c1 rm (.block id x) fun st k=>ex P C x st fun e st=>match e with
    | .exit j=>if j=id then k .normal st else k (.exit j) st
    |e=>k e st:=by
   intro st k t ρ β a W H K nx Q h m hd qA hX hQ;simp only at h;refine wpIn_block (ih Xp c1 rm st _ t ρ β a W H K nx _ h m hd qA (hX.of fun _ _ _ h=>h) fun e st' t' ρ' β' a' W' H' K' nx' h' m' hp hn qS qP=> ?_);cases e with
   |exit j=>
    simp only[Exit.inBlock];simp only at h';split at h'
    ·rename_i e;rw[if_pos e];exact hQ _ _ _ _ _ _ _ _ _ _ h' m' hp hn qS qP
    ·rename_i e;rw[if_neg e];exact hQ _ _ _ _ _ _ _ _ _ _ h' m' hp hn qS qP
   |normal=>exact hQ _ _ _ _ _ _ _ _ _ _ h' m' hp hn qS qP
   |goto l=>exact hQ _ _ _ _ _ _ _ _ _ _ h' m' hp hn qS qP
   |ret=>exact hQ _ _ _ _ _ _ _ _ _ _ h' m' hp hn qS qP
   |panic ch=>exact hQ _ _ _ _ _ _ _ _ _ _ h' m' hp hn qS qP
   |outgrown=>exact hQ _ _ _ _ _ _ _ _ _ _ h' m' hp hn qS qP
  simp only[ex]at h;split at h
  ·exact uj pZ _ _ st k t ρ β a W H K nx Q h m hd qA hX hQ
  ·exact pZ st k t ρ β a W H K nx Q h m hd qA hX hQ
 |loop b ih=>
  intro Xp c1 rm st k t ρ β a W H K nx Q h m hd qA hX hQ;simp only[ex]at h;split at h
  ·rename_i iv ib hiv hib;split at h
   ·rename_i hc;rw[aQ]at hc;obtain⟨qT,rF⟩:=hc;have rF:=Yu rF;rw[eZ]at h;obtain⟨tb,h,rfl⟩:=h;obtain⟨I,μ,hI0,hI⟩:=qA;obtain⟨rL,tO⟩:=gq hiv;obtain⟨qU,qZ⟩:=Uz hib;have uA:(Rf st.sl (Dj b)).Nodup:=(B9 _).filter _;have a0r:∀u,u∈Dj b->u<st.sl.length->u∈Rf st.sl (Dj b)\/u∈sx st.sl (Dj b):=fun u hu qB=>by
     cases hlv:sw st.sl[u]with
     |true=>exact .inl (bZ.2 ⟨hu,by simp[qB,hlv]⟩)
     |false=>exact .inr (bZ.2 ⟨hu,by simp[qB,hlv]⟩)
    have gl:∀(l:List SV) (ρ':List Value) (j:Nat) (s:SV),l[j]? =some s->(l.map (D P ρ')).getD j undef=D P ρ' s:=fun l ρ' j s hj=>by
     simp[aJ,hj]
    refine C6 (fun n a' W'=>∃vals β' H' K',vals.length=(iv++ib).length/\I vals H'/\μ vals H'=n/\Mt P ⟨c1,H',K'⟩ (ρ++vals) β' (Bv st (Rf st.sl (Dj b)) (sx st.sl (Dj b)) (Rj st b) 1) a' W') (μ _ H) ⟨(iv++ib).map (D P ρ),β,H,K,aD,hI0,rfl,?_⟩ ?_
    ·refine gu qT m.n m.kn m.kb (by rw[aR,aL,rL,qU]) m.sz m.pb uA rF (fun u s _ _ hs=>m.sl u s hs) (fun k' u rA=> ?_) (fun i B hB=> ?_) m.bk
     ·obtain⟨s,hs,tL⟩:=tO k' u rA;obtain⟨v,hv,hmv⟩:=m.sl u _ hs;rw[hv];congr 1;rw[gl _ ρ k' s]
      ·exact hmv
      ·rw[aM (aH.1 tL).1];exact tL
     ·cases hp:Bg i (Rj st b) 0 with
      |some k'=>
       obtain⟨k'',rfl,rA⟩:=Yt hp;obtain⟨B2,hB2,hq⟩:=qZ k'' i rA;obtain rfl:B2=B:=eX.inj (hB2.symm.trans hB);have e:((iv++ib).map (D P ρ)).getD ((Rf st.sl (Dj b)).length+(0+k'')) undef=D P ρ B2.c:=gl _ _ _ _ (by
        rw[aN aA,rL,bJ,iH];exact hq)
       simp only[e];exact m.bl i B2 hB
      |none=>simp only;exact m.bl i B hB
    ·rintro n a1 W1 ⟨vals,β1,H2,K2,uL,hIv,hμ,m1⟩;refine ih Xp c1 rm _ _ tb (ρ++vals) β1 a1 W1 H2 K2 (nx++[fun l w=>I l w/\μ l w<μ vals H2]) _ h m1 (by simp[Bv,hd]) (hI vals H2 uL hIv) (hX.of fun _ _ _ h=>h) ?_;intro e st2 t2 ρ2 β2 a2 W2 H3 K3 nx2 h2 m2 rP vT qH qI;have hpρ:ρ<+:ρ2:=(eT _ _).trans rP;have uB:nx<+:nx2:=(eT _ _).trans vT;cases e with
     |normal=>
      simp only at h2;split at h2
      ·rename_i nv nb hnv rQ;split at h2
       ·rename_i tD;rw[aQ]at tD;simp only[cN]at h2;subst h2;have hh:=qI;have e1:nx2.getD st.d (fun _ _=>False)=fun l w=>I l w/\μ l w<μ vals H2:=by
         rw[ui vT (by simp[hd])];simp[aJ,<-hd]
        simp only[den]at hh;rw[e1]at hh;obtain⟨hIn,qB⟩:=hh;obtain⟨r,rfl⟩:=hpρ;refine⟨μ _ H3,by rw[<-hμ];exact qB,(nv++nb).map (D P (ρ++r)),β2,H3,K3,?_,hIn,rfl,?_⟩
        ·rw[aR,aL,aL,(gq hnv).1,(Uz rQ).1,rL,qU]
        ·exact HV qT m m2 uA rF a0r hnv rQ tD.1 tD.2
       ·simp only[cN]at h2;subst h2;exact qI.elim
      ·simp only[cN]at h2;subst h2;exact qI.elim
     |exit id=>exact hQ _ _ _ _ _ _ _ _ _ _ h2 m2 hpρ uB qH qI
     |goto l=>exact hQ _ _ _ _ _ _ _ _ _ _ h2 m2 hpρ uB qH qI
     |ret=>exact hQ _ _ _ _ _ _ _ _ _ _ h2 m2 hpρ uB qH qI
     |panic ch=>exact hQ _ _ _ _ _ _ _ _ _ _ h2 m2 hpρ uB qH qI
     |outgrown=>exact hQ _ _ _ _ _ _ _ _ _ _ h2 m2 hpρ uB qH qI
   ·cases h
  ·cases h
 |rangeFunc g ps asg body ihA ihB=>
  intro Xp c1 rm st k t ρ β a W H K nx Q h m hd qA hX hQ;exact D4 (ihA noP) (ihB noP) h m hd qA hQ
 |scope x ih=>
  intro Xp c1 rm st k t ρ β a W H K nx Q h m hd qA hX hQ;simp only[ex]at h;refine C8 (ih Xp c1 rm st _ t ρ β a W H K nx _ h m hd qA (hX.of fun _ _ _ h=>h) fun e st' t' ρ' β' a' W' H' K' nx' h' m' hp hn qS qP=> ?_);cases e with
  |goto l=>simp only[cN]at h';subst h';exact qP.elim
  |exit id=>exact hQ _ _ _ _ _ _ _ _ _ _ h' m' hp hn qS qP
  |normal=>exact hQ _ _ _ _ _ _ _ _ _ _ h' m' hp hn qS qP
  |ret=>exact hQ _ _ _ _ _ _ _ _ _ _ h' m' hp hn qS qP
  |panic ch=>exact hQ _ _ _ _ _ _ _ _ _ _ h' m' hp hn qS qP
  |outgrown=>exact hQ _ _ _ _ _ _ _ _ _ _ h' m' hp hn qS qP
 |label l=>intro Xp c1 rm st k t ρ β a W H K nx Q h m hd qA hX hQ;exact wpIn_label (hQ _ _ _ _ _ _ _ _ _ _ h m (eW _) (eW _) hd qA)
 |goto l=>intro Xp c1 rm st k t ρ β a W H K nx Q h m hd qA;simp only[ex,cN]at h;subst h;exact fun _ _=>qA.elim
 |refuse s=>intro Xp c1 rm st k t ρ β a W H K nx Q h m hd qA;simp only[ex,cN]at h;subst h;exact fun _ _=>qA.elim
def Ji (tmps:Array Value):ResultVar->Sem Value
 | .tmp t=>pure (tmps.getD t undef)
 | .cell a t=>do loadVar t (<-asAddr (tmps.getD a undef))
def um {T:TypeId} {t:Tmp} {v:Value} {W':World} (pZ:(execOp a.eval (ldO T t)).run P W'= .ok (.value v) W'):(Ji a.tmps (.cell t T)).run P W'= .ok v W':=by
 simp only[execOp,ldO,eK]at pZ;unfold Ji;show(asAddr (a.eval (.tmp t))>>=loadVar T).run P W'=_;unfold Instr.loadAt at pZ;generalize a.eval (.tmp t)=x at pZ;cases x with
 |pointer p=>
  cases p with
  |none=>simp[Instr.sureAddr]at pZ
  |some ad=>
   simp only[Instr.sureAddr,eK,eL,eJ]at pZ;simp only[asAddr,eK,eL,eJ];cases hl:(loadVar T ad).run P W' with
   |ok x w=>rw[hl]at pZ;simp at pZ;obtain⟨rfl,rfl⟩:=pZ;rfl
   |halt x w=>rw[hl]at pZ;simp[Result.andThen]at pZ
 |_=>simp[Instr.sureAddr]at pZ
def D6 {c1:Bs} {H K:PH} {nx:List (List Value->PH->Prop)}:∀{rs:List ResultVar} {st:St} {ρ:List Value} {l:List SV} {t:Tree},Mt P ⟨c1,H,K⟩ ρ β st a W->Kx P st rs l=some t->den P G Xp t nx ρ H->∃vs,(rs.mapM (Ji a.tmps)).run P W= .ok vs W/\G (Ab (l.map (D P ρ)++vs)) H:=by
 intro rs;induction rs with
 |nil=>
  intro st ρ l t m h hd;simp only[Kx,cN]at h;subst h;exact⟨[],rfl,by rw[cC];exact hd⟩
 |cons r rs ih=>
  intro st ρ l t m h hd;cases r with
  |tmp u=>
   simp only[Kx]at h;split at h
   ·rename_i s hs;obtain⟨vs,h1,h2⟩:=ih m h hd;obtain⟨v,hv,hm⟩:=m.sl u _ hs;have e:a.tmps.getD u undef=D P ρ s:=by
     rw[bD,hv];exact hm
    refine⟨D P ρ s::vs,?_,?_⟩
    ·simp only[kC,eK,Ji,eL,eJ,h1,e]
    ·rw[bM,bL]at h2;exact h2
   ·cases h
  |cell u T=>
   simp only[Kx]at h;split at h
   ·rename_i s hs;obtain⟨vs,h1,h2⟩:=ih m h hd;have yZ:=uf m (o:=ldO T u) (T:=T) (x:= .tmp u) rfl;rw[hs]at yZ;obtain⟨_,_,v,hv,pZ⟩:=yZ aD;have hv:v=D P ρ s:=hv;have e:=um (pZ W (.inr (.inl (Ext.refl _))));rw[hv]at e;refine⟨D P ρ s::vs,?_,?_⟩
    ·simp only[kC,eK,e,eJ,h1,eL]
    ·rw[bM,bL]at h2;exact h2
   ·rename_i x hs;split at h
    ·rename_i qT;simp only[aQ]at qT;rw[eZ]at h;obtain⟨t2,h2,rfl⟩:=h;obtain⟨v,hv,qH⟩:=hd;have yZ:=uf m (o:=ldO T u) (T:=T) (x:= .tmp u) rfl;rw[hs]at yZ;obtain⟨_,pZ⟩:=yZ aD;have hv:=hv W m.fr.holds;rw[<-pZ]at hv;have e:=um hv;obtain⟨vs,h3,h4⟩:=ih (m.bind qT.1.1 v none) h2 qH;refine⟨v::vs,?_,?_⟩
     ·simp only[kC,eK,e,eJ,h3,eL]
     ·have hl:l.map (D P (ρ++[v]))=l.map (D P ρ):=dK fun y hy=>Fg P ρ [v] y (by rw[m.n];exact cH.1 qT.2 y hy);rw[bM,bL,hl]at h4;have yB:D P (ρ++[v]) (.v st.n)=v:=by
       show(ρ++[v]).getD st.n undef=v;rw[<-m.n];simp
      rw[bI,bR,yB]at h4;exact h4
    ·cases h
   ·cases h
def ut {fn:Func} {tmps:Array Value} {l:List Value} {w:World} (h:(fn.results.toList.mapM (Ji tmps)).run P w= .ok l w):(results fn tmps).run P w= .ok (Ab l) w:=by
 unfold results;have e:(fn.results.mapM (Ji tmps)).run P w= .ok l.toArray w:=by
  rw[Array.mapM_eq_mapM_toList];have:(List.toArray<$>fn.results.toList.mapM (Ji tmps):Sem (Array Value))=(fn.results.toList.mapM (Ji tmps)>>=fun x=>pure x.toArray):=rfl;rw[this,eK,h];rfl
 show((fn.results.mapM (Ji tmps))>>=fun vs=>pure (if h:vs.size=1 then vs[0]else .tuple vs)).run P w=_;rw[eK,e];simp only[eJ,eL];congr 1
 match l with
 |[]=>rfl
 |[x]=>rfl
 |x::y::r=>simp[Ab]
def HZ (hm:P.follows .mixedOrders=true) {f:FuncId} {E:List Nat} {A:List (Nat×Bool)} {J:List Jn} {C:List Da} {t:Tree} (ht:d9 P E A J C f=some t) (args:List Value) {np:Nat} (wS:(P.funcs[f]?).map (fun fn=>fn.params.size+fn.nfree)=some np) (qW:args.length=np) {H:PH} (qA:den P G Xp t [] args H) (W:World) (qL:H.In W):
  Calls P f args.toArray W fun e w'=>(∃v H',e= .returned v/\Step H W H' w'/\G v H')\/(∃x H',e=pnE x/\Step H W H' w'/\Xp x H'):=by
 unfold d9 at ht;split at ht
 ·rename_i fn hf;split at ht
  ·rename_i c hc;rw[hf]at wS;simp only[cR,cN]at wS;rw[wS]at ht;refine(callsIn_wide (n:=0)).1 (callsIn_of_wp_marks hf hc trivial ?_);refine D5 (G:=G) hm c Xp ⟨W,H,none,0,fun _=>0,fun _=>none⟩ 0 _ _ t args (fun _=>0) _ W H (fun _=>none) [] _ ht ?_ rfl qA ?_ ?_
   ·refine{sz:=by simp[qW],sl:= ?_,pb:= ?_,df:=⟨[],rfl,gI,aD⟩,n:=qW,bl:=fun b B h=>by simp at h,inj:=fun b b' h=>by simp at h,own:=fun b h=>by simp at h,sep:=fun b h=>by simp at h,fr:=Step.refl qL,kp:=(fun b o h=>by cases h),rd:=fun _=>rfl,kle:=(fun _ _ h=>by cases h),ag:=(fun b h=>by simp at h),ln:=bK _,kpH:=fun k h=>absurd rfl h,kpB:=fun b h=>by simp at h,kn:=by simp,kb:=by simp}
    ·intro u s hs;simp only at hs;by_cases hu:u<np
     ·rw[aM (by simpa using hu)]at hs;simp[hu]at hs;subst hs;refine⟨args[u]'aA,?_,?_⟩
      ·rw[dW (by simpa[qW]using hu)];simp[qW,hu]
      ·show _=args.getD u undef;simp[aJ,qW,hu]
     ·rw[aN (by simpa using hu)]at hs;have tA:=(aH.1 hs).1;rw[dI]at hs;split at hs
      ·rename_i qB;simp only[cN]at hs;subst hs;refine⟨undef,?_,rfl⟩;rw[Array.getElem?_append_right (by simp[qW];omega),Array.getElem?_replicate,if_pos];simp[qW]at qB⊢;omega
      ·cases hs
    ·intro u b o s i hs;simp only at hs;have:=aK hs;simp at this
   ·intro x ρ' β' st' a' a'' W' H' K' m' rH hx;obtain⟨Ds,d1,d2,d3⟩:=m'.df;show LeavesInM _ _ _ _ _ _ a''.defers _ W';rw[rH];exact D0 aF (fun K'' a1 W1 m1=> .inr ⟨x,H',rfl,m1.fr,hx⟩) Ds _ a' W' a''.tmps m' d1 d2 d3
   ·intro e st' t' ρ' β' a' W' H' K' nx' h' m' hp hn qS qP;have fin:Kx P st' fn.results.toList []=some t'->LeavesInM Fence.wide 0 P fn a'.tmps (fun e w'=>(∃v H',e= .returned v/\Step H W H' w'/\G v H')\/(∃x H',e=pnE x/\Step H W H' w'/\Xp x H')) a'.defers .returning W':=fun h'=>by
     obtain⟨Ds,d1,d2,d3⟩:=m'.df;refine C9 aF (fun K'' a'' W'' m'' e''=> ?_) Ds _ a' W' m' rfl d1 d2 d3;obtain⟨vs,h1,h2⟩:=D6 m'' h' qP;exact⟨_,by rw[<-e''];exact ut h1,.inl ⟨_,_,rfl,m''.fr,h2⟩⟩
    cases e with
    |normal=>exact fin h'
    |ret=>exact fin h'
    |exit id=>cases h'
    |goto l=>cases h'
    |panic ch=>cases h'
    |outgrown=>cases h'
  ·cases ht
 ·cases ht
def IA (hm:P.follows .mixedOrders=true) {f:FuncId} {E:List Nat} {A:List (Nat×Bool)} {J:List Jn} {C:List Da} {t:Tree} (ht:d9 P E A J C f=some t) (args:List Value) {np:Nat} (wS:(P.funcs[f]?).map (fun fn=>fn.params.size+fn.nfree)=some np) (qW:args.length=np) {H:PH} (qA:den P G noP t [] args H) (W:World) (qL:H.In W):
  Calls P f args.toArray W fun e w'=>∃v H',e= .returned v/\Step H W H' w'/\G v H':=
 (HZ hm ht args wS qW qA W qL).mono fun _ _ h=>h.resolve_right fun⟨_,_,_,_,hx⟩=>hx
end
open Go.RowKit
def Jj (id:Nat):Code->Option (Array Oper)
 | .region j ops _=>if j=id then some ops else none
 | .seq a b=>(Jj id a).orElse fun _=>Jj id b
 | .cond _ a b=>(Jj id a).orElse fun _=>Jj id b
 | .block _ a=>Jj id a
 | .loop a=>Jj id a
 | .scope a=>Jj id a
 | .rangeFunc _ _ a c=>(Jj id a).orElse fun _=>Jj id c
 |_=>none
def opr (fn:Func) (id i:Nat):Oper:=(((fn.body.bind (Jj id)).bind (·[i]?))).getD default
def Det (P:Program) (f:FuncId) (args:List Value) (v:Value):Prop:=∀w,Calls P f args.toArray w fun e w'=>e= .returned v/\Ext w w'
def Yld (P:Program) (o:Oper) (args:List Value) (v:Value):Prop:=∀w,(execOp (e8 o.op.operands.toList args) o).run P w= .ok (.value v) w
def Own (P:Program) (f:FuncId) (args:List Value) (v:Value):Prop:=∀w,(callFunc f args.toArray).run P w= .ok (.value v) w
def Run (P:Program) (o:Oper) (args:List Value) (v:Value):Prop:=∀w,Stp P o (e8 o.op.operands.toList args) w fun v' w'=>v'=v/\Ext w w'
def Con (P:Program) (f:FuncId) (args:List Value) (H:PH) (V:Value->PH->Prop):Prop:=
 ∀w,H.In w->Calls P f args.toArray w fun e w'=>∃v H',e= .returned v/\Step H w H' w'/\V v H'
def Opn (P:Program) (o:Oper) (args:List Value) (H:PH) (V:Value->PH->Prop):Prop:=
 ∀w,H.In w->Stp P o (e8 o.op.operands.toList args) w fun v w'=>∃H',Step H w H' w'/\V v H'
def Rds (P:Program) (o:Oper) (args:List Value) (H:PH) (v:Value):Prop:=∀w,H.In w->(execOp (e8 o.op.operands.toList args) o).run P w= .ok (.value v) w
def Step.of_ext {H:PH} {w w':World} (h:H.In w) (hx:Ext w w'):Step H w H w':=(Step.refl h).ext hx
def Det.con {P:Program} {f:FuncId} {args:List Value} {v:Value} (h:Det P f args v) (H:PH):Con P f args H fun u H'=>u=v/\H'=H:=
 fun w hw=>(h w).mono fun e w' ⟨he,hx⟩=>⟨v,H,he,Step.of_ext hw hx,rfl,rfl⟩
def Con.mono {P:Program} {f:FuncId} {args:List Value} {H:PH} {V V':Value->PH->Prop} (h:Con P f args H V) (hv:∀v H',V v H'->V' v H'):Con P f args H V':=
 fun w hw=>(h w hw).mono fun e w' ⟨v,H',he,hs,hV⟩=>⟨v,H',he,hs,hv v H' hV⟩
def Opn.mono {P:Program} {o:Oper} {args:List Value} {H:PH} {V V':Value->PH->Prop} (h:Opn P o args H V) (hv:∀v H',V v H'->V' v H'):Opn P o args H V':=
 fun w hw=>(h w hw).mono fun v w' ⟨H',hs,hV⟩=>⟨H',hs,hv v H' hV⟩
def Yld.rds {P:Program} {o:Oper} {args:List Value} {v:Value} (h:Yld P o args v) (H:PH):Rds P o args H v:=fun w _=>h w
def Gg (P:Program) (f:FuncId) (args:List Value) (H:PH) (V X:Value->PH->Prop):Prop:=
 ∀w,H.In w->Calls P f args.toArray w fun e w'=>(∃v H',e= .returned v/\Step H w H' w'/\V v H')\/(∃x H',e=pnE x/\Step H w H' w'/\X x H')
def IB (P:Program) (o:Oper) (args:List Value) (H:PH) (V X:Value->PH->Prop):Prop:=
 ∀w,H.In w->StpX P (fun x w'=>∃H',Step H w H' w'/\X x H') o (e8 o.op.operands.toList args) w fun v w'=>∃H',Step H w H' w'/\V v H'
def Con.toX {P:Program} {f:FuncId} {args:List Value} {H:PH} {V X:Value->PH->Prop} (h:Con P f args H V):Gg P f args H V X:=fun w hw=>(h w hw).mono fun _ _ hh=> .inl hh
def s7 {P:Program} {f:FuncId} {E:List Nat} {A:List (Nat×Bool)} {J:List Jn} {C:List Da} {t:Tree} {args:List Value} {np:Nat} {H:PH} {V:Value->PH->Prop} (hm:P.follows .mixedOrders=true) (ht:d9 P E A J C f=some t) (wS:(P.funcs[f]?).map (fun fn=>fn.params.size+fn.nfree)=some np) (qW:args.length=np)
  (h:den P V noP t [] args H):Con P f args H V:=fun w hw=>IA hm ht args wS qW h w hw
def g5 {P:Program} {f:FuncId} {E:List Nat} {A:List (Nat×Bool)} {J:List Jn} {C:List Da} {t:Tree} {args:List Value} {np:Nat} {H:PH} {V:Value->PH->Prop} (hm:P.follows .mixedOrders=true) (ht:d9 P E A J C f=some t) (h:den P V noP t [] args H) (qW:args.length=np:=by exact rfl) (wS:(P.funcs[f]?).map (fun fn=>fn.params.size+fn.nfree)=some np:=by kernel_rfl):Con P f args H V:=s7 hm ht wS qW h
def Lc {P:Program} {f:FuncId} {E:List Nat} {A:List (Nat×Bool)} {J:List Jn} {C:List Da} {t:Tree} {args:List Value} {np:Nat} {H:PH} {V X:Value->PH->Prop} (hm:P.follows .mixedOrders=true) (ht:d9 P E A J C f=some t) (wS:(P.funcs[f]?).map (fun fn=>fn.params.size+fn.nfree)=some np) (qW:args.length=np)
  (h:den P V X t [] args H):Gg P f args H V X:=fun w hw=>HZ hm ht args wS qW h w hw
def pd (P:Program) (R:Value->Prop):Tree->List (List Value->Prop)->List Value->Prop
 | .ret l,_,ρ=>R (Ab (l.map (D P ρ)))
 | .rq r t,nx,ρ=>r.holds P ρ/\pd P R t nx ρ
 | .br c t e,nx,ρ=>(D P ρ c= .bool true->pd P R t nx ρ)/\(D P ρ c= .bool false->pd P R e nx ρ)
 | .call _ f args t,nx,ρ=>∃v,Det P f (args.map (D P ρ)) v/\pd P R t nx (ρ++[v])
 | .prim _ _ o args t,nx,ρ=>∃v,Yld P o (args.map (D P ρ)) v/\pd P R t nx (ρ++[v])
 | .eff _ _ _ o args t,nx,ρ=>∃v,Run P o (args.map (D P ρ)) v/\pd P R t nx (ρ++[v])
 | .ext f args t,nx,ρ=>∃v,Own P f (args.map (D P ρ)) v/\pd P R t nx (ρ++[v])
 | .pub _ _ _,_,_=>False
 | .dead _,_,_=>False
 | .both _ _,_,_=>False
 | .rf _ _ _ _ _ _,_,_=>False
 | .mk _ _ _ _ _,_,_=>False
 | .loop ini t,nx,ρ=>∃(I:List Value->Prop) (μ:List Value->Nat),I (ini.map (D P ρ))/\∀vals,vals.length=ini.length->I vals->pd P R t (nx++[fun l=>I l/\μ l<μ vals]) (ρ++vals)
 | .next d l,nx,ρ=>(nx.getD d fun _=>False) (l.map (D P ρ))
 | .join n t u,nx,ρ=>∃J:List Value->Prop,pd P R t (nx++[J]) ρ/\∀vals,vals.length=n->J vals->pd P R u nx (ρ++vals)
def D7 {P:Program} {R:Value->Prop} {H:PH}:∀(t:Tree) (nx:List (List Value->Prop)) (ρ:List Value),pd P R t nx ρ->den P (fun v h=>R v/\h=H) noP t (nx.map fun g l h=>g l/\h=H) ρ H:=by
 intro t;induction t with
 |ret l=>intro nx ρ h;exact⟨h,rfl⟩
 |rq r t ih=>intro nx ρ h;exact⟨h.1,ih _ _ h.2⟩
 |br c t e ih1 ih2=>intro nx ρ h;exact⟨fun hc=>ih1 _ _ (h.1 hc),fun hc=>ih2 _ _ (h.2 hc)⟩
 |call pf f args t ih=>
  intro nx ρ h w hw;obtain⟨v,hd,hn⟩:=h;exact(hd w).mono fun e w' ⟨he,hx⟩=> .inl ⟨v,H,he,Step.of_ext hw hx,fun _=>Pl.refl H,ih _ _ hn⟩
 |prim id i o args t ih=>
  intro nx ρ h;obtain⟨v,hd,hn⟩:=h;exact⟨v,fun w _=>hd w,ih _ _ hn⟩
 |eff pf id i o args t ih=>
  intro nx ρ h w hw;obtain⟨v,hd,hn⟩:=h;exact Stp.toX ((hd w).mono fun u w' ⟨he,hx⟩=>⟨H,Step.of_ext hw hx,fun _=>Pl.refl H,by rw[he];exact ih _ _ hn⟩)
 |ext f args t ih=>
  intro nx ρ h;obtain⟨v,hd,hn⟩:=h;exact⟨v,fun w _=>hd w,ih _ _ hn⟩
 |pub T c t ih=>intro nx ρ h;exact h.elim
 |dead n=>intro nx ρ h;exact h.elim
 |both t u=>intro nx ρ h;exact h.elim
 |rf g np ini tb ta te=>intro nx ρ h;exact h.elim
 |mk id i o args t ih=>intro nx ρ h;exact h.elim
 |loop ini t ih=>
  intro nx ρ h;obtain⟨I,μ,h0,h1⟩:=h;refine⟨fun l h=>I l/\h=H,fun l _=>μ l,⟨h0,rfl⟩,?_⟩;rintro vals H' hl ⟨hI,rfl⟩;have:=ih _ _ (h1 vals hl hI);have e:(fun(l:List Value) (h:PH)=>(I l/\h=H')/\μ l<μ vals)=fun l h=>(I l/\μ l<μ vals)/\h=H':=by
   funext l h;exact propext ⟨fun⟨⟨a,b⟩,c⟩=>⟨⟨a,c⟩,b⟩,fun⟨⟨a,c⟩,b⟩=>⟨⟨a,b⟩,c⟩⟩
  rw[e];simpa only[bM,bI,bR]using this
 |next d l=>
  intro nx ρ h;simp only[pd]at h;simp only[den];rw[aJ,aX];rw[aJ]at h;cases hn:nx[d]? with
  |none=>simp[hn]at h
  |some g=>simp only[hn,Option.getD_some]at h;simpa using h
 |join n t u ih1 ih2=>
  intro nx ρ h;obtain⟨J,h1,h2⟩:=h;refine⟨fun l h=>J l/\h=H,?_,?_⟩
  ·simpa only[bM,bI,bR]using ih1 _ _ h1
  ·rintro vals H' hl ⟨hJ,rfl⟩;exact ih2 _ _ (h2 vals hl hJ)
def Dk {P:Program} {f:FuncId} {E:List Nat} {A:List (Nat×Bool)} {J:List Jn} {C:List Da} {t:Tree} {args:List Value} {v:Value} {np:Nat} (hm:P.follows .mixedOrders=true) (ht:d9 P E A J C f=some t) (wS:(P.funcs[f]?).map (fun fn=>fn.params.size+fn.nfree)=some np) (qW:args.length=np)
  (h:pd P (fun u=>u=v) t [] args):Det P f args v:=fun w=>by
 have:=IA (H:=fun _=>none) hm ht args wS qW (D7 t [] args h) w (fun b o hb=>by cases hb);refine this.mono fun e w' ⟨u,H',he,hs,hu,hH⟩=>⟨by rw[he,hu],?_⟩;exact hs.toExt (fun b o hb=>by cases hb) (fun b o hb=>by cases hb)
section
variable {P:Program} {R:Value->Prop} {nx:List (List Value->Prop)} {ρ:List Value}
def i6 {r:Rq} {t:Tree} (h:r.holds P ρ) (n:pd P R t nx ρ):pd P R (.rq r t) nx ρ:=⟨h,n⟩
def Dl {pf:Bool} {f:FuncId} {args:List SV} {t:Tree} {vs:List Value} {v:Value} (hd:Det P f vs v) (ha:args.map (D P ρ)=vs) (n:pd P R t nx (ρ++[v])):pd P R (.call pf f args t) nx ρ:=⟨v,by rw[ha];exact hd,n⟩
def IC {id i:Nat} {o:Oper} {args:List SV} {t:Tree} {vs:List Value} {v:Value} (hd:Yld P o vs v) (ha:args.map (D P ρ)=vs) (n:pd P R t nx (ρ++[v])):pd P R (.prim id i o args t) nx ρ:=⟨v,by rw[ha];exact hd,n⟩
def ID {f:FuncId} {args:List SV} {t:Tree} {vs:List Value} {v:Value} (hd:Own P f vs v) (ha:args.map (D P ρ)=vs) (n:pd P R t nx (ρ++[v])):pd P R (.ext f args t) nx ρ:=⟨v,by rw[ha];exact hd,n⟩
def Ap {c:SV} {t e:Tree} {b:Bool} (hc:D P ρ c= .bool b) (h1:b=true->pd P R t nx ρ) (h2:b=false->pd P R e nx ρ):pd P R (.br c t e) nx ρ:=
 ⟨fun h=>h1 (by rw[hc]at h;cases h;rfl),fun h=>h2 (by rw[hc]at h;cases h;rfl)⟩
def D8 {c:SV} {t e:Tree} (hc:D P ρ c= .bool true) (h1:pd P R t nx ρ):pd P R (.br c t e) nx ρ:=Ap hc (fun _=>h1) (fun h=>by cases h)
def uu {c:SV} {t e:Tree} (hc:D P ρ c= .bool false) (h1:pd P R e nx ρ):pd P R (.br c t e) nx ρ:=Ap hc (fun h=>by cases h) (fun _=>h1)
def Ah {l:List SV} {v:Value} (h:Ab (l.map (D P ρ))=v) (hR:R v):pd P R (.ret l) nx ρ:=by rw[<-h]at hR;exact hR
end
section
variable {P:Program} {G X:Value->PH->Prop} {nx:List (List Value->PH->Prop)} {ρ:List Value} {H:PH}
def b4 {r:Rq} {t:Tree} (h:r.holds P ρ) (n:den P G X t nx ρ H):den P G X (.rq r t) nx ρ H:=⟨h,n⟩
def f0 {pf:Bool} {f:FuncId} {args:List SV} {t:Tree} {vs:List Value} {V:Value->PH->Prop} (hd:Con P f vs H V) (ha:args.map (D P ρ)=vs) (n:∀v H',V v H'->(pf=true->Pl H H')/\den P G X t nx (ρ++[v]) H'):den P G X (.call pf f args t) nx ρ H:=fun w hw=>by
 rw[ha];exact(hd w hw).mono fun e w' ⟨v,H',he,hs,hV⟩=> .inl ⟨v,H',he,hs,(n v H' hV).1,(n v H' hV).2⟩
def Og {f:FuncId} {args:List SV} {t:Tree} {vs:List Value} {V X':Value->PH->Prop} (hd:Gg P f vs H V X') (ha:args.map (D P ρ)=vs) (n:∀v H',V v H'->den P G X t nx (ρ++[v]) H') (m:∀x H',X' x H'->X x H'):den P G X (.call false f args t) nx ρ H:=fun w hw=>by
 rw[ha];exact(hd w hw).mono fun e w' hh=>hh.imp (fun⟨v,H',he,hs,hV⟩=>⟨v,H',he,hs,(fun e=>by cases e),n v H' hV⟩) fun⟨x,H',he,hs,hX⟩=>⟨x,he,rfl,H',hs,m x H' hX⟩
def Db {pf:Bool} {f:FuncId} {args:List SV} {t:Tree} {vs:List Value} {v:Value} (hd:Det P f vs v) (ha:args.map (D P ρ)=vs) (n:den P G X t nx (ρ++[v]) H):den P G X (.call pf f args t) nx ρ H:=
 f0 (hd.con H) ha fun u H' ⟨hu,hH⟩=>by subst hu;subst hH;exact⟨fun _=>Pl.refl _,n⟩
def j1 {pf:Bool} {id i:Nat} {o:Oper} {args:List SV} {t:Tree} {vs:List Value} {V:Value->PH->Prop} (hd:Opn P o vs H V) (ha:args.map (D P ρ)=vs) (n:∀v H',V v H'->(pf=true->Pl H H')/\den P G X t nx (ρ++[v]) H'):den P G X (.eff pf id i o args t) nx ρ H:=fun w hw=>by
 rw[ha];exact Stp.toX ((hd w hw).mono fun v w' ⟨H',hs,hV⟩=>⟨H',hs,(n v H' hV).1,(n v H' hV).2⟩)
def D9 {id i:Nat} {o:Oper} {args:List SV} {t:Tree} {vs:List Value} {V X':Value->PH->Prop} (hd:IB P o vs H V X') (ha:args.map (D P ρ)=vs) (n:∀v H',V v H'->den P G X t nx (ρ++[v]) H') (m:∀x H',X' x H'->X x H'):den P G X (.eff false id i o args t) nx ρ H:=fun w hw=>by
 rw[ha];exact(hd w hw).mono2 (fun v w' ⟨H',hs,hV⟩=>⟨H',hs,(fun e=>by cases e),n v H' hV⟩) fun x w' ⟨H',hs,hX⟩=>⟨rfl,H',hs,m x H' hX⟩
def j8 {id i:Nat} {o:Oper} {args:List SV} {t:Tree} {vs:List Value} {v:Value} (hd:Rds P o vs H v) (ha:args.map (D P ρ)=vs) (n:den P G X t nx (ρ++[v]) H):den P G X (.prim id i o args t) nx ρ H:=⟨v,by rw[ha];exact hd,n⟩
def gx {f:FuncId} {args:List SV} {t:Tree} {vs:List Value} {v:Value} (hd:Own P f vs v) (ha:args.map (D P ρ)=vs) (n:den P G X t nx (ρ++[v]) H):den P G X (.ext f args t) nx ρ H:=⟨v,by rw[ha];exact fun w _=>hd w,n⟩
def g6 {c:SV} {t e:Tree} {b:Bool} (hc:D P ρ c= .bool b) (h1:b=true->den P G X t nx ρ H) (h2:b=false->den P G X e nx ρ H):den P G X (.br c t e) nx ρ H:=
 ⟨fun h=>h1 (by rw[hc]at h;cases h;rfl),fun h=>h2 (by rw[hc]at h;cases h;rfl)⟩
def Aq {c:SV} {t e:Tree} (hc:D P ρ c= .bool true) (h1:den P G X t nx ρ H):den P G X (.br c t e) nx ρ H:=g6 hc (fun _=>h1) (fun h=>by cases h)
def i7 {c:SV} {t e:Tree} (hc:D P ρ c= .bool false) (h1:den P G X e nx ρ H):den P G X (.br c t e) nx ρ H:=g6 hc (fun h=>by cases h) (fun _=>h1)
def d4 {l:List SV} {v:Value} (h:Ab (l.map (D P ρ))=v) (hR:G v H):den P G X (.ret l) nx ρ H:=by rw[<-h]at hR;exact hR
def b9 {r:Rq} {t:Tree} (n:den P G X t nx ρ H) (h:r.holds P ρ:=by exact⟨_,rfl⟩):den P G X (.rq r t) nx ρ H:=⟨h,n⟩
def g7 {r:Rq} {t:Tree} (n:den P G X t nx ρ H) (h:r.holds P ρ:=by exact⟨_,rfl,aD⟩):den P G X (.rq r t) nx ρ H:=⟨h,n⟩
def y5 {c:SV} {t e:Tree} {p:Prop} [Decidable p] (hc:D P ρ c= .bool (decide p)) (h1:p->den P G X t nx ρ H) (h2:¬p->den P G X e nx ρ H):den P G X (.br c t e) nx ρ H:=g6 hc (fun h=>h1 (oDt h)) fun h=>h2 (oDf h)
end
def Gh (cs:Array Value):(Value.agg cs).cells=cs:=rfl
def IE (k:IntKind) (n:Int):(Value.int k n).cells= #[.int k n]:=rfl
def uw (b:Bool):(Value.bool b).cells= #[.bool b]:=rfl
@[reducible] def Tree.cq (n:Nat) (x:SV) (t:Tree):Tree:= .rq (.cells n x) t
@[reducible] def Tree.tq (i:Nat) (x:SV) (t:Tree):Tree:= .rq (.tup i x) t
@[reducible] def Tree.rb (x:SV) (t:Tree):Tree:= .rq (.bool x) t
@[reducible] def Tree.cf (f:FuncId) (l:List SV) (t:Tree):Tree:= .call false f l t
@[reducible] def Tree.ct (f:FuncId) (l:List SV) (t:Tree):Tree:= .call true f l t
@[reducible] def SV.cn (x:SV) (i:Nat):SV:= .cell x i 0 noI
@[reducible] def SV.sn (x:SV) (a n:Nat):SV:= .sub x a n 0 noI
@[reducible] def SV.pn (x:SV) (a n:Nat) (y:SV):SV:= .put x a n y 0 noI
@[reducible] def kF:SV:= .k (.bool false)
@[reducible] def kT:SV:= .k (.bool true)
@[reducible] def Tree.pm (f:Func) (i j:Nat) (l:List SV) (t:Tree):Tree:= .prim i j (opr f i j) l t
@[reducible] def Tree.ef (b:Bool) (f:Func) (i j:Nat) (l:List SV) (t:Tree):Tree:= .eff b i j (opr f i j) l t
@[reducible] def Tree.mq (f:Func) (i j:Nat) (l:List SV) (t:Tree):Tree:= .mk i j (opr f i j) l t
@[reducible] def SV.ki (n:Int):SV:= .k (.int .i64 n)
@[reducible] def Tree.ri (x:SV) (t:Tree):Tree:= .rq (.int .i64 x) t
@[reducible] def Tree.ru (x:SV) (t:Tree):Tree:= .rq (.int .u64 x) t
@[reducible] def SV.io (o:BinOp) (x y:SV):SV:= .op2 o .i64 x y
@[reducible] def SV.uo (o:BinOp) (x y:SV):SV:= .op2 o .u64 x y
@[reducible] def npf (P:Program) (f:FuncId):Option Nat:=(P.funcs[f]?).map (fun fn=>fn.params.size+fn.nfree)
@[reducible] def V0:SV:= .v 0
@[reducible] def kU (n:Int):SV:= .k (.int .u64 n)
@[reducible] def kI (n:Int):SV:= .k (.int .i64 n)
@[reducible] def kB (n:Int):SV:= .k (.int .u8 n)
@[reducible] def V1:SV:= .v 1
@[reducible] def V2:SV:= .v 2
@[reducible] def V3:SV:= .v 3
@[reducible] def V4:SV:= .v 4
@[reducible] def V5:SV:= .v 5
@[reducible] def V6:SV:= .v 6
@[reducible] def V7:SV:= .v 7
@[reducible] def V8:SV:= .v 8
@[reducible] def V9:SV:= .v 9
@[reducible] def V10:SV:= .v 10
@[reducible] def V11:SV:= .v 11
@[reducible] def V12:SV:= .v 12
@[reducible] def V13:SV:= .v 13
@[reducible] def V14:SV:= .v 14
@[reducible] def V15:SV:= .v 15
@[reducible] def V16:SV:= .v 16
@[reducible] def V17:SV:= .v 17
@[reducible] def V18:SV:= .v 18
@[reducible] def V19:SV:= .v 19
@[reducible] def V20:SV:= .v 20
@[reducible] def V21:SV:= .v 21
@[reducible] def V22:SV:= .v 22
@[reducible] def V23:SV:= .v 23
@[reducible] def V24:SV:= .v 24
@[reducible] def V25:SV:= .v 25
@[reducible] def V26:SV:= .v 26
@[reducible] def V27:SV:= .v 27
@[reducible] def V28:SV:= .v 28
@[reducible] def V29:SV:= .v 29
@[reducible] def V30:SV:= .v 30
@[reducible] def V31:SV:= .v 31
@[reducible] def V32:SV:= .v 32
@[reducible] def V33:SV:= .v 33
@[reducible] def V34:SV:= .v 34
@[reducible] def V35:SV:= .v 35
@[reducible] def V36:SV:= .v 36
@[reducible] def V37:SV:= .v 37
@[reducible] def V38:SV:= .v 38
@[reducible] def V39:SV:= .v 39
@[reducible] def V40:SV:= .v 40
@[reducible] def V41:SV:= .v 41
@[reducible] def V42:SV:= .v 42
@[reducible] def V43:SV:= .v 43
def cA {α:Type} {a:α} {l m:List α}:a::l++m=a::(l++m):=rfl
def nA {α:Type} {l:List α}:[]++l=l:=rfl
end Go.RX

/- Lemmas of the proof. -/
import Derived.Test.YtlmbepjdokomkaaGreatDoorRxG
import Derived.Deep.LoopGhost
import Derived.AtR
open Bool renaming not_eq_true'->kA
open Go.Result renaming andThen_ok->eL
open Go.Sem renaming run_bind->eM,run_pure->eO
open List renaming contains_iff_mem->jI,find?_some->mV,foldl_cons->gC,getElem?_cons_succ->fV,mapM_cons->jQ,mem_of_find?_eq_some->kS,nodup_nil->fQ,prefix_append->eW,prefix_refl->fC,range->eT
open Nat renaming add_assoc->jL,add_sub_cancel_left->gZ,not_le->mH
open Option renaming map_eq_some_iff->fJ,some->fG
set_option linter.all false
namespace Go.RX
open RowKit
def cu:∀(lv:List Nat) (n:Nat) (sl:List SL),(Js lv n sl).length=sl.length:=by
 intro lv;induction lv with
 |nil=>intro n sl;rfl
 |cons t ts ih=>intro n sl;simp only[Js,ih,cD]
def EQ:∀(lv:List Nat) (n:Nat) (sl:List SL) (u:Nat),u∉lv->(Js lv n sl)[u]? =sl[u]?:=by
 intro lv;induction lv with
 |nil=>intro n sl u _;rfl
 |cons t ts ih=>
  intro n sl u hu;simp only[aX,not_or]at hu;simp only[Js,ih _ _ _ hu.2,bZ];rw[if_neg (fun e=>hu.1 e.symm)]
def YL:∀(lv:List Nat) (n:Nat) (sl:List SL) (k u:Nat),lv.Nodup->lv[k]? =some u->u<sl.length->(Js lv n sl)[u]? =some (.x (.v (n+k))):=by
 intro lv;induction lv with
 |nil=>intro n sl k u _ h;simp at h
 |cons t ts ih=>
  intro n sl k u uE h oV;rw[eD]at uE;cases k with
  |zero=>
   simp at h;subst h;simp only[Js,EQ _ _ _ _ uE.1,bZ,oV,if_true,cP]
  |succ k=>
   simp at h;simp only[Js];rw[ih (n+1) _ k u uE.2 h (by simpa using oV)];congr 3;omega
def ER (s:SL):∀(ts:List Nat) (sl:List SL),(Nb sl ts s).length=sl.length:=by
 intro ts;induction ts with
 |nil=>intro sl;rfl
 |cons t ts ih=>intro sl;simp only[Nb,gC]at ih⊢;rw[ih];simp
def ES (s:SL) (u:Nat):∀(ts:List Nat) (sl:List SL),u∉ts->(Nb sl ts s)[u]? =sl[u]?:=by
 intro ts;induction ts with
 |nil=>intro sl _;rfl
 |cons t ts ih=>
  intro sl hu;simp only[aX,not_or]at hu;simp only[Nb,gC]at ih⊢;rw[ih _ hu.2,bZ,if_neg (fun e=>hu.1 e.symm)]
def YM (s:SL) (u:Nat):∀(ts:List Nat) (sl:List SL),u∈ts->u<sl.length->(Nb sl ts s)[u]? =some s:=by
 intro ts;induction ts with
 |nil=>intro sl h;cases h
 |cons t ts ih=>
  intro sl hu oV;by_cases h:u∈ts
  ·simp only[Nb,gC]at ih⊢;exact ih _ h (by simpa using oV)
  ·have e:u=t:=(aX.1 hu).resolve_right h;subst e;have:=ES s u ts (sl.set u s) h;simp only[Nb,gC]at this⊢;rw[this];simp[oV]
def dedup_mem {x:Nat}:∀{l:List Nat},x∈Ni l↔x∈l:=by
 intro l;induction l with
 |nil=>simp[Ni]
 |cons y l ih=>
  simp only[Ni];split
  ·rename_i h;rw[jI]at h;rw[ih,aX];exact⟨.inr,fun e=>e.elim (fun e=>by rw[e];exact h) (fun e=>e)⟩
  ·rw[aX,aX,ih]
def YN:∀(l:List Nat),(Ni l).Nodup:=by
 intro l;induction l with
 |nil=>exact fQ
 |cons y l ih=>
  simp only[Ni];split
  ·exact ih
  ·rename_i h;rw[jI]at h;exact eD.2 ⟨fun e=>h (dedup_mem.1 e),ih⟩
def YO (bs:List Nat) (n:Nat):∀(bl:List Blk) (i:Nat),(Py bs n bl i).length=bl.length:=by
 intro bl;induction bl with
 |nil=>intro i;rfl
 |cons b bl ih=>intro i;simp only[Py,aO,ih]
def YP (bs:List Nat) (n:Nat):∀(bl:List Blk) (i j:Nat) (B':Blk),(Py bs n bl i)[j]? =some B'->∃B,bl[j]? =some B/\B'=(match As (i+j) bs 0 with|some k=>{B with c:= .v (n+k)}|none=>B):=by
 intro bl;induction bl with
 |nil=>intro i j B' h;simp[Py]at h
 |cons b bl ih=>
  intro i j B' h;simp only[Py]at h;cases j with
  |zero=>simp only[dY,dF]at h;exact⟨b,rfl,h.symm⟩
  |succ j=>
   simp only[fV]at h;obtain⟨B,hB,he⟩:=ih (i+1) j B' h;exact⟨B,hB,by rw[he,show i+1+j=i+(j+1)from aA]⟩
def Xc {i:Nat}:∀{bs:List Nat} {j k:Nat},As i bs j=some k->∃k',k=j+k'/\bs[k']? =some i:=by
 intro bs;induction bs with
 |nil=>intro j k h;simp[As]at h
 |cons x l ih=>
  intro j k h;simp only[As]at h;split at h
  ·rename_i e;simp only[dF]at h;exact⟨0,aA,by simpa using e⟩
  ·obtain⟨k',h1,h2⟩:=ih h;exact⟨k'+1,aA,by simpa using h2⟩
def ET {i:Nat}:∀{bs:List Nat} {j:Nat},As i bs j=none->bs.contains i=false:=by
 intro bs;induction bs with
 |nil=>intro j _;rfl
 |cons x l ih=>
  intro j h;simp only[As]at h;split at h
  ·cases h
  ·rename_i e;simp only[List.contains_cons,ih h,Bool.or_false];simp at e⊢;exact fun e'=>e e'.symm
def YQ {i:Nat}:∀{bs:List Nat} {j k:Nat},bs.Nodup->bs[k]? =some i->As i bs j=some (j+k):=by
 intro bs;induction bs with
 |nil=>intro j k _ h;simp at h
 |cons x l ih=>
  intro j k hn h;rw[eD]at hn;cases k with
  |zero=>simp only[dY,dF]at h;subst h;simp[As]
  |succ k=>
   simp only[fV]at h;have hm:=aJ h;have pI:¬x=i:=fun e=>hn.1 (e ▸ hm);simp only[As,beq_iff_eq,pI,if_false,ih hn.2 h];congr 1;omega
def Xd:∀{l:List Nat},Nc l=true->l.Nodup:=by
 intro l;induction l with
 |nil=>intro _;exact fQ
 |cons x l ih=>
  intro h;simp only[Nc,aT,kA,List.contains_eq_mem,decide_eq_false_iff_not]at h;exact eD.2 ⟨h.1,ih h.2⟩
def Su {bl:List Blk}:∀{bs:List Nat} {ib:List SV},cAt bl bs=some ib->ib.length=bs.length/\∀(k i:Nat),bs[k]? =some i->∃B,bl[i]? =some B/\ib[k]? =some B.c:=by
 intro bs;induction bs with
 |nil=>intro ib h;simp only[cAt,dF]at h;subst h;exact⟨rfl,fun k i h=>by simp at h⟩
 |cons i bs ih=>
  intro ib h;simp only[cAt]at h;split at h
  ·rename_i B l hB hl;simp only[dF]at h;subst h;obtain⟨h1,h2⟩:=ih hl;refine⟨by simp[h1],fun k u hk=> ?_⟩;cases k with
   |zero=>simp only[dY,dF]at hk;subst hk;exact⟨B,hB,rfl⟩
   |succ k=>simp only[fV]at hk⊢;exact h2 k u hk
  ·cases h
def YR {bl:List Blk}:∀{bs:List Nat} {n:Nat} {r:Rq},r∈Wu bl bs n->∃k i B,bs[k]? =some i/\bl[i]? =some B/\r= .cells B.n (.v (n+k)):=by
 intro bs;induction bs with
 |nil=>intro n r h;simp[Wu]at h
 |cons i bs ih=>
  intro n r h;simp only[Wu,bC]at h;rcases h with h|h
  ·split at h
   ·rename_i B hB;simp only[aX,bV,or_false]at h;exact⟨0,i,B,rfl,hB,h⟩
   ·cases h
  ·obtain⟨k,u,B,h1,h2,h3⟩:=ih h;exact⟨k+1,u,B,h1,h2,by rw[h3];congr 2;omega⟩
def cx {sl:List SL}:∀{lv:List Nat} {iv:List SV},Nh sl lv=some iv->iv.length=lv.length/\∀(k t:Nat),lv[k]? =some t->∃s,sl[t]? =some (.x s)/\iv[k]? =some s:=by
 intro lv;induction lv with
 |nil=>intro iv h;simp[Nh]at h;subst h;exact⟨rfl,fun k t h=>by simp at h⟩
 |cons t ts ih=>
  intro iv h;simp only[Nh]at h;split at h
  ·rename_i s l hs hl;simp only[dF]at h;subst h;obtain⟨h1,h2⟩:=ih hl;refine⟨by simp[h1],fun k u hk=> ?_⟩;cases k with
   |zero=>
    simp at hk;subst hk;refine⟨s,?_,rfl⟩;unfold DN at hs;split at hs
    ·rename_i s' pX;simp only[dF]at hs;subst hs;exact pX
    ·cases hs
   |succ k=>simp at hk;simpa using h2 k u hk
  ·cases h
section
variable {P:Program} {G Xp:Value->PH->Prop} {w0:Cx} {ρ:List Value} {β:Nat->Nat} {st:St} {a:Act} {W:World}
structure Bk (w0:Cx) (β:Nat->Nat) (st:St) (a:Act) (W:World):Prop where
 df:∃Ds:List Nat,a.defers=Ds.map Jv/\Ds.Nodup/\∀D∈Ds,w0.w.heap.size<=D/\w0.K D=some (.deferred (some []))
 inj:∀b b',b<st.bl.length->b'<st.bl.length->β b=β b'->b=b'
 own:∀b,b<st.bl.length->w0.w.heap.size<=β b\/w0.H0 (β b)≠none
 sep:∀b,b<st.bl.length->w0.H (β b)=none
 fr:Step w0.H0 w0.w w0.H W
 kp:w0.K.In W
 rd:st.rd=false->w0.ro=none
 ag:∀b,b<w0.n0->β b=w0.b0 b
 ln:w0.n0<=st.bl.length
 kle:Pl w0.K0 w0.K
 kpH:∀k,w0.K k≠none->w0.H k=none
 kpB:∀b,b<st.bl.length->w0.K (β b)=none
def Mt.bk {w0:Cx} (m:Mt P w0 ρ β st a W):Bk w0 β st a W:=⟨m.df,m.inj,m.own,m.sep,m.fr,m.kp,m.rd,m.ag,m.ln,m.kle,m.kpH,m.kpB⟩
def Bk.less {w0:Cx} {st2:St} (h:Bk w0 β st2 a W) (hl:st.bl.length<=st2.bl.length) (uR:st.rd=false->w0.ro=none) (hln:w0.n0<=st.bl.length):Bk w0 β st a W:=
 ⟨h.df,fun i j hi hj=>h.inj i j aA aA,fun i hi=>h.own i aA,fun i hi=>h.sep i aA,h.fr,h.kp,uR,h.ag,hln,h.kle,h.kpH,fun i hi=>h.kpB i aA⟩
def cy {w0:Cx} {lv dd bs:List Nat} {δ:Nat} (pP:Au st=true) (hn:ρ.length=st.n) (rB:∀r∈st.kn,r.holds P ρ) (hkb:∀p∈st.kb,D P ρ p.1= .bool p.2)
  {vals:List Value} (hv:vals.length=lv.length+bs.length) (sz:a.tmps.size=st.sl.length)
  (hpb:∀(t b o s:Nat) (i:SV),st.sl[t]? =some (.p b o s i)->b<st.bl.length) (uE:lv.Nodup) (sU:bs.Nodup)
  (h1:∀(t:Nat) (s:SL),t∉lv->t∉dd->st.sl[t]? =some s->∃v,a.tmps[t]? =some v/\ML P ρ β s v)
  (h2:∀(k t:Nat),lv[k]? =some t->a.tmps[t]? =some (vals.getD k undef))
  (hb:∀(i:Nat) (B:Blk),st.bl[i]? =some B->W.heap[β i]? =some (.cells (match As i bs 0 with|some k=>vals.getD (lv.length+k) undef|none=>D P ρ B.c).cells B.T (0,0))/\(match As i bs 0 with|some k=>vals.getD (lv.length+k) undef|none=>D P ρ B.c).cells.size=B.n/\i8 (match As i bs 0 with|some k=>vals.getD (lv.length+k) undef|none=>D P ρ B.c).cells)
  (bk:Bk w0 β st a W):
  Mt P w0 (ρ++vals) β (Bg st lv dd bs δ) a W:=by
 have uF:=pP;unfold Au at uF;simp only[aT,dC]at uF;obtain⟨⟨⟨c1,c2⟩,c3⟩,c4⟩:=uF;rw[<-hn]at c1 c2 c3 c4;have vJ:(Bg st lv dd bs δ).bl.length=st.bl.length:=YO _ _ _ _;have rU:∀k,D P (ρ++vals) (.v (st.n+k))=vals.getD k undef:=fun k=>by
  simp only[D,<-hn,aK];rw[aN aA,gZ]
 have lk:∀(u:Nat) (s:SL),(Bg st lv dd bs δ).sl[u]? =some s->s= .u\/(∃k,lv[k]? =some u/\s= .x (.v (st.n+k)))\/(u∉lv/\u∉dd/\st.sl[u]? =some s):=by
  intro u s hs;simp only[Bg]at hs;by_cases hd:u∈dd
  ·have oV:u<st.sl.length:=by
    have:=(aH.1 hs).1
    rwa[ER,cu]at this
   rw[YM _ _ _ _ hd (by rw[cu];exact oV)]at hs;simp only[dF]at hs;exact .inl hs.symm
  ·rw[ES _ _ _ _ hd]at hs;by_cases hl:u∈lv
   ·obtain⟨k,hk⟩:=List.getElem?_of_mem hl;have oV:u<st.sl.length:=by
     have:=(aH.1 hs).1
     rwa[cu]at this
    rw[YL _ _ _ k u uE hk oV]at hs;simp only[dF]at hs;exact .inr (.inl ⟨k,hk,hs.symm⟩)
   ·rw[EQ _ _ _ _ hl]at hs;exact .inr (.inr ⟨hl,hd,hs⟩)
 have zQ:(Bg st lv dd bs δ).sl.length=st.sl.length:=by simp only[Bg];rw[ER,cu]
 refine{sz:=by rw[zQ];exact sz,sl:= ?_,pb:= ?_,df:=bk.df,n:= ?_,bl:= ?_,inj:= ?_,own:= ?_,sep:= ?_,fr:=bk.fr,kp:=bk.kp,rd:=bk.rd,kle:=bk.kle,ag:=bk.ag,ln:=by rw[vJ];exact bk.ln,kpH:=bk.kpH,kpB:=by rw[vJ];exact bk.kpB,kn:= ?_,kb:= ?_}
 ·intro u s hs;rcases lk u s hs with rfl|⟨k,hk,rfl⟩|⟨hl,hd,pX⟩
  ·have oV:u<a.tmps.size:=by
    rw[sz,<-zQ];exact(aH.1 hs).1
   exact⟨a.tmps[u],by simp[oV],trivial⟩
  ·exact⟨_,h2 k u hk,(rU k).symm⟩
  ·obtain⟨v,zN,hm'⟩:=h1 u s hl hd pX;refine⟨v,zN,?_⟩;have hl:=c1 s (aJ pX);cases s with
   |x s=>simp only[ML,SL.lt]at hm' hl⊢;rw[Ey P ρ vals s hl];exact hm'
   |p b o s i=>simp only[ML,SL.lt]at hm' hl⊢;rw[Ey P ρ vals i hl];exact hm'
   |u=>trivial
 ·intro u b' o s i hs;rw[vJ];rcases lk u _ hs with h|⟨k,hk,h⟩|⟨_,_,pX⟩
  ·cases h
  ·cases h
  ·exact hpb u b' o s i pX
 ·simp only[Bg,aL,hv,hn];omega
 ·intro i B hB;obtain⟨B0,hB0,rfl⟩:=YP _ _ _ _ _ _ hB;rw[bP];have:=hb i B0 hB0;cases hp:As i bs 0 with
  |some k=>
   simp only[hp]at this⊢;have e:D P (ρ++vals) (.v (st.n+lv.length+k))=vals.getD (lv.length+k) undef:=by rw[jL];exact rU _
   rw[e];exact this
  |none=>
   simp only[hp]at this⊢;rw[Ey P ρ vals B0.c (c2 B0 (aJ hB0))];exact this
 ·rw[vJ];exact bk.inj
 ·rw[vJ];exact bk.own
 ·rw[vJ];exact bk.sep
 ·intro r hr;simp only[Bg,bC]at hr;rcases hr with hr|hr
  ·obtain⟨k,i,B,h1,h2,rfl⟩:=YR hr;have:=hb i B h2;rw[YQ sU h1,bP]at this;simp only at this;have e:D P (ρ++vals) (.v (st.n+lv.length+k))=vals.getD (lv.length+k) undef:=by rw[jL];exact rU _
   simp only[Rq.holds,e];exact this.2
  ·exact(DO P ρ vals r (c3 r hr)).2 (rB r hr)
 ·intro p hp;rw[Ey P ρ vals p.1 (c4 p hp)];exact hkb p hp
def qj (ws:List Nat):∀(a b:List SL) (i:Nat),Sj ws a b i=true->a.length=b.length/\∀t x,a[t]? =some x->∃y,b[t]? =some y/\(x.beq y||ws.contains (i+t))=true
 |[],[],_,_=>⟨rfl,fun t x h=>by simp at h⟩
 |x::a,y::b,i,h=>by
  simp only[Sj,aT]at h;obtain⟨h1,h2⟩:=qj ws a b (i+1) h.2;refine⟨by simp[h1],fun t z hz=> ?_⟩;cases t with
  |zero=>
   simp only[dY,dF]at hz;subst hz;exact⟨y,rfl,h.1⟩
  |succ t=>
   simp only[fV]at hz;obtain⟨y',g1,g2⟩:=h2 t z hz;exact⟨y',by simpa using g1,by rw[show i+(t+1)=i+1+t by omega];exact g2⟩
 |[],_::_,_,h=>by simp[Sj]at h
 |_::_,[],_,h=>by simp[Sj]at h
def YS {ws:List Nat} {x y:List SL} (h:Wv ws x y=true):x.length=y.length:=(qj ws x y 0 h).1
def YT {ws:List Nat} {x y:List SL} (h:Wv ws x y=true) {t:Nat} (ht:t∉ws) {s:SL} (hs:x[t]? =some s):∃s',y[t]? =some s'/\(s=s'\/s= .u):=by
 obtain⟨s',h1,h2⟩:=(qj ws x y 0 h).2 t s hs;rw[bP,cV,jI]at h2;exact⟨s',h1,SL.beq_sound (h2.resolve_right ht)⟩
def EU {bs:List Nat}:∀{x y:List Blk} {j:Nat},Nj bs x y j=true->x.length<=y.length/\∀(i:Nat) (B:Blk),x[i]? =some B->∃B',y[i]? =some B'/\B'.T=B.T/\B'.n=B.n/\(bs.contains (j+i)=false->B'.c=B.c):=by
 intro x;induction x with
 |nil=>intro y j _;exact⟨aD,fun i B h=>by simp at h⟩
 |cons b x ih=>
  intro y j h;cases y with
  |nil=>simp[Nj]at h
  |cons c y=>
   simp only[Nj,aT,beq_iff_eq,cV]at h;obtain⟨⟨⟨h1,h2⟩,h3⟩,h4⟩:=h;obtain⟨k1,k2⟩:=ih h4;refine⟨by simp;exact k1,fun i B hB=> ?_⟩;cases i with
   |zero=>
    simp only[dY,dF]at hB;subst hB;refine⟨c,rfl,h1.symm,h2.symm,fun hc=> ?_⟩;rcases h3 with h3|h3
    ·rw[cP,h3]at hc;cases hc
    ·exact(SV.beq_sound h3).symm
   |succ i=>
    simp only[fV]at hB⊢;obtain⟨B',q1,q2,q3,q4⟩:=k2 i B hB;exact⟨B',q1,q2,q3,fun hc=>q4 (by rw[show j+1+i=j+(i+1)from aA];exact hc)⟩
def EV {c1:Bs} {H K H3 K3:PH} {β2:Nat->Nat} {st2:St} {a2:Act} {W2:World} {r:List Value} {b:Code} {lv dd bs:List Nat} {δ:Nat} {nv nb:List SV} (pP:Au st=true) (m:Mt P ⟨c1,H,K⟩ ρ β st a W) (m2:Mt P ⟨c1,H3,K3⟩ (ρ++r) β2 st2 a2 W2) (zR:lv.Nodup) (qA:bs.Nodup) (a0e:∀u,u∈Ci b->u<st.sl.length->u∈lv\/u∈dd)
  (hnv:Nh st2.sl lv=some nv) (qH:cAt st2.bl bs=some nb) (tW:Wv (Ci b) st.sl st2.sl=true) (uS:Nj bs st.bl st2.bl 0=true):Mt P ⟨c1,H3,K3⟩ (ρ++(nv++nb).map (D P (ρ++r))) β2 (Bg st lv dd bs δ) a2 W2:=by
 have uF:=pP;unfold Au at uF;simp only[aT,dC]at uF;obtain⟨⟨⟨c1,c2⟩,c3⟩,c4⟩:=uF;rw[<-m.n]at c1 c2 c3 c4;obtain⟨k1,k2⟩:=cx hnv;obtain⟨k3,k4⟩:=Su qH;obtain⟨s1,s2⟩:=EU uS;have gl:∀(l:List SV) (ρ':List Value) (j:Nat) (s:SV),l[j]? =some s->(l.map (D P ρ')).getD j undef=D P ρ' s:=fun l ρ' j s hj=>by
  simp[aK,hj]
 have a2z:st2.sl.length=st.sl.length:=(YS tW).symm;refine cy pP m.n m.kn m.kb (by rw[aW,aL,k1,k3]) (by rw[m2.sz,a2z]) m.pb zR qA (fun u s hl hd hs=> ?_) (fun k' u pW=> ?_) (fun i B hB=> ?_) (m2.bk.less s1 m.rd m.ln)
 ·have hu:u∉Ci b:=fun h=>(a0e u h (aH.1 hs).1).elim hl hd;obtain⟨s',pX,uT⟩:=YT tW hu hs;obtain⟨v,hv,xZ⟩:=m2.sl u s' pX;refine⟨v,hv,?_⟩;rcases uT with rfl|rfl
  ·have hl:=c1 s (aJ hs);cases s with
   |x s=>simp only[ML,SL.lt]at xZ hl⊢;rw[Ey P ρ r s hl]at xZ;exact xZ
   |p b o s i=>simp only[ML,SL.lt]at xZ hl⊢;rw[Ey P ρ r i hl]at xZ;exact xZ
   |u=>trivial
  ·trivial
 ·obtain⟨s,hs,rM⟩:=k2 k' u pW;obtain⟨v,hv,xZ⟩:=m2.sl u _ hs;rw[hv];congr 1;rw[gl _ _ k' s]
  ·exact xZ
  ·rw[aQ (aH.1 rM).1];exact rM
 ·obtain⟨B',sN,hT,qR,hc⟩:=s2 i B hB;have g:=m2.bl i B' sN;rw[hT,qR]at g;cases hp:As i bs 0 with
  |some k=>
   obtain⟨k',rfl,pW⟩:=Xc hp;obtain⟨B2,hB2,hq⟩:=k4 k' i pW;obtain rfl:B2=B':=fG.inj (hB2.symm.trans sN);have e:((nv++nb).map (D P (ρ++r))).getD (lv.length+(0+k')) undef=D P (ρ++r) B2.c:=gl _ _ _ _ (by
    rw[aN aA,k1,bP,gZ];exact hq)
   simp only[e];exact g
  |none=>
   simp only;rw[hc (by rw[bP];exact ET hp),Ey P ρ r B.c (c2 B (aJ hB))]at g;exact g
def qk {nx nx':List (List Value->PH->Prop)} (h:nx<+:nx') {d:Nat} (hd:d<nx.length):nx'.getD d (fun _ _=>False)=nx.getD d fun _ _=>False:=by
 obtain⟨r,rfl⟩:=h;simp[aK,aQ hd]
def PnQ (P:Program) (c1:Bs) (Xp:Value->PH->Prop) (Q:Exit->Act->World->Prop):Prop:=
 ∀x ρ' β' st' a' a'' W' H' K',Mt P ⟨c1,H',K'⟩ ρ' β' st' a' W'->a''.defers=a'.defers->Xp x H'->Q (.panic [{v:=x,recovered:=false}]) a'' W'
def PnQ.of {P:Program} {c1:Bs} {Xp:Value->PH->Prop} {Q Q':Exit->Act->World->Prop} (h:PnQ P c1 Xp Q) (hh:∀ch a w,Q (.panic ch) a w->Q' (.panic ch) a w):PnQ P c1 Xp Q':=
 fun x _ _ _ _ a'' W' _ _ m hd hx=>hh _ a'' W' (h x _ _ _ _ _ _ _ _ m hd hx)
def PnQ.no {P:Program} {c1:Bs} {Q:Exit->Act->World->Prop}:PnQ P c1 noP Q:=fun _ _ _ _ _ _ _ _ _ _ _ hx=>hx.elim
def Qc (P:Program) (G Xp:Value->PH->Prop) (c1:Bs) (rm:Nat) (c:Code) (run:St->(Exit->St->Option Tree)->Option Tree):Prop:=
 ∀(st:St) (k:Exit->St->Option Tree) (t:Tree) (ρ:List Value) (β:Nat->Nat) (a:Act) (W:World) (H K:PH) (nx:List (List Value->PH->Prop)) (Q:Exit->Act->World->Prop),
  run st k=some t->Mt P ⟨c1,H,K⟩ ρ β st a W->nx.length=st.d->den P G Xp t nx ρ H->PnQ P c1 Xp Q->
  (∀e st' t' ρ' β' a' W' H' K' nx',k e st'=some t'->Mt P ⟨c1,H',K'⟩ ρ' β' st' a' W'->ρ<+:ρ'->nx<+:nx'->nx'.length=st'.d->den P G Xp t' nx' ρ' H'->Q e a' W')->c.wpIn (Fr c1.ro) rm P Q a W
def Mt.depth (m:Mt P w0 ρ β st a W) (d:Nat):Mt P w0 ρ β {st with d:=d} a W:={m with}
def qm {c1:Bs} {rm:Nat} {c:Code} {run:St->(Exit->St->Option Tree)->Option Tree} (hr:Qc P G Xp c1 rm c run) (ts bs:List Nat):Qc P G Xp c1 rm c fun st k=>jn st c ts bs run k:=by
 intro st k t ρ β a W H K nx Q h m hd oZ hX hQ;simp only[jn]at h;split at h
 ·rename_i hc;simp only[aT]at hc;obtain⟨⟨pP,hts⟩,qA⟩:=hc;split at h
  ·rename_i t1 u e1 e2;simp only[dF]at h;subst h;obtain⟨J,hJ1,hJ2⟩:=oZ;refine hr _ _ t1 ρ β a W H K (nx++[J]) Q e1 (m.depth _) (by simp[hd]) hJ1 hX ?_;intro e st2 t2 ρ2 β2 a2 W2 H3 K3 nx2 h2 m2 qG uG pE pG;have tG:nx<+:nx2:=(eW _ _).trans uG;cases e with
   |normal=>
    simp only at h2;split at h2
    ·rename_i nv nb hnv qH;split at h2
     ·rename_i rV;rw[aT]at rV;simp only[dF]at h2;subst h2;have hh:=pG;have e1:nx2.getD st.d (fun _ _=>False)=J:=by
       rw[qk uG (by simp[hd])];simp[aK,<-hd]
      simp only[den]at hh;rw[e1]at hh;obtain⟨r,rfl⟩:=qG;have hmt:=EV (δ:=0) (dd:=(Ci c).filter fun t=> !ts.contains t) pP m m2 (Xd hts) (Xd qA) (fun u hu _=>by
       by_cases ht:u∈ts
       ·exact .inl ht
       ·exact .inr (dJ.2 ⟨hu,by simpa using ht⟩)) hnv qH rV.1 rV.2
      refine hQ .normal _ u _ β2 a2 W2 H3 K3 nx e2 hmt (eW _ _) (fC _) (by simp[Bg,hd]) (hJ2 _ H3 ?_ hh);rw[aW,aL,(cx hnv).1,(Su qH).1]
     ·simp only[dF]at h2;subst h2;exact pG.elim
    ·simp only[dF]at h2;subst h2;exact pG.elim
   |exit id=>exact hQ _ _ _ _ _ _ _ _ _ _ h2 m2 qG tG pE pG
   |goto l=>exact hQ _ _ _ _ _ _ _ _ _ _ h2 m2 qG tG pE pG
   |ret=>exact hQ _ _ _ _ _ _ _ _ _ _ h2 m2 qG tG pE pG
   |panic ch=>exact hQ _ _ _ _ _ _ _ _ _ _ h2 m2 qG tG pE pG
   |outgrown=>exact hQ _ _ _ _ _ _ _ _ _ _ h2 m2 qG tG pE pG
  ·cases h
 ·cases h
def YU {F:Fence} {n:Nat} {P:Program} {Q:Exit->Act->World->Prop} {a:Act} {w:World} {c:Code} (I:Nat->Act->World->Prop) (n₀:Nat) (h₀:I n₀ a w)
  (round:∀m a w,I m a w->c.wpIn F n P (Exit.then (fun a' w'=>∃n',n'<m/\I n' a' w') Q) a w):(Code.loop c).wpIn F n P Q a w:=by
 refine wpIn_loop (fun a w=>∃m,I m a w) (fun a w=>leastOf (fun m=>I m a w)) ⟨n₀,h₀⟩ ?_;intro a w hI;refine wpIn_mono (round _ a w (leastOf_spec hI).1) ?_;intro e a' w' hq;cases e with
 |normal=>
  obtain⟨n',oV,hI'⟩:=hq;exact show(∃n,I n a' w')/\leastOf (fun n=>I n a' w')<leastOf (fun n=>I n a w)from⟨⟨n',hI'⟩,aR ((leastOf_spec ⟨n',hI'⟩).2 n' hI') oV⟩
 |exit id=>exact hq
 |goto l=>exact hq
 |ret=>exact hq
 |panic ch=>exact hq
 |outgrown=>exact hq
def Exit.noGo (Q:Exit->Act->World->Prop):Exit->Act->World->Prop
 | .goto _,_,_=>False
 |e,a,w=>Q e a w
def Sv {P:Program} {b:Frame} {a:Act} {k:List Item} {cs:List Frame} {w:World} {c:Code}:step P (lone (b.atR a (.code (.scope c)::k)) cs w)= .next (lone (b.atR a (.code c:: .inScope c::k)) cs w):=
 step_lone_go (by simp[stepG,stepG.exec,Frame.atR])
def YV {P:Program} {b:Frame} {a:Act} {k:List Item} {cs:List Frame} {w:World} {c:Code}:step P (lone (b.atR a (.inScope c::k)) cs w)= .next (lone (b.atR a k) cs w):=
 step_lone_go (by simp[stepG,stepG.exec,Frame.atR])
def YW {F:Fence} {n:Nat} {P:Program} {Q:Exit->Act->World->Prop} {a:Act} {w:World} {c:Code} (h:c.wpIn F n P (Exit.noGo Q) a w):(Code.scope c).wpIn F n P Q a w:=by
 intro b k cs vL hb hr;have h0:(lone (b.atR a (.code (.scope c)::k)) cs w).fenced P F:=fenced_calm hb hr rfl;obtain⟨e,a₁,w₁,hq,vM⟩:=h b (.inScope c::k) cs vL hb hr;cases e with
 |normal=>exact⟨.normal,a₁,w₁,hq,.head h0 Sv (StepsIn.trans vM (.one (fenced_calm hb hr rfl) YV))⟩
 |exit id=>
  have hx:exitTo id (.inScope c::k)=exitTo id k:=by simp[exitTo]
  exact⟨.exit id,a₁,w₁,hq,fun k' hk=> .head h0 Sv (vM.1 k' (by rw[hx];exact hk)),
   fun hr' hk=>let⟨k₁,h1,h2⟩:=vM.2 hr' (by rw[hx];exact hk);⟨k₁,h1,.head h0 Sv h2⟩⟩
 |goto l=>exact hq.elim
 |ret=>exact⟨_,a₁,w₁,hq,.of_steps (.one h0 Sv) vM⟩
 |panic ch=>exact⟨_,a₁,w₁,hq,.of_steps (.one h0 Sv) vM⟩
 |outgrown=>exact⟨_,a₁,w₁,hq,.of_steps (.one h0 Sv) vM⟩
def Eh {W:World} {l k:Nat} {o:Obj} (h:k≠l):(W.putObj l o).heap[k]? =W.heap[k]?:=World.putObj_heap_other h
def Mt.turn {c1:Bs} {H K:PH} (m:Mt P ⟨c1,H,K⟩ ρ β st a W) {l:Nat} (o':Obj) (hl:K l≠none) (ho:c1.w.heap.size<=l\/c1.H0 l≠none) {K' K0':PH} (hK':K'.In (W.putObj l o')) (hKd:∀k,K' k≠none->K k≠none) (oW:Pl K0' K')
  {df:List Deferred} (qB:∃Ds:List Nat,df=Ds.map Jv/\Ds.Nodup/\∀D∈Ds,c1.w.heap.size<=D/\K' D=some (.deferred (some []))):Mt P ⟨{c1 with K0:=K0'},H,K'⟩ ρ β st {a with defers:=df} (W.putObj l o'):=
 {sz:=m.sz,sl:=m.sl,pb:=m.pb,df:=qB,n:=m.n
  bl:=fun b B hB=>by
   have pI:β b≠l:=fun e=>hl (by rw[<-e];exact m.kpB b (aH.1 hB).1);rw[Eh pI];exact m.bl b B hB
  inj:=m.inj,own:=m.own,sep:=m.sep
  fr:=⟨m.fr.os,m.fr.tape,m.fr.output,by rw[World.putObj_size];exact m.fr.size,fun k hk hn=>by
   rw[Eh (fun e=>by
    subst e;rcases ho with h|h
    ·exact Nat.lt_irrefl _ (aM hk h)
    ·exact h hn)];exact m.fr.block k hk hn,fun k ob hk=>by
   rw[Eh (fun e=>by rw[e,m.kpH l hl]at hk;cases hk)];exact m.fr.holds k ob hk,m.fr.dom,m.fr.dr⟩
  kp:=hK',rd:=m.rd,ag:=m.ag,ln:=m.ln,kle:=oW,kpH:=fun k hk=>m.kpH k (hKd k hk)
  kpB:=fun b hb=>by
   cases e:K' (β b)with
   |none=>exact e
   |some o=>exact absurd (m.kpB b hb) (hKd _ (by simp[e]))
  kn:=m.kn,kb:=m.kb}
def YX {c1:Bs} (hK0:∀k,c1.K0 k=none) {H:PH} {fn:Func} {R:Ending->World->Prop} {tm:Array Value}
  (h:∀(K':PH) (a':Act) (W':World),Mt P ⟨c1,H,K'⟩ ρ β st a' W'->a'.tmps=tm->∃v,(results fn tm).run P W'= .ok v W'/\R (.returned v) W'):∀(Ds:List Nat) (K:PH) (a:Act) (W:World),Mt P ⟨c1,H,K⟩ ρ β st a W->a.tmps=tm->a.defers=Ds.map Jv->Ds.Nodup->(∀D∈Ds,c1.w.heap.size<=D/\K D=some (.deferred (some [])))->
  LeavesInM Fence.wide 0 P fn tm R a.defers .returning W:=by
 intro Ds;induction Ds with
 |nil=>intro K a W m ht hd _ _;rw[hd];exact h K a W m ht
 |cons D Ds ih=>
  intro K a W m ht hd hn hD;rw[hd];obtain⟨hDs,hDK⟩:=hD D aD;rw[eD]at hn;have hw:=m.kp D _ hDK;refine⟨aD,.inl ⟨D,_,rfl,run_takeDeferred hw,?_⟩⟩;have hD':∀D'∈Ds,c1.w.heap.size<=D'/\(fun k=>if k=D then none else K k) D'=some (.deferred (some [])):=fun D' h'=>by
   obtain⟨g1,g2⟩:=hD D' (by simp[h']);refine⟨g1,?_⟩;show(if D'=D then none else K D')=_;rw[if_neg (show ¬D'=D from fun e=>hn.1 (e ▸ h'))];exact g2
  have:=m.turn (.deferred none) (K':=fun k=>if k=D then none else K k) (K0':=c1.K0) (df:=Ds.map Jv) (by rw[hDK];simp) (.inl hDs) (fun k ob hk=>by
   change (if k=D then none else K k)=some ob at hk;split at hk
   ·cases hk
   ·rename_i e;rw[Eh e];exact m.kp k ob hk) (fun k hk=>by
   change (if k=D then none else K k)≠none at hk;split at hk
   ·exact absurd rfl hk
   ·exact hk) (fun k o hk=>by rw[hK0]at hk;cases hk) ⟨Ds,rfl,hn.2,hD'⟩
  exact ih _ _ _ this ht rfl hn.2 hD'
def YY {c1:Bs} (hK0:∀k,c1.K0 k=none) {H:PH} {fn:Func} {R:Ending->World->Prop} {ch:List PanicEntry}
  (h:∀(K':PH) (a':Act) (W':World),Mt P ⟨c1,H,K'⟩ ρ β st a' W'->R (.panicked ch) W'):∀(Ds:List Nat) (K:PH) (a:Act) (W:World) (tm:Array Value),Mt P ⟨c1,H,K⟩ ρ β st a W->a.defers=Ds.map Jv->Ds.Nodup->(∀D∈Ds,c1.w.heap.size<=D/\K D=some (.deferred (some [])))->
  LeavesInM Fence.wide 0 P fn tm R a.defers (.panicking ch) W:=by
 intro Ds;induction Ds with
 |nil=>intro K a W tm m hd _ _;rw[hd];exact h K a W m
 |cons D Ds ih=>
  intro K a W tm m hd hn hD;rw[hd];obtain⟨hDs,hDK⟩:=hD D aD;rw[eD]at hn;have hw:=m.kp D _ hDK;refine⟨aD,.inl ⟨D,_,rfl,run_takeDeferred hw,?_⟩⟩;have hD':∀D'∈Ds,c1.w.heap.size<=D'/\(fun k=>if k=D then none else K k) D'=some (.deferred (some [])):=fun D' h'=>by
   obtain⟨g1,g2⟩:=hD D' (by simp[h']);refine⟨g1,?_⟩;show(if D'=D then none else K D')=_;rw[if_neg (show ¬D'=D from fun e=>hn.1 (e ▸ h'))];exact g2
  have:=m.turn (.deferred none) (K':=fun k=>if k=D then none else K k) (K0':=c1.K0) (df:=Ds.map Jv) (by rw[hDK];simp) (.inl hDs) (fun k ob hk=>by
   change (if k=D then none else K k)=some ob at hk;split at hk
   ·cases hk
   ·rename_i e;rw[Eh e];exact m.kp k ob hk) (fun k hk=>by
   change (if k=D then none else K k)≠none at hk;split at hk
   ·exact absurd rfl hk
   ·exact hk) (fun k o hk=>by rw[hK0]at hk;cases hk) ⟨Ds,rfl,hn.2,hD'⟩
  exact ih _ _ _ tm this rfl hn.2 hD'
def PH.or_none {X K:PH} {b:Nat}:X.or K b=none↔X b=none/\K b=none:=by
 unfold PH.or;cases e:X b with
 |none=>simp
 |some o=>simp
def PH.le_or (X K:PH):Pl X (X.or K):=fun b o h=>by unfold PH.or;rw[h]
def PH.or_r {X K:PH} (h:Disj X K):Pl K (X.or K):=fun b o hk=>by
 unfold PH.or;cases e:X b with
 |none=>exact hk
 |some o'=>rw[h b (by simp[e])]at hk;cases hk
def PH.or_In {X K:PH} {w:World} (h1:X.In w) (h2:K.In w):(X.or K).In w:=fun b o h=>by
 unfold PH.or at h;cases e:X b with
 |none=>simp only[e]at h;exact h2 b o h
 |some o'=>simp only[e]at h;cases h;exact h1 b _ e
def Xe {X K:PH} {b:Nat} (h:X b≠none):X.or K b≠none:=fun e=>h (PH.or_none.1 e).1
def Step.less {H H' H'':PH} {w w':World} (h:Step H w H' w') (hl:Pl H'' H'):Step H w H'' w':=
 ⟨h.os,h.tape,h.output,h.size,h.block,hl.In h.holds,fun b hb=>h.dom b fun e=>hb (by
  cases e2:H'' b with
  |none=>rfl
  |some o=>rw[hl b o e2]at e;cases e),h.dr⟩
def Hm (P:Program) (ρ:List Value) (st:St) (bs:List Nat) (vals:List Value) (i:Nat):Value:=
 match As i bs 0 with
 |some k=>vals.getD k undef
 |none=>match st.bl[i]? with|some B=>D P ρ B.c|none=>undef
def Is (P:Program) (ρ:List Value) (st:St) (bs:List Nat) (vals:List Value) (i:Nat):Obj:=
 .cells (Hm P ρ st bs vals i).cells (match st.bl[i]? with|some B=>B.T|none=>0) (0,0)
def Nl (P:Program) (ρ:List Value) (st:St) (bs:List Nat) (β:Nat->Nat) (vals:List Value):PH:=fun b=>((eT st.bl.length).find? fun i=>β i==b).map (Is P ρ st bs vals)
def Yof (P:Program) (ρ:List Value) (st:St) (bs:List Nat) (β:Nat->Nat) (l:Nat) (r:Loop) (vals:List Value) (X:PH):PH:=fun b=>
 if b=l then some (.loop r)else match Nl P ρ st bs β vals b with|some o=>some o|none=>X b
structure Fit (P:Program) (ρ:List Value) (st:St) (bs:List Nat) (β:Nat->Nat) (l:Nat) (vals:List Value) (X:PH):Prop where
 sz:∀(i:Nat) (B:Blk),st.bl[i]? =some B->(Hm P ρ st bs vals i).cells.size=B.n/\i8 (Hm P ρ st bs vals i).cells
 xb:∀i,i<st.bl.length->X (β i)=none
 xl:X l=none
section
variable {bs:List Nat} {vals:List Value} {l:Nat} {r:Loop} {X K:PH}
def YZ (inj:∀b b',b<st.bl.length->b'<st.bl.length->β b=β b'->b=b') {i:Nat} (hi:i<st.bl.length):Nl P ρ st bs β vals (β i)=some (Is P ρ st bs vals i):=by
 unfold Nl;cases e:(eT st.bl.length).find? fun j=>β j==β i with
 |none=>
  have:=List.find?_eq_none.1 e i (bH.2 hi);simp at this
 |some j=>
  have h1:=mV e;have h2:=bH.1 (kS e);simp only[beq_iff_eq]at h1;rw[inj j i h2 hi h1];rfl
def qn {b:Nat} {o:Obj} (h:Nl P ρ st bs β vals b=some o):∃i,i<st.bl.length/\β i=b/\o=Is P ρ st bs vals i:=by
 unfold Nl at h;rw[fJ]at h;obtain⟨i,h1,h2⟩:=h;have h3:=mV h1;exact⟨i,bH.1 (kS h1),by simpa using h3,h2.symm⟩
def Xf:Yof P ρ st bs β l r vals X l=some (.loop r):=by unfold Yof;rw[if_pos rfl]
def Qd (inj:∀b b',b<st.bl.length->b'<st.bl.length->β b=β b'->b=b') {i:Nat} (hi:i<st.bl.length) (pI:β i≠l):Yof P ρ st bs β l r vals X (β i)=some (Is P ρ st bs vals i):=by
 unfold Yof;rw[if_neg pI,YZ inj hi]
def Qe (hf:Fit P ρ st bs β l vals X):Pl X (Yof P ρ st bs β l r vals X):=fun b o hb=>by
 unfold Yof;rw[if_neg (fun e=>by rw[e,hf.xl]at hb;cases hb)];cases e:Nl P ρ st bs β vals b with
 |none=>exact hb
 |some o'=>
  obtain⟨i,hi,rfl,_⟩:=qn e;rw[hf.xb i hi]at hb;cases hb
def Qf {b:Nat} (h:Yof P ρ st bs β l r vals X b≠none):b=l\/(∃i,i<st.bl.length/\β i=b)\/X b≠none:=by
 unfold Yof at h;split at h
 ·rename_i e;exact .inl e
 ·cases e:Nl P ρ st bs β vals b with
  |none=>rw[e]at h;exact .inr (.inr h)
  |some o=>obtain⟨i,hi,he,_⟩:=qn e;exact .inr (.inl ⟨i,hi,he⟩)
def EW {w:World} (hl:w.heap[l]? =some (.loop r)) (hb:∀i,i<st.bl.length->w.heap[β i]? =some (Is P ρ st bs vals i)) (hx:X.In w):(Yof P ρ st bs β l r vals X).In w:=fun b o h=>by
 unfold Yof at h;split at h
 ·rename_i e;subst e;cases h;exact hl
 ·cases e:Nl P ρ st bs β vals b with
  |none=>rw[e]at h;exact hx b o h
  |some o'=>
   rw[e]at h;cases h;obtain⟨i,hi,rfl,rfl⟩:=qn e;exact hb i hi
def cz {i:Nat} {B:Blk} (h:st.bl[i]? =some B):Is P ρ st bs vals i= .cells (Hm P ρ st bs vals i).cells B.T (0,0):=by
 unfold Is;rw[h]
def Xg {i:Nat} {B:Blk} (h:st.bl[i]? =some B):Hm P ρ st bs vals i=match As i bs 0 with|some k=>vals.getD k undef|none=>D P ρ B.c:=by
 unfold Hm;rw[h]
end
def ZA:∀(ps:List Nat) (xs:List Value) (tm:Array Value),ps.length=xs.length->ps.Nodup->(∀p∈ps,p<tm.size)->
  ((ps.zip xs).foldl (fun t (p:Nat×Value)=>t.setIfInBounds p.1 p.2) tm).size=tm.size/\(∀t:Nat,t∉ps->((ps.zip xs).foldl (fun t (p:Nat×Value)=>t.setIfInBounds p.1 p.2) tm)[t]? =tm[t]?)/\
  ∀(k t:Nat),ps[k]? =some t->((ps.zip xs).foldl (fun t (p:Nat×Value)=>t.setIfInBounds p.1 p.2) tm)[t]? =some (xs.getD k undef):=by
 intro ps;induction ps with
 |nil=>intro xs tm _ _ _;exact⟨rfl,fun _ _=>rfl,fun k t h=>by simp at h⟩
 |cons p ps ih=>
  intro xs tm hl hn hr;cases xs with
  |nil=>simp at hl
  |cons x xs=>
   rw[eD]at hn;simp only[List.zip_cons_cons,gC];obtain⟨g1,g2,g3⟩:=ih xs (tm.setIfInBounds p x) (by simpa using hl) hn.2 (fun q hq=>by simpa using hr q (by simp[hq]));refine⟨by rw[g1];simp,fun t ht=> ?_,fun k t hk=> ?_⟩
   ·simp only[aX,not_or]at ht;rw[g2 t ht.2,cX (fun e=>ht.1 e.symm)]
   ·cases k with
    |zero=>
     simp only[dY,dF]at hk;subst hk;rw[g2 p hn.1,dB (hr p aD)];rfl
    |succ k=>
     simp only[fV]at hk;rw[g3 k t hk];rfl
def EX {e:Exit} {l:List Exit} (h:Sm e l=true):∃r,l=e::r/\(e= .ret\/∃i,e= .exit i):=by
 unfold Sm at h;split at h
 ·exact⟨_,rfl,.inl rfl⟩
 ·rw[beq_iff_eq]at h;subst h;exact⟨_,rfl,.inr ⟨_,rfl⟩⟩
 ·cases h
def ZB {c2:Bs} {H2 K2:PH} {bs:List Nat} {l j:Nat} {st2:St} {t2:Tree} {ρ2:List Value} {β2:Nat->Nat} {a2:Act} {w2:World} {nx2:List (List Value->PH->Prop)} (pP:Au st=true) (hn:ρ.length=st.n) (hp:ρ<+:ρ2)
  (h2:Ww st bs j st2=some t2) (m2:Mt P ⟨c2,H2,K2⟩ ρ2 β2 st2 a2 w2) (sP:c2.n0=st.bl.length) (uU:c2.b0=β) (hl:c2.K0 l≠none) (oZ:den P G Xp t2 nx2 ρ2 H2):
  ∃vals,vals.length=bs.length/\(nx2.getD (st.d+j) fun _ _=>False) vals H2/\Fit P ρ st bs β l vals H2/\∀i,i<st.bl.length->w2.heap[β i]? =some (Is P ρ st bs vals i):=by
 unfold Ww at h2;split at h2
 ·rename_i nb qH;split at h2
  ·rename_i hs;simp only[dF]at h2;subst h2;obtain⟨g1,g2⟩:=Su qH;obtain⟨s1,s2⟩:=EU hs;unfold Au at pP;simp only[aT,dC]at pP;obtain⟨⟨⟨_,c2'⟩,_⟩,_⟩:=pP;rw[<-hn]at c2';obtain⟨rr,rfl⟩:=hp;have key:∀(i:Nat) (B:Blk),st.bl[i]? =some B->∃B',st2.bl[i]? =some B'/\B'.T=B.T/\B'.n=B.n/\Hm P ρ st bs (nb.map (D P (ρ++rr))) i=D P (ρ++rr) B'.c:=fun i B hB=>by
    obtain⟨B',q1,q2,q3,q4⟩:=s2 i B hB;refine⟨B',q1,q2,q3,?_⟩;rw[Xg hB];cases e:As i bs 0 with
    |some k=>
     obtain⟨k',rfl,pW⟩:=Xc e;obtain⟨B2,r1,r2⟩:=g2 k' i pW;obtain rfl:B2=B':=fG.inj (r1.symm.trans q1);simp[aK,r2]
    |none=>
     simp only;rw[q4 (by rw[bP];exact ET e),Ey P ρ rr B.c (c2' B (aJ hB))]
   have hβ:∀i,i<st.bl.length->β2 i=β i:=fun i hi=>by rw[<-uU];exact m2.ag i (by show i<c2.n0;omega)
   refine⟨nb.map (D P (ρ++rr)),by rw[aW,g1],oZ,⟨fun i B hB=> ?_,fun i hi=> ?_,m2.kpH l ?_⟩,fun i hi=> ?_⟩
   ·obtain⟨B',q1,q2,q3,q4⟩:=key i B hB;rw[q4,<-q3];exact(m2.bl i B' q1).2
   ·rw[<-hβ i hi];exact m2.sep i aA
   ·intro e;cases e2:c2.K0 l with
    |none=>exact hl e2
    |some o=>have h3:=m2.kle l o e2;simp only at h3 e;rw[e]at h3;cases h3
   ·obtain⟨B,hB⟩:∃B,st.bl[i]? =some B:=⟨_,aG hi⟩;obtain⟨B',q1,q2,q3,q4⟩:=key i B hB;rw[cz hB,q4,<-q2,<-hβ i hi];exact(m2.bl i B' q1).1
  ·simp only[dF]at h2;subst h2;exact oZ.elim
 ·simp only[dF]at h2;subst h2;exact oZ.elim
def ZC {C:List Cd} {g:Operand} {ps:Array Tmp} {asg body:Code} (ihA:∀(c1:Bs) (rm:Nat),Qc P G noP c1 rm asg (ex P C asg)) (ihB:∀(c1:Bs) (rm:Nat),Qc P G noP c1 rm body (ex P C body))
  {c1:Bs} {rm:Nat} {st:St} {k:Exit->St->Option Tree} {t:Tree} {ρ:List Value} {β:Nat->Nat} {a:Act} {W:World} {H K:PH} {nx:List (List Value->PH->Prop)} {Q:Exit->Act->World->Prop}
  (h:ex P C (.rangeFunc g ps asg body) st k=some t) (m:Mt P ⟨c1,H,K⟩ ρ β st a W) (hd:nx.length=st.d) (oZ:den P G Xp t nx ρ H)
  (hQ:∀e st' t' ρ' β' a' W' H' K' nx',k e st'=some t'->Mt P ⟨c1,H',K'⟩ ρ' β' st' a' W'->ρ<+:ρ'->nx<+:nx'->nx'.length=st'.d->den P G Xp t' nx' ρ' H'->Q e a' W'):(Code.rangeFunc g ps asg body).wpIn (Fr c1.ro) rm P Q a W:=by
 simp only[ex]at h;split at h
 ·rename_i gv ib uR hgv hib;split at h
  ·rename_i hc;simp only[aT]at hc;obtain⟨⟨⟨pP,qA⟩,tJ⟩,tV⟩:=hc;split at h
   ·rename_i tb ta te eb ea ee;simp only[dF]at h;subst h
    revert hib qA eb ea ee
    generalize Nk st asg body=bs;intro hib qA eb ea ee;have hbn:=Xd qA;have tG:=Xd tJ;have vL:c1.ro=none:=m.rd uR;obtain⟨f,caps,X,K1,Ro,E,S,Sp,I,Ix,hg,qZ,hHe,a1l,yT,uH,hI0,a3a,a3b,a3c⟩:=oZ;have tC:a.eval g= .func (.func f) #[] caps.toArray:=(m.val hgv).trans hg;obtain⟨pV,pS⟩:=Su hib;have pR:∀p∈ps.toList,p<a.tmps.size:=fun p hp=>by rw[m.sz];simpa using dC.1 tV p hp
    rw[vL];refine wpIn_rangeFunc fun fn _=> ?_;obtain⟨rec,sG⟩:∃rec:LoopState->Option Code->Loop,rec=fun s p=>{state:=s,pending:=p,fn,tmps:=a.tmps,params:=ps,assign:=asg,body,defers:=W.heap.size}:=⟨_,rfl⟩;obtain⟨W1,rH⟩:∃W1,(W.alloc (.deferred (some []))).alloc (.loop (rec .ready none))=W1:=⟨_,rfl⟩;have hs0:(W.alloc (.deferred (some []))).heap.size=W.heap.size+1:=by show(W.heap.push _).size=_;simp
    have rG:Ext W W1:=rH ▸ (Ext.alloc W _).trans (Ext.alloc _ _);have a5p:W1.heap.size=W.heap.size+2:=by
     rw[<-rH];show((W.alloc (.deferred (some []))).heap.push _).size=_;simp[hs0]
    have hD1:W1.heap[W.heap.size]? =some (.deferred (some [])):=by
     rw[<-rH];exact(Ext.alloc _ _).block (World.alloc_heap_new W _)
    have hL1:W1.heap[W.heap.size+1]? =some (.loop (rec .ready none)):=by
     rw[<-rH,<-hs0];exact World.alloc_heap_new _ _
    obtain⟨l,hl⟩:∃l,l=W.heap.size+1:=⟨_,rfl⟩;have hβl:∀i,i<st.bl.length->β i≠l:=fun i hi=>by have:=m.lt hi;omega
    refine⟨l,[Jv W.heap.size],W1,{target:= .fn (.func f) caps.toArray,args:= #[.func (.yield l) #[] #[]]},W1,f,#[.func (.yield l) #[] #[]]++caps.toArray,W1,?_,?_,fun _ _=>trivial,?_,fun e=>by simp[Fr,Fence.wide]at e,na ?_⟩
    ·rw[<-rH,sG,hl];exact run_enterLoop_outer _ _ _ _ _
    ·simp only[resolve,tC];simp[go_sem]
    ·simp[invoke,go_sem,Jw qZ]
    rw[show #[Value.func (.yield l) #[] #[]]++caps.toArray=((Value.func (.yield l) #[] #[])::caps).toArray from aD];have Xin:X.In W:=(PH.le_or X K1).In (hHe ▸ m.fr.holds);have K1in:K1.In W:=(PH.or_r a1l).In (hHe ▸ m.fr.holds);have hXl:∀Z:PH,Z.In W->Z l=none:=fun Z hZ=>by
     cases e:Z l with
     |none=>rfl
     |some o=>have:=y5 (hZ _ _ e);omega
    have hXb:∀i,i<st.bl.length->X (β i)=none/\K1 (β i)=none:=fun i hi=>by
     have:=m.sep i hi;simp only[hHe]at this;exact PH.or_none.1 this
    have round:∀(pre:List (List Value)) (xs:List Value) (vals:List Value) (X' K':PH),E pre xs->vals.length=ib.length->I pre vals X'->Fit P ρ st bs β l vals X'->Disj (Yof P ρ st bs β l (rec .ready none) vals X') K'->
      qi P l xs (Yof P ρ st bs β l (rec .ready none) vals X') K' fun v Y'=>
       (v= .bool true/\∃vals' X'',vals'.length=ib.length/\I (pre++[xs]) vals' X''/\Fit P ρ st bs β l vals' X''/\Y'=Yof P ρ st bs β l (rec .ready none) vals' X'')\/
       (v= .bool false/\∃vals' X'' e0 r0 c0,Hl body=e0::r0/\((e0= .ret/\c0=Code.ret)\/∃i,e0= .exit i/\c0=Code.exit i)/\vals'.length=ib.length/\Ix (pre++[xs]) vals' X''/\Fit P ρ st bs β l vals' X''/\Y'=Yof P ρ st bs β l (rec .done (some c0)) vals' X''):=by
     intro pre xs vals X' K' hE hvl hI hf wC w pT;obtain⟨rK,vH⟩:=a3a pre xs vals X' hE hvl hI;have uI:(Yof P ρ st bs β l (rec .ready none) vals X').In w:=(PH.le_or _ K').In pT;have a0f:K'.In w:=(PH.or_r wC).In pT;have a3d:X'.In w:=(Qe hf).In uI;have zS:=uI l _ Xf;have hKl:K' l=none:=wC l (by rw[Xf];simp);have hKb:∀i,i<st.bl.length->K' (β i)=none:=fun i hi=>wC _ (by rw[Qd m.inj hi (hβl i hi)];simp);refine⟨fn,(ps.zip xs.toArray).foldl (fun tmps x=>match x with|(t,a)=>tmps.setIfInBounds t a) a.tmps,asg,body,?_,roundIn_of_wpIn trivial ?_⟩
     ·have:=run_yield (P:=P) (args:=xs.toArray) zS (by rw[sG];simpa using rK);rw[sG]at this;exact this
     obtain⟨c2,qO⟩:∃c2:Bs,c2=⟨w,(Yof P ρ st bs β l (rec .ready none) vals X').or K',some l,st.bl.length,β,K'.put l (.loop (rec .ready none))⟩:=⟨_,rfl⟩;have hYl:(Yof P ρ st bs β l (rec .ready none) vals X').or K' l≠none:=Xe (by rw[Xf];simp);have a1m:∀(r:Loop) k,(K'.put l (.loop r)) k≠none->k=l\/K' k≠none:=fun r k hk=>by
      unfold PH.put at hk;split at hk
      ·rename_i e;exact .inl e
      ·exact .inr hk
     obtain⟨z1,z2,z3⟩:=ZA ps.toList xs a.tmps (by simpa using rK.symm) tG pR;have a3e:(ps.zip xs.toArray).foldl (fun tmps x=>match x with|(t,a)=>tmps.setIfInBounds t a) a.tmps=(ps.toList.zip xs).foldl (fun t (p:Nat×Value)=>t.setIfInBounds p.1 p.2) a.tmps:=by
      rw[<-Array.foldl_toList,Array.toList_zip]
     rw[a3e];generalize (ps.toList.zip xs).foldl (fun t (p:Nat×Value)=>t.setIfInBounds p.1 p.2) a.tmps=tm at z1 z2 z3;have m0:Mt P ⟨c2,X',K'.put l (.loop (rec .ready none))⟩ (ρ++(xs++vals)) β (pe st ps.toList bs) {tmps:=tm,defers:=[]} w:=by
      refine cy (st:={st with rd:=true}) (lv:=ps.toList) (dd:=[]) (bs:=bs) (δ:=2) pP m.n m.kn m.kb (by simp[rK,hvl,pV]) (by rw[<-m.sz];exact z1) m.pb tG hbn (fun u s hl' _ hs=> ?_) (fun k' u pW=> ?_) (fun i B hB=> ?_) ?_
      ·rw[z2 u hl'];exact m.sl u s hs
      ·rw[z3 k' u pW];have oV:=(aH.1 pW).1;rw[bU]at oV;rw[aK,aK,aQ aA]
      ·change st.bl[i]? =some B at hB;have hi:=(aH.1 hB).1;have e1:(match As i bs 0 with|some k=>(xs++vals).getD (ps.toList.length+k) undef|none=>D P ρ B.c)=Hm P ρ st bs vals i:=by
        rw[Xg hB];cases As i bs 0 with
        |none=>rfl
        |some k=>
         simp only[aK,bU];rw[aN aA,rK,gZ]
       rw[e1];refine⟨?_,hf.sz i B hB⟩;rw[<-cz hB];exact uI _ _ (Qd m.inj hi (hβl i hi))
      ·subst qO;refine⟨⟨[],rfl,fQ,aD⟩,m.inj,fun i hi=> .inr (Xe (by rw[Qd m.inj hi (hβl i hi)];simp)),hf.xb,⟨rfl,rfl,rfl,aS _,fun _ _ _=>rfl,a3d,fun b hb=> .inl (Xe (fun e=>hb ?_)),aS _⟩,PH.put_in a0f zS,(fun e=>by cases e),fun _ _=>rfl,aS _,Pl.refl _,fun k' pW=> ?_,fun i hi=> ?_⟩
       ·cases e2:X' b with
        |none=>exact e2
        |some o=>rw[Qe hf b o e2]at e;cases e
       ·rcases a1m _ k' pW with rfl|pW
        ·exact hf.xl
        ·cases e2:X' k' with
         |none=>exact e2
         |some o=>exact absurd (wC k' (by rw[Qe hf k' o e2];simp)) pW
       ·show PH.put K' l _ (β i)=none;unfold PH.put;rw[if_neg (hβl i hi)];exact hKb i hi
     refine ihA c2 0 _ _ tb _ β _ w X' _ _ _ eb m0 (by simp[pe,Bg,hd]) vH PnQ.no ?_|>fun hh=>(by subst qO;exact hh);intro e st1 t1 ρ1 β1 a1 w1 H1 K1' nx1 h1 m1 sL yA tD sM;cases e with
     |exit id=>simp only[dF]at h1;subst h1;exact sM.elim
     |goto l=>simp only[dF]at h1;subst h1;exact sM.elim
     |ret=>simp only[dF]at h1;subst h1;exact sM.elim
     |panic ch=>simp only[dF]at h1;subst h1;exact sM.elim
     |outgrown=>simp only[dF]at h1;subst h1;exact sM.elim
     |normal=>
      have yV:K1' l=some (.loop (rec .ready none)):=m1.kle l _ (by subst qO;show PH.put K' l _ l=_;unfold PH.put;rw[if_pos rfl]);have a1n:=m1.kp l _ yV;refine⟨_,run_beginRound a1n (by rw[sG]),?_⟩;have a1o:({rec .ready none with state:= .busy}:Loop)=rec .busy none:=by rw[sG]
      rw[a1o];have a3f:=y5 a1n;obtain⟨Ds1,d1,d2,d3⟩:=m1.df;have m1':Mt P ⟨{c2 with K0:=K'.put l (.loop (rec .busy none))},H1,K1'.put l (.loop (rec .busy none))⟩ ρ1 β1 st1 {a1 with defers:=a1.defers} (w1.putObj l (.loop (rec .busy none))):=by
       refine m1.turn _ (by rw[yV];simp) (by subst qO;exact .inr hYl) (fun k' o pW=> ?_) (fun k' pW=> ?_) (fun k' o pW=> ?_) ⟨Ds1,d1,d2,fun D hD=>⟨(d3 D hD).1,?_⟩⟩
       ·unfold PH.put at pW;split at pW
        ·rename_i e;subst e;cases pW;exact World.putObj_heap_same a3f
        ·rename_i e;rw[Eh e];exact m1.kp k' o pW
       ·unfold PH.put at pW;split at pW
        ·rename_i e;subst e;rw[yV];simp
        ·exact pW
       ·unfold PH.put at pW⊢;split
        ·rename_i e;rw[if_pos e]at pW;exact pW
        ·rename_i e;rw[if_neg e]at pW;exact m1.kle k' o (by subst qO;show PH.put K' l _ k'=_;unfold PH.put;rw[if_neg e];exact pW)
       ·unfold PH.put;have h5:K1' D=some (.deferred (some [])):=(d3 D hD).2;rw[if_neg (fun e=>by rw[e,yV]at h5;cases h5)];exact h5
      refine ihB {c2 with K0:=K'.put l (.loop (rec .busy none))} 0 st1 _ t1 ρ1 β1 _ _ H1 _ nx1 _ h1 m1' tD sM PnQ.no ?_|>fun hh=>(by subst qO;exact hh);intro e st2 t2 ρ2 β2 a2 w2 H2 K2 nx2 h2 m2 qG uG pE pG;have hpp:ρ<+:ρ2:=((eW _ _).trans sL).trans qG;have hnn:=yA.trans uG;have hK2:∀k' o,(K'.put l (.loop (rec .busy none))) k'=some o->K2 k'=some o:=fun k' o pW=>m2.kle k' o pW;have a3g:=hK2 l _ (by unfold PH.put;rw[if_pos rfl]);have a1p:=m2.kp l _ a3g;have a0g:=y5 a1p;have a1q:∀k' o,K' k'=some o->K2 k'=some o:=fun k' o pW=>hK2 k' o (by unfold PH.put;rw[if_neg (fun e=>by rw[e,hKl]at pW;cases pW)];exact pW);have fin:∀(jump:Option Code) (vals':List Value),Fit P ρ st bs β l vals' H2->(∀i,i<st.bl.length->w2.heap[β i]? =some (Is P ρ st bs vals' i))->
        (Instr.endRound l jump).run P w2= .ok (.bool jump.isNone) (w2.putObj l (.loop (rec (if jump.isNone then .ready else .done) jump)))/\
        Step ((Yof P ρ st bs β l (rec .ready none) vals X').or K') w ((Yof P ρ st bs β l (rec (if jump.isNone then .ready else .done) jump) vals' H2).or K') (w2.putObj l (.loop (rec (if jump.isNone then .ready else .done) jump)))/\
        Disj (Yof P ρ st bs β l (rec (if jump.isNone then .ready else .done) jump) vals' H2) K':=fun jump vals' hf' a3h=>by
       have rO:Step ((Yof P ρ st bs β l (rec .ready none) vals X').or K') w H2 w2:=by have:=m2.fr;subst qO;exact this
       have hj:∀b,Yof P ρ st bs β l (rec (if jump.isNone then .ready else .done) jump) vals' H2 b≠none->K' b=none:=fun b hb=>by
        rcases Qf hb with rfl|⟨i,hi,rfl⟩|hb
        ·exact hKl
        ·exact hKb i hi
        ·cases e2:K' b with
         |none=>rfl
         |some o=>exact absurd (m2.kpH b (by show K2 b≠none;rw[a1q b o e2];simp)) hb
       refine⟨?_,⟨rO.os,rO.tape,rO.output,by rw[World.putObj_size];exact rO.size,fun k' pW qR=> ?_,PH.or_In (EW (World.putObj_heap_same a0g) (fun i hi=> ?_) fun b o hb=> ?_) fun b o hb=> ?_,fun b hb=> ?_,rO.dr⟩,hj⟩
       ·have:=run_endRound (P:=P) jump a1p;rw[this,sG]
       ·rw[Eh (fun e=>by rw[e]at qR;exact hYl qR)];exact rO.block k' pW qR
       ·rw[Eh (hβl i hi)];exact a3h i hi
       ·rw[Eh (fun e=>by rw[e,hf'.xl]at hb;cases hb)];exact m2.fr.holds b o hb
       ·rw[Eh (fun e=>by rw[e,hKl]at hb;cases hb)];exact m2.kp b o (a1q b o hb)
       ·by_cases qJ:K' b=none
        ·rcases Qf (fun e=>hb (PH.or_none.2 ⟨e,qJ⟩))with rfl|⟨i,hi,rfl⟩|hb
         ·exact .inl hYl
         ·exact .inl (Xe (by rw[Qd m.inj hi (hβl i hi)];simp))
         ·exact rO.dom b hb
        ·exact .inl fun e=>qJ (PH.or_none.1 e).2
      have a0h:=fun(j:Nat) (h2:Ww st bs j st2=some t2)=>ZB (l:=l) (c2:={c2 with K0:=K'.put l (.loop (rec .busy none))}) pP m.n hpp h2 m2 (by subst qO;rfl) (by subst qO;rfl) (by show PH.put K' l _ l≠none;unfold PH.put;rw[if_pos rfl];simp) pG;have hnx:∀j,j<2->(nx2.getD (st.d+j) fun _ _=>False)=((nx++[fun v h=>I (pre++[xs]) v h,fun v h=>Ix (pre++[xs]) v h]).getD (st.d+j) fun _ _=>False):=fun j hj=>qk hnn (by simp[hd];omega);cases e with
      |normal=>
       obtain⟨vals',g1,g2,g3,g4⟩:=a0h 0 h2;rw[hnx 0 aA]at g2;have g2:I (pre++[xs]) vals' H2:=by simpa[aK,<-hd]using g2
       obtain⟨q1,q2,q3⟩:=fin none vals' g3 g4;exact⟨_,_,q1,_,_,rfl,q2,q3,.inl ⟨rfl,vals',H2,aA,g2,g3,rfl⟩⟩
      |panic ch=>simp only[Sm,aZ,if_false,dF]at h2;subst h2;exact pG.elim
      |outgrown=>simp only[Sm,aZ,if_false,dF]at h2;subst h2;exact pG.elim
      |goto l=>simp only[Sm,aZ,if_false,dF]at h2;subst h2;exact pG.elim
      |ret=>
       simp only at h2;split at h2
       ·rename_i hx;obtain⟨r0,xB,_⟩:=EX hx;obtain⟨vals',g1,g2,g3,g4⟩:=a0h 1 h2;rw[hnx 1 aA]at g2;have g2:Ix (pre++[xs]) vals' H2:=by simpa[aK,<-hd]using g2
        obtain⟨q1,q2,q3⟩:=fin (some .ret) vals' g3 g4;exact⟨_,_,q1,_,_,rfl,q2,q3,.inr ⟨rfl,vals',H2,_,r0,.ret,xB,.inl ⟨rfl,rfl⟩,aA,g2,g3,rfl⟩⟩
       ·simp only[dF]at h2;subst h2;exact pG.elim
      |exit id=>
       simp only at h2;split at h2
       ·rename_i hx;obtain⟨r0,xB,_⟩:=EX hx;obtain⟨vals',g1,g2,g3,g4⟩:=a0h 1 h2;rw[hnx 1 aA]at g2;have g2:Ix (pre++[xs]) vals' H2:=by simpa[aK,<-hd]using g2
        obtain⟨q1,q2,q3⟩:=fin (some (.exit id)) vals' g3 g4;exact⟨_,_,q1,_,_,rfl,q2,q3,.inr ⟨rfl,vals',H2,_,r0,.exit id,xB,.inr ⟨id,rfl,rfl⟩,aA,g2,g3,rfl⟩⟩
       ·simp only[dF]at h2;subst h2;exact pG.elim
    have fit0:Fit P ρ st bs β l (ib.map (D P ρ)) X:=by
     refine⟨fun i B hB=> ?_,fun i hi=>(hXb i hi).1,hXl X Xin⟩;have e1:Hm P ρ st bs (ib.map (D P ρ)) i=D P ρ B.c:=by
      rw[Xg hB];cases e:As i bs 0 with
      |none=>rfl
      |some k'=>
       obtain⟨k'',rfl,a0i⟩:=Xc e;obtain⟨B2,r1,r2⟩:=pS k'' i a0i;obtain rfl:B2=B:=fG.inj (r1.symm.trans hB);simp[aK,r2]
     rw[e1];exact(m.bl i B hB).2
    have own0:∀i,i<st.bl.length->W.heap[β i]? =some (Is P ρ st bs (ib.map (D P ρ)) i):=fun i hi=>by
     obtain⟨B,hB⟩:∃B,st.bl[i]? =some B:=⟨_,aG hi⟩;rw[cz hB];have e1:Hm P ρ st bs (ib.map (D P ρ)) i=D P ρ B.c:=by
      rw[Xg hB];cases e:As i bs 0 with
      |none=>rfl
      |some k'=>
       obtain⟨k'',rfl,a0i⟩:=Xc e;obtain⟨B2,r1,r2⟩:=pS k'' i a0i;obtain rfl:B2=B:=fG.inj (r1.symm.trans hB);simp[aK,r2]
     rw[e1];exact(m.bl i B hB).1
    have dj0:Disj (Yof P ρ st bs β l (rec .ready none) (ib.map (D P ρ)) X) K1:=fun b hb=>by
     rcases Qf hb with rfl|⟨i,hi,rfl⟩|hb
     ·exact hXl K1 K1in
     ·exact(hXb i hi).2
     ·exact a1l b hb
    have in0:((Yof P ρ st bs β l (rec .ready none) (ib.map (D P ρ)) X).or K1).In W1:=PH.or_In (EW (by rw[hl];exact hL1) (fun i hi=>rG.block (own0 i hi)) (Xin.ext rG)) (K1in.ext rG);refine(yT l (fun pre y=>∃vals X',vals.length=ib.length/\I pre vals X'/\Fit P ρ st bs β l vals X'/\y=Yof P ρ st bs β l (rec .ready none) vals X')
     (fun pre y=>∃vals X' e0 r0 c0,Hl body=e0::r0/\((e0= .ret/\c0=Code.ret)\/∃i,e0= .exit i/\c0=Code.exit i)/\vals.length=ib.length/\Ix pre vals X'/\Fit P ρ st bs β l vals X'/\y=Yof P ρ st bs β l (rec .done (some c0)) vals X')
     ?_ ?_ _ ⟨_,X,aD,hI0,fit0,rfl⟩ dj0 W1 in0).mono ?_
    ·rintro pre y ⟨vals,X',_,h1,h2,rfl⟩;exact(uH pre vals X' h1).trans (Qe h2)
    ·rintro pre xs y K' hE ⟨vals,X',h0,h1,h2,rfl⟩ wC;exact round pre xs vals X' K' hE h0 h1 h2 wC
    ·rintro e W2 ⟨v,H',rfl,pU,Y',K',oW,wC,a1r⟩;have back:∀(r:Loop) (vals':List Value) (X':PH),r.state≠ .busy->Y'=Yof P ρ st bs β l r vals' X'->vals'.length=ib.length->Fit P ρ st bs β l vals' X'->
       (Instr.endLoop l).run P W2= .ok r.pending (W2.putObj l (.loop {r with state:= .exhausted}))/\Disj X' K'/\
       Mt P ⟨c1,X'.or K',K.put W.heap.size (.deferred (some []))⟩ (ρ++vals') β (Bg st [] [] bs 0) {a with defers:=[Jv W.heap.size]++a.defers} (W2.putObj l (.loop {r with state:= .exhausted})):=by
      rintro r vals' X' hr rfl hvl hf;have rW:=pU.less oW;have uI:=(PH.le_or _ K').In rW.holds;have a0f:=(PH.or_r wC).In rW.holds;have sH:=uI l _ Xf;have hKl:K' l=none:=wC l (by rw[Xf];simp);have hXK:Disj X' K':=fun b hb=>wC b (by
       cases e:X' b with
       |none=>exact absurd e hb
       |some o=>rw[Qe hf b o e];simp)
      have hKW:∀b o,K b=some o->b<W.heap.size:=fun b o hb=>y5 (m.kp b o hb);have hKn:∀b,K b≠none->((Yof P ρ st bs β l (rec .ready none) (ib.map (D P ρ)) X).or K1) b=none:=fun b hb=>by
       have h1:H b=none:=m.kpH b hb;rw[hHe]at h1;obtain⟨h2,h3⟩:=PH.or_none.1 h1;refine PH.or_none.2 ⟨?_,h3⟩;cases e:Yof P ρ st bs β l (rec .ready none) (ib.map (D P ρ)) X b with
       |none=>rfl
       |some o=>
        rcases Qf (by rw[e];simp:Yof P ρ st bs β l (rec .ready none) (ib.map (D P ρ)) X b≠none)with rfl|⟨i,hi,rfl⟩|h4
        ·cases e2:K b with
         |none=>exact absurd e2 hb
         |some o2=>have:=hKW _ _ e2;omega
        ·exact absurd (m.kpB i hi) hb
        ·exact absurd h2 h4
      have hDn:((Yof P ρ st bs β l (rec .ready none) (ib.map (D P ρ)) X).or K1) W.heap.size=none:=by
       refine PH.or_none.2 ⟨?_,?_⟩
       ·cases e:Yof P ρ st bs β l (rec .ready none) (ib.map (D P ρ)) X W.heap.size with
        |none=>rfl
        |some o=>
         rcases Qf (by rw[e];simp:Yof P ρ st bs β l (rec .ready none) (ib.map (D P ρ)) X W.heap.size≠none)with h4|⟨i,hi,h4⟩|h4
         ·omega
         ·have:=m.lt hi;omega
         ·cases e2:X W.heap.size with
          |none=>exact absurd e2 h4
          |some o2=>have:=y5 (Xin _ _ e2);omega
       ·cases e:K1 W.heap.size with
        |none=>rfl
        |some o=>have:=y5 (K1in _ _ e);omega
      have xC:∀b,b<W1.heap.size->((Yof P ρ st bs β l (rec .ready none) (ib.map (D P ρ)) X).or K1) b=none->(X'.or K') b=none:=fun b hb hn=>by
       cases e:(X'.or K') b with
       |none=>rfl
       |some o=>
        have h4:(Yof P ρ st bs β l r vals' X').or K' b≠none:=fun e2=>by
         obtain⟨e3,e4⟩:=PH.or_none.1 e2;have e5:X' b=none:=by
          cases e6:X' b with
          |none=>rfl
          |some o=>rw[Qe hf b o e6]at e3;cases e3
         rw[PH.or_none.2 ⟨e5,e4⟩]at e;cases e
        rcases rW.dom b h4 with h5|h5
        ·exact absurd hn h5
        ·omega
      have hKD:K W.heap.size=none:=by
       cases e:K W.heap.size with
       |none=>rfl
       |some o=>have:=hKW _ _ e;omega
      refine⟨run_endLoop sH hr,hXK,cy (lv:=[]) (dd:=[]) (bs:=bs) (δ:=0) pP m.n m.kn m.kb (by simp[hvl,pV]) m.sz m.pb fQ hbn (fun u s _ _ hs=>m.sl u s hs) (fun k' u pW=>by simp at pW) (fun i B hB=> ?_) ?_⟩
      ·have hi:=(aH.1 hB).1;have e1:(match As i bs 0 with|some k=>vals'.getD (([]:List Nat).length+k) undef|none=>D P ρ B.c)=Hm P ρ st bs vals' i:=by
        rw[Xg hB];cases As i bs 0 with
        |none=>rfl
        |some k=>simp only[bR,bP]
       rw[e1,Eh (hβl i hi),<-cz hB];exact⟨uI _ _ (Qd m.inj hi (hβl i hi)),hf.sz i B hB⟩
      ·obtain⟨Ds,d1,d2,d3⟩:=m.df;have rO:=m.fr;refine⟨⟨W.heap.size::Ds,by simp[d1],eD.2 ⟨fun h=> ?_,d2⟩,fun D hD=> ?_⟩,m.inj,m.own,fun i hi=> ?_,⟨rW.os.trans (rG.os.trans rO.os),rW.tape.trans (rG.tape.trans rO.tape),rW.output.trans (rG.output.trans rO.output),?_,fun k' pW qR=> ?_,fun b o hb=> ?_,fun b hb=> ?_,bM rO.dr (bM rG.dr rW.dr)⟩,fun b o hb=> ?_,m.rd,m.ag,m.ln,fun b o hb=> ?_,fun b hb=> ?_,fun i hi=> ?_⟩
       ·have:=(d3 _ h).2;simp only at this;rw[hKD]at this;cases this
       ·rcases aX.1 hD with rfl|hD
        ·exact⟨rO.size,by show PH.put K _ _ _=_;unfold PH.put;rw[if_pos rfl]⟩
        ·refine⟨(d3 D hD).1,?_⟩;show PH.put K _ _ _=_;unfold PH.put;rw[if_neg (fun e=>by have:=(d3 D hD).2;simp only at this;rw[e,hKD]at this;cases this)];exact(d3 D hD).2
       ·exact PH.or_none.2 ⟨hf.xb i hi,wC _ (by rw[Qd m.inj hi (hβl i hi)];simp)⟩
       ·rw[World.putObj_size];exact bM rO.size (bM rG.size rW.size)
       ·have rM:k'<W.heap.size:=aM pW rO.size;rw[Eh aA,rW.block k' aA ?_,rG.block' rM,rO.block k' pW qR];refine PH.or_none.2 ⟨?_,?_⟩
        ·cases e:Yof P ρ st bs β l (rec .ready none) (ib.map (D P ρ)) X k' with
         |none=>rfl
         |some o=>
          rcases Qf (by rw[e];simp:Yof P ρ st bs β l (rec .ready none) (ib.map (D P ρ)) X k'≠none)with h4|⟨i,hi,h4⟩|h4
          ·omega
          ·subst h4;rcases m.own i hi with h5|h5
           ·exact absurd h5 (mH.2 pW)
           ·exact absurd qR h5
          ·have h6:H k'≠none:=by rw[hHe];exact Xe h4
           rcases rO.dom k' h6 with h5|h5
           ·exact absurd qR h5
           ·exact absurd h5 (mH.2 pW)
        ·cases e:K1 k' with
         |none=>rfl
         |some o=>
          have h6:H k'≠none:=by rw[hHe];intro e2;rw[(PH.or_none.1 e2).2]at e;cases e
          rcases rO.dom k' h6 with h5|h5
          ·exact absurd qR h5
          ·exact absurd h5 (mH.2 pW)
       ·change (X'.or K') b=some o at hb;have pI:b≠l:=fun e=>by
         subst e;rw[PH.or_none.2 ⟨hf.xl,hKl⟩]at hb;cases hb
        rw[Eh pI];exact PH.or_In ((Qe hf).In uI) a0f b o hb
       ·by_cases oV:b<W1.heap.size
        ·by_cases uG:((Yof P ρ st bs β l (rec .ready none) (ib.map (D P ρ)) X).or K1) b=none
         ·exact absurd (xC b oV uG) hb
         ·by_cases h7:H b=none
          ·rw[hHe]at h7;obtain⟨h8,h9⟩:=PH.or_none.1 h7;rcases Qf (fun e=>uG (PH.or_none.2 ⟨e,h9⟩))with rfl|⟨i,hi,rfl⟩|h4
           ·right;have:=rO.size;simp only at this⊢;omega
           ·exact absurd (PH.or_none.2 ⟨hf.xb i hi,wC _ (by rw[Qd m.inj hi (hβl i hi)];simp)⟩) hb
           ·exact absurd h8 h4
          ·exact rO.dom b h7
        ·right;have:=rO.size;simp only at this⊢;omega
       ·change (if b=W.heap.size then some (Obj.deferred (some []))else K b)=some o at hb;split at hb
        ·rename_i e;subst e;cases hb;rw[Eh aA,rW.block _ aA hDn];exact hD1
        ·have a0d:=m.kp b o hb;have:=hKW b o hb;rw[Eh aA,rW.block b aA (hKn b (by rw[hb];simp))];exact rG.block a0d
       ·show PH.put K _ _ b=some o;have h4:=m.kle b o hb;have:=hKW b o h4;unfold PH.put;rw[if_neg aA];exact h4
       ·change (if b=W.heap.size then some (Obj.deferred (some []))else K b)≠none at hb;split at hb
        ·rename_i e;subst e;exact xC _ aA hDn
        ·cases e2:K b with
         |none=>exact absurd e2 hb
         |some o=>have:=hKW b o e2;exact xC b aA (hKn b hb)
       ·show PH.put K _ _ (β i)=none;have:=m.lt hi;unfold PH.put;rw[if_neg aA];exact m.kpB i hi
     rcases a1r with⟨xs,hS,vals',X',h0,h1,h2,hY⟩|⟨pre,hS,vals',X',e0,r0,c0,ho,vN,h0,h1,h2,hY⟩
     ·obtain⟨q1,q2,q3⟩:=back _ vals' X' (by rw[sG];simp) hY h0 h2;have q1':(Instr.endLoop l).run P W2= .ok none (W2.putObj l (.loop {rec .ready none with state:= .exhausted})):=by rw[q1,sG]
      refine⟨none,_,q1',?_⟩;exact hQ .normal _ ta (ρ++vals') β _ _ (X'.or K') _ nx ea q3 (eW _ _) (fC _) (by simp[Bg,hd]) (a3b xs vals' X' K' hS q2 h0 h1)
     ·obtain⟨q1,q2,q3⟩:=back _ vals' X' (by rw[sG];simp) hY h0 h2;have q1':(Instr.endLoop l).run P W2= .ok (some c0) (W2.putObj l (.loop {rec .done (some c0)with state:= .exhausted})):=by rw[q1,sG]
      refine⟨some c0,_,q1',?_⟩;have wB:k e0 (Bg st [] [] bs 0)=some te:=by rw[ho]at ee;exact ee
      have:=hQ e0 _ te (ρ++vals') β _ _ (X'.or K') _ nx wB q3 (eW _ _) (fC _) (by simp[Bg,hd]) (a3c pre vals' X' K' hS q2 h0 h1);rcases vN with⟨rfl,rfl⟩|⟨i,rfl,rfl⟩
      ·exact wpIn_ret this
      ·exact wpIn_exit this
   ·cases h
  ·cases h
 ·simp only[dF]at h;subst h;exact oZ.elim
def ZD {C:List Cd} (hm:P.follows .mixedOrders=true):∀(c:Code) (Xp:Value->PH->Prop) (c1:Bs) (rm:Nat) (st:St) (k:Exit->St->Option Tree) (t:Tree) (ρ:List Value) (β:Nat->Nat) (a:Act) (W:World) (H K:PH) (nx:List (List Value->PH->Prop)) (Q:Exit->Act->World->Prop),
  ex P C c st k=some t->Mt P ⟨c1,H,K⟩ ρ β st a W->nx.length=st.d->den P G Xp t nx ρ H->PnQ P c1 Xp Q->
  (∀e st' t' ρ' β' a' W' H' K' nx',k e st'=some t'->Mt P ⟨c1,H',K'⟩ ρ' β' st' a' W'->ρ<+:ρ'->nx<+:nx'->nx'.length=st'.d->den P G Xp t' nx' ρ' H'->Q e a' W')->c.wpIn (Fr c1.ro) rm P Q a W:=by
 intro c;induction c with
 |skip=>intro Xp c1 rm st k t ρ β a W H K nx Q h m hd oZ hX hQ;exact wpIn_skip (hQ _ _ _ _ _ _ _ _ _ _ h m (fC _) (fC _) hd oZ)
 |exit id=>intro Xp c1 rm st k t ρ β a W H K nx Q h m hd oZ hX hQ;exact wpIn_exit (hQ _ _ _ _ _ _ _ _ _ _ h m (fC _) (fC _) hd oZ)
 |ret=>intro Xp c1 rm st k t ρ β a W H K nx Q h m hd oZ hX hQ;exact wpIn_ret (hQ _ _ _ _ _ _ _ _ _ _ h m (fC _) (fC _) hd oZ)
 |region id ops draw=>
  intro Xp c1 rm st k t ρ β a W H K nx Q h m hd oZ hX hQ;have oS:Qc P G Xp c1 rm (.region id ops draw) (exR P C id ops draw):=by
   intro st k t ρ β a W H K nx Q h m hd oZ hX hQ;have tV:Rg st β st β:=⟨fun _ _=>rfl,aS _⟩;have hXT:∀x a' w',a'.defers=a.defers->XT P c1 K Xp a.defers x w'->Q (.panic [{v:=x,recovered:=false}]) a' w':=fun x a' w' h1 ⟨ρ',β',st',a1,H',hm,h2,hx⟩=>hX x ρ' β' st' a1 a' w' H' K hm (h1.trans h2.symm) hx;cases draw with
   |false=>
    simp only[exR]at h;refine WG (X:=XT P c1 K Xp a.defers) (kd:=fun _=>4) (ta:=fun i=>β (0*i)) hXT ?_;exact EP (ρ:=ρ) (dn:=st.d) (nx:=nx) (tg:=fun i=>0*i) (st0:=st) (β0:=β) (fun _ _ _ _=>rfl) (fun i h=>aA) (fun i h=>aA) (fun st2 t2 ρ2 β2 a2 W2 H2 h2 m2 qG pE pG=>hQ _ _ _ _ _ _ _ _ _ _ h2 m2 qG (fC _) (by rw[pE];exact hd) pG) _ st t ρ β a W H rfl h m (fC _) rfl tV oZ
   |true=>
    have hx:=Ext.drawn W;have tags:∀(c:Cd),tgB st.bl.length c=true->∀i,((c.ks.getD i 99=5\/c.ks.getD i 99=6)->c.ts.getD i 0<st.bl.length)/\(c.ks.getD i 99=8->c.ts.getD i 0=0\/st.bl.length<=c.ts.getD i 0):=fun c hTg i=>by
     rcases eB i c.ks.length with oV|yW
     ·have:=dC.1 hTg i (bH.2 oV);simp only[aT,cV,kA,Bool.or_eq_false_iff,beq_eq_false_iff_ne,decide_eq_true_eq,beq_iff_eq]at this;obtain⟨h1,h2⟩:=this;refine⟨fun hi=> ?_,fun hi=> ?_⟩
      ·rcases h1 with⟨h1,h1'⟩|h1
       ·exact absurd hi aA
       ·exact h1
      ·rcases h2 with h2|h2
       ·exact absurd hi h2
       ·exact h2
     ·have e:c.ks.getD i 99=99:=by rw[aK,aP yW];rfl
      rw[e];exact⟨fun h=>aA,fun h=>aA⟩
    have one:∀(c:Cd) (t0:Tree),(∀i,(c.ks.getD i 99=5\/c.ks.getD i 99=6)->c.ts.getD i 0<st.bl.length)->(∀i,c.ks.getD i 99=8->c.ts.getD i 0=0\/st.bl.length<=c.ts.getD i 0)->(c.F.all fun i=>frK (c.ks.getD i 99))=true->
      Aq P true (ckC P c) ops id (fun st'=>Aq P false (ckC P c) ops id (k .normal) c.T st') c.F st=some t0->den P G Xp t0 nx ρ H->
      wpF P ops (fun i=>c.ks.getD i 99) (fun i=>β (c.ts.getD i 0)) W.heap.size (wpT P (XT P c1 K Xp a.defers) ops (fun i=>c.ks.getD i 99) (fun i=>β (c.ts.getD i 0)) (Q .normal) c.T) c.F [] a {W with drawn:=W.drawn+1}:=fun c t0 vG rO hF h oZ=>by
     refine YK (ρ:=ρ) (dn:=st.d) (nx:=nx) (kd:=fun i=>c.ks.getD i 99) (tg:=fun i=>c.ts.getD i 0) (st0:=st) (β0:=β) m.fr.size (fun k hk=>by
       cases e:K k with
       |none=>exact absurd e hk
       |some ob=>exact y5 (m.kp k ob e)) (fun _ _ _ h=>h) vG (fun st' t' ρ' β' a' W' H' a3i h' m' hp pL pR pN=> ?_) _ [] st t0 ρ β a _ H rfl (fun i hi=> ?_) h (m.ext hx) (fC _) rfl tV (fun i hi=> .inl (m.lt hi)) (fun b hb=> ?_) oZ
     ·exact EP (ρ:=ρ) (dn:=st.d) (nx:=nx) (kd:=fun i=>c.ks.getD i 99) (tg:=fun i=>c.ts.getD i 0) (st0:=st) (β0:=β) (fun _ _ _ h=>h) vG rO (fun st2 t2 ρ2 β2 a2 W2 H2 h2 m2 qG pE pG=>hQ _ _ _ _ _ _ _ _ _ _ h2 m2 qG (fC _) (by rw[pE];exact hd) pG) _ st' t' ρ' β' a' W' H' a3i h' m' hp pL pR pN
     ·exact dC.1 hF i hi
     ·cases e:H b with
      |none=>exact absurd e hb
      |some ob=>exact .inl (y5 (m.fr.holds b ob e))
    have frs:∀{ops':Array Oper} {c:Cd},Lu ops' (Cc ops'.toList []) (fun i=>c.ks.getD i 99) (fun i=>c.ts.getD i 0) c.F c.T=true->(c.F.all fun i=>frK (c.ks.getD i 99))=true:=fun hB=>by
     simp only[Lu,aT]at hB;exact hB.1.1.1.2
    simp only[exR]at h;split at h
    ·split at h
     ·split at h
      ·rename_i hCB;simp only[Wt,aT,beq_iff_eq,bne_iff_ne]at hCB;obtain⟨sO,⟨⟨hA1,hT1⟩,hB1⟩,⟨hA2,hT2⟩,hB2⟩:=hCB;rw[hA1]at hB1;rw[hA2]at hB2;have g1:=fun i=>(tags _ hT1 i).1;have g2:=fun i=>(tags _ hT2 i).1;split at h
       ·rename_i h1 h2;simp only[dF]at h;subst h;exact WE hm sO (DJ hB1 (fun i j hi hj pI e=>pI (m.inj _ _ (g1 i hi) (g1 j hj) e)) hXT (one _ _ g1 (fun i=>(tags _ hT1 i).2) (frs hB1) h1 oZ.1))
         (DJ hB2 (fun i j hi hj pI e=>pI (m.inj _ _ (g2 i hi) (g2 j hj) e)) hXT (one _ _ g2 (fun i=>(tags _ hT2 i).2) (frs hB2) h2 oZ.2))
       ·cases h
      ·simp only[dF]at h;subst h;exact oZ.elim
     ·simp only[dF]at h;subst h;exact oZ.elim
    ·split at h
     ·rename_i c hfc;split at h
      ·rename_i hCB;simp only[Wt,aT,beq_iff_eq]at hCB;obtain⟨⟨hA,hTg⟩,hB⟩:=hCB;rw[hA]at hB;have vG:=fun i=>(tags c hTg i).1;exact CZ (kd:=fun i=>c.ks.getD i 99) (tg:=fun i=>c.ts.getD i 0) (ta:=fun i=>β (c.ts.getD i 0)) hm hB (fun i j hi hj pI e=>pI (m.inj _ _ (vG i hi) (vG j hj) e)) hXT (one c t vG (fun i=>(tags c hTg i).2) (frs hB) h oZ)
      ·simp only[dF]at h;subst h;exact oZ.elim
     ·simp only[dF]at h;subst h;exact oZ.elim
  simp only[ex]at h;split at h
  ·exact qm oS _ _ st k t ρ β a W H K nx Q h m hd oZ hX hQ
  ·exact oS st k t ρ β a W H K nx Q h m hd oZ hX hQ
 |seq x y ihx ihy=>
  intro Xp c1 rm st k t ρ β a W H K nx Q h m hd oZ hX hQ;simp only[ex]at h;refine wpIn_seq (ihx Xp c1 rm st _ t ρ β a W H K nx _ h m hd oZ (hX.of fun _ _ _ h=>h) fun e st' t' ρ' β' a' W' H' K' nx' h' m' hp hn pL pN=> ?_);cases e with
  |normal=>exact ihy Xp c1 rm st' k t' ρ' β' a' W' H' K' nx' Q h' m' pL pN hX fun e2 st2 t2 ρ2 β2 a2 W2 H2 K2 nx2 h2 m2 qG uG pE pG=>hQ _ _ _ _ _ _ _ _ _ _ h2 m2 (hp.trans qG) (hn.trans uG) pE pG
  |exit id=>exact hQ _ _ _ _ _ _ _ _ _ _ h' m' hp hn pL pN
  |goto l=>exact hQ _ _ _ _ _ _ _ _ _ _ h' m' hp hn pL pN
  |ret=>exact hQ _ _ _ _ _ _ _ _ _ _ h' m' hp hn pL pN
  |panic ch=>exact hQ _ _ _ _ _ _ _ _ _ _ h' m' hp hn pL pN
  |outgrown=>exact hQ _ _ _ _ _ _ _ _ _ _ h' m' hp hn pL pN
 |cond c x y ihx ihy=>
  intro Xp c1 rm st k t ρ β a W H K nx Q h m hd oZ hX hQ;have oS:Qc P G Xp c1 rm (.cond c x y) fun st k=>match(st.val c).map (Me st.kb)with
    |some (.k (.bool true))=>ex P C x st k
    |some (.k (.bool false))=>ex P C y st k
    |some s=>match amO st.am c with
     |some true=>Fo P [.isb true s] st fun st=>ex P C x (st.know P s true) k
     |some false=>Fo P [.isb false s] st fun st=>ex P C y (st.know P s false) k
     |none=>Fo P [.bool s] st fun st=>
      match ex P C x (st.know P s true) k,ex P C y (st.know P s false) k with
      |some t1,some t2=>some (.br s t1 t2)
      |_,_=>none
    |none=>none:=by
   intro st k t ρ β a W H K nx Q h m hd oZ hX hQ;simp only at h;cases hv:st.val c with
   |none=>simp[hv]at h
   |some s=>
    simp only[hv,cJ]at h;have he:=m.val hv;have hD:=px (P:=P) (ρ:=ρ) m.kb s;split at h
    ·rename_i hl;simp only[dF]at hl;rw[hl]at hD;exact wpIn_cond_true (by rw[he,<-hD];rfl) (ihx Xp c1 rm st k t ρ β a W H K nx Q h m hd oZ hX hQ)
    ·rename_i hl;simp only[dF]at hl;rw[hl]at hD;exact wpIn_cond_false (by rw[he,<-hD];rfl) (ihy Xp c1 rm st k t ρ β a W H K nx Q h m hd oZ hX hQ)
    ·rename_i c' _ _ hl;simp only[dF]at hl;rw[hl]at hD;split at h
     ·obtain⟨st',t',h1,h2,h3,h4,h5⟩:=Ss h m.kn oZ;have hb:D P ρ c'= .bool true:=h3 (.isb true c') aD;exact wpIn_cond_true (by rw[he,<-hD];exact hb) (ihx Xp c1 rm _ k t' ρ β a W H K nx Q h4 ((m.more h1 h2).know hb) (by simp only[St.know];rw[h1.d];exact hd) h5 hX hQ)
     ·obtain⟨st',t',h1,h2,h3,h4,h5⟩:=Ss h m.kn oZ;have hb:D P ρ c'= .bool false:=h3 (.isb false c') aD;exact wpIn_cond_false (by rw[he,<-hD];exact hb) (ihy Xp c1 rm _ k t' ρ β a W H K nx Q h4 ((m.more h1 h2).know hb) (by simp only[St.know];rw[h1.d];exact hd) h5 hX hQ)
     obtain⟨st',t',h1,h2,h3,h4,h5⟩:=Ss h m.kn oZ;obtain⟨b,hb⟩:∃b,D P ρ c'= .bool b:=h3 (.bool c') aD;have m':=m.more h1 h2;split at h4
     ·rename_i t1 t2 e1 e2;simp only[dF]at h4;subst h4;cases b with
      |true=>exact wpIn_cond_true (by rw[he,<-hD];exact hb) (ihx Xp c1 rm _ k t1 ρ β a W H K nx Q e1 (m'.know hb) (by simp only[St.know];rw[h1.d];exact hd) (h5.1 hb) hX hQ)
      |false=>exact wpIn_cond_false (by rw[he,<-hD];exact hb) (ihy Xp c1 rm _ k t2 ρ β a W H K nx Q e2 (m'.know hb) (by simp only[St.know];rw[h1.d];exact hd) (h5.2 hb) hX hQ)
     ·cases h4
    ·rename_i hl;cases hl
  simp only[ex]at h;split at h
  ·exact qm oS _ _ st k t ρ β a W H K nx Q h m hd oZ hX hQ
  ·exact oS st k t ρ β a W H K nx Q h m hd oZ hX hQ
 |block id x ih=>
  intro Xp c1 rm st k t ρ β a W H K nx Q h m hd oZ hX hQ;have oS:Qc P G Xp c1 rm (.block id x) fun st k=>ex P C x st fun e st=>match e with
    | .exit j=>if j=id then k .normal st else k (.exit j) st
    |e=>k e st:=by
   intro st k t ρ β a W H K nx Q h m hd oZ hX hQ;simp only at h;refine wpIn_block (ih Xp c1 rm st _ t ρ β a W H K nx _ h m hd oZ (hX.of fun _ _ _ h=>h) fun e st' t' ρ' β' a' W' H' K' nx' h' m' hp hn pL pN=> ?_);cases e with
   |exit j=>
    simp only[Exit.inBlock];simp only at h';split at h'
    ·rename_i e;rw[if_pos e];exact hQ _ _ _ _ _ _ _ _ _ _ h' m' hp hn pL pN
    ·rename_i e;rw[if_neg e];exact hQ _ _ _ _ _ _ _ _ _ _ h' m' hp hn pL pN
   |normal=>exact hQ _ _ _ _ _ _ _ _ _ _ h' m' hp hn pL pN
   |goto l=>exact hQ _ _ _ _ _ _ _ _ _ _ h' m' hp hn pL pN
   |ret=>exact hQ _ _ _ _ _ _ _ _ _ _ h' m' hp hn pL pN
   |panic ch=>exact hQ _ _ _ _ _ _ _ _ _ _ h' m' hp hn pL pN
   |outgrown=>exact hQ _ _ _ _ _ _ _ _ _ _ h' m' hp hn pL pN
  simp only[ex]at h;split at h
  ·exact qm oS _ _ st k t ρ β a W H K nx Q h m hd oZ hX hQ
  ·exact oS st k t ρ β a W H K nx Q h m hd oZ hX hQ
 |loop b ih=>
  intro Xp c1 rm st k t ρ β a W H K nx Q h m hd oZ hX hQ;simp only[ex]at h;split at h
  ·rename_i iv ib hiv hib;split at h
   ·rename_i hc;rw[aT]at hc;obtain⟨pP,qA⟩:=hc;have qA:=Xd qA;rw[fJ]at h;obtain⟨tb,h,rfl⟩:=h;obtain⟨I,μ,hI0,hI⟩:=oZ;obtain⟨qD,sH⟩:=cx hiv;obtain⟨pV,pS⟩:=Su hib;have uE:(Px st.sl (Ci b)).Nodup:=(YN _).filter _;have a0e:∀u,u∈Ci b->u<st.sl.length->u∈Px st.sl (Ci b)\/u∈pa st.sl (Ci b):=fun u hu oV=>by
     cases zR:oz st.sl[u]with
     |true=>exact .inl (dJ.2 ⟨hu,by simp[oV,zR]⟩)
     |false=>exact .inr (dJ.2 ⟨hu,by simp[oV,zR]⟩)
    have gl:∀(l:List SV) (ρ':List Value) (j:Nat) (s:SV),l[j]? =some s->(l.map (D P ρ')).getD j undef=D P ρ' s:=fun l ρ' j s hj=>by
     simp[aK,hj]
    refine YU (fun n a' W'=>∃vals β' H' K',vals.length=(iv++ib).length/\I vals H'/\μ vals H'=n/\Mt P ⟨c1,H',K'⟩ (ρ++vals) β' (Bg st (Px st.sl (Ci b)) (pa st.sl (Ci b)) (Pz st b) 1) a' W') (μ _ H) ⟨(iv++ib).map (D P ρ),β,H,K,aD,hI0,rfl,?_⟩ ?_
    ·refine cy pP m.n m.kn m.kb (by rw[aW,aL,qD,pV]) m.sz m.pb uE qA (fun u s _ _ hs=>m.sl u s hs) (fun k' u pW=> ?_) (fun i B hB=> ?_) m.bk
     ·obtain⟨s,hs,rM⟩:=sH k' u pW;obtain⟨v,hv,xZ⟩:=m.sl u _ hs;rw[hv];congr 1;rw[gl _ ρ k' s]
      ·exact xZ
      ·rw[aQ (aH.1 rM).1];exact rM
     ·cases hp:As i (Pz st b) 0 with
      |some k'=>
       obtain⟨k'',rfl,pW⟩:=Xc hp;obtain⟨B2,hB2,hq⟩:=pS k'' i pW;obtain rfl:B2=B:=fG.inj (hB2.symm.trans hB);have e:((iv++ib).map (D P ρ)).getD ((Px st.sl (Ci b)).length+(0+k'')) undef=D P ρ B2.c:=gl _ _ _ _ (by
        rw[aN aA,qD,bP,gZ];exact hq)
       simp only[e];exact m.bl i B2 hB
      |none=>simp only;exact m.bl i B hB
    ·rintro n a1 W1 ⟨vals,β1,H2,K2,hvl,hIv,hμ,m1⟩;refine ih Xp c1 rm _ _ tb (ρ++vals) β1 a1 W1 H2 K2 (nx++[fun l w=>I l w/\μ l w<μ vals H2]) _ h m1 (by simp[Bg,hd]) (hI vals H2 hvl hIv) (hX.of fun _ _ _ h=>h) ?_;intro e st2 t2 ρ2 β2 a2 W2 H3 K3 nx2 h2 m2 qG uG pE pG;have hpρ:ρ<+:ρ2:=(eW _ _).trans qG;have tG:nx<+:nx2:=(eW _ _).trans uG;cases e with
     |normal=>
      simp only at h2;split at h2
      ·rename_i nv nb hnv qH;split at h2
       ·rename_i rV;rw[aT]at rV;simp only[dF]at h2;subst h2;have hh:=pG;have e1:nx2.getD st.d (fun _ _=>False)=fun l w=>I l w/\μ l w<μ vals H2:=by
         rw[qk uG (by simp[hd])];simp[aK,<-hd]
        simp only[den]at hh;rw[e1]at hh;obtain⟨hIn,oV⟩:=hh;obtain⟨r,rfl⟩:=hpρ;refine⟨μ _ H3,by rw[<-hμ];exact oV,(nv++nb).map (D P (ρ++r)),β2,H3,K3,?_,hIn,rfl,?_⟩
        ·rw[aW,aL,aL,(cx hnv).1,(Su qH).1,qD,pV]
        ·exact EV pP m m2 uE qA a0e hnv qH rV.1 rV.2
       ·simp only[dF]at h2;subst h2;exact pG.elim
      ·simp only[dF]at h2;subst h2;exact pG.elim
     |exit id=>exact hQ _ _ _ _ _ _ _ _ _ _ h2 m2 hpρ tG pE pG
     |goto l=>exact hQ _ _ _ _ _ _ _ _ _ _ h2 m2 hpρ tG pE pG
     |ret=>exact hQ _ _ _ _ _ _ _ _ _ _ h2 m2 hpρ tG pE pG
     |panic ch=>exact hQ _ _ _ _ _ _ _ _ _ _ h2 m2 hpρ tG pE pG
     |outgrown=>exact hQ _ _ _ _ _ _ _ _ _ _ h2 m2 hpρ tG pE pG
   ·cases h
  ·cases h
 |rangeFunc g ps asg body ihA ihB=>
  intro Xp c1 rm st k t ρ β a W H K nx Q h m hd oZ hX hQ;exact ZC (ihA noP) (ihB noP) h m hd oZ hQ
 |scope x ih=>
  intro Xp c1 rm st k t ρ β a W H K nx Q h m hd oZ hX hQ;simp only[ex]at h;refine YW (ih Xp c1 rm st _ t ρ β a W H K nx _ h m hd oZ (hX.of fun _ _ _ h=>h) fun e st' t' ρ' β' a' W' H' K' nx' h' m' hp hn pL pN=> ?_);cases e with
  |goto l=>simp only[dF]at h';subst h';exact pN.elim
  |exit id=>exact hQ _ _ _ _ _ _ _ _ _ _ h' m' hp hn pL pN
  |normal=>exact hQ _ _ _ _ _ _ _ _ _ _ h' m' hp hn pL pN
  |ret=>exact hQ _ _ _ _ _ _ _ _ _ _ h' m' hp hn pL pN
  |panic ch=>exact hQ _ _ _ _ _ _ _ _ _ _ h' m' hp hn pL pN
  |outgrown=>exact hQ _ _ _ _ _ _ _ _ _ _ h' m' hp hn pL pN
 |label l=>intro Xp c1 rm st k t ρ β a W H K nx Q h m hd oZ hX hQ;exact wpIn_label (hQ _ _ _ _ _ _ _ _ _ _ h m (fC _) (fC _) hd oZ)
 |goto l=>intro Xp c1 rm st k t ρ β a W H K nx Q h m hd oZ;simp only[ex,dF]at h;subst h;exact fun _ _=>oZ.elim
 |refuse s=>intro Xp c1 rm st k t ρ β a W H K nx Q h m hd oZ;simp only[ex,dF]at h;subst h;exact fun _ _=>oZ.elim
def It (tmps:Array Value):ResultVar->Sem Value
 | .tmp t=>pure (tmps.getD t undef)
 | .cell a t=>do loadVar t (<-asAddr (tmps.getD a undef))
def qo {T:TypeId} {t:Tmp} {v:Value} {W':World} (oS:(execOp a.eval (ldO T t)).run P W'= .ok (.value v) W'):(It a.tmps (.cell t T)).run P W'= .ok v W':=by
 simp only[execOp,ldO,eM]at oS;unfold It;show(asAddr (a.eval (.tmp t))>>=loadVar T).run P W'=_;unfold Instr.loadAt at oS;generalize a.eval (.tmp t)=x at oS;cases x with
 |pointer p=>
  cases p with
  |none=>simp[Instr.sureAddr]at oS
  |some ad=>
   simp only[Instr.sureAddr,eM,eO,eL]at oS;simp only[asAddr,eM,eO,eL];cases hl:(loadVar T ad).run P W' with
   |ok x w=>rw[hl]at oS;simp at oS;obtain⟨rfl,rfl⟩:=oS;rfl
   |halt x w=>rw[hl]at oS;simp[Result.andThen]at oS
 |_=>simp[Instr.sureAddr]at oS
def ZE {c1:Bs} {H K:PH} {nx:List (List Value->PH->Prop)}:∀{rs:List ResultVar} {st:St} {ρ:List Value} {l:List SV} {t:Tree},Mt P ⟨c1,H,K⟩ ρ β st a W->Jt P st rs l=some t->den P G Xp t nx ρ H->∃vs,(rs.mapM (It a.tmps)).run P W= .ok vs W/\G (y9 (l.map (D P ρ)++vs)) H:=by
 intro rs;induction rs with
 |nil=>
  intro st ρ l t m h hd;simp only[Jt,dF]at h;subst h;exact⟨[],rfl,by rw[dM];exact hd⟩
 |cons r rs ih=>
  intro st ρ l t m h hd;cases r with
  |tmp u=>
   simp only[Jt]at h;split at h
   ·rename_i s hs;obtain⟨vs,h1,h2⟩:=ih m h hd;obtain⟨v,hv,hm⟩:=m.sl u _ hs;have e:a.tmps.getD u undef=D P ρ s:=by
     rw[bX,hv];exact hm
    refine⟨D P ρ s::vs,?_,?_⟩
    ·simp only[jQ,eM,It,eO,eL,h1,e]
    ·rw[bI,bL]at h2;exact h2
   ·cases h
  |cell u T=>
   simp only[Jt]at h;split at h
   ·rename_i s hs;obtain⟨vs,h1,h2⟩:=ih m h hd;have xE:=qh m (o:=ldO T u) (T:=T) (x:= .tmp u) rfl;rw[hs]at xE;obtain⟨_,_,v,hv,oS⟩:=xE aD;have hv:v=D P ρ s:=hv;have e:=qo (oS W (.inr (.inl (Ext.refl _))));rw[hv]at e;refine⟨D P ρ s::vs,?_,?_⟩
    ·simp only[jQ,eM,e,eL,h1,eO]
    ·rw[bI,bL]at h2;exact h2
   ·rename_i x hs;split at h
    ·rename_i pP;simp only[aT]at pP;rw[fJ]at h;obtain⟨t2,h2,rfl⟩:=h;obtain⟨v,hv,pE⟩:=hd;have xE:=qh m (o:=ldO T u) (T:=T) (x:= .tmp u) rfl;rw[hs]at xE;obtain⟨_,oS⟩:=xE aD;have hv:=hv W m.fr.holds;rw[<-oS]at hv;have e:=qo hv;obtain⟨vs,h3,h4⟩:=ih (m.bind pP.1.1 v none) h2 pE;refine⟨v::vs,?_,?_⟩
     ·simp only[jQ,eM,e,eL,h3,eO]
     ·have hl:l.map (D P (ρ++[v]))=l.map (D P ρ):=dA fun y hy=>Ey P ρ [v] y (by rw[m.n];exact dC.1 pP.2 y hy);rw[bI,bL,hl]at h4;have wF:D P (ρ++[v]) (.v st.n)=v:=by
       show(ρ++[v]).getD st.n undef=v;rw[<-m.n];simp
      rw[aU,cN,wF]at h4;exact h4
    ·cases h
   ·cases h
def qp {fn:Func} {tmps:Array Value} {l:List Value} {w:World} (h:(fn.results.toList.mapM (It tmps)).run P w= .ok l w):(results fn tmps).run P w= .ok (y9 l) w:=by
 unfold results;have e:(fn.results.mapM (It tmps)).run P w= .ok l.toArray w:=by
  rw[Array.mapM_eq_mapM_toList];have:(List.toArray<$>fn.results.toList.mapM (It tmps):Sem (Array Value))=(fn.results.toList.mapM (It tmps)>>=fun x=>pure x.toArray):=rfl;rw[this,eM,h];rfl
 show((fn.results.mapM (It tmps))>>=fun vs=>pure (if h:vs.size=1 then vs[0]else .tuple vs)).run P w=_;rw[eM,e];simp only[eL,eO];congr 1
 match l with
 |[]=>rfl
 |[x]=>rfl
 |x::y::r=>simp[y9]
def EY (hm:P.follows .mixedOrders=true) {f:FuncId} {E:List Nat} {A:List (Nat×Bool)} {J:List Jn} {C:List Cd} {t:Tree} (ht:g6 P E A J C f=some t) (args:List Value) {np:Nat} (uV:(P.funcs[f]?).map (fun fn=>fn.params.size+fn.nfree)=some np) (pQ:args.length=np) {H:PH} (oZ:den P G Xp t [] args H) (W:World) (pT:H.In W):
  Calls P f args.toArray W fun e w'=>(∃v H',e= .returned v/\Step H W H' w'/\G v H')\/(∃x H',e=pnE x/\Step H W H' w'/\Xp x H'):=by
 unfold g6 at ht;split at ht
 ·rename_i fn hf;split at ht
  ·rename_i c hc;rw[hf]at uV;simp only[cJ,dF]at uV;rw[uV]at ht;refine(callsIn_wide (n:=0)).1 (callsIn_of_wp_marks hf hc trivial ?_);refine ZD (G:=G) hm c Xp ⟨W,H,none,0,fun _=>0,fun _=>none⟩ 0 _ _ t args (fun _=>0) _ W H (fun _=>none) [] _ ht ?_ rfl oZ ?_ ?_
   ·refine{sz:=by simp[pQ],sl:= ?_,pb:= ?_,df:=⟨[],rfl,fQ,aD⟩,n:=pQ,bl:=fun b B h=>by simp at h,inj:=fun b b' h=>by simp at h,own:=fun b h=>by simp at h,sep:=fun b h=>by simp at h,fr:=Step.refl pT,kp:=(fun b o h=>by cases h),rd:=fun _=>rfl,kle:=(fun _ _ h=>by cases h),ag:=(fun b h=>by simp at h),ln:=bJ _,kpH:=fun k h=>absurd rfl h,kpB:=fun b h=>by simp at h,kn:=by simp,kb:=by simp}
    ·intro u s hs;simp only at hs;by_cases hu:u<np
     ·rw[aQ (by simpa using hu)]at hs;simp[hu]at hs;subst hs;refine⟨args[u]'aA,?_,?_⟩
      ·rw[dQ (by simpa[pQ]using hu)];simp[pQ,hu]
      ·show _=args.getD u undef;simp[aK,pQ,hu]
     ·rw[aN (by simpa using hu)]at hs;have tW:=(aH.1 hs).1;rw[cZ]at hs;split at hs
      ·rename_i oV;simp only[dF]at hs;subst hs;refine⟨undef,?_,rfl⟩;rw[Array.getElem?_append_right (by simp[pQ];omega),Array.getElem?_replicate,if_pos];simp[pQ]at oV⊢;omega
      ·cases hs
    ·intro u b o s i hs;simp only at hs;have:=aJ hs;simp at this
   ·intro x ρ' β' st' a' a'' W' H' K' m' qB hx;obtain⟨Ds,d1,d2,d3⟩:=m'.df;show LeavesInM _ _ _ _ _ _ a''.defers _ W';rw[qB];exact YY aF (fun K'' a1 W1 m1=> .inr ⟨x,H',rfl,m1.fr,hx⟩) Ds _ a' W' a''.tmps m' d1 d2 d3
   ·intro e st' t' ρ' β' a' W' H' K' nx' h' m' hp hn pL pN;have fin:Jt P st' fn.results.toList []=some t'->LeavesInM Fence.wide 0 P fn a'.tmps (fun e w'=>(∃v H',e= .returned v/\Step H W H' w'/\G v H')\/(∃x H',e=pnE x/\Step H W H' w'/\Xp x H')) a'.defers .returning W':=fun h'=>by
     obtain⟨Ds,d1,d2,d3⟩:=m'.df;refine YX aF (fun K'' a'' W'' m'' e''=> ?_) Ds _ a' W' m' rfl d1 d2 d3;obtain⟨vs,h1,h2⟩:=ZE m'' h' pN;exact⟨_,by rw[<-e''];exact qp h1,.inl ⟨_,_,rfl,m''.fr,h2⟩⟩
    cases e with
    |normal=>exact fin h'
    |ret=>exact fin h'
    |exit id=>cases h'
    |goto l=>cases h'
    |panic ch=>cases h'
    |outgrown=>cases h'
  ·cases ht
 ·cases ht
def EZ (hm:P.follows .mixedOrders=true) {f:FuncId} {E:List Nat} {A:List (Nat×Bool)} {J:List Jn} {C:List Cd} {t:Tree} (ht:g6 P E A J C f=some t) (args:List Value) {np:Nat} (uV:(P.funcs[f]?).map (fun fn=>fn.params.size+fn.nfree)=some np) (pQ:args.length=np) {H:PH} (oZ:den P G noP t [] args H) (W:World) (pT:H.In W):
  Calls P f args.toArray W fun e w'=>∃v H',e= .returned v/\Step H W H' w'/\G v H':=
 (EY hm ht args uV pQ oZ W pT).mono fun _ _ h=>h.resolve_right fun⟨_,_,_,_,hx⟩=>hx
end
open Go.RowKit
def Iu (id:Nat):Code->Option (Array Oper)
 | .region j ops _=>if j=id then some ops else none
 | .seq a b=>(Iu id a).orElse fun _=>Iu id b
 | .cond _ a b=>(Iu id a).orElse fun _=>Iu id b
 | .block _ a=>Iu id a
 | .loop a=>Iu id a
 | .scope a=>Iu id a
 | .rangeFunc _ _ a c=>(Iu id a).orElse fun _=>Iu id c
 |_=>none
def opr (fn:Func) (id i:Nat):Oper:=(((fn.body.bind (Iu id)).bind (·[i]?))).getD default
def Det (P:Program) (f:FuncId) (args:List Value) (v:Value):Prop:=∀w,Calls P f args.toArray w fun e w'=>e= .returned v/\Ext w w'
def Yld (P:Program) (o:Oper) (args:List Value) (v:Value):Prop:=∀w,(execOp (e8 o.op.operands.toList args) o).run P w= .ok (.value v) w
def Own (P:Program) (f:FuncId) (args:List Value) (v:Value):Prop:=∀w,(callFunc f args.toArray).run P w= .ok (.value v) w
def Run (P:Program) (o:Oper) (args:List Value) (v:Value):Prop:=∀w,Stp P o (e8 o.op.operands.toList args) w fun v' w'=>v'=v/\Ext w w'
def Con (P:Program) (f:FuncId) (args:List Value) (H:PH) (V:Value->PH->Prop):Prop:=
 ∀w,H.In w->Calls P f args.toArray w fun e w'=>∃v H',e= .returned v/\Step H w H' w'/\V v H'
def Opn (P:Program) (o:Oper) (args:List Value) (H:PH) (V:Value->PH->Prop):Prop:=
 ∀w,H.In w->Stp P o (e8 o.op.operands.toList args) w fun v w'=>∃H',Step H w H' w'/\V v H'
def Rds (P:Program) (o:Oper) (args:List Value) (H:PH) (v:Value):Prop:=∀w,H.In w->(execOp (e8 o.op.operands.toList args) o).run P w= .ok (.value v) w
def Step.of_ext {H:PH} {w w':World} (h:H.In w) (hx:Ext w w'):Step H w H w':=(Step.refl h).ext hx
def Det.con {P:Program} {f:FuncId} {args:List Value} {v:Value} (h:Det P f args v) (H:PH):Con P f args H fun u H'=>u=v/\H'=H:=
 fun w hw=>(h w).mono fun e w' ⟨he,hx⟩=>⟨v,H,he,Step.of_ext hw hx,rfl,rfl⟩
def Con.mono {P:Program} {f:FuncId} {args:List Value} {H:PH} {V V':Value->PH->Prop} (h:Con P f args H V) (hv:∀v H',V v H'->V' v H'):Con P f args H V':=
 fun w hw=>(h w hw).mono fun e w' ⟨v,H',he,hs,hV⟩=>⟨v,H',he,hs,hv v H' hV⟩
def Opn.mono {P:Program} {o:Oper} {args:List Value} {H:PH} {V V':Value->PH->Prop} (h:Opn P o args H V) (hv:∀v H',V v H'->V' v H'):Opn P o args H V':=
 fun w hw=>(h w hw).mono fun v w' ⟨H',hs,hV⟩=>⟨H',hs,hv v H' hV⟩
def Yld.rds {P:Program} {o:Oper} {args:List Value} {v:Value} (h:Yld P o args v) (H:PH):Rds P o args H v:=fun w _=>h w
def ConX (P:Program) (f:FuncId) (args:List Value) (H:PH) (V X:Value->PH->Prop):Prop:=
 ∀w,H.In w->Calls P f args.toArray w fun e w'=>(∃v H',e= .returned v/\Step H w H' w'/\V v H')\/(∃x H',e=pnE x/\Step H w H' w'/\X x H')
def OpnX (P:Program) (o:Oper) (args:List Value) (H:PH) (V X:Value->PH->Prop):Prop:=
 ∀w,H.In w->StpX P (fun x w'=>∃H',Step H w H' w'/\X x H') o (e8 o.op.operands.toList args) w fun v w'=>∃H',Step H w H' w'/\V v H'
def Con.toX {P:Program} {f:FuncId} {args:List Value} {H:PH} {V X:Value->PH->Prop} (h:Con P f args H V):ConX P f args H V X:=fun w hw=>(h w hw).mono fun _ _ hh=> .inl hh
def ConX.mono {P:Program} {f:FuncId} {args:List Value} {H:PH} {V V' X X':Value->PH->Prop} (h:ConX P f args H V X) (hv:∀v H',V v H'->V' v H') (hx:∀v H',X v H'->X' v H'):ConX P f args H V' X':=
 fun w hw=>(h w hw).mono fun e w' hh=>hh.imp (fun⟨v,H',he,hs,hV⟩=>⟨v,H',he,hs,hv v H' hV⟩) (fun⟨v,H',he,hs,hV⟩=>⟨v,H',he,hs,hx v H' hV⟩)
def ConX.con {P:Program} {f:FuncId} {args:List Value} {H:PH} {V X:Value->PH->Prop} (h:ConX P f args H V X) (hx:∀v H',¬X v H'):Con P f args H V:=
 fun w hw=>(h w hw).mono fun e w' hh=>hh.resolve_right fun⟨v,H',_,_,hX⟩=>hx v H' hX
def t8 {P:Program} {f:FuncId} {E:List Nat} {A:List (Nat×Bool)} {J:List Jn} {C:List Cd} {t:Tree} {args:List Value} {np:Nat} {H:PH} {V:Value->PH->Prop} (hm:P.follows .mixedOrders=true) (ht:g6 P E A J C f=some t) (uV:(P.funcs[f]?).map (fun fn=>fn.params.size+fn.nfree)=some np) (pQ:args.length=np)
  (h:den P V noP t [] args H):Con P f args H V:=fun w hw=>EZ hm ht args uV pQ h w hw
def g9 {P:Program} {f:FuncId} {E:List Nat} {A:List (Nat×Bool)} {J:List Jn} {C:List Cd} {t:Tree} {args:List Value} {np:Nat} {H:PH} {V:Value->PH->Prop} (hm:P.follows .mixedOrders=true) (ht:g6 P E A J C f=some t) (h:den P V noP t [] args H) (pQ:args.length=np:=by exact rfl) (uV:(P.funcs[f]?).map (fun fn=>fn.params.size+fn.nfree)=some np:=by kernel_rfl):Con P f args H V:=t8 hm ht uV pQ h
def Cj {P:Program} {f:FuncId} {E:List Nat} {A:List (Nat×Bool)} {J:List Jn} {C:List Cd} {t:Tree} {args:List Value} {np:Nat} {H:PH} {V X:Value->PH->Prop} (hm:P.follows .mixedOrders=true) (ht:g6 P E A J C f=some t) (uV:(P.funcs[f]?).map (fun fn=>fn.params.size+fn.nfree)=some np) (pQ:args.length=np)
  (h:den P V X t [] args H):ConX P f args H V X:=fun w hw=>EY hm ht args uV pQ h w hw
def pd (P:Program) (R:Value->Prop):Tree->List (List Value->Prop)->List Value->Prop
 | .ret l,_,ρ=>R (y9 (l.map (D P ρ)))
 | .rq r t,nx,ρ=>r.holds P ρ/\pd P R t nx ρ
 | .br c t e,nx,ρ=>(D P ρ c= .bool true->pd P R t nx ρ)/\(D P ρ c= .bool false->pd P R e nx ρ)
 | .call _ f args t,nx,ρ=>∃v,Det P f (args.map (D P ρ)) v/\pd P R t nx (ρ++[v])
 | .prim _ _ o args t,nx,ρ=>∃v,Yld P o (args.map (D P ρ)) v/\pd P R t nx (ρ++[v])
 | .eff _ _ _ o args t,nx,ρ=>∃v,Run P o (args.map (D P ρ)) v/\pd P R t nx (ρ++[v])
 | .ext f args t,nx,ρ=>∃v,Own P f (args.map (D P ρ)) v/\pd P R t nx (ρ++[v])
 | .pub _ _ _,_,_=>False
 | .dead _,_,_=>False
 | .both _ _,_,_=>False
 | .rf _ _ _ _ _ _,_,_=>False
 | .mk _ _ _ _ _,_,_=>False
 | .loop ini t,nx,ρ=>∃(I:List Value->Prop) (μ:List Value->Nat),I (ini.map (D P ρ))/\∀vals,vals.length=ini.length->I vals->pd P R t (nx++[fun l=>I l/\μ l<μ vals]) (ρ++vals)
 | .next d l,nx,ρ=>(nx.getD d fun _=>False) (l.map (D P ρ))
 | .join n t u,nx,ρ=>∃J:List Value->Prop,pd P R t (nx++[J]) ρ/\∀vals,vals.length=n->J vals->pd P R u nx (ρ++vals)
def ZF {P:Program} {R:Value->Prop} {H:PH}:∀(t:Tree) (nx:List (List Value->Prop)) (ρ:List Value),pd P R t nx ρ->den P (fun v h=>R v/\h=H) noP t (nx.map fun g l h=>g l/\h=H) ρ H:=by
 intro t;induction t with
 |ret l=>intro nx ρ h;exact⟨h,rfl⟩
 |rq r t ih=>intro nx ρ h;exact⟨h.1,ih _ _ h.2⟩
 |br c t e ih1 ih2=>intro nx ρ h;exact⟨fun hc=>ih1 _ _ (h.1 hc),fun hc=>ih2 _ _ (h.2 hc)⟩
 |call pf f args t ih=>
  intro nx ρ h w hw;obtain⟨v,hd,hn⟩:=h;exact(hd w).mono fun e w' ⟨he,hx⟩=> .inl ⟨v,H,he,Step.of_ext hw hx,fun _=>Pl.refl H,ih _ _ hn⟩
 |prim id i o args t ih=>
  intro nx ρ h;obtain⟨v,hd,hn⟩:=h;exact⟨v,fun w _=>hd w,ih _ _ hn⟩
 |eff pf id i o args t ih=>
  intro nx ρ h w hw;obtain⟨v,hd,hn⟩:=h;exact Stp.toX ((hd w).mono fun u w' ⟨he,hx⟩=>⟨H,Step.of_ext hw hx,fun _=>Pl.refl H,by rw[he];exact ih _ _ hn⟩)
 |ext f args t ih=>
  intro nx ρ h;obtain⟨v,hd,hn⟩:=h;exact⟨v,fun w _=>hd w,ih _ _ hn⟩
 |pub T c t ih=>intro nx ρ h;exact h.elim
 |dead n=>intro nx ρ h;exact h.elim
 |both t u=>intro nx ρ h;exact h.elim
 |rf g np ini tb ta te=>intro nx ρ h;exact h.elim
 |mk id i o args t ih=>intro nx ρ h;exact h.elim
 |loop ini t ih=>
  intro nx ρ h;obtain⟨I,μ,h0,h1⟩:=h;refine⟨fun l h=>I l/\h=H,fun l _=>μ l,⟨h0,rfl⟩,?_⟩;rintro vals H' hl ⟨hI,rfl⟩;have:=ih _ _ (h1 vals hl hI);have e:(fun(l:List Value) (h:PH)=>(I l/\h=H')/\μ l<μ vals)=fun l h=>(I l/\μ l<μ vals)/\h=H':=by
   funext l h;exact propext ⟨fun⟨⟨a,b⟩,c⟩=>⟨⟨a,c⟩,b⟩,fun⟨⟨a,c⟩,b⟩=>⟨⟨a,b⟩,c⟩⟩
  rw[e];simpa only[bI,aU,cN]using this
 |next d l=>
  intro nx ρ h;simp only[pd]at h;simp only[den];rw[aK,aY];rw[aK]at h;cases hn:nx[d]? with
  |none=>simp[hn]at h
  |some g=>simp only[hn,Option.getD_some]at h;simpa using h
 |join n t u ih1 ih2=>
  intro nx ρ h;obtain⟨J,h1,h2⟩:=h;refine⟨fun l h=>J l/\h=H,?_,?_⟩
  ·simpa only[bI,aU,cN]using ih1 _ _ h1
  ·rintro vals H' hl ⟨hJ,rfl⟩;exact ih2 _ _ (h2 vals hl hJ)
def Cm {P:Program} {f:FuncId} {E:List Nat} {A:List (Nat×Bool)} {J:List Jn} {C:List Cd} {t:Tree} {args:List Value} {v:Value} {np:Nat} (hm:P.follows .mixedOrders=true) (ht:g6 P E A J C f=some t) (uV:(P.funcs[f]?).map (fun fn=>fn.params.size+fn.nfree)=some np) (pQ:args.length=np)
  (h:pd P (fun u=>u=v) t [] args):Det P f args v:=fun w=>by
 have:=EZ (H:=fun _=>none) hm ht args uV pQ (ZF t [] args h) w (fun b o hb=>by cases hb);refine this.mono fun e w' ⟨u,H',he,hs,hu,hH⟩=>⟨by rw[he,hu],?_⟩;exact hs.toExt (fun b o hb=>by cases hb) (fun b o hb=>by cases hb)
section
variable {P:Program} {R:Value->Prop} {nx:List (List Value->Prop)} {ρ:List Value}
def i6 {r:Rq} {t:Tree} (h:r.holds P ρ) (n:pd P R t nx ρ):pd P R (.rq r t) nx ρ:=⟨h,n⟩
def Da {pf:Bool} {f:FuncId} {args:List SV} {t:Tree} {vs:List Value} {v:Value} (hd:Det P f vs v) (ha:args.map (D P ρ)=vs) (n:pd P R t nx (ρ++[v])):pd P R (.call pf f args t) nx ρ:=⟨v,by rw[ha];exact hd,n⟩
def FB {id i:Nat} {o:Oper} {args:List SV} {t:Tree} {vs:List Value} {v:Value} (hd:Yld P o vs v) (ha:args.map (D P ρ)=vs) (n:pd P R t nx (ρ++[v])):pd P R (.prim id i o args t) nx ρ:=⟨v,by rw[ha];exact hd,n⟩
def FC {f:FuncId} {args:List SV} {t:Tree} {vs:List Value} {v:Value} (hd:Own P f vs v) (ha:args.map (D P ρ)=vs) (n:pd P R t nx (ρ++[v])):pd P R (.ext f args t) nx ρ:=⟨v,by rw[ha];exact hd,n⟩
def Af {c:SV} {t e:Tree} {b:Bool} (hc:D P ρ c= .bool b) (h1:b=true->pd P R t nx ρ) (h2:b=false->pd P R e nx ρ):pd P R (.br c t e) nx ρ:=
 ⟨fun h=>h1 (by rw[hc]at h;cases h;rfl),fun h=>h2 (by rw[hc]at h;cases h;rfl)⟩
def ZG {c:SV} {t e:Tree} (hc:D P ρ c= .bool true) (h1:pd P R t nx ρ):pd P R (.br c t e) nx ρ:=Af hc (fun _=>h1) (fun h=>by cases h)
def qq {c:SV} {t e:Tree} (hc:D P ρ c= .bool false) (h1:pd P R e nx ρ):pd P R (.br c t e) nx ρ:=Af hc (fun h=>by cases h) (fun _=>h1)
def Aa {l:List SV} {v:Value} (h:y9 (l.map (D P ρ))=v) (hR:R v):pd P R (.ret l) nx ρ:=by rw[<-h]at hR;exact hR
end
section
variable {P:Program} {G X:Value->PH->Prop} {nx:List (List Value->PH->Prop)} {ρ:List Value} {H:PH}
def b4 {r:Rq} {t:Tree} (h:r.holds P ρ) (n:den P G X t nx ρ H):den P G X (.rq r t) nx ρ H:=⟨h,n⟩
def g5 {pf:Bool} {f:FuncId} {args:List SV} {t:Tree} {vs:List Value} {V:Value->PH->Prop} (hd:Con P f vs H V) (ha:args.map (D P ρ)=vs) (n:∀v H',V v H'->(pf=true->Pl H H')/\den P G X t nx (ρ++[v]) H'):den P G X (.call pf f args t) nx ρ H:=fun w hw=>by
 rw[ha];exact(hd w hw).mono fun e w' ⟨v,H',he,hs,hV⟩=> .inl ⟨v,H',he,hs,(n v H' hV).1,(n v H' hV).2⟩
def Av {f:FuncId} {args:List SV} {t:Tree} {vs:List Value} {V X':Value->PH->Prop} (hd:ConX P f vs H V X') (ha:args.map (D P ρ)=vs) (n:∀v H',V v H'->den P G X t nx (ρ++[v]) H') (m:∀x H',X' x H'->X x H'):den P G X (.call false f args t) nx ρ H:=fun w hw=>by
 rw[ha];exact(hd w hw).mono fun e w' hh=>hh.imp (fun⟨v,H',he,hs,hV⟩=>⟨v,H',he,hs,(fun e=>by cases e),n v H' hV⟩) fun⟨x,H',he,hs,hX⟩=>⟨x,he,rfl,H',hs,m x H' hX⟩
def Bn {pf:Bool} {f:FuncId} {args:List SV} {t:Tree} {vs:List Value} {v:Value} (hd:Det P f vs v) (ha:args.map (D P ρ)=vs) (n:den P G X t nx (ρ++[v]) H):den P G X (.call pf f args t) nx ρ H:=
 g5 (hd.con H) ha fun u H' ⟨hu,hH⟩=>by subst hu;subst hH;exact⟨fun _=>Pl.refl _,n⟩
def j4 {pf:Bool} {id i:Nat} {o:Oper} {args:List SV} {t:Tree} {vs:List Value} {V:Value->PH->Prop} (hd:Opn P o vs H V) (ha:args.map (D P ρ)=vs) (n:∀v H',V v H'->(pf=true->Pl H H')/\den P G X t nx (ρ++[v]) H'):den P G X (.eff pf id i o args t) nx ρ H:=fun w hw=>by
 rw[ha];exact Stp.toX ((hd w hw).mono fun v w' ⟨H',hs,hV⟩=>⟨H',hs,(n v H' hV).1,(n v H' hV).2⟩)
def Qg {id i:Nat} {o:Oper} {args:List SV} {t:Tree} {vs:List Value} {V X':Value->PH->Prop} (hd:OpnX P o vs H V X') (ha:args.map (D P ρ)=vs) (n:∀v H',V v H'->den P G X t nx (ρ++[v]) H') (m:∀x H',X' x H'->X x H'):den P G X (.eff false id i o args t) nx ρ H:=fun w hw=>by
 rw[ha];exact(hd w hw).mono2 (fun v w' ⟨H',hs,hV⟩=>⟨H',hs,(fun e=>by cases e),n v H' hV⟩) fun x w' ⟨H',hs,hX⟩=>⟨rfl,H',hs,m x H' hX⟩
def j6 {id i:Nat} {o:Oper} {args:List SV} {t:Tree} {vs:List Value} {v:Value} (hd:Rds P o vs H v) (ha:args.map (D P ρ)=vs) (n:den P G X t nx (ρ++[v]) H):den P G X (.prim id i o args t) nx ρ H:=⟨v,by rw[ha];exact hd,n⟩
def dc {f:FuncId} {args:List SV} {t:Tree} {vs:List Value} {v:Value} (hd:Own P f vs v) (ha:args.map (D P ρ)=vs) (n:den P G X t nx (ρ++[v]) H):den P G X (.ext f args t) nx ρ H:=⟨v,by rw[ha];exact fun w _=>hd w,n⟩
def g8 {c:SV} {t e:Tree} {b:Bool} (hc:D P ρ c= .bool b) (h1:b=true->den P G X t nx ρ H) (h2:b=false->den P G X e nx ρ H):den P G X (.br c t e) nx ρ H:=
 ⟨fun h=>h1 (by rw[hc]at h;cases h;rfl),fun h=>h2 (by rw[hc]at h;cases h;rfl)⟩
def Ah {c:SV} {t e:Tree} (hc:D P ρ c= .bool true) (h1:den P G X t nx ρ H):den P G X (.br c t e) nx ρ H:=g8 hc (fun _=>h1) (fun h=>by cases h)
def j1 {c:SV} {t e:Tree} (hc:D P ρ c= .bool false) (h1:den P G X e nx ρ H):den P G X (.br c t e) nx ρ H:=g8 hc (fun h=>by cases h) (fun _=>h1)
def c9 {l:List SV} {v:Value} (h:y9 (l.map (D P ρ))=v) (hR:G v H):den P G X (.ret l) nx ρ H:=by rw[<-h]at hR;exact hR
def b9 {r:Rq} {t:Tree} (n:den P G X t nx ρ H) (h:r.holds P ρ:=by exact⟨_,rfl⟩):den P G X (.rq r t) nx ρ H:=⟨h,n⟩
def g7 {r:Rq} {t:Tree} (n:den P G X t nx ρ H) (h:r.holds P ρ:=by exact⟨_,rfl,aD⟩):den P G X (.rq r t) nx ρ H:=⟨h,n⟩
def y7 {c:SV} {t e:Tree} {p:Prop} [Decidable p] (hc:D P ρ c= .bool (decide p)) (h1:p->den P G X t nx ρ H) (h2:¬p->den P G X e nx ρ H):den P G X (.br c t e) nx ρ H:=g8 hc (fun h=>h1 (oDt h)) fun h=>h2 (oDf h)
end
def Iw (cs:Array Value):(Value.agg cs).cells=cs:=rfl
def FD (k:IntKind) (n:Int):(Value.int k n).cells= #[.int k n]:=rfl
def qs (b:Bool):(Value.bool b).cells= #[.bool b]:=rfl
@[reducible] def Tree.cq (n:Nat) (x:SV) (t:Tree):Tree:= .rq (.cells n x) t
@[reducible] def Tree.tq (i:Nat) (x:SV) (t:Tree):Tree:= .rq (.tup i x) t
@[reducible] def Tree.rb (x:SV) (t:Tree):Tree:= .rq (.bool x) t
@[reducible] def Tree.cf (f:FuncId) (l:List SV) (t:Tree):Tree:= .call false f l t
@[reducible] def Tree.ct (f:FuncId) (l:List SV) (t:Tree):Tree:= .call true f l t
@[reducible] def SV.cn (x:SV) (i:Nat):SV:= .cell x i 0 noI
@[reducible] def SV.sn (x:SV) (a n:Nat):SV:= .sub x a n 0 noI
@[reducible] def SV.pn (x:SV) (a n:Nat) (y:SV):SV:= .put x a n y 0 noI
@[reducible] def kF:SV:= .k (.bool false)
@[reducible] def kT:SV:= .k (.bool true)
@[reducible] def Tree.pm (f:Func) (i j:Nat) (l:List SV) (t:Tree):Tree:= .prim i j (opr f i j) l t
@[reducible] def Tree.ef (b:Bool) (f:Func) (i j:Nat) (l:List SV) (t:Tree):Tree:= .eff b i j (opr f i j) l t
@[reducible] def Tree.mq (f:Func) (i j:Nat) (l:List SV) (t:Tree):Tree:= .mk i j (opr f i j) l t
@[reducible] def SV.ki (n:Int):SV:= .k (.int .i64 n)
@[reducible] def Tree.ri (x:SV) (t:Tree):Tree:= .rq (.int .i64 x) t
@[reducible] def Tree.ru (x:SV) (t:Tree):Tree:= .rq (.int .u64 x) t
@[reducible] def SV.io (o:BinOp) (x y:SV):SV:= .op2 o .i64 x y
@[reducible] def SV.uo (o:BinOp) (x y:SV):SV:= .op2 o .u64 x y
@[reducible] def npf (P:Program) (f:FuncId):Option Nat:=(P.funcs[f]?).map (fun fn=>fn.params.size+fn.nfree)
@[reducible] def V0:SV:= .v 0
@[reducible] def kU (n:Int):SV:= .k (.int .u64 n)
@[reducible] def kI (n:Int):SV:= .k (.int .i64 n)
@[reducible] def kB (n:Int):SV:= .k (.int .u8 n)
@[reducible] def V1:SV:= .v 1
@[reducible] def V2:SV:= .v 2
@[reducible] def V3:SV:= .v 3
@[reducible] def V4:SV:= .v 4
@[reducible] def V5:SV:= .v 5
@[reducible] def V6:SV:= .v 6
@[reducible] def V7:SV:= .v 7
@[reducible] def V8:SV:= .v 8
@[reducible] def V9:SV:= .v 9
@[reducible] def V10:SV:= .v 10
@[reducible] def V11:SV:= .v 11
@[reducible] def V12:SV:= .v 12
@[reducible] def V13:SV:= .v 13
@[reducible] def V14:SV:= .v 14
@[reducible] def V15:SV:= .v 15
@[reducible] def V16:SV:= .v 16
@[reducible] def V17:SV:= .v 17
@[reducible] def V18:SV:= .v 18
@[reducible] def V19:SV:= .v 19
@[reducible] def V20:SV:= .v 20
@[reducible] def V21:SV:= .v 21
@[reducible] def V22:SV:= .v 22
@[reducible] def V23:SV:= .v 23
@[reducible] def V24:SV:= .v 24
@[reducible] def V25:SV:= .v 25
@[reducible] def V26:SV:= .v 26
@[reducible] def V27:SV:= .v 27
@[reducible] def V28:SV:= .v 28
@[reducible] def V29:SV:= .v 29
@[reducible] def V30:SV:= .v 30
@[reducible] def V31:SV:= .v 31
@[reducible] def V32:SV:= .v 32
@[reducible] def V33:SV:= .v 33
@[reducible] def V34:SV:= .v 34
@[reducible] def V35:SV:= .v 35
@[reducible] def V36:SV:= .v 36
@[reducible] def V37:SV:= .v 37
@[reducible] def V38:SV:= .v 38
@[reducible] def V39:SV:= .v 39
@[reducible] def V40:SV:= .v 40
@[reducible] def V41:SV:= .v 41
@[reducible] def V42:SV:= .v 42
@[reducible] def V43:SV:= .v 43
@[reducible] def V44:SV:= .v 44
@[reducible] def V45:SV:= .v 45
@[reducible] def V46:SV:= .v 46
@[reducible] def V47:SV:= .v 47
@[reducible] def V48:SV:= .v 48
@[reducible] def V49:SV:= .v 49
@[reducible] def V50:SV:= .v 50
@[reducible] def V51:SV:= .v 51
@[reducible] def V52:SV:= .v 52
@[reducible] def V53:SV:= .v 53
@[reducible] def V54:SV:= .v 54
@[reducible] def V55:SV:= .v 55
@[reducible] def V56:SV:= .v 56
@[reducible] def V57:SV:= .v 57
@[reducible] def V58:SV:= .v 58
@[reducible] def V59:SV:= .v 59
@[reducible] def V60:SV:= .v 60
@[reducible] def V61:SV:= .v 61
@[reducible] def V62:SV:= .v 62
@[reducible] def V63:SV:= .v 63
@[reducible] def V64:SV:= .v 64
@[reducible] def V65:SV:= .v 65
@[reducible] def V66:SV:= .v 66
@[reducible] def V67:SV:= .v 67
@[reducible] def V68:SV:= .v 68
@[reducible] def V69:SV:= .v 69
@[reducible] def V70:SV:= .v 70
@[reducible] def V71:SV:= .v 71
@[reducible] def V72:SV:= .v 72
@[reducible] def V73:SV:= .v 73
@[reducible] def V74:SV:= .v 74
@[reducible] def V75:SV:= .v 75
@[reducible] def V76:SV:= .v 76
@[reducible] def V77:SV:= .v 77
@[reducible] def V78:SV:= .v 78
@[reducible] def V79:SV:= .v 79
@[reducible] def V80:SV:= .v 80
def cA {α:Type} {a:α} {l m:List α}:a::l++m=a::(l++m):=rfl
def nA {α:Type} {l:List α}:[]++l=l:=rfl
end Go.RX

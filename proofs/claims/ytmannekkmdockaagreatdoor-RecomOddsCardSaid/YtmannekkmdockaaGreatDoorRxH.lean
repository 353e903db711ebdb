/- Lemmas of the proof. -/
import Derived.Test.YtmannekkmdockaaGreatDoorRxG
import Derived.Deep.LoopGhost
import Derived.AtR
open Bool renaming not_eq_true'->nJ
open Go.Result renaming andThen_ok->eH
open Go.Sem renaming run_bind->eI,run_pure->eJ
open List renaming contains_iff_mem->jU,find?_some->nZ,foldl_cons->fV,getElem?_cons_succ->fX,getElem?_cons_zero->fW,mapM_cons->oJ,mem_of_find?_eq_some->lK,nodup_cons->eZ,prefix_append->eT,prefix_refl->eW,range->eP
open Nat renaming add_assoc->jW,add_sub_cancel_left->iK,not_le->nK
open Option renaming map_eq_some_iff->eY,some->fC
namespace Go.RX
open RowKit
theorem fl:∀(lv:List Nat) (n:Nat) (sl:List SL),(Ln lv n sl).length=sl.length:=by
 intro lv;induction lv with
 |nil=>intro n sl;rfl
 |cons t ts ih=>intro n sl;simp only[Ln,ih,cJ]
theorem GP:∀(lv:List Nat) (n:Nat) (sl:List SL) (u:Nat),u∉lv->(Ln lv n sl)[u]? =sl[u]?:=by
 intro lv;induction lv with
 |nil=>intro n sl u _;rfl
 |cons t ts ih=>
  intro n sl u hu;simp only[aP,not_or]at hu;simp only[Ln,ih _ _ _ hu.2,dH];rw[if_neg (fun e=>hu.1 e.symm)]
theorem ZV:∀(lv:List Nat) (n:Nat) (sl:List SL) (k u:Nat),lv.Nodup->lv[k]? =some u->u<sl.length->(Ln lv n sl)[u]? =some (.x (.v (n+k))):=by
 intro lv;induction lv with
 |nil=>intro n sl k u _ h;simp at h
 |cons t ts ih=>
  intro n sl k u tM h pX;rw[eZ]at tM;cases k with
  |zero=>
   simp at h;subst h;simp only[Ln,GP _ _ _ _ tM.1,dH,pX,if_true,eF]
  |succ k=>
   simp at h;simp only[Ln];rw[ih (n+1) _ k u tM.2 h (by simpa using pX)];congr 3;omega
theorem GQ (s:SL):∀(ts:List Nat) (sl:List SL),(Of sl ts s).length=sl.length:=by
 intro ts;induction ts with
 |nil=>intro sl;rfl
 |cons t ts ih=>intro sl;simp only[Of,fV]at ih⊢;rw[ih];simp
theorem GR (s:SL) (u:Nat):∀(ts:List Nat) (sl:List SL),u∉ts->(Of sl ts s)[u]? =sl[u]?:=by
 intro ts;induction ts with
 |nil=>intro sl _;rfl
 |cons t ts ih=>
  intro sl hu;simp only[aP,not_or]at hu;simp only[Of,fV]at ih⊢;rw[ih _ hu.2,dH,if_neg (fun e=>hu.1 e.symm)]
theorem ZW (s:SL) (u:Nat):∀(ts:List Nat) (sl:List SL),u∈ts->u<sl.length->(Of sl ts s)[u]? =some s:=by
 intro ts;induction ts with
 |nil=>intro sl h;cases h
 |cons t ts ih=>
  intro sl hu pX;by_cases h:u∈ts
  ·simp only[Of,fV]at ih⊢;exact ih _ h (by simpa using pX)
  ·have e:u=t:=(aP.1 hu).resolve_right h;subst e;have:=GR s u ts (sl.set u s) h;simp only[Of,fV]at this⊢;rw[this];simp[pX]
theorem dedup_mem {x:Nat}:∀{l:List Nat},x∈Oi l↔x∈l:=by
 intro l;induction l with
 |nil=>simp[Oi]
 |cons y l ih=>
  simp only[Oi];split
  ·rename_i h;rw[jU]at h;rw[ih,aP];exact⟨.inr,fun e=>e.elim (fun e=>by rw[e];exact h) (fun e=>e)⟩
  ·rw[aP,aP,ih]
theorem ZX:∀(l:List Nat),(Oi l).Nodup:=by
 intro l;induction l with
 |nil=>exact dG
 |cons y l ih=>
  simp only[Oi];split
  ·exact ih
  ·rename_i h;rw[jU]at h;exact eZ.2 ⟨fun e=>h (dedup_mem.1 e),ih⟩
theorem ZY (bs:List Nat) (n:Nat):∀(bl:List Blk) (i:Nat),(Qw bs n bl i).length=bl.length:=by
 intro bl;induction bl with
 |nil=>intro i;rfl
 |cons b bl ih=>intro i;simp only[Qw,aO,ih]
theorem ZZ (bs:List Nat) (n:Nat):∀(bl:List Blk) (i j:Nat) (B':Blk),(Qw bs n bl i)[j]? =some B'->∃B,bl[j]? =some B/\B'=(match Cd (i+j) bs 0 with|some k=>{B with c:= .v (n+k)}|none=>B):=by
 intro bl;induction bl with
 |nil=>intro i j B' h;simp[Qw]at h
 |cons b bl ih=>
  intro i j B' h;simp only[Qw]at h;cases j with
  |zero=>simp only[fW,dM]at h;exact⟨b,rfl,h.symm⟩
  |succ j=>
   simp only[fX]at h;obtain⟨B,hB,he⟩:=ih (i+1) j B' h;exact⟨B,hB,by rw[he,show i+1+j=i+(j+1)from aA]⟩
theorem Xs {i:Nat}:∀{bs:List Nat} {j k:Nat},Cd i bs j=some k->∃k',k=j+k'/\bs[k']? =some i:=by
 intro bs;induction bs with
 |nil=>intro j k h;simp[Cd]at h
 |cons x l ih=>
  intro j k h;simp only[Cd]at h;split at h
  ·rename_i e;simp only[dM]at h;exact⟨0,aA,by simpa using e⟩
  ·obtain⟨k',h1,h2⟩:=ih h;exact⟨k'+1,aA,by simpa using h2⟩
theorem GT {i:Nat}:∀{bs:List Nat} {j:Nat},Cd i bs j=none->bs.contains i=false:=by
 intro bs;induction bs with
 |nil=>intro j _;rfl
 |cons x l ih=>
  intro j h;simp only[Cd]at h;split at h
  ·cases h
  ·rename_i e;simp only[List.contains_cons,ih h,Bool.or_false];simp at e⊢;exact fun e'=>e e'.symm
theorem A0 {i:Nat}:∀{bs:List Nat} {j k:Nat},bs.Nodup->bs[k]? =some i->Cd i bs j=some (j+k):=by
 intro bs;induction bs with
 |nil=>intro j k _ h;simp at h
 |cons x l ih=>
  intro j k hn h;rw[eZ]at hn;cases k with
  |zero=>simp only[fW,dM]at h;subst h;simp[Cd]
  |succ k=>
   simp only[fX]at h;have hm:=aG h;have qC:¬x=i:=fun e=>hn.1 (e ▸ hm);simp only[Cd,beq_iff_eq,qC,if_false,ih hn.2 h];congr 1;omega
theorem Xt:∀{l:List Nat},Og l=true->l.Nodup:=by
 intro l;induction l with
 |nil=>intro _;exact dG
 |cons x l ih=>
  intro h;simp only[Og,bA,nJ,List.contains_eq_mem,decide_eq_false_iff_not]at h;exact eZ.2 ⟨h.1,ih h.2⟩
theorem Ud {bl:List Blk}:∀{bs:List Nat} {ib:List SV},cAt bl bs=some ib->ib.length=bs.length/\∀(k i:Nat),bs[k]? =some i->∃B,bl[i]? =some B/\ib[k]? =some B.c:=by
 intro bs;induction bs with
 |nil=>intro ib h;simp only[cAt,dM]at h;subst h;exact⟨rfl,fun k i h=>by simp at h⟩
 |cons i bs ih=>
  intro ib h;simp only[cAt]at h;split at h
  ·rename_i B l hB hl;simp only[dM]at h;subst h;obtain⟨h1,h2⟩:=ih hl;refine⟨by simp[h1],fun k u hk=> ?_⟩;cases k with
   |zero=>simp only[fW,dM]at hk;subst hk;exact⟨B,hB,rfl⟩
   |succ k=>simp only[fX]at hk⊢;exact h2 k u hk
  ·cases h
theorem A1 {bl:List Blk}:∀{bs:List Nat} {n:Nat} {r:Rq},r∈Xl bl bs n->∃k i B,bs[k]? =some i/\bl[i]? =some B/\r= .cells B.n (.v (n+k)):=by
 intro bs;induction bs with
 |nil=>intro n r h;simp[Xl]at h
 |cons i bs ih=>
  intro n r h;simp only[Xl,aQ]at h;rcases h with h|h
  ·split at h
   ·rename_i B hB;simp only[aP,bP,or_false]at h;exact⟨0,i,B,rfl,hB,h⟩
   ·cases h
  ·obtain⟨k,u,B,h1,h2,h3⟩:=ih h;exact⟨k+1,u,B,h1,h2,by rw[h3];congr 2;omega⟩
theorem fm {sl:List SL}:∀{lv:List Nat} {iv:List SV},Oh sl lv=some iv->iv.length=lv.length/\∀(k t:Nat),lv[k]? =some t->∃s,sl[t]? =some (.x s)/\iv[k]? =some s:=by
 intro lv;induction lv with
 |nil=>intro iv h;simp[Oh]at h;subst h;exact⟨rfl,fun k t h=>by simp at h⟩
 |cons t ts ih=>
  intro iv h;simp only[Oh]at h;split at h
  ·rename_i s l hs hl;simp only[dM]at h;subst h;obtain⟨h1,h2⟩:=ih hl;refine⟨by simp[h1],fun k u hk=> ?_⟩;cases k with
   |zero=>
    simp at hk;subst hk;refine⟨s,?_,rfl⟩;unfold FD at hs;split at hs
    ·rename_i s' qV;simp only[dM]at hs;subst hs;exact qV
    ·cases hs
   |succ k=>simp at hk;simpa using h2 k u hk
  ·cases h
section
variable {P:Program} {G:Value->PH->Prop} {w0:Cx} {ρ:List Value} {β:Nat->Nat} {st:St} {a:Act} {W:World}
structure Bk (w0:Cx) (β:Nat->Nat) (st:St) (a:Act) (W:World):Prop where
 df:∃Ds:List Nat,a.defers=Ds.map Qy/\Ds.Nodup/\∀D∈Ds,w0.w.heap.size<=D/\w0.K D=some (.deferred (some []))
 inj:∀b b',b<st.bl.length->b'<st.bl.length->β b=β b'->b=b'
 own:∀b,b<st.bl.length->w0.w.heap.size<=β b\/w0.H0 (β b)≠none
 sep:∀b,b<st.bl.length->w0.H (β b)=none
 fr:Step w0.H0 w0.w w0.H W
 kp:w0.K.In W
 rd:st.rd=false->w0.ro=none
 ag:∀b,b<w0.n0->β b=w0.b0 b
 ln:w0.n0<=st.bl.length
 kle:Pl w0.K0 w0.K
 kpH:∀k,w0.K k≠none->w0.H k=none
 kpB:∀b,b<st.bl.length->w0.K (β b)=none
theorem Mt.bk {w0:Cx} (m:Mt P w0 ρ β st a W):Bk w0 β st a W:=⟨m.df,m.inj,m.own,m.sep,m.fr,m.kp,m.rd,m.ag,m.ln,m.kle,m.kpH,m.kpB⟩
theorem Bk.less {w0:Cx} {st2:St} (h:Bk w0 β st2 a W) (hl:st.bl.length<=st2.bl.length) (hrd:st.rd=false->w0.ro=none) (hln:w0.n0<=st.bl.length):Bk w0 β st a W:=
 ⟨h.df,fun i j hi hj=>h.inj i j aA aA,fun i hi=>h.own i aA,fun i hi=>h.sep i aA,h.fr,h.kp,hrd,h.ag,hln,h.kle,h.kpH,fun i hi=>h.kpB i aA⟩
theorem fp {w0:Cx} {lv dd bs:List Nat} {δ:Nat} (qU:Dj st=true) (hn:ρ.length=st.n) (rX:∀r∈st.kn,r.holds P ρ) (hkb:∀p∈st.kb,D P ρ p.1= .bool p.2)
  {vals:List Value} (hv:vals.length=lv.length+bs.length) (sz:a.tmps.size=st.sl.length)
  (hpb:∀(t b o s:Nat) (i:SV),st.sl[t]? =some (.p b o s i)->b<st.bl.length) (tM:lv.Nodup) (hbd:bs.Nodup)
  (h1:∀(t:Nat) (s:SL),t∉lv->t∉dd->st.sl[t]? =some s->∃v,a.tmps[t]? =some v/\ML P ρ β s v)
  (h2:∀(k t:Nat),lv[k]? =some t->a.tmps[t]? =some (vals.getD k undef))
  (hb:∀(i:Nat) (B:Blk),st.bl[i]? =some B->W.heap[β i]? =some (.cells (match Cd i bs 0 with|some k=>vals.getD (lv.length+k) undef|none=>D P ρ B.c).cells B.T (0,0))/\(match Cd i bs 0 with|some k=>vals.getD (lv.length+k) undef|none=>D P ρ B.c).cells.size=B.n/\o0 (match Cd i bs 0 with|some k=>vals.getD (lv.length+k) undef|none=>D P ρ B.c).cells)
  (bk:Bk w0 β st a W):
  Mt P w0 (ρ++vals) β (Dt st lv dd bs δ) a W:=by
 have xH:=qU;unfold Dj at xH;simp only[bA,dE]at xH;obtain⟨⟨⟨c1,c2⟩,c3⟩,c4⟩:=xH;rw[<-hn]at c1 c2 c3 c4;have zJ:(Dt st lv dd bs δ).bl.length=st.bl.length:=ZY _ _ _ _;have uQ:∀k,D P (ρ++vals) (.v (st.n+k))=vals.getD k undef:=fun k=>by
  simp only[D,<-hn,aK];rw[bV aA,iK]
 have lk:∀(u:Nat) (s:SL),(Dt st lv dd bs δ).sl[u]? =some s->s= .u\/(∃k,lv[k]? =some u/\s= .x (.v (st.n+k)))\/(u∉lv/\u∉dd/\st.sl[u]? =some s):=by
  intro u s hs;simp only[Dt]at hs;by_cases hd:u∈dd
  ·have pX:u<st.sl.length:=by
    have:=(aH.1 hs).1
    rwa[GQ,fl]at this
   rw[ZW _ _ _ _ hd (by rw[fl];exact pX)]at hs;simp only[dM]at hs;exact .inl hs.symm
  ·rw[GR _ _ _ _ hd]at hs;by_cases hl:u∈lv
   ·obtain⟨k,hk⟩:=List.getElem?_of_mem hl;have pX:u<st.sl.length:=by
     have:=(aH.1 hs).1
     rwa[fl]at this
    rw[ZV _ _ _ k u tM hk pX]at hs;simp only[dM]at hs;exact .inr (.inl ⟨k,hk,hs.symm⟩)
   ·rw[GP _ _ _ _ hl]at hs;exact .inr (.inr ⟨hl,hd,hs⟩)
 have a0y:(Dt st lv dd bs δ).sl.length=st.sl.length:=by simp only[Dt];rw[GQ,fl]
 refine{sz:=by rw[a0y];exact sz,sl:= ?_,pb:= ?_,df:=bk.df,n:= ?_,bl:= ?_,inj:= ?_,own:= ?_,sep:= ?_,fr:=bk.fr,kp:=bk.kp,rd:=bk.rd,kle:=bk.kle,ag:=bk.ag,ln:=by rw[zJ];exact bk.ln,kpH:=bk.kpH,kpB:=by rw[zJ];exact bk.kpB,kn:= ?_,kb:= ?_}
 ·intro u s hs;rcases lk u s hs with rfl|⟨k,hk,rfl⟩|⟨hl,hd,qV⟩
  ·have pX:u<a.tmps.size:=by
    rw[sz,<-a0y];exact(aH.1 hs).1
   exact⟨a.tmps[u],by simp[pX],trivial⟩
  ·exact⟨_,h2 k u hk,(uQ k).symm⟩
  ·obtain⟨v,hv',tW⟩:=h1 u s hl hd qV;refine⟨v,hv',?_⟩;have hl:=c1 s (aG qV);cases s with
   |x s=>simp only[ML,SL.lt]at tW hl⊢;rw[Hq P ρ vals s hl];exact tW
   |p b o s i=>simp only[ML,SL.lt]at tW hl⊢;rw[Hq P ρ vals i hl];exact tW
   |u=>trivial
 ·intro u b' o s i hs;rw[zJ];rcases lk u _ hs with h|⟨k,hk,h⟩|⟨_,_,qV⟩
  ·cases h
  ·cases h
  ·exact hpb u b' o s i qV
 ·simp only[Dt,aM,hv,hn];omega
 ·intro i B hB;obtain⟨B0,hB0,rfl⟩:=ZZ _ _ _ _ _ _ hB;rw[bK];have:=hb i B0 hB0;cases hp:Cd i bs 0 with
  |some k=>
   simp only[hp]at this⊢;have e:D P (ρ++vals) (.v (st.n+lv.length+k))=vals.getD (lv.length+k) undef:=by rw[jW];exact uQ _
   rw[e];exact this
  |none=>
   simp only[hp]at this⊢;rw[Hq P ρ vals B0.c (c2 B0 (aG hB0))];exact this
 ·rw[zJ];exact bk.inj
 ·rw[zJ];exact bk.own
 ·rw[zJ];exact bk.sep
 ·intro r hr;simp only[Dt,aQ]at hr;rcases hr with hr|hr
  ·obtain⟨k,i,B,h1,h2,rfl⟩:=A1 hr;have:=hb i B h2;rw[A0 hbd h1,bK]at this;simp only at this;have e:D P (ρ++vals) (.v (st.n+lv.length+k))=vals.getD (lv.length+k) undef:=by rw[jW];exact uQ _
   simp only[Rq.holds,e];exact this.2
  ·exact(FG P ρ vals r (c3 r hr)).2 (rX r hr)
 ·intro p hp;rw[Hq P ρ vals p.1 (c4 p hp)];exact hkb p hp
theorem uj (ws:List Nat):∀(a b:List SL) (i:Nat),Ua ws a b i=true->a.length=b.length/\∀t x,a[t]? =some x->∃y,b[t]? =some y/\(x.beq y||ws.contains (i+t))=true
 |[],[],_,_=>⟨rfl,fun t x h=>by simp at h⟩
 |x::a,y::b,i,h=>by
  simp only[Ua,bA]at h;obtain⟨h1,h2⟩:=uj ws a b (i+1) h.2;refine⟨by simp[h1],fun t z hz=> ?_⟩;cases t with
  |zero=>
   simp only[fW,dM]at hz;subst hz;exact⟨y,rfl,h.1⟩
  |succ t=>
   simp only[fX]at hz;obtain⟨y',g1,g2⟩:=h2 t z hz;exact⟨y',by simpa using g1,by rw[show i+(t+1)=i+1+t by omega];exact g2⟩
 |[],_::_,_,h=>by simp[Ua]at h
 |_::_,[],_,h=>by simp[Ua]at h
theorem A2 {ws:List Nat} {x y:List SL} (h:Xm ws x y=true):x.length=y.length:=(uj ws x y 0 h).1
theorem A3 {ws:List Nat} {x y:List SL} (h:Xm ws x y=true) {t:Nat} (ht:t∉ws) {s:SL} (hs:x[t]? =some s):∃s',y[t]? =some s'/\(s=s'\/s= .u):=by
 obtain⟨s',h1,h2⟩:=(uj ws x y 0 h).2 t s hs;rw[bK,dB,jU]at h2;exact⟨s',h1,SL.beq_sound (h2.resolve_right ht)⟩
theorem GU {bs:List Nat}:∀{x y:List Blk} {j:Nat},Oj bs x y j=true->x.length<=y.length/\∀(i:Nat) (B:Blk),x[i]? =some B->∃B',y[i]? =some B'/\B'.T=B.T/\B'.n=B.n/\(bs.contains (j+i)=false->B'.c=B.c):=by
 intro x;induction x with
 |nil=>intro y j _;exact⟨aD,fun i B h=>by simp at h⟩
 |cons b x ih=>
  intro y j h;cases y with
  |nil=>simp[Oj]at h
  |cons c y=>
   simp only[Oj,bA,beq_iff_eq,dB]at h;obtain⟨⟨⟨h1,h2⟩,h3⟩,h4⟩:=h;obtain⟨k1,k2⟩:=ih h4;refine⟨by simp;exact k1,fun i B hB=> ?_⟩;cases i with
   |zero=>
    simp only[fW,dM]at hB;subst hB;refine⟨c,rfl,h1.symm,h2.symm,fun hc=> ?_⟩;rcases h3 with h3|h3
    ·rw[eF,h3]at hc;cases hc
    ·exact(SV.beq_sound h3).symm
   |succ i=>
    simp only[fX]at hB⊢;obtain⟨B',q1,q2,q3,q4⟩:=k2 i B hB;exact⟨B',q1,q2,q3,fun hc=>q4 (by rw[show j+1+i=j+(i+1)from aA];exact hc)⟩
theorem GW {c1:Bs} {H K H3 K3:PH} {β2:Nat->Nat} {st2:St} {a2:Act} {W2:World} {r:List Value} {b:Code} {lv dd bs:List Nat} {δ:Nat} {nv nb:List SV} (qU:Dj st=true) (m:Mt P ⟨c1,H,K⟩ ρ β st a W) (m2:Mt P ⟨c1,H3,K3⟩ (ρ++r) β2 st2 a2 W2) (hlv:lv.Nodup) (rL:bs.Nodup) (a1g:∀u,u∈Em b->u<st.sl.length->u∈lv\/u∈dd)
  (hnv:Oh st2.sl lv=some nv) (sG:cAt st2.bl bs=some nb) (yQ:Xm (Em b) st.sl st2.sl=true) (wX:Oj bs st.bl st2.bl 0=true):Mt P ⟨c1,H3,K3⟩ (ρ++(nv++nb).map (D P (ρ++r))) β2 (Dt st lv dd bs δ) a2 W2:=by
 have xH:=qU;unfold Dj at xH;simp only[bA,dE]at xH;obtain⟨⟨⟨c1,c2⟩,c3⟩,c4⟩:=xH;rw[<-m.n]at c1 c2 c3 c4;obtain⟨k1,k2⟩:=fm hnv;obtain⟨k3,k4⟩:=Ud sG;obtain⟨s1,s2⟩:=GU wX;have gl:∀(l:List SV) (ρ':List Value) (j:Nat) (s:SV),l[j]? =some s->(l.map (D P ρ')).getD j undef=D P ρ' s:=fun l ρ' j s hj=>by
  simp[aK,hj]
 have a4f:st2.sl.length=st.sl.length:=(A2 yQ).symm;refine fp qU m.n m.kn m.kb (by rw[aX,aM,k1,k3]) (by rw[m2.sz,a4f]) m.pb hlv rL (fun u s hl hd hs=> ?_) (fun k' u qY=> ?_) (fun i B hB=> ?_) (m2.bk.less s1 m.rd m.ln)
 ·have hu:u∉Em b:=fun h=>(a1g u h (aH.1 hs).1).elim hl hd;obtain⟨s',qV,hor⟩:=A3 yQ hu hs;obtain⟨v,hv,hmv⟩:=m2.sl u s' qV;refine⟨v,hv,?_⟩;rcases hor with rfl|rfl
  ·have hl:=c1 s (aG hs);cases s with
   |x s=>simp only[ML,SL.lt]at hmv hl⊢;rw[Hq P ρ r s hl]at hmv;exact hmv
   |p b o s i=>simp only[ML,SL.lt]at hmv hl⊢;rw[Hq P ρ r i hl]at hmv;exact hmv
   |u=>trivial
  ·trivial
 ·obtain⟨s,hs,uA⟩:=k2 k' u qY;obtain⟨v,hv,hmv⟩:=m2.sl u _ hs;rw[hv];congr 1;rw[gl _ _ k' s]
  ·exact hmv
  ·rw[bS (aH.1 uA).1];exact uA
 ·obtain⟨B',uN,hT,sP,hc⟩:=s2 i B hB;have g:=m2.bl i B' uN;rw[hT,sP]at g;cases hp:Cd i bs 0 with
  |some k=>
   obtain⟨k',rfl,qY⟩:=Xs hp;obtain⟨B2,hB2,hq⟩:=k4 k' i qY;obtain rfl:B2=B':=fC.inj (hB2.symm.trans uN);have e:((nv++nb).map (D P (ρ++r))).getD (lv.length+(0+k')) undef=D P (ρ++r) B2.c:=gl _ _ _ _ (by
    rw[bV aA,k1,bK,iK];exact hq)
   simp only[e];exact g
  |none=>
   simp only;rw[hc (by rw[bK];exact GT hp),Hq P ρ r B.c (c2 B (aG hB))]at g;exact g
theorem uk {nx nx':List (List Value->PH->Prop)} (h:nx<+:nx') {d:Nat} (hd:d<nx.length):nx'.getD d (fun _ _=>False)=nx.getD d fun _ _=>False:=by
 obtain⟨r,rfl⟩:=h;simp[aK,bS hd]
def Re (P:Program) (G:Value->PH->Prop) (c1:Bs) (rm:Nat) (c:Code) (run:St->(Exit->St->Option Tree)->Option Tree):Prop:=
 ∀(st:St) (k:Exit->St->Option Tree) (t:Tree) (ρ:List Value) (β:Nat->Nat) (a:Act) (W:World) (H K:PH) (nx:List (List Value->PH->Prop)) (Q:Exit->Act->World->Prop),
  run st k=some t->Mt P ⟨c1,H,K⟩ ρ β st a W->nx.length=st.d->den P G t nx ρ H->
  (∀e st' t' ρ' β' a' W' H' K' nx',k e st'=some t'->Mt P ⟨c1,H',K'⟩ ρ' β' st' a' W'->ρ<+:ρ'->nx<+:nx'->nx'.length=st'.d->den P G t' nx' ρ' H'->Q e a' W')->c.wpIn (Fr c1.ro) rm P Q a W
theorem Mt.depth (m:Mt P w0 ρ β st a W) (d:Nat):Mt P w0 ρ β {st with d:=d} a W:={m with}
theorem um {c1:Bs} {rm:Nat} {c:Code} {run:St->(Exit->St->Option Tree)->Option Tree} (hr:Re P G c1 rm c run) (ts bs:List Nat):Re P G c1 rm c fun st k=>jn st c ts bs run k:=by
 intro st k t ρ β a W H K nx Q h m hd qA hQ;simp only[jn]at h;split at h
 ·rename_i hc;simp only[bA]at hc;obtain⟨⟨qU,hts⟩,rL⟩:=hc;split at h
  ·rename_i t1 u e1 e2;simp only[dM]at h;subst h;obtain⟨J,hJ1,hJ2⟩:=qA;refine hr _ _ t1 ρ β a W H K (nx++[J]) Q e1 (m.depth _) (by simp[hd]) hJ1 ?_;intro e st2 t2 ρ2 β2 a2 W2 H3 K3 nx2 h2 m2 rT sW qL qH;have wY:nx<+:nx2:=(eT _ _).trans sW;cases e with
   |normal=>
    simp only at h2;split at h2
    ·rename_i nv nb hnv sG;split at h2
     ·rename_i uR;rw[bA]at uR;simp only[dM]at h2;subst h2;have hh:=qH;have e1:nx2.getD st.d (fun _ _=>False)=J:=by
       rw[uk sW (by simp[hd])];simp[aK,<-hd]
      simp only[den]at hh;rw[e1]at hh;obtain⟨r,rfl⟩:=rT;have hmt:=GW (δ:=0) (dd:=(Em c).filter fun t=> !ts.contains t) qU m m2 (Xt hts) (Xt rL) (fun u hu _=>by
       by_cases ht:u∈ts
       ·exact .inl ht
       ·exact .inr (bT.2 ⟨hu,by simpa using ht⟩)) hnv sG uR.1 uR.2
      refine hQ .normal _ u _ β2 a2 W2 H3 K3 nx e2 hmt (eT _ _) (eW _) (by simp[Dt,hd]) (hJ2 _ H3 ?_ hh);rw[aX,aM,(fm hnv).1,(Ud sG).1]
     ·simp only[dM]at h2;subst h2;exact qH.elim
    ·simp only[dM]at h2;subst h2;exact qH.elim
   |exit id=>exact hQ _ _ _ _ _ _ _ _ _ _ h2 m2 rT wY qL qH
   |goto l=>exact hQ _ _ _ _ _ _ _ _ _ _ h2 m2 rT wY qL qH
   |ret=>exact hQ _ _ _ _ _ _ _ _ _ _ h2 m2 rT wY qL qH
   |panic ch=>exact hQ _ _ _ _ _ _ _ _ _ _ h2 m2 rT wY qL qH
   |outgrown=>exact hQ _ _ _ _ _ _ _ _ _ _ h2 m2 rT wY qL qH
  ·cases h
 ·cases h
theorem A4 {F:Fence} {n:Nat} {P:Program} {Q:Exit->Act->World->Prop} {a:Act} {w:World} {c:Code} (I:Nat->Act->World->Prop) (n₀:Nat) (h₀:I n₀ a w)
  (round:∀m a w,I m a w->c.wpIn F n P (Exit.then (fun a' w'=>∃n',n'<m/\I n' a' w') Q) a w):(Code.loop c).wpIn F n P Q a w:=by
 refine wpIn_loop (fun a w=>∃m,I m a w) (fun a w=>leastOf (fun m=>I m a w)) ⟨n₀,h₀⟩ ?_;intro a w hI;refine wpIn_mono (round _ a w (leastOf_spec hI).1) ?_;intro e a' w' hq;cases e with
 |normal=>
  obtain⟨n',pX,hI'⟩:=hq;exact show(∃n,I n a' w')/\leastOf (fun n=>I n a' w')<leastOf (fun n=>I n a w)from⟨⟨n',hI'⟩,aZ ((leastOf_spec ⟨n',hI'⟩).2 n' hI') pX⟩
 |exit id=>exact hq
 |goto l=>exact hq
 |ret=>exact hq
 |panic ch=>exact hq
 |outgrown=>exact hq
def Exit.noGo (Q:Exit->Act->World->Prop):Exit->Act->World->Prop
 | .goto _,_,_=>False
 |e,a,w=>Q e a w
theorem Ue {P:Program} {b:Frame} {a:Act} {k:List Item} {cs:List Frame} {w:World} {c:Code}:step P (lone (b.atR a (.code (.scope c)::k)) cs w)= .next (lone (b.atR a (.code c:: .inScope c::k)) cs w):=
 step_lone_go (by simp[stepG,stepG.exec,Frame.atR])
theorem A5 {P:Program} {b:Frame} {a:Act} {k:List Item} {cs:List Frame} {w:World} {c:Code}:step P (lone (b.atR a (.inScope c::k)) cs w)= .next (lone (b.atR a k) cs w):=
 step_lone_go (by simp[stepG,stepG.exec,Frame.atR])
theorem A6 {F:Fence} {n:Nat} {P:Program} {Q:Exit->Act->World->Prop} {a:Act} {w:World} {c:Code} (h:c.wpIn F n P (Exit.noGo Q) a w):(Code.scope c).wpIn F n P Q a w:=by
 intro b k cs hro hb hr;have h0:(lone (b.atR a (.code (.scope c)::k)) cs w).fenced P F:=fenced_calm hb hr rfl;obtain⟨e,a₁,w₁,hq,yU⟩:=h b (.inScope c::k) cs hro hb hr;cases e with
 |normal=>exact⟨.normal,a₁,w₁,hq,.head h0 Ue (StepsIn.trans yU (.one (fenced_calm hb hr rfl) A5))⟩
 |exit id=>
  have hx:exitTo id (.inScope c::k)=exitTo id k:=by simp[exitTo]
  exact⟨.exit id,a₁,w₁,hq,fun k' hk=> .head h0 Ue (yU.1 k' (by rw[hx];exact hk)),
   fun hr' hk=>let⟨k₁,h1,h2⟩:=yU.2 hr' (by rw[hx];exact hk);⟨k₁,h1,.head h0 Ue h2⟩⟩
 |goto l=>exact hq.elim
 |ret=>exact⟨_,a₁,w₁,hq,.of_steps (.one h0 Ue) yU⟩
 |panic ch=>exact⟨_,a₁,w₁,hq,.of_steps (.one h0 Ue) yU⟩
 |outgrown=>exact⟨_,a₁,w₁,hq,.of_steps (.one h0 Ue) yU⟩
theorem Gy {W:World} {l k:Nat} {o:Obj} (h:k≠l):(W.putObj l o).heap[k]? =W.heap[k]?:=World.putObj_heap_other h
theorem Mt.turn {c1:Bs} {H K:PH} (m:Mt P ⟨c1,H,K⟩ ρ β st a W) {l:Nat} (o':Obj) (hl:K l≠none) (ho:c1.w.heap.size<=l\/c1.H0 l≠none) {K' K0':PH} (hK':K'.In (W.putObj l o')) (hKd:∀k,K' k≠none->K k≠none) (pY:Pl K0' K')
  {df:List Deferred} (hdf:∃Ds:List Nat,df=Ds.map Qy/\Ds.Nodup/\∀D∈Ds,c1.w.heap.size<=D/\K' D=some (.deferred (some []))):Mt P ⟨{c1 with K0:=K0'},H,K'⟩ ρ β st {a with defers:=df} (W.putObj l o'):=
 {sz:=m.sz,sl:=m.sl,pb:=m.pb,df:=hdf,n:=m.n
  bl:=fun b B hB=>by
   have qC:β b≠l:=fun e=>hl (by rw[<-e];exact m.kpB b (aH.1 hB).1);rw[Gy qC];exact m.bl b B hB
  inj:=m.inj,own:=m.own,sep:=m.sep
  fr:=⟨m.fr.os,m.fr.tape,m.fr.output,by rw[World.putObj_size];exact m.fr.size,fun k hk hn=>by
   rw[Gy (fun e=>by
    subst e;rcases ho with h|h
    ·exact Nat.lt_irrefl _ (aU hk h)
    ·exact h hn)];exact m.fr.block k hk hn,fun k ob hk=>by
   rw[Gy (fun e=>by rw[e,m.kpH l hl]at hk;cases hk)];exact m.fr.holds k ob hk,m.fr.dom,m.fr.dr⟩
  kp:=hK',rd:=m.rd,ag:=m.ag,ln:=m.ln,kle:=pY,kpH:=fun k hk=>m.kpH k (hKd k hk)
  kpB:=fun b hb=>by
   cases e:K' (β b)with
   |none=>exact e
   |some o=>exact absurd (m.kpB b hb) (hKd _ (by simp[e]))
  kn:=m.kn,kb:=m.kb}
theorem A7 {c1:Bs} (hK0:∀k,c1.K0 k=none) {H:PH} {fn:Func} {R:Ending->World->Prop} {tm:Array Value}
  (h:∀(K':PH) (a':Act) (W':World),Mt P ⟨c1,H,K'⟩ ρ β st a' W'->a'.tmps=tm->∃v,(results fn tm).run P W'= .ok v W'/\R (.returned v) W'):∀(Ds:List Nat) (K:PH) (a:Act) (W:World),Mt P ⟨c1,H,K⟩ ρ β st a W->a.tmps=tm->a.defers=Ds.map Qy->Ds.Nodup->(∀D∈Ds,c1.w.heap.size<=D/\K D=some (.deferred (some [])))->
  LeavesInM Fence.wide 0 P fn tm R a.defers .returning W:=by
 intro Ds;induction Ds with
 |nil=>intro K a W m ht hd _ _;rw[hd];exact h K a W m ht
 |cons D Ds ih=>
  intro K a W m ht hd hn hD;rw[hd];obtain⟨hDs,hDK⟩:=hD D aD;rw[eZ]at hn;have hw:=m.kp D _ hDK;refine⟨aD,.inl ⟨D,_,rfl,run_takeDeferred hw,?_⟩⟩;have hD':∀D'∈Ds,c1.w.heap.size<=D'/\(fun k=>if k=D then none else K k) D'=some (.deferred (some [])):=fun D' h'=>by
   obtain⟨g1,g2⟩:=hD D' (by simp[h']);refine⟨g1,?_⟩;show(if D'=D then none else K D')=_;rw[if_neg (show ¬D'=D from fun e=>hn.1 (e ▸ h'))];exact g2
  have:=m.turn (.deferred none) (K':=fun k=>if k=D then none else K k) (K0':=c1.K0) (df:=Ds.map Qy) (by rw[hDK];simp) (.inl hDs) (fun k ob hk=>by
   change (if k=D then none else K k)=some ob at hk;split at hk
   ·cases hk
   ·rename_i e;rw[Gy e];exact m.kp k ob hk) (fun k hk=>by
   change (if k=D then none else K k)≠none at hk;split at hk
   ·exact absurd rfl hk
   ·exact hk) (fun k o hk=>by rw[hK0]at hk;cases hk) ⟨Ds,rfl,hn.2,hD'⟩
  exact ih _ _ _ this ht rfl hn.2 hD'
theorem PH.or_none {X K:PH} {b:Nat}:X.or K b=none↔X b=none/\K b=none:=by
 unfold PH.or;cases e:X b with
 |none=>simp
 |some o=>simp
theorem PH.le_or (X K:PH):Pl X (X.or K):=fun b o h=>by unfold PH.or;rw[h]
theorem PH.or_r {X K:PH} (h:Disj X K):Pl K (X.or K):=fun b o hk=>by
 unfold PH.or;cases e:X b with
 |none=>exact hk
 |some o'=>rw[h b (by simp[e])]at hk;cases hk
theorem PH.or_In {X K:PH} {w:World} (h1:X.In w) (h2:K.In w):(X.or K).In w:=fun b o h=>by
 unfold PH.or at h;cases e:X b with
 |none=>simp only[e]at h;exact h2 b o h
 |some o'=>simp only[e]at h;cases h;exact h1 b _ e
theorem Xu {X K:PH} {b:Nat} (h:X b≠none):X.or K b≠none:=fun e=>h (PH.or_none.1 e).1
theorem Step.less {H H' H'':PH} {w w':World} (h:Step H w H' w') (hl:Pl H'' H'):Step H w H'' w':=
 ⟨h.os,h.tape,h.output,h.size,h.block,hl.In h.holds,fun b hb=>h.dom b fun e=>hb (by
  cases e2:H'' b with
  |none=>rfl
  |some o=>rw[hl b o e2]at e;cases e),h.dr⟩
def Jc (P:Program) (ρ:List Value) (st:St) (bs:List Nat) (vals:List Value) (i:Nat):Value:=
 match Cd i bs 0 with
 |some k=>vals.getD k undef
 |none=>match st.bl[i]? with|some B=>D P ρ B.c|none=>undef
def Jw (P:Program) (ρ:List Value) (st:St) (bs:List Nat) (vals:List Value) (i:Nat):Obj:=
 .cells (Jc P ρ st bs vals i).cells (match st.bl[i]? with|some B=>B.T|none=>0) (0,0)
def Oo (P:Program) (ρ:List Value) (st:St) (bs:List Nat) (β:Nat->Nat) (vals:List Value):PH:=fun b=>((eP st.bl.length).find? fun i=>β i==b).map (Jw P ρ st bs vals)
def Yof (P:Program) (ρ:List Value) (st:St) (bs:List Nat) (β:Nat->Nat) (l:Nat) (r:Loop) (vals:List Value) (X:PH):PH:=fun b=>
 if b=l then some (.loop r)else match Oo P ρ st bs β vals b with|some o=>some o|none=>X b
structure Fit (P:Program) (ρ:List Value) (st:St) (bs:List Nat) (β:Nat->Nat) (l:Nat) (vals:List Value) (X:PH):Prop where
 sz:∀(i:Nat) (B:Blk),st.bl[i]? =some B->(Jc P ρ st bs vals i).cells.size=B.n/\o0 (Jc P ρ st bs vals i).cells
 xb:∀i,i<st.bl.length->X (β i)=none
 xl:X l=none
section
variable {bs:List Nat} {vals:List Value} {l:Nat} {r:Loop} {X K:PH}
theorem A8 (inj:∀b b',b<st.bl.length->b'<st.bl.length->β b=β b'->b=b') {i:Nat} (hi:i<st.bl.length):Oo P ρ st bs β vals (β i)=some (Jw P ρ st bs vals i):=by
 unfold Oo;cases e:(eP st.bl.length).find? fun j=>β j==β i with
 |none=>
  have:=List.find?_eq_none.1 e i (bR.2 hi);simp at this
 |some j=>
  have h1:=nZ e;have h2:=bR.1 (lK e);simp only[beq_iff_eq]at h1;rw[inj j i h2 hi h1];rfl
theorem ut {b:Nat} {o:Obj} (h:Oo P ρ st bs β vals b=some o):∃i,i<st.bl.length/\β i=b/\o=Jw P ρ st bs vals i:=by
 unfold Oo at h;rw[eY]at h;obtain⟨i,h1,h2⟩:=h;have h3:=nZ h1;exact⟨i,bR.1 (lK h1),by simpa using h3,h2.symm⟩
theorem Xv:Yof P ρ st bs β l r vals X l=some (.loop r):=by unfold Yof;rw[if_pos rfl]
theorem Rf (inj:∀b b',b<st.bl.length->b'<st.bl.length->β b=β b'->b=b') {i:Nat} (hi:i<st.bl.length) (qC:β i≠l):Yof P ρ st bs β l r vals X (β i)=some (Jw P ρ st bs vals i):=by
 unfold Yof;rw[if_neg qC,A8 inj hi]
theorem Rh (hf:Fit P ρ st bs β l vals X):Pl X (Yof P ρ st bs β l r vals X):=fun b o hb=>by
 unfold Yof;rw[if_neg (fun e=>by rw[e,hf.xl]at hb;cases hb)];cases e:Oo P ρ st bs β vals b with
 |none=>exact hb
 |some o'=>
  obtain⟨i,hi,rfl,_⟩:=ut e;rw[hf.xb i hi]at hb;cases hb
theorem Rj {b:Nat} (h:Yof P ρ st bs β l r vals X b≠none):b=l\/(∃i,i<st.bl.length/\β i=b)\/X b≠none:=by
 unfold Yof at h;split at h
 ·rename_i e;exact .inl e
 ·cases e:Oo P ρ st bs β vals b with
  |none=>rw[e]at h;exact .inr (.inr h)
  |some o=>obtain⟨i,hi,he,_⟩:=ut e;exact .inr (.inl ⟨i,hi,he⟩)
theorem GX {w:World} (hl:w.heap[l]? =some (.loop r)) (hb:∀i,i<st.bl.length->w.heap[β i]? =some (Jw P ρ st bs vals i)) (hx:X.In w):(Yof P ρ st bs β l r vals X).In w:=fun b o h=>by
 unfold Yof at h;split at h
 ·rename_i e;subst e;cases h;exact hl
 ·cases e:Oo P ρ st bs β vals b with
  |none=>rw[e]at h;exact hx b o h
  |some o'=>
   rw[e]at h;cases h;obtain⟨i,hi,rfl,rfl⟩:=ut e;exact hb i hi
theorem fq {i:Nat} {B:Blk} (h:st.bl[i]? =some B):Jw P ρ st bs vals i= .cells (Jc P ρ st bs vals i).cells B.T (0,0):=by
 unfold Jw;rw[h]
theorem Xx {i:Nat} {B:Blk} (h:st.bl[i]? =some B):Jc P ρ st bs vals i=match Cd i bs 0 with|some k=>vals.getD k undef|none=>D P ρ B.c:=by
 unfold Jc;rw[h]
end
theorem A9:∀(ps:List Nat) (xs:List Value) (tm:Array Value),ps.length=xs.length->ps.Nodup->(∀p∈ps,p<tm.size)->
  ((ps.zip xs).foldl (fun t (p:Nat×Value)=>t.setIfInBounds p.1 p.2) tm).size=tm.size/\(∀t:Nat,t∉ps->((ps.zip xs).foldl (fun t (p:Nat×Value)=>t.setIfInBounds p.1 p.2) tm)[t]? =tm[t]?)/\
  ∀(k t:Nat),ps[k]? =some t->((ps.zip xs).foldl (fun t (p:Nat×Value)=>t.setIfInBounds p.1 p.2) tm)[t]? =some (xs.getD k undef):=by
 intro ps;induction ps with
 |nil=>intro xs tm _ _ _;exact⟨rfl,fun _ _=>rfl,fun k t h=>by simp at h⟩
 |cons p ps ih=>
  intro xs tm hl hn hr;cases xs with
  |nil=>simp at hl
  |cons x xs=>
   rw[eZ]at hn;simp only[List.zip_cons_cons,fV];obtain⟨g1,g2,g3⟩:=ih xs (tm.setIfInBounds p x) (by simpa using hl) hn.2 (fun q hq=>by simpa using hr q (by simp[hq]));refine⟨by rw[g1];simp,fun t ht=> ?_,fun k t hk=> ?_⟩
   ·simp only[aP,not_or]at ht;rw[g2 t ht.2,dK (fun e=>ht.1 e.symm)]
   ·cases k with
    |zero=>
     simp only[fW,dM]at hk;subst hk;rw[g2 p hn.1,dI (hr p aD)];rfl
    |succ k=>
     simp only[fX]at hk;rw[g3 k t hk];rfl
theorem GY {e:Exit} {l:List Exit} (h:Ub e l=true):∃r,l=e::r/\(e= .ret\/∃i,e= .exit i):=by
 unfold Ub at h;split at h
 ·exact⟨_,rfl,.inl rfl⟩
 ·rw[beq_iff_eq]at h;subst h;exact⟨_,rfl,.inr ⟨_,rfl⟩⟩
 ·cases h
theorem B3 {c2:Bs} {H2 K2:PH} {bs:List Nat} {l j:Nat} {st2:St} {t2:Tree} {ρ2:List Value} {β2:Nat->Nat} {a2:Act} {w2:World} {nx2:List (List Value->PH->Prop)} (qU:Dj st=true) (hn:ρ.length=st.n) (hp:ρ<+:ρ2)
  (h2:Xn st bs j st2=some t2) (m2:Mt P ⟨c2,H2,K2⟩ ρ2 β2 st2 a2 w2) (yC:c2.n0=st.bl.length) (sN:c2.b0=β) (hl:c2.K0 l≠none) (qA:den P G t2 nx2 ρ2 H2):
  ∃vals,vals.length=bs.length/\(nx2.getD (st.d+j) fun _ _=>False) vals H2/\Fit P ρ st bs β l vals H2/\∀i,i<st.bl.length->w2.heap[β i]? =some (Jw P ρ st bs vals i):=by
 unfold Xn at h2;split at h2
 ·rename_i nb sG;split at h2
  ·rename_i hs;simp only[dM]at h2;subst h2;obtain⟨g1,g2⟩:=Ud sG;obtain⟨s1,s2⟩:=GU hs;unfold Dj at qU;simp only[bA,dE]at qU;obtain⟨⟨⟨_,c2'⟩,_⟩,_⟩:=qU;rw[<-hn]at c2';obtain⟨rr,rfl⟩:=hp;have key:∀(i:Nat) (B:Blk),st.bl[i]? =some B->∃B',st2.bl[i]? =some B'/\B'.T=B.T/\B'.n=B.n/\Jc P ρ st bs (nb.map (D P (ρ++rr))) i=D P (ρ++rr) B'.c:=fun i B hB=>by
    obtain⟨B',q1,q2,q3,q4⟩:=s2 i B hB;refine⟨B',q1,q2,q3,?_⟩;rw[Xx hB];cases e:Cd i bs 0 with
    |some k=>
     obtain⟨k',rfl,qY⟩:=Xs e;obtain⟨B2,r1,r2⟩:=g2 k' i qY;obtain rfl:B2=B':=fC.inj (r1.symm.trans q1);simp[aK,r2]
    |none=>
     simp only;rw[q4 (by rw[bK];exact GT e),Hq P ρ rr B.c (c2' B (aG hB))]
   have hβ:∀i,i<st.bl.length->β2 i=β i:=fun i hi=>by rw[<-sN];exact m2.ag i (by show i<c2.n0;omega)
   refine⟨nb.map (D P (ρ++rr)),by rw[aX,g1],qA,⟨fun i B hB=> ?_,fun i hi=> ?_,m2.kpH l ?_⟩,fun i hi=> ?_⟩
   ·obtain⟨B',q1,q2,q3,q4⟩:=key i B hB;rw[q4,<-q3];exact(m2.bl i B' q1).2
   ·rw[<-hβ i hi];exact m2.sep i aA
   ·intro e;cases e2:c2.K0 l with
    |none=>exact hl e2
    |some o=>have h3:=m2.kle l o e2;simp only at h3 e;rw[e]at h3;cases h3
   ·obtain⟨B,hB⟩:∃B,st.bl[i]? =some B:=⟨_,aJ hi⟩;obtain⟨B',q1,q2,q3,q4⟩:=key i B hB;rw[fq hB,q4,<-q2,<-hβ i hi];exact(m2.bl i B' q1).1
  ·simp only[dM]at h2;subst h2;exact qA.elim
 ·simp only[dM]at h2;subst h2;exact qA.elim
theorem B4 {C:List Fg} {g:Operand} {ps:Array Tmp} {asg body:Code} (ihA:∀(c1:Bs) (rm:Nat),Re P G c1 rm asg (ex P C asg)) (ihB:∀(c1:Bs) (rm:Nat),Re P G c1 rm body (ex P C body))
  {c1:Bs} {rm:Nat} {st:St} {k:Exit->St->Option Tree} {t:Tree} {ρ:List Value} {β:Nat->Nat} {a:Act} {W:World} {H K:PH} {nx:List (List Value->PH->Prop)} {Q:Exit->Act->World->Prop}
  (h:ex P C (.rangeFunc g ps asg body) st k=some t) (m:Mt P ⟨c1,H,K⟩ ρ β st a W) (hd:nx.length=st.d) (qA:den P G t nx ρ H)
  (hQ:∀e st' t' ρ' β' a' W' H' K' nx',k e st'=some t'->Mt P ⟨c1,H',K'⟩ ρ' β' st' a' W'->ρ<+:ρ'->nx<+:nx'->nx'.length=st'.d->den P G t' nx' ρ' H'->Q e a' W'):(Code.rangeFunc g ps asg body).wpIn (Fr c1.ro) rm P Q a W:=by
 simp only[ex]at h;split at h
 ·rename_i gv ib hrd hgv hib;split at h
  ·rename_i hc;simp only[bA]at hc;obtain⟨⟨⟨qU,rL⟩,tH⟩,zI⟩:=hc;split at h
   ·rename_i tb ta te eb ea ee;simp only[dM]at h;subst h
    revert hib rL eb ea ee
    generalize Ol st asg body=bs;intro hib rL eb ea ee;have hbn:=Xt rL;have wY:=Xt tH;have hro:c1.ro=none:=m.rd hrd;obtain⟨f,caps,X,K1,Ro,E,S,Sp,I,Ix,hg,sJ,hHe,a2b,hit,hRo,hI0,a4g,a4h,a4i⟩:=qA;have yA:a.eval g= .func (.func f) #[] caps.toArray:=(m.val hgv).trans hg;obtain⟨qX,rE⟩:=Ud hib;have qW:∀p∈ps.toList,p<a.tmps.size:=fun p hp=>by rw[m.sz];simpa using dE.1 zI p hp
    rw[hro];refine wpIn_rangeFunc fun fn _=> ?_;obtain⟨rec,vE⟩:∃rec:LoopState->Option Code->Loop,rec=fun s p=>{state:=s,pending:=p,fn,tmps:=a.tmps,params:=ps,assign:=asg,body,defers:=W.heap.size}:=⟨_,rfl⟩;obtain⟨W1,hW1⟩:∃W1,(W.alloc (.deferred (some []))).alloc (.loop (rec .ready none))=W1:=⟨_,rfl⟩;have zH:(W.alloc (.deferred (some []))).heap.size=W.heap.size+1:=by show(W.heap.push _).size=_;simp
    have tX:Ext W W1:=hW1 ▸ (Ext.alloc W _).trans (Ext.alloc _ _);have a6y:W1.heap.size=W.heap.size+2:=by
     rw[<-hW1];show((W.alloc (.deferred (some []))).heap.push _).size=_;simp[zH]
    have hD1:W1.heap[W.heap.size]? =some (.deferred (some [])):=by
     rw[<-hW1];exact(Ext.alloc _ _).block (World.alloc_heap_new W _)
    have hL1:W1.heap[W.heap.size+1]? =some (.loop (rec .ready none)):=by
     rw[<-hW1,<-zH];exact World.alloc_heap_new _ _
    obtain⟨l,hl⟩:∃l,l=W.heap.size+1:=⟨_,rfl⟩;have hβl:∀i,i<st.bl.length->β i≠l:=fun i hi=>by have:=m.lt hi;omega
    refine⟨l,[Qy W.heap.size],W1,{target:= .fn (.func f) caps.toArray,args:= #[.func (.yield l) #[] #[]]},W1,f,#[.func (.yield l) #[] #[]]++caps.toArray,W1,?_,?_,fun _ _=>trivial,?_,fun e=>by simp[Fr,Fence.wide]at e,EJ ?_⟩
    ·rw[<-hW1,vE,hl];exact run_enterLoop_outer _ _ _ _ _
    ·simp only[resolve,yA];simp[go_sem]
    ·simp[invoke,go_sem,fj sJ]
    rw[show #[Value.func (.yield l) #[] #[]]++caps.toArray=((Value.func (.yield l) #[] #[])::caps).toArray from aD];have Xin:X.In W:=(PH.le_or X K1).In (hHe ▸ m.fr.holds);have K1in:K1.In W:=(PH.or_r a2b).In (hHe ▸ m.fr.holds);have hXl:∀Z:PH,Z.In W->Z l=none:=fun Z hZ=>by
     cases e:Z l with
     |none=>rfl
     |some o=>have:=Di (hZ _ _ e);omega
    have hXb:∀i,i<st.bl.length->X (β i)=none/\K1 (β i)=none:=fun i hi=>by
     have:=m.sep i hi;simp only[hHe]at this;exact PH.or_none.1 this
    have round:∀(pre:List (List Value)) (xs:List Value) (vals:List Value) (X' K':PH),E pre xs->vals.length=ib.length->I pre vals X'->Fit P ρ st bs β l vals X'->Disj (Yof P ρ st bs β l (rec .ready none) vals X') K'->
      ui P l xs (Yof P ρ st bs β l (rec .ready none) vals X') K' fun v Y'=>
       (v= .bool true/\∃vals' X'',vals'.length=ib.length/\I (pre++[xs]) vals' X''/\Fit P ρ st bs β l vals' X''/\Y'=Yof P ρ st bs β l (rec .ready none) vals' X'')\/
       (v= .bool false/\∃vals' X'' e0 r0 c0,Jb body=e0::r0/\((e0= .ret/\c0=Code.ret)\/∃i,e0= .exit i/\c0=Code.exit i)/\vals'.length=ib.length/\Ix (pre++[xs]) vals' X''/\Fit P ρ st bs β l vals' X''/\Y'=Yof P ρ st bs β l (rec .done (some c0)) vals' X''):=by
     intro pre xs vals X' K' hE hvl hI hf zL w qP;obtain⟨uX,zZ⟩:=a4g pre xs vals X' hE hvl hI;have xI:(Yof P ρ st bs β l (rec .ready none) vals X').In w:=(PH.le_or _ K').In qP;have a1h:K'.In w:=(PH.or_r zL).In qP;have a4j:X'.In w:=(Rh hf).In xI;have hlw:=xI l _ Xv;have hKl:K' l=none:=zL l (by rw[Xv];simp);have hKb:∀i,i<st.bl.length->K' (β i)=none:=fun i hi=>zL _ (by rw[Rf m.inj hi (hβl i hi)];simp);refine⟨fn,(ps.zip xs.toArray).foldl (fun tmps x=>match x with|(t,a)=>tmps.setIfInBounds t a) a.tmps,asg,body,?_,roundIn_of_wpIn trivial ?_⟩
     ·have:=run_yield (P:=P) (args:=xs.toArray) hlw (by rw[vE];simpa using uX);rw[vE]at this;exact this
     obtain⟨c2,rY⟩:∃c2:Bs,c2=⟨w,(Yof P ρ st bs β l (rec .ready none) vals X').or K',some l,st.bl.length,β,K'.put l (.loop (rec .ready none))⟩:=⟨_,rfl⟩;have hYl:(Yof P ρ st bs β l (rec .ready none) vals X').or K' l≠none:=Xu (by rw[Xv];simp);have a2c:∀(r:Loop) k,(K'.put l (.loop r)) k≠none->k=l\/K' k≠none:=fun r k hk=>by
      unfold PH.put at hk;split at hk
      ·rename_i e;exact .inl e
      ·exact .inr hk
     obtain⟨z1,z2,z3⟩:=A9 ps.toList xs a.tmps (by simpa using uX.symm) wY qW;have a4k:(ps.zip xs.toArray).foldl (fun tmps x=>match x with|(t,a)=>tmps.setIfInBounds t a) a.tmps=(ps.toList.zip xs).foldl (fun t (p:Nat×Value)=>t.setIfInBounds p.1 p.2) a.tmps:=by
      rw[<-Array.foldl_toList,Array.toList_zip]
     rw[a4k];generalize (ps.toList.zip xs).foldl (fun t (p:Nat×Value)=>t.setIfInBounds p.1 p.2) a.tmps=tm at z1 z2 z3;have m0:Mt P ⟨c2,X',K'.put l (.loop (rec .ready none))⟩ (ρ++(xs++vals)) β (ub st ps.toList bs) {tmps:=tm,defers:=[]} w:=by
      refine fp (st:={st with rd:=true}) (lv:=ps.toList) (dd:=[]) (bs:=bs) (δ:=2) qU m.n m.kn m.kb (by simp[uX,hvl,qX]) (by rw[<-m.sz];exact z1) m.pb wY hbn (fun u s hl' _ hs=> ?_) (fun k' u qY=> ?_) (fun i B hB=> ?_) ?_
      ·rw[z2 u hl'];exact m.sl u s hs
      ·rw[z3 k' u qY];have pX:=(aH.1 qY).1;rw[dC]at pX;rw[aK,aK,bS aA]
      ·change st.bl[i]? =some B at hB;have hi:=(aH.1 hB).1;have e1:(match Cd i bs 0 with|some k=>(xs++vals).getD (ps.toList.length+k) undef|none=>D P ρ B.c)=Jc P ρ st bs vals i:=by
        rw[Xx hB];cases Cd i bs 0 with
        |none=>rfl
        |some k=>
         simp only[aK,dC];rw[bV aA,uX,iK]
       rw[e1];refine⟨?_,hf.sz i B hB⟩;rw[<-fq hB];exact xI _ _ (Rf m.inj hi (hβl i hi))
      ·subst rY;refine⟨⟨[],rfl,dG,aD⟩,m.inj,fun i hi=> .inr (Xu (by rw[Rf m.inj hi (hβl i hi)];simp)),hf.xb,⟨rfl,rfl,rfl,aS _,fun _ _ _=>rfl,a4j,fun b hb=> .inl (Xu (fun e=>hb ?_)),aS _⟩,PH.put_in a1h hlw,(fun e=>by cases e),fun _ _=>rfl,aS _,Pl.refl _,fun k' qY=> ?_,fun i hi=> ?_⟩
       ·cases e2:X' b with
        |none=>exact e2
        |some o=>rw[Rh hf b o e2]at e;cases e
       ·rcases a2c _ k' qY with rfl|qY
        ·exact hf.xl
        ·cases e2:X' k' with
         |none=>exact e2
         |some o=>exact absurd (zL k' (by rw[Rh hf k' o e2];simp)) qY
       ·show PH.put K' l _ (β i)=none;unfold PH.put;rw[if_neg (hβl i hi)];exact hKb i hi
     refine ihA c2 0 _ _ tb _ β _ w X' _ _ _ eb m0 (by simp[ub,Dt,hd]) zZ ?_|>fun hh=>(by subst rY;exact hh);intro e st1 t1 ρ1 β1 a1 w1 H1 K1' nx1 h1 m1 vI vV hd1 vH;cases e with
     |exit id=>simp only[dM]at h1;subst h1;exact vH.elim
     |goto l=>simp only[dM]at h1;subst h1;exact vH.elim
     |ret=>simp only[dM]at h1;subst h1;exact vH.elim
     |panic ch=>simp only[dM]at h1;subst h1;exact vH.elim
     |outgrown=>simp only[dM]at h1;subst h1;exact vH.elim
     |normal=>
      have a0t:K1' l=some (.loop (rec .ready none)):=m1.kle l _ (by subst rY;show PH.put K' l _ l=_;unfold PH.put;rw[if_pos rfl]);have a2d:=m1.kp l _ a0t;refine⟨_,run_beginRound a2d (by rw[vE]),?_⟩;have a2e:({rec .ready none with state:= .busy}:Loop)=rec .busy none:=by rw[vE]
      rw[a2e];have a4l:=Di a2d;obtain⟨Ds1,d1,d2,d3⟩:=m1.df;have m1':Mt P ⟨{c2 with K0:=K'.put l (.loop (rec .busy none))},H1,K1'.put l (.loop (rec .busy none))⟩ ρ1 β1 st1 {a1 with defers:=a1.defers} (w1.putObj l (.loop (rec .busy none))):=by
       refine m1.turn _ (by rw[a0t];simp) (by subst rY;exact .inr hYl) (fun k' o qY=> ?_) (fun k' qY=> ?_) (fun k' o qY=> ?_) ⟨Ds1,d1,d2,fun D hD=>⟨(d3 D hD).1,?_⟩⟩
       ·unfold PH.put at qY;split at qY
        ·rename_i e;subst e;cases qY;exact World.putObj_heap_same a4l
        ·rename_i e;rw[Gy e];exact m1.kp k' o qY
       ·unfold PH.put at qY;split at qY
        ·rename_i e;subst e;rw[a0t];simp
        ·exact qY
       ·unfold PH.put at qY⊢;split
        ·rename_i e;rw[if_pos e]at qY;exact qY
        ·rename_i e;rw[if_neg e]at qY;exact m1.kle k' o (by subst rY;show PH.put K' l _ k'=_;unfold PH.put;rw[if_neg e];exact qY)
       ·unfold PH.put;have h5:K1' D=some (.deferred (some [])):=(d3 D hD).2;rw[if_neg (fun e=>by rw[e,a0t]at h5;cases h5)];exact h5
      refine ihB {c2 with K0:=K'.put l (.loop (rec .busy none))} 0 st1 _ t1 ρ1 β1 _ _ H1 _ nx1 _ h1 m1' hd1 vH ?_|>fun hh=>(by subst rY;exact hh);intro e st2 t2 ρ2 β2 a2 w2 H2 K2 nx2 h2 m2 rT sW qL qH;have hpp:ρ<+:ρ2:=((eT _ _).trans vI).trans rT;have hnn:=vV.trans sW;have hK2:∀k' o,(K'.put l (.loop (rec .busy none))) k'=some o->K2 k'=some o:=fun k' o qY=>m2.kle k' o qY;have a4m:=hK2 l _ (by unfold PH.put;rw[if_pos rfl]);have a2f:=m2.kp l _ a4m;have a1i:=Di a2f;have a2g:∀k' o,K' k'=some o->K2 k'=some o:=fun k' o qY=>hK2 k' o (by unfold PH.put;rw[if_neg (fun e=>by rw[e,hKl]at qY;cases qY)];exact qY);have fin:∀(jump:Option Code) (vals':List Value),Fit P ρ st bs β l vals' H2->(∀i,i<st.bl.length->w2.heap[β i]? =some (Jw P ρ st bs vals' i))->
        (Instr.endRound l jump).run P w2= .ok (.bool jump.isNone) (w2.putObj l (.loop (rec (if jump.isNone then .ready else .done) jump)))/\
        Step ((Yof P ρ st bs β l (rec .ready none) vals X').or K') w ((Yof P ρ st bs β l (rec (if jump.isNone then .ready else .done) jump) vals' H2).or K') (w2.putObj l (.loop (rec (if jump.isNone then .ready else .done) jump)))/\
        Disj (Yof P ρ st bs β l (rec (if jump.isNone then .ready else .done) jump) vals' H2) K':=fun jump vals' hf' a4n=>by
       have uG:Step ((Yof P ρ st bs β l (rec .ready none) vals X').or K') w H2 w2:=by have:=m2.fr;subst rY;exact this
       have hj:∀b,Yof P ρ st bs β l (rec (if jump.isNone then .ready else .done) jump) vals' H2 b≠none->K' b=none:=fun b hb=>by
        rcases Rj hb with rfl|⟨i,hi,rfl⟩|hb
        ·exact hKl
        ·exact hKb i hi
        ·cases e2:K' b with
         |none=>rfl
         |some o=>exact absurd (m2.kpH b (by show K2 b≠none;rw[a2g b o e2];simp)) hb
       refine⟨?_,⟨uG.os,uG.tape,uG.output,by rw[World.putObj_size];exact uG.size,fun k' qY sP=> ?_,PH.or_In (GX (World.putObj_heap_same a1i) (fun i hi=> ?_) fun b o hb=> ?_) fun b o hb=> ?_,fun b hb=> ?_,uG.dr⟩,hj⟩
       ·have:=run_endRound (P:=P) jump a2f;rw[this,vE]
       ·rw[Gy (fun e=>by rw[e]at sP;exact hYl sP)];exact uG.block k' qY sP
       ·rw[Gy (hβl i hi)];exact a4n i hi
       ·rw[Gy (fun e=>by rw[e,hf'.xl]at hb;cases hb)];exact m2.fr.holds b o hb
       ·rw[Gy (fun e=>by rw[e,hKl]at hb;cases hb)];exact m2.kp b o (a2g b o hb)
       ·by_cases rJ:K' b=none
        ·rcases Rj (fun e=>hb (PH.or_none.2 ⟨e,rJ⟩))with rfl|⟨i,hi,rfl⟩|hb
         ·exact .inl hYl
         ·exact .inl (Xu (by rw[Rf m.inj hi (hβl i hi)];simp))
         ·exact uG.dom b hb
        ·exact .inl fun e=>rJ (PH.or_none.1 e).2
      have a0b:=fun(j:Nat) (h2:Xn st bs j st2=some t2)=>B3 (l:=l) (c2:={c2 with K0:=K'.put l (.loop (rec .busy none))}) qU m.n hpp h2 m2 (by subst rY;rfl) (by subst rY;rfl) (by show PH.put K' l _ l≠none;unfold PH.put;rw[if_pos rfl];simp) qH;have uY:∀j,j<2->(nx2.getD (st.d+j) fun _ _=>False)=((nx++[fun v h=>I (pre++[xs]) v h,fun v h=>Ix (pre++[xs]) v h]).getD (st.d+j) fun _ _=>False):=fun j hj=>uk hnn (by simp[hd];omega);cases e with
      |normal=>
       obtain⟨vals',g1,g2,g3,g4⟩:=a0b 0 h2;rw[uY 0 aA]at g2;have g2:I (pre++[xs]) vals' H2:=by simpa[aK,<-hd]using g2
       obtain⟨q1,q2,q3⟩:=fin none vals' g3 g4;exact⟨_,_,q1,_,_,rfl,q2,q3,.inl ⟨rfl,vals',H2,aA,g2,g3,rfl⟩⟩
      |panic ch=>simp only[Ub,bZ,if_false,dM]at h2;subst h2;exact qH.elim
      |outgrown=>simp only[Ub,bZ,if_false,dM]at h2;subst h2;exact qH.elim
      |goto l=>simp only[Ub,bZ,if_false,dM]at h2;subst h2;exact qH.elim
      |ret=>
       simp only at h2;split at h2
       ·rename_i hx;obtain⟨r0,hr0,_⟩:=GY hx;obtain⟨vals',g1,g2,g3,g4⟩:=a0b 1 h2;rw[uY 1 aA]at g2;have g2:Ix (pre++[xs]) vals' H2:=by simpa[aK,<-hd]using g2
        obtain⟨q1,q2,q3⟩:=fin (some .ret) vals' g3 g4;exact⟨_,_,q1,_,_,rfl,q2,q3,.inr ⟨rfl,vals',H2,_,r0,.ret,hr0,.inl ⟨rfl,rfl⟩,aA,g2,g3,rfl⟩⟩
       ·simp only[dM]at h2;subst h2;exact qH.elim
      |exit id=>
       simp only at h2;split at h2
       ·rename_i hx;obtain⟨r0,hr0,_⟩:=GY hx;obtain⟨vals',g1,g2,g3,g4⟩:=a0b 1 h2;rw[uY 1 aA]at g2;have g2:Ix (pre++[xs]) vals' H2:=by simpa[aK,<-hd]using g2
        obtain⟨q1,q2,q3⟩:=fin (some (.exit id)) vals' g3 g4;exact⟨_,_,q1,_,_,rfl,q2,q3,.inr ⟨rfl,vals',H2,_,r0,.exit id,hr0,.inr ⟨id,rfl,rfl⟩,aA,g2,g3,rfl⟩⟩
       ·simp only[dM]at h2;subst h2;exact qH.elim
    have fit0:Fit P ρ st bs β l (ib.map (D P ρ)) X:=by
     refine⟨fun i B hB=> ?_,fun i hi=>(hXb i hi).1,hXl X Xin⟩;have e1:Jc P ρ st bs (ib.map (D P ρ)) i=D P ρ B.c:=by
      rw[Xx hB];cases e:Cd i bs 0 with
      |none=>rfl
      |some k'=>
       obtain⟨k'',rfl,a1j⟩:=Xs e;obtain⟨B2,r1,r2⟩:=rE k'' i a1j;obtain rfl:B2=B:=fC.inj (r1.symm.trans hB);simp[aK,r2]
     rw[e1];exact(m.bl i B hB).2
    have own0:∀i,i<st.bl.length->W.heap[β i]? =some (Jw P ρ st bs (ib.map (D P ρ)) i):=fun i hi=>by
     obtain⟨B,hB⟩:∃B,st.bl[i]? =some B:=⟨_,aJ hi⟩;rw[fq hB];have e1:Jc P ρ st bs (ib.map (D P ρ)) i=D P ρ B.c:=by
      rw[Xx hB];cases e:Cd i bs 0 with
      |none=>rfl
      |some k'=>
       obtain⟨k'',rfl,a1j⟩:=Xs e;obtain⟨B2,r1,r2⟩:=rE k'' i a1j;obtain rfl:B2=B:=fC.inj (r1.symm.trans hB);simp[aK,r2]
     rw[e1];exact(m.bl i B hB).1
    have dj0:Disj (Yof P ρ st bs β l (rec .ready none) (ib.map (D P ρ)) X) K1:=fun b hb=>by
     rcases Rj hb with rfl|⟨i,hi,rfl⟩|hb
     ·exact hXl K1 K1in
     ·exact(hXb i hi).2
     ·exact a2b b hb
    have in0:((Yof P ρ st bs β l (rec .ready none) (ib.map (D P ρ)) X).or K1).In W1:=PH.or_In (GX (by rw[hl];exact hL1) (fun i hi=>tX.block (own0 i hi)) (Xin.ext tX)) (K1in.ext tX);refine(hit l (fun pre y=>∃vals X',vals.length=ib.length/\I pre vals X'/\Fit P ρ st bs β l vals X'/\y=Yof P ρ st bs β l (rec .ready none) vals X')
     (fun pre y=>∃vals X' e0 r0 c0,Jb body=e0::r0/\((e0= .ret/\c0=Code.ret)\/∃i,e0= .exit i/\c0=Code.exit i)/\vals.length=ib.length/\Ix pre vals X'/\Fit P ρ st bs β l vals X'/\y=Yof P ρ st bs β l (rec .done (some c0)) vals X')
     ?_ ?_ _ ⟨_,X,aD,hI0,fit0,rfl⟩ dj0 W1 in0).mono ?_
    ·rintro pre y ⟨vals,X',_,h1,h2,rfl⟩;exact(hRo pre vals X' h1).trans (Rh h2)
    ·rintro pre xs y K' hE ⟨vals,X',h0,h1,h2,rfl⟩ zL;exact round pre xs vals X' K' hE h0 h1 h2 zL
    ·rintro e W2 ⟨v,H',rfl,qI,Y',K',pY,zL,a2h⟩;have back:∀(r:Loop) (vals':List Value) (X':PH),r.state≠ .busy->Y'=Yof P ρ st bs β l r vals' X'->vals'.length=ib.length->Fit P ρ st bs β l vals' X'->
       (Instr.endLoop l).run P W2= .ok r.pending (W2.putObj l (.loop {r with state:= .exhausted}))/\Disj X' K'/\
       Mt P ⟨c1,X'.or K',K.put W.heap.size (.deferred (some []))⟩ (ρ++vals') β (Dt st [] [] bs 0) {a with defers:=[Qy W.heap.size]++a.defers} (W2.putObj l (.loop {r with state:= .exhausted})):=by
      rintro r vals' X' hr rfl hvl hf;have uS:=qI.less pY;have xI:=(PH.le_or _ K').In uS.holds;have a1h:=(PH.or_r zL).In uS.holds;have rN:=xI l _ Xv;have hKl:K' l=none:=zL l (by rw[Xv];simp);have hXK:Disj X' K':=fun b hb=>zL b (by
       cases e:X' b with
       |none=>exact absurd e hb
       |some o=>rw[Rh hf b o e];simp)
      have hKW:∀b o,K b=some o->b<W.heap.size:=fun b o hb=>Di (m.kp b o hb);have hKn:∀b,K b≠none->((Yof P ρ st bs β l (rec .ready none) (ib.map (D P ρ)) X).or K1) b=none:=fun b hb=>by
       have h1:H b=none:=m.kpH b hb;rw[hHe]at h1;obtain⟨h2,h3⟩:=PH.or_none.1 h1;refine PH.or_none.2 ⟨?_,h3⟩;cases e:Yof P ρ st bs β l (rec .ready none) (ib.map (D P ρ)) X b with
       |none=>rfl
       |some o=>
        rcases Rj (by rw[e];simp:Yof P ρ st bs β l (rec .ready none) (ib.map (D P ρ)) X b≠none)with rfl|⟨i,hi,rfl⟩|h4
        ·cases e2:K b with
         |none=>exact absurd e2 hb
         |some o2=>have:=hKW _ _ e2;omega
        ·exact absurd (m.kpB i hi) hb
        ·exact absurd h2 h4
      have hDn:((Yof P ρ st bs β l (rec .ready none) (ib.map (D P ρ)) X).or K1) W.heap.size=none:=by
       refine PH.or_none.2 ⟨?_,?_⟩
       ·cases e:Yof P ρ st bs β l (rec .ready none) (ib.map (D P ρ)) X W.heap.size with
        |none=>rfl
        |some o=>
         rcases Rj (by rw[e];simp:Yof P ρ st bs β l (rec .ready none) (ib.map (D P ρ)) X W.heap.size≠none)with h4|⟨i,hi,h4⟩|h4
         ·omega
         ·have:=m.lt hi;omega
         ·cases e2:X W.heap.size with
          |none=>exact absurd e2 h4
          |some o2=>have:=Di (Xin _ _ e2);omega
       ·cases e:K1 W.heap.size with
        |none=>rfl
        |some o=>have:=Di (K1in _ _ e);omega
      have a0c:∀b,b<W1.heap.size->((Yof P ρ st bs β l (rec .ready none) (ib.map (D P ρ)) X).or K1) b=none->(X'.or K') b=none:=fun b hb hn=>by
       cases e:(X'.or K') b with
       |none=>rfl
       |some o=>
        have h4:(Yof P ρ st bs β l r vals' X').or K' b≠none:=fun e2=>by
         obtain⟨e3,e4⟩:=PH.or_none.1 e2;have e5:X' b=none:=by
          cases e6:X' b with
          |none=>rfl
          |some o=>rw[Rh hf b o e6]at e3;cases e3
         rw[PH.or_none.2 ⟨e5,e4⟩]at e;cases e
        rcases uS.dom b h4 with h5|h5
        ·exact absurd hn h5
        ·omega
      have hKD:K W.heap.size=none:=by
       cases e:K W.heap.size with
       |none=>rfl
       |some o=>have:=hKW _ _ e;omega
      refine⟨run_endLoop rN hr,hXK,fp (lv:=[]) (dd:=[]) (bs:=bs) (δ:=0) qU m.n m.kn m.kb (by simp[hvl,qX]) m.sz m.pb dG hbn (fun u s _ _ hs=>m.sl u s hs) (fun k' u qY=>by simp at qY) (fun i B hB=> ?_) ?_⟩
      ·have hi:=(aH.1 hB).1;have e1:(match Cd i bs 0 with|some k=>vals'.getD (([]:List Nat).length+k) undef|none=>D P ρ B.c)=Jc P ρ st bs vals' i:=by
        rw[Xx hB];cases Cd i bs 0 with
        |none=>rfl
        |some k=>simp only[bX,bK]
       rw[e1,Gy (hβl i hi),<-fq hB];exact⟨xI _ _ (Rf m.inj hi (hβl i hi)),hf.sz i B hB⟩
      ·obtain⟨Ds,d1,d2,d3⟩:=m.df;have uG:=m.fr;refine⟨⟨W.heap.size::Ds,by simp[d1],eZ.2 ⟨fun h=> ?_,d2⟩,fun D hD=> ?_⟩,m.inj,m.own,fun i hi=> ?_,⟨uS.os.trans (tX.os.trans uG.os),uS.tape.trans (tX.tape.trans uG.tape),uS.output.trans (tX.output.trans uG.output),?_,fun k' qY sP=> ?_,fun b o hb=> ?_,fun b hb=> ?_,bD uG.dr (bD tX.dr uS.dr)⟩,fun b o hb=> ?_,m.rd,m.ag,m.ln,fun b o hb=> ?_,fun b hb=> ?_,fun i hi=> ?_⟩
       ·have:=(d3 _ h).2;simp only at this;rw[hKD]at this;cases this
       ·rcases aP.1 hD with rfl|hD
        ·exact⟨uG.size,by show PH.put K _ _ _=_;unfold PH.put;rw[if_pos rfl]⟩
        ·refine⟨(d3 D hD).1,?_⟩;show PH.put K _ _ _=_;unfold PH.put;rw[if_neg (fun e=>by have:=(d3 D hD).2;simp only at this;rw[e,hKD]at this;cases this)];exact(d3 D hD).2
       ·exact PH.or_none.2 ⟨hf.xb i hi,zL _ (by rw[Rf m.inj hi (hβl i hi)];simp)⟩
       ·rw[World.putObj_size];exact bD uG.size (bD tX.size uS.size)
       ·have uA:k'<W.heap.size:=aU qY uG.size;rw[Gy aA,uS.block k' aA ?_,tX.block' uA,uG.block k' qY sP];refine PH.or_none.2 ⟨?_,?_⟩
        ·cases e:Yof P ρ st bs β l (rec .ready none) (ib.map (D P ρ)) X k' with
         |none=>rfl
         |some o=>
          rcases Rj (by rw[e];simp:Yof P ρ st bs β l (rec .ready none) (ib.map (D P ρ)) X k'≠none)with h4|⟨i,hi,h4⟩|h4
          ·omega
          ·subst h4;rcases m.own i hi with h5|h5
           ·exact absurd h5 (nK.2 qY)
           ·exact absurd sP h5
          ·have h6:H k'≠none:=by rw[hHe];exact Xu h4
           rcases uG.dom k' h6 with h5|h5
           ·exact absurd sP h5
           ·exact absurd h5 (nK.2 qY)
        ·cases e:K1 k' with
         |none=>rfl
         |some o=>
          have h6:H k'≠none:=by rw[hHe];intro e2;rw[(PH.or_none.1 e2).2]at e;cases e
          rcases uG.dom k' h6 with h5|h5
          ·exact absurd sP h5
          ·exact absurd h5 (nK.2 qY)
       ·change (X'.or K') b=some o at hb;have qC:b≠l:=fun e=>by
         subst e;rw[PH.or_none.2 ⟨hf.xl,hKl⟩]at hb;cases hb
        rw[Gy qC];exact PH.or_In ((Rh hf).In xI) a1h b o hb
       ·by_cases pX:b<W1.heap.size
        ·by_cases sW:((Yof P ρ st bs β l (rec .ready none) (ib.map (D P ρ)) X).or K1) b=none
         ·exact absurd (a0c b pX sW) hb
         ·by_cases h7:H b=none
          ·rw[hHe]at h7;obtain⟨h8,h9⟩:=PH.or_none.1 h7;rcases Rj (fun e=>sW (PH.or_none.2 ⟨e,h9⟩))with rfl|⟨i,hi,rfl⟩|h4
           ·right;have:=uG.size;simp only at this⊢;omega
           ·exact absurd (PH.or_none.2 ⟨hf.xb i hi,zL _ (by rw[Rf m.inj hi (hβl i hi)];simp)⟩) hb
           ·exact absurd h8 h4
          ·exact uG.dom b h7
        ·right;have:=uG.size;simp only at this⊢;omega
       ·change (if b=W.heap.size then some (Obj.deferred (some []))else K b)=some o at hb;split at hb
        ·rename_i e;subst e;cases hb;rw[Gy aA,uS.block _ aA hDn];exact hD1
        ·have a1f:=m.kp b o hb;have:=hKW b o hb;rw[Gy aA,uS.block b aA (hKn b (by rw[hb];simp))];exact tX.block a1f
       ·show PH.put K _ _ b=some o;have h4:=m.kle b o hb;have:=hKW b o h4;unfold PH.put;rw[if_neg aA];exact h4
       ·change (if b=W.heap.size then some (Obj.deferred (some []))else K b)≠none at hb;split at hb
        ·rename_i e;subst e;exact a0c _ aA hDn
        ·cases e2:K b with
         |none=>exact absurd e2 hb
         |some o=>have:=hKW b o e2;exact a0c b aA (hKn b hb)
       ·show PH.put K _ _ (β i)=none;have:=m.lt hi;unfold PH.put;rw[if_neg aA];exact m.kpB i hi
     rcases a2h with⟨xs,hS,vals',X',h0,h1,h2,hY⟩|⟨pre,hS,vals',X',e0,r0,c0,ho,wZ,h0,h1,h2,hY⟩
     ·obtain⟨q1,q2,q3⟩:=back _ vals' X' (by rw[vE];simp) hY h0 h2;have q1':(Instr.endLoop l).run P W2= .ok none (W2.putObj l (.loop {rec .ready none with state:= .exhausted})):=by rw[q1,vE]
      refine⟨none,_,q1',?_⟩;exact hQ .normal _ ta (ρ++vals') β _ _ (X'.or K') _ nx ea q3 (eT _ _) (eW _) (by simp[Dt,hd]) (a4h xs vals' X' K' hS q2 h0 h1)
     ·obtain⟨q1,q2,q3⟩:=back _ vals' X' (by rw[vE];simp) hY h0 h2;have q1':(Instr.endLoop l).run P W2= .ok (some c0) (W2.putObj l (.loop {rec .done (some c0)with state:= .exhausted})):=by rw[q1,vE]
      refine⟨some c0,_,q1',?_⟩;have zK:k e0 (Dt st [] [] bs 0)=some te:=by rw[ho]at ee;exact ee
      have:=hQ e0 _ te (ρ++vals') β _ _ (X'.or K') _ nx zK q3 (eT _ _) (eW _) (by simp[Dt,hd]) (a4i pre vals' X' K' hS q2 h0 h1);rcases wZ with⟨rfl,rfl⟩|⟨i,rfl,rfl⟩
      ·exact wpIn_ret this
      ·exact wpIn_exit this
   ·cases h
  ·cases h
 ·simp only[dM]at h;subst h;exact qA.elim
theorem B5 {C:List Fg} (hm:P.follows .mixedOrders=true):∀(c:Code) (c1:Bs) (rm:Nat) (st:St) (k:Exit->St->Option Tree) (t:Tree) (ρ:List Value) (β:Nat->Nat) (a:Act) (W:World) (H K:PH) (nx:List (List Value->PH->Prop)) (Q:Exit->Act->World->Prop),
  ex P C c st k=some t->Mt P ⟨c1,H,K⟩ ρ β st a W->nx.length=st.d->den P G t nx ρ H->
  (∀e st' t' ρ' β' a' W' H' K' nx',k e st'=some t'->Mt P ⟨c1,H',K'⟩ ρ' β' st' a' W'->ρ<+:ρ'->nx<+:nx'->nx'.length=st'.d->den P G t' nx' ρ' H'->Q e a' W')->c.wpIn (Fr c1.ro) rm P Q a W:=by
 intro c;induction c with
 |skip=>intro c1 rm st k t ρ β a W H K nx Q h m hd qA hQ;exact wpIn_skip (hQ _ _ _ _ _ _ _ _ _ _ h m (eW _) (eW _) hd qA)
 |exit id=>intro c1 rm st k t ρ β a W H K nx Q h m hd qA hQ;exact wpIn_exit (hQ _ _ _ _ _ _ _ _ _ _ h m (eW _) (eW _) hd qA)
 |ret=>intro c1 rm st k t ρ β a W H K nx Q h m hd qA hQ;exact wpIn_ret (hQ _ _ _ _ _ _ _ _ _ _ h m (eW _) (eW _) hd qA)
 |region id ops draw=>
  intro c1 rm st k t ρ β a W H K nx Q h m hd qA hQ;have pZ:Re P G c1 rm (.region id ops draw) (exR P C id ops draw):=by
   intro st k t ρ β a W H K nx Q h m hd qA hQ;have zI:Rg st β st β:=⟨fun _ _=>rfl,aS _⟩;cases draw with
   |false=>
    simp only[exR]at h;refine XV (kd:=fun _=>4) (ta:=fun i=>β (0*i)) ?_;exact GO (ρ:=ρ) (dn:=st.d) (nx:=nx) (tg:=fun i=>0*i) (st0:=st) (β0:=β) (fun _ _ _ _=>rfl) (fun i h=>aA) (fun st2 t2 ρ2 β2 a2 W2 H2 h2 m2 rT qL qH=>hQ _ _ _ _ _ _ _ _ _ _ h2 m2 rT (eW _) (by rw[qL];exact hd) qH) _ st t ρ β a W H h m (eW _) rfl zI qA
   |true=>
    have hx:=Ext.drawn W;have tags:∀(c:Fg),((eP c.ks.length).all fun i=> !(c.ks.getD i 99==5||c.ks.getD i 99==6)||decide (c.ts.getD i 0<st.bl.length))=true->∀i,(c.ks.getD i 99=5\/c.ks.getD i 99=6)->c.ts.getD i 0<st.bl.length:=fun c hTg i hi=>by
     have pX:i<c.ks.length:=by
      rcases dV i c.ks.length with h|h
      ·exact h
      ·rw[aK,aW h]at hi;simp at hi
     have:=dE.1 hTg i (bR.2 pX);simp only[dB,nJ,Bool.or_eq_false_iff,beq_eq_false_iff_ne,decide_eq_true_eq]at this;rcases this with⟨h1,h2⟩|h1
     ·exact absurd hi aA
     ·exact h1
    have one:∀(c:Fg) (t0:Tree),(∀i,(c.ks.getD i 99=5\/c.ks.getD i 99=6)->c.ts.getD i 0<st.bl.length)->(c.F.all fun i=>frK (c.ks.getD i 99))=true->
      Cc P true (ckC P c) ops id (fun st'=>Cc P false (ckC P c) ops id (k .normal) c.T st') c.F st=some t0->den P G t0 nx ρ H->
      wpF P ops (fun i=>c.ks.getD i 99) (fun i=>β (c.ts.getD i 0)) W.heap.size (wpT P ops (fun i=>c.ks.getD i 99) (fun i=>β (c.ts.getD i 0)) (Q .normal) c.T) c.F [] a {W with drawn:=W.drawn+1}:=fun c t0 yO hF h qA=>by
     refine ZU (ρ:=ρ) (dn:=st.d) (nx:=nx) (kd:=fun i=>c.ks.getD i 99) (tg:=fun i=>c.ts.getD i 0) (st0:=st) (β0:=β) m.fr.size (fun k hk=>by
       cases e:K k with
       |none=>exact absurd e hk
       |some ob=>exact Di (m.kp k ob e)) (fun _ _ _ h=>h) yO (fun st' t' ρ' β' a' W' H' h' m' hp qZ qW qQ=> ?_) _ [] st t0 ρ β a _ H (fun i hi=> ?_) h (m.ext hx) (eW _) rfl zI (fun i hi=> .inl (m.lt hi)) (fun b hb=> ?_) qA
     ·exact GO (ρ:=ρ) (dn:=st.d) (nx:=nx) (kd:=fun i=>c.ks.getD i 99) (tg:=fun i=>c.ts.getD i 0) (st0:=st) (β0:=β) (fun _ _ _ h=>h) yO (fun st2 t2 ρ2 β2 a2 W2 H2 h2 m2 rT qL qH=>hQ _ _ _ _ _ _ _ _ _ _ h2 m2 rT (eW _) (by rw[qL];exact hd) qH) _ st' t' ρ' β' a' W' H' h' m' hp qZ qW qQ
     ·exact dE.1 hF i hi
     ·cases e:H b with
      |none=>exact absurd e hb
      |some ob=>exact .inl (Di (m.fr.holds b ob e))
    have frs:∀{ops':Array Oper} {c:Fg},Qk ops' (Ek ops'.toList []) (fun i=>c.ks.getD i 99) (fun i=>c.ts.getD i 0) c.F c.T=true->(c.F.all fun i=>frK (c.ks.getD i 99))=true:=fun hB=>by
     simp only[Qk,bA]at hB;exact hB.1.1.1.2
    simp only[exR]at h;split at h
    ·split at h
     ·split at h
      ·rename_i hCB;simp only[Xk,bA,beq_iff_eq,bne_iff_ne]at hCB;obtain⟨uB,⟨⟨hA1,hT1⟩,hB1⟩,⟨hA2,hT2⟩,hB2⟩:=hCB;rw[hA1]at hB1;rw[hA2]at hB2;have g1:=tags _ hT1;have g2:=tags _ hT2;split at h
       ·rename_i h1 h2;simp only[dM]at h;subst h;exact XT hm uB (EZ hB1 (fun i j hi hj qC e=>qC (m.inj _ _ (g1 i hi) (g1 j hj) e)) (one _ _ g1 (frs hB1) h1 qA.1))
         (EZ hB2 (fun i j hi hj qC e=>qC (m.inj _ _ (g2 i hi) (g2 j hj) e)) (one _ _ g2 (frs hB2) h2 qA.2))
       ·cases h
      ·simp only[dM]at h;subst h;exact qA.elim
     ·simp only[dM]at h;subst h;exact qA.elim
    ·split at h
     ·rename_i c hfc;split at h
      ·rename_i hCB;simp only[Xk,bA,beq_iff_eq]at hCB;obtain⟨⟨hA,hTg⟩,hB⟩:=hCB;rw[hA]at hB;have yO:=tags c hTg;exact XN (kd:=fun i=>c.ks.getD i 99) (tg:=fun i=>c.ts.getD i 0) (ta:=fun i=>β (c.ts.getD i 0)) hm hB (fun i j hi hj qC e=>qC (m.inj _ _ (yO i hi) (yO j hj) e)) (one c t yO (frs hB) h qA)
      ·simp only[dM]at h;subst h;exact qA.elim
     ·simp only[dM]at h;subst h;exact qA.elim
  simp only[ex]at h;split at h
  ·exact um pZ _ _ st k t ρ β a W H K nx Q h m hd qA hQ
  ·exact pZ st k t ρ β a W H K nx Q h m hd qA hQ
 |seq x y ihx ihy=>
  intro c1 rm st k t ρ β a W H K nx Q h m hd qA hQ;simp only[ex]at h;refine wpIn_seq (ihx c1 rm st _ t ρ β a W H K nx _ h m hd qA fun e st' t' ρ' β' a' W' H' K' nx' h' m' hp hn qZ qQ=> ?_);cases e with
  |normal=>exact ihy c1 rm st' k t' ρ' β' a' W' H' K' nx' Q h' m' qZ qQ fun e2 st2 t2 ρ2 β2 a2 W2 H2 K2 nx2 h2 m2 rT sW qL qH=>hQ _ _ _ _ _ _ _ _ _ _ h2 m2 (hp.trans rT) (hn.trans sW) qL qH
  |exit id=>exact hQ _ _ _ _ _ _ _ _ _ _ h' m' hp hn qZ qQ
  |goto l=>exact hQ _ _ _ _ _ _ _ _ _ _ h' m' hp hn qZ qQ
  |ret=>exact hQ _ _ _ _ _ _ _ _ _ _ h' m' hp hn qZ qQ
  |panic ch=>exact hQ _ _ _ _ _ _ _ _ _ _ h' m' hp hn qZ qQ
  |outgrown=>exact hQ _ _ _ _ _ _ _ _ _ _ h' m' hp hn qZ qQ
 |cond c x y ihx ihy=>
  intro c1 rm st k t ρ β a W H K nx Q h m hd qA hQ;have pZ:Re P G c1 rm (.cond c x y) fun st k=>match(st.val c).map (Oc st.kb)with
    |some (.k (.bool true))=>ex P C x st k
    |some (.k (.bool false))=>ex P C y st k
    |some s=>match amO st.am c with
     |some true=>Ho P [.isb true s] st fun st=>ex P C x (st.know P s true) k
     |some false=>Ho P [.isb false s] st fun st=>ex P C y (st.know P s false) k
     |none=>Ho P [.bool s] st fun st=>
      match ex P C x (st.know P s true) k,ex P C y (st.know P s false) k with
      |some t1,some t2=>some (.br s t1 t2)
      |_,_=>none
    |none=>none:=by
   intro st k t ρ β a W H K nx Q h m hd qA hQ;simp only at h;cases hv:st.val c with
   |none=>simp[hv]at h
   |some s=>
    simp only[hv,dF]at h;have he:=m.val hv;have hD:=uf (P:=P) (ρ:=ρ) m.kb s;split at h
    ·rename_i hl;simp only[dM]at hl;rw[hl]at hD;exact wpIn_cond_true (by rw[he,<-hD];rfl) (ihx c1 rm st k t ρ β a W H K nx Q h m hd qA hQ)
    ·rename_i hl;simp only[dM]at hl;rw[hl]at hD;exact wpIn_cond_false (by rw[he,<-hD];rfl) (ihy c1 rm st k t ρ β a W H K nx Q h m hd qA hQ)
    ·rename_i c' _ _ hl;simp only[dM]at hl;rw[hl]at hD;split at h
     ·obtain⟨st',t',h1,h2,h3,h4,h5⟩:=Uc h m.kn qA;have hb:D P ρ c'= .bool true:=h3 (.isb true c') aD;exact wpIn_cond_true (by rw[he,<-hD];exact hb) (ihx c1 rm _ k t' ρ β a W H K nx Q h4 ((m.more h1 h2).know hb) (by simp only[St.know];rw[h1.d];exact hd) h5 hQ)
     ·obtain⟨st',t',h1,h2,h3,h4,h5⟩:=Uc h m.kn qA;have hb:D P ρ c'= .bool false:=h3 (.isb false c') aD;exact wpIn_cond_false (by rw[he,<-hD];exact hb) (ihy c1 rm _ k t' ρ β a W H K nx Q h4 ((m.more h1 h2).know hb) (by simp only[St.know];rw[h1.d];exact hd) h5 hQ)
     obtain⟨st',t',h1,h2,h3,h4,h5⟩:=Uc h m.kn qA;obtain⟨b,hb⟩:∃b,D P ρ c'= .bool b:=h3 (.bool c') aD;have m':=m.more h1 h2;split at h4
     ·rename_i t1 t2 e1 e2;simp only[dM]at h4;subst h4;cases b with
      |true=>exact wpIn_cond_true (by rw[he,<-hD];exact hb) (ihx c1 rm _ k t1 ρ β a W H K nx Q e1 (m'.know hb) (by simp only[St.know];rw[h1.d];exact hd) (h5.1 hb) hQ)
      |false=>exact wpIn_cond_false (by rw[he,<-hD];exact hb) (ihy c1 rm _ k t2 ρ β a W H K nx Q e2 (m'.know hb) (by simp only[St.know];rw[h1.d];exact hd) (h5.2 hb) hQ)
     ·cases h4
    ·rename_i hl;cases hl
  simp only[ex]at h;split at h
  ·exact um pZ _ _ st k t ρ β a W H K nx Q h m hd qA hQ
  ·exact pZ st k t ρ β a W H K nx Q h m hd qA hQ
 |block id x ih=>
  intro c1 rm st k t ρ β a W H K nx Q h m hd qA hQ;have pZ:Re P G c1 rm (.block id x) fun st k=>ex P C x st fun e st=>match e with
    | .exit j=>if j=id then k .normal st else k (.exit j) st
    |e=>k e st:=by
   intro st k t ρ β a W H K nx Q h m hd qA hQ;simp only at h;refine wpIn_block (ih c1 rm st _ t ρ β a W H K nx _ h m hd qA fun e st' t' ρ' β' a' W' H' K' nx' h' m' hp hn qZ qQ=> ?_);cases e with
   |exit j=>
    simp only[Exit.inBlock];simp only at h';split at h'
    ·rename_i e;rw[if_pos e];exact hQ _ _ _ _ _ _ _ _ _ _ h' m' hp hn qZ qQ
    ·rename_i e;rw[if_neg e];exact hQ _ _ _ _ _ _ _ _ _ _ h' m' hp hn qZ qQ
   |normal=>exact hQ _ _ _ _ _ _ _ _ _ _ h' m' hp hn qZ qQ
   |goto l=>exact hQ _ _ _ _ _ _ _ _ _ _ h' m' hp hn qZ qQ
   |ret=>exact hQ _ _ _ _ _ _ _ _ _ _ h' m' hp hn qZ qQ
   |panic ch=>exact hQ _ _ _ _ _ _ _ _ _ _ h' m' hp hn qZ qQ
   |outgrown=>exact hQ _ _ _ _ _ _ _ _ _ _ h' m' hp hn qZ qQ
  simp only[ex]at h;split at h
  ·exact um pZ _ _ st k t ρ β a W H K nx Q h m hd qA hQ
  ·exact pZ st k t ρ β a W H K nx Q h m hd qA hQ
 |loop b ih=>
  intro c1 rm st k t ρ β a W H K nx Q h m hd qA hQ;simp only[ex]at h;split at h
  ·rename_i iv ib hiv hib;split at h
   ·rename_i hc;rw[bA]at hc;obtain⟨qU,rL⟩:=hc;have rL:=Xt rL;rw[eY]at h;obtain⟨tb,h,rfl⟩:=h;obtain⟨I,μ,hI0,hI⟩:=qA;obtain⟨qR,rN⟩:=fm hiv;obtain⟨qX,rE⟩:=Ud hib;have tM:(Qv st.sl (Em b)).Nodup:=(ZX _).filter _;have a1g:∀u,u∈Em b->u<st.sl.length->u∈Qv st.sl (Em b)\/u∈ua st.sl (Em b):=fun u hu pX=>by
     cases hlv:tw st.sl[u]with
     |true=>exact .inl (bT.2 ⟨hu,by simp[pX,hlv]⟩)
     |false=>exact .inr (bT.2 ⟨hu,by simp[pX,hlv]⟩)
    have gl:∀(l:List SV) (ρ':List Value) (j:Nat) (s:SV),l[j]? =some s->(l.map (D P ρ')).getD j undef=D P ρ' s:=fun l ρ' j s hj=>by
     simp[aK,hj]
    refine A4 (fun n a' W'=>∃vals β' H' K',vals.length=(iv++ib).length/\I vals H'/\μ vals H'=n/\Mt P ⟨c1,H',K'⟩ (ρ++vals) β' (Dt st (Qv st.sl (Em b)) (ua st.sl (Em b)) (Qx st b) 1) a' W') (μ _ H) ⟨(iv++ib).map (D P ρ),β,H,K,aD,hI0,rfl,?_⟩ ?_
    ·refine fp qU m.n m.kn m.kb (by rw[aX,aM,qR,qX]) m.sz m.pb tM rL (fun u s _ _ hs=>m.sl u s hs) (fun k' u qY=> ?_) (fun i B hB=> ?_) m.bk
     ·obtain⟨s,hs,uA⟩:=rN k' u qY;obtain⟨v,hv,hmv⟩:=m.sl u _ hs;rw[hv];congr 1;rw[gl _ ρ k' s]
      ·exact hmv
      ·rw[bS (aH.1 uA).1];exact uA
     ·cases hp:Cd i (Qx st b) 0 with
      |some k'=>
       obtain⟨k'',rfl,qY⟩:=Xs hp;obtain⟨B2,hB2,hq⟩:=rE k'' i qY;obtain rfl:B2=B:=fC.inj (hB2.symm.trans hB);have e:((iv++ib).map (D P ρ)).getD ((Qv st.sl (Em b)).length+(0+k'')) undef=D P ρ B2.c:=gl _ _ _ _ (by
        rw[bV aA,qR,bK,iK];exact hq)
       simp only[e];exact m.bl i B2 hB
      |none=>simp only;exact m.bl i B hB
    ·rintro n a1 W1 ⟨vals,β1,H2,K2,hvl,hIv,hμ,m1⟩;refine ih c1 rm _ _ tb (ρ++vals) β1 a1 W1 H2 K2 (nx++[fun l w=>I l w/\μ l w<μ vals H2]) _ h m1 (by simp[Dt,hd]) (hI vals H2 hvl hIv) ?_;intro e st2 t2 ρ2 β2 a2 W2 H3 K3 nx2 h2 m2 rT sW qL qH;have hpρ:ρ<+:ρ2:=(eT _ _).trans rT;have wY:nx<+:nx2:=(eT _ _).trans sW;cases e with
     |normal=>
      simp only at h2;split at h2
      ·rename_i nv nb hnv sG;split at h2
       ·rename_i uR;rw[bA]at uR;simp only[dM]at h2;subst h2;have hh:=qH;have e1:nx2.getD st.d (fun _ _=>False)=fun l w=>I l w/\μ l w<μ vals H2:=by
         rw[uk sW (by simp[hd])];simp[aK,<-hd]
        simp only[den]at hh;rw[e1]at hh;obtain⟨hIn,pX⟩:=hh;obtain⟨r,rfl⟩:=hpρ;refine⟨μ _ H3,by rw[<-hμ];exact pX,(nv++nb).map (D P (ρ++r)),β2,H3,K3,?_,hIn,rfl,?_⟩
        ·rw[aX,aM,aM,(fm hnv).1,(Ud sG).1,qR,qX]
        ·exact GW qU m m2 tM rL a1g hnv sG uR.1 uR.2
       ·simp only[dM]at h2;subst h2;exact qH.elim
      ·simp only[dM]at h2;subst h2;exact qH.elim
     |exit id=>exact hQ _ _ _ _ _ _ _ _ _ _ h2 m2 hpρ wY qL qH
     |goto l=>exact hQ _ _ _ _ _ _ _ _ _ _ h2 m2 hpρ wY qL qH
     |ret=>exact hQ _ _ _ _ _ _ _ _ _ _ h2 m2 hpρ wY qL qH
     |panic ch=>exact hQ _ _ _ _ _ _ _ _ _ _ h2 m2 hpρ wY qL qH
     |outgrown=>exact hQ _ _ _ _ _ _ _ _ _ _ h2 m2 hpρ wY qL qH
   ·cases h
  ·cases h
 |rangeFunc g ps asg body ihA ihB=>
  intro c1 rm st k t ρ β a W H K nx Q h m hd qA hQ;exact B4 ihA ihB h m hd qA hQ
 |scope x ih=>
  intro c1 rm st k t ρ β a W H K nx Q h m hd qA hQ;simp only[ex]at h;refine A6 (ih c1 rm st _ t ρ β a W H K nx _ h m hd qA fun e st' t' ρ' β' a' W' H' K' nx' h' m' hp hn qZ qQ=> ?_);cases e with
  |goto l=>simp only[dM]at h';subst h';exact qQ.elim
  |exit id=>exact hQ _ _ _ _ _ _ _ _ _ _ h' m' hp hn qZ qQ
  |normal=>exact hQ _ _ _ _ _ _ _ _ _ _ h' m' hp hn qZ qQ
  |ret=>exact hQ _ _ _ _ _ _ _ _ _ _ h' m' hp hn qZ qQ
  |panic ch=>exact hQ _ _ _ _ _ _ _ _ _ _ h' m' hp hn qZ qQ
  |outgrown=>exact hQ _ _ _ _ _ _ _ _ _ _ h' m' hp hn qZ qQ
 |label l=>intro c1 rm st k t ρ β a W H K nx Q h m hd qA hQ;exact wpIn_label (hQ _ _ _ _ _ _ _ _ _ _ h m (eW _) (eW _) hd qA)
 |goto l=>intro c1 rm st k t ρ β a W H K nx Q h m hd qA;simp only[ex,dM]at h;subst h;exact fun _=>qA.elim
 |refuse s=>intro c1 rm st k t ρ β a W H K nx Q h m hd qA;simp only[ex,dM]at h;subst h;exact fun _=>qA.elim
def Lo (tmps:Array Value):ResultVar->Sem Value
 | .tmp t=>pure (tmps.getD t undef)
 | .cell a t=>do loadVar t (<-asAddr (tmps.getD a undef))
theorem B6 (m:Mt P w0 ρ β st a W):∀{rs:List ResultVar} {l:List SV},Om P st rs=some l->(rs.mapM (Lo a.tmps)).run P W= .ok (l.map (D P ρ)) W:=by
 intro rs;induction rs with
 |nil=>intro l h;simp only[Om,dM]at h;subst h;rfl
 |cons r rs ih=>
  intro l h;cases r with
  |tmp t=>
   simp only[Om]at h;split at h
   ·rename_i s l' hs hl;simp only[dM]at h;subst h;obtain⟨v,hv,hm⟩:=m.sl t _ hs;have e:a.tmps.getD t undef=D P ρ s:=by
     rw[cR,hv];exact hm
    simp only[oJ,eI,Lo,eJ,eH,ih hl,e,aN]
   ·cases h
  |cell t T=>
   simp only[Om]at h;split at h
   ·rename_i s l' hs hl;simp only[dM]at h;subst h;have a2i:=GG m (o:=⟨none,.load T (.tmp t),0, "",#[],none⟩) (T:=T) (x:= .tmp t) rfl;rw[hs]at a2i;obtain⟨_,_,v,hv,pZ⟩:=a2i aD;have pZ:=pZ W (.inr (.inl (Ext.refl _)));have hv:v=D P ρ s:=hv;have e:(Lo a.tmps (.cell t T)).run P W= .ok (D P ρ s) W:=by
     simp only[execOp,eI]at pZ;unfold Lo;rw[<-hv];show(asAddr (a.eval (.tmp t))>>=loadVar T).run P W=_;unfold Instr.loadAt at pZ;generalize a.eval (.tmp t)=x at pZ;cases x with
     |pointer p=>
      cases p with
      |none=>simp[Instr.sureAddr]at pZ
      |some ad=>
       simp only[Instr.sureAddr,eI,eJ,eH]at pZ;simp only[asAddr,eI,eJ,eH];cases hl:(loadVar T ad).run P W with
       |ok x w=>rw[hl]at pZ;simp at pZ;obtain⟨rfl,rfl⟩:=pZ;rfl
       |halt x w=>rw[hl]at pZ;simp[Result.andThen]at pZ
     |_=>simp[Instr.sureAddr]at pZ
    simp only[oJ,eI,e,eH,ih hl,eJ,aN]
   ·cases h
theorem B7 {fn:Func} {tmps:Array Value} {l:List Value} {w:World} (h:(fn.results.toList.mapM (Lo tmps)).run P w= .ok l w):(results fn tmps).run P w= .ok (Am l) w:=by
 unfold results;have e:(fn.results.mapM (Lo tmps)).run P w= .ok l.toArray w:=by
  rw[Array.mapM_eq_mapM_toList];have:(List.toArray<$>fn.results.toList.mapM (Lo tmps):Sem (Array Value))=(fn.results.toList.mapM (Lo tmps)>>=fun x=>pure x.toArray):=rfl;rw[this,eI,h];rfl
 show((fn.results.mapM (Lo tmps))>>=fun vs=>pure (if h:vs.size=1 then vs[0]else .tuple vs)).run P w=_;rw[eI,e];simp only[eH,eJ];congr 1
 match l with
 |[]=>rfl
 |[x]=>rfl
 |x::y::r=>simp[Am]
theorem GZ (hm:P.follows .mixedOrders=true) {f:FuncId} {E:List Nat} {A:List (Nat×Bool)} {J:List Jn} {C:List Fg} {t:Tree} (ht:tree P E A J C f=some t) (args:List Value) {np:Nat} (hnp:(P.funcs[f]?).map (fun fn=>fn.params.size+fn.nfree)=some np) (rF:args.length=np) {H:PH} (qA:den P G t [] args H) (W:World) (qP:H.In W):
  Calls P f args.toArray W fun e w'=>∃v H',e= .returned v/\Step H W H' w'/\G v H':=by
 unfold tree at ht;split at ht
 ·rename_i fn hf;split at ht
  ·rename_i c hc;rw[hf]at hnp;simp only[dF,dM]at hnp;rw[hnp]at ht;refine(callsIn_wide (n:=0)).1 (callsIn_of_wp_marks hf hc trivial ?_);refine B5 (G:=G) hm c ⟨W,H,none,0,fun _=>0,fun _=>none⟩ 0 _ _ t args (fun _=>0) _ W H (fun _=>none) [] _ ht ?_ rfl qA ?_
   ·refine{sz:=by simp[rF],sl:= ?_,pb:= ?_,df:=⟨[],rfl,dG,aD⟩,n:=rF,bl:=fun b B h=>by simp at h,inj:=fun b b' h=>by simp at h,own:=fun b h=>by simp at h,sep:=fun b h=>by simp at h,fr:=Step.refl qP,kp:=(fun b o h=>by cases h),rd:=fun _=>rfl,kle:=(fun _ _ h=>by cases h),ag:=(fun b h=>by simp at h),ln:=bI _,kpH:=fun k h=>absurd rfl h,kpB:=fun b h=>by simp at h,kn:=by simp,kb:=by simp}
    ·intro u s hs;simp only at hs;by_cases hu:u<np
     ·rw[bS (by simpa using hu)]at hs;simp[hu]at hs;subst hs;refine⟨args[u]'aA,?_,?_⟩
      ·rw[Array.getElem?_append_left (by simpa[rF]using hu)];simp[rF,hu]
      ·show _=args.getD u undef;simp[aK,rF,hu]
     ·rw[bV (by simpa using hu)]at hs;have yQ:=(aH.1 hs).1;rw[dX]at hs;split at hs
      ·rename_i pX;simp only[dM]at hs;subst hs;refine⟨undef,?_,rfl⟩;rw[Array.getElem?_append_right (by simp[rF];omega),Array.getElem?_replicate,if_pos];simp[rF]at pX⊢;omega
      ·cases hs
    ·intro u b o s i hs;simp only at hs;have:=aG hs;simp at this
   ·intro e st' t' ρ' β' a' W' H' K' nx' h' m' hp hn qZ qQ;have fin:(Om P st' fn.results.toList).map Tree.ret=some t'->LeavesInM Fence.wide 0 P fn a'.tmps (fun e w'=>∃v H',e= .returned v/\Step H W H' w'/\G v H') a'.defers .returning W':=fun h'=>by
     rw[eY]at h';obtain⟨l,hl,rfl⟩:=h';obtain⟨Ds,d1,d2,d3⟩:=m'.df;exact A7 aE (fun K'' a'' W'' m'' e''=>⟨_,by rw[<-e''];exact B7 (B6 m'' hl),_,_,rfl,m''.fr,qQ⟩) Ds _ a' W' m' rfl d1 d2 d3
    cases e with
    |normal=>exact fin h'
    |ret=>exact fin h'
    |exit id=>cases h'
    |goto l=>cases h'
    |panic ch=>cases h'
    |outgrown=>cases h'
  ·cases ht
 ·cases ht
end
open Go.RowKit
def Jy (id:Nat):Code->Option (Array Oper)
 | .region j ops _=>if j=id then some ops else none
 | .seq a b=>(Jy id a).orElse fun _=>Jy id b
 | .cond _ a b=>(Jy id a).orElse fun _=>Jy id b
 | .block _ a=>Jy id a
 | .loop a=>Jy id a
 | .scope a=>Jy id a
 | .rangeFunc _ _ a c=>(Jy id a).orElse fun _=>Jy id c
 |_=>none
def opr (fn:Func) (id i:Nat):Oper:=(((fn.body.bind (Jy id)).bind (·[i]?))).getD default
def Det (P:Program) (f:FuncId) (args:List Value) (v:Value):Prop:=∀w,Calls P f args.toArray w fun e w'=>e= .returned v/\Ext w w'
def Yld (P:Program) (o:Oper) (args:List Value) (v:Value):Prop:=∀w,(execOp (g8 o.op.operands.toList args) o).run P w= .ok (.value v) w
def Own (P:Program) (f:FuncId) (args:List Value) (v:Value):Prop:=∀w,(callFunc f args.toArray).run P w= .ok (.value v) w
def Run (P:Program) (o:Oper) (args:List Value) (v:Value):Prop:=∀w,Stp P o (g8 o.op.operands.toList args) w fun v' w'=>v'=v/\Ext w w'
def Con (P:Program) (f:FuncId) (args:List Value) (H:PH) (V:Value->PH->Prop):Prop:=
 ∀w,H.In w->Calls P f args.toArray w fun e w'=>∃v H',e= .returned v/\Step H w H' w'/\V v H'
def Opn (P:Program) (o:Oper) (args:List Value) (H:PH) (V:Value->PH->Prop):Prop:=
 ∀w,H.In w->Stp P o (g8 o.op.operands.toList args) w fun v w'=>∃H',Step H w H' w'/\V v H'
def Rds (P:Program) (o:Oper) (args:List Value) (H:PH) (v:Value):Prop:=∀w,H.In w->(execOp (g8 o.op.operands.toList args) o).run P w= .ok (.value v) w
theorem Step.of_ext {H:PH} {w w':World} (h:H.In w) (hx:Ext w w'):Step H w H w':=(Step.refl h).ext hx
theorem Det.con {P:Program} {f:FuncId} {args:List Value} {v:Value} (h:Det P f args v) (H:PH):Con P f args H fun u H'=>u=v/\H'=H:=
 fun w hw=>(h w).mono fun e w' ⟨he,hx⟩=>⟨v,H,he,Step.of_ext hw hx,rfl,rfl⟩
theorem Con.mono {P:Program} {f:FuncId} {args:List Value} {H:PH} {V V':Value->PH->Prop} (h:Con P f args H V) (hv:∀v H',V v H'->V' v H'):Con P f args H V':=
 fun w hw=>(h w hw).mono fun e w' ⟨v,H',he,hs,hV⟩=>⟨v,H',he,hs,hv v H' hV⟩
theorem Opn.mono {P:Program} {o:Oper} {args:List Value} {H:PH} {V V':Value->PH->Prop} (h:Opn P o args H V) (hv:∀v H',V v H'->V' v H'):Opn P o args H V':=
 fun w hw=>(h w hw).mono fun v w' ⟨H',hs,hV⟩=>⟨H',hs,hv v H' hV⟩
theorem Yld.rds {P:Program} {o:Oper} {args:List Value} {v:Value} (h:Yld P o args v) (H:PH):Rds P o args H v:=fun w _=>h w
theorem s9 {P:Program} {f:FuncId} {E:List Nat} {A:List (Nat×Bool)} {J:List Jn} {C:List Fg} {t:Tree} {args:List Value} {np:Nat} {H:PH} {V:Value->PH->Prop} (hm:P.follows .mixedOrders=true) (ht:tree P E A J C f=some t) (hnp:(P.funcs[f]?).map (fun fn=>fn.params.size+fn.nfree)=some np) (rF:args.length=np)
  (h:den P V t [] args H):Con P f args H V:=fun w hw=>GZ hm ht args hnp rF h w hw
theorem i9 {P:Program} {f:FuncId} {E:List Nat} {A:List (Nat×Bool)} {J:List Jn} {C:List Fg} {t:Tree} {args:List Value} {np:Nat} {H:PH} {V:Value->PH->Prop} (hm:P.follows .mixedOrders=true) (ht:tree P E A J C f=some t) (h:den P V t [] args H) (rF:args.length=np:=by exact rfl) (hnp:(P.funcs[f]?).map (fun fn=>fn.params.size+fn.nfree)=some np:=by kernel_rfl):Con P f args H V:=s9 hm ht hnp rF h
def pd (P:Program) (R:Value->Prop):Tree->List (List Value->Prop)->List Value->Prop
 | .ret l,_,ρ=>R (Am (l.map (D P ρ)))
 | .rq r t,nx,ρ=>r.holds P ρ/\pd P R t nx ρ
 | .br c t e,nx,ρ=>(D P ρ c= .bool true->pd P R t nx ρ)/\(D P ρ c= .bool false->pd P R e nx ρ)
 | .call _ f args t,nx,ρ=>∃v,Det P f (args.map (D P ρ)) v/\pd P R t nx (ρ++[v])
 | .prim _ _ o args t,nx,ρ=>∃v,Yld P o (args.map (D P ρ)) v/\pd P R t nx (ρ++[v])
 | .eff _ _ _ o args t,nx,ρ=>∃v,Run P o (args.map (D P ρ)) v/\pd P R t nx (ρ++[v])
 | .ext f args t,nx,ρ=>∃v,Own P f (args.map (D P ρ)) v/\pd P R t nx (ρ++[v])
 | .pub _ _ _,_,_=>False
 | .dead _,_,_=>False
 | .both _ _,_,_=>False
 | .rf _ _ _ _ _ _,_,_=>False
 | .mk _ _ _ _ _,_,_=>False
 | .loop ini t,nx,ρ=>∃(I:List Value->Prop) (μ:List Value->Nat),I (ini.map (D P ρ))/\∀vals,vals.length=ini.length->I vals->pd P R t (nx++[fun l=>I l/\μ l<μ vals]) (ρ++vals)
 | .next d l,nx,ρ=>(nx.getD d fun _=>False) (l.map (D P ρ))
 | .join n t u,nx,ρ=>∃J:List Value->Prop,pd P R t (nx++[J]) ρ/\∀vals,vals.length=n->J vals->pd P R u nx (ρ++vals)
theorem B8 {P:Program} {R:Value->Prop} {H:PH}:∀(t:Tree) (nx:List (List Value->Prop)) (ρ:List Value),pd P R t nx ρ->den P (fun v h=>R v/\h=H) t (nx.map fun g l h=>g l/\h=H) ρ H:=by
 intro t;induction t with
 |ret l=>intro nx ρ h;exact⟨h,rfl⟩
 |rq r t ih=>intro nx ρ h;exact⟨h.1,ih _ _ h.2⟩
 |br c t e ih1 ih2=>intro nx ρ h;exact⟨fun hc=>ih1 _ _ (h.1 hc),fun hc=>ih2 _ _ (h.2 hc)⟩
 |call pf f args t ih=>
  intro nx ρ h w hw;obtain⟨v,hd,hn⟩:=h;exact(hd w).mono fun e w' ⟨he,hx⟩=>⟨v,H,he,Step.of_ext hw hx,fun _=>Pl.refl H,ih _ _ hn⟩
 |prim id i o args t ih=>
  intro nx ρ h;obtain⟨v,hd,hn⟩:=h;exact⟨v,fun w _=>hd w,ih _ _ hn⟩
 |eff pf id i o args t ih=>
  intro nx ρ h w hw;obtain⟨v,hd,hn⟩:=h;exact(hd w).mono fun u w' ⟨he,hx⟩=>⟨H,Step.of_ext hw hx,fun _=>Pl.refl H,by rw[he];exact ih _ _ hn⟩
 |ext f args t ih=>
  intro nx ρ h;obtain⟨v,hd,hn⟩:=h;exact⟨v,fun w _=>hd w,ih _ _ hn⟩
 |pub T c t ih=>intro nx ρ h;exact h.elim
 |dead n=>intro nx ρ h;exact h.elim
 |both t u=>intro nx ρ h;exact h.elim
 |rf g np ini tb ta te=>intro nx ρ h;exact h.elim
 |mk id i o args t ih=>intro nx ρ h;exact h.elim
 |loop ini t ih=>
  intro nx ρ h;obtain⟨I,μ,h0,h1⟩:=h;refine⟨fun l h=>I l/\h=H,fun l _=>μ l,⟨h0,rfl⟩,?_⟩;rintro vals H' hl ⟨hI,rfl⟩;have:=ih _ _ (h1 vals hl hI);have e:(fun(l:List Value) (h:PH)=>(I l/\h=H')/\μ l<μ vals)=fun l h=>(I l/\μ l<μ vals)/\h=H':=by
   funext l h;exact propext ⟨fun⟨⟨a,b⟩,c⟩=>⟨⟨a,c⟩,b⟩,fun⟨⟨a,c⟩,b⟩=>⟨⟨a,b⟩,c⟩⟩
  rw[e];simpa only[aT,aN,bJ]using this
 |next d l=>
  intro nx ρ h;simp only[pd]at h;simp only[den];rw[aK,bO];rw[aK]at h;cases hn:nx[d]? with
  |none=>simp[hn]at h
  |some g=>simp only[hn,Option.getD_some]at h;simpa using h
 |join n t u ih1 ih2=>
  intro nx ρ h;obtain⟨J,h1,h2⟩:=h;refine⟨fun l h=>J l/\h=H,?_,?_⟩
  ·simpa only[aT,aN,bJ]using ih1 _ _ h1
  ·rintro vals H' hl ⟨hJ,rfl⟩;exact ih2 _ _ (h2 vals hl hJ)
theorem Gz {P:Program} {f:FuncId} {E:List Nat} {A:List (Nat×Bool)} {J:List Jn} {C:List Fg} {t:Tree} {args:List Value} {v:Value} {np:Nat} (hm:P.follows .mixedOrders=true) (ht:tree P E A J C f=some t) (hnp:(P.funcs[f]?).map (fun fn=>fn.params.size+fn.nfree)=some np) (rF:args.length=np)
  (h:pd P (fun u=>u=v) t [] args):Det P f args v:=fun w=>by
 have:=GZ (H:=fun _=>none) hm ht args hnp rF (B8 t [] args h) w (fun b o hb=>by cases hb);refine this.mono fun e w' ⟨u,H',he,hs,hu,hH⟩=>⟨by rw[he,hu],?_⟩;exact hs.toExt (fun b o hb=>by cases hb) (fun b o hb=>by cases hb)
section
variable {P:Program} {R:Value->Prop} {nx:List (List Value->Prop)} {ρ:List Value}
theorem j3 {r:Rq} {t:Tree} (h:r.holds P ρ) (n:pd P R t nx ρ):pd P R (.rq r t) nx ρ:=⟨h,n⟩
theorem Oq {pf:Bool} {f:FuncId} {args:List SV} {t:Tree} {vs:List Value} {v:Value} (hd:Det P f vs v) (ha:args.map (D P ρ)=vs) (n:pd P R t nx (ρ++[v])):pd P R (.call pf f args t) nx ρ:=⟨v,by rw[ha];exact hd,n⟩
theorem B9 {id i:Nat} {o:Oper} {args:List SV} {t:Tree} {vs:List Value} {v:Value} (hd:Yld P o vs v) (ha:args.map (D P ρ)=vs) (n:pd P R t nx (ρ++[v])):pd P R (.prim id i o args t) nx ρ:=⟨v,by rw[ha];exact hd,n⟩
theorem C0 {f:FuncId} {args:List SV} {t:Tree} {vs:List Value} {v:Value} (hd:Own P f vs v) (ha:args.map (D P ρ)=vs) (n:pd P R t nx (ρ++[v])):pd P R (.ext f args t) nx ρ:=⟨v,by rw[ha];exact hd,n⟩
theorem Ce {c:SV} {t e:Tree} {b:Bool} (hc:D P ρ c= .bool b) (h1:b=true->pd P R t nx ρ) (h2:b=false->pd P R e nx ρ):pd P R (.br c t e) nx ρ:=
 ⟨fun h=>h1 (by rw[hc]at h;cases h;rfl),fun h=>h2 (by rw[hc]at h;cases h;rfl)⟩
theorem HA {c:SV} {t e:Tree} (hc:D P ρ c= .bool false) (h1:pd P R e nx ρ):pd P R (.br c t e) nx ρ:=Ce hc (fun h=>by cases h) (fun _=>h1)
theorem Db {l:List SV} {v:Value} (h:Am (l.map (D P ρ))=v) (hR:R v):pd P R (.ret l) nx ρ:=by rw[<-h]at hR;exact hR
end
section
variable {P:Program} {G:Value->PH->Prop} {nx:List (List Value->PH->Prop)} {ρ:List Value} {H:PH}
theorem d4 {r:Rq} {t:Tree} (h:r.holds P ρ) (n:den P G t nx ρ H):den P G (.rq r t) nx ρ H:=⟨h,n⟩
theorem g9 {pf:Bool} {f:FuncId} {args:List SV} {t:Tree} {vs:List Value} {V:Value->PH->Prop} (hd:Con P f vs H V) (ha:args.map (D P ρ)=vs) (n:∀v H',V v H'->(pf=true->Pl H H')/\den P G t nx (ρ++[v]) H'):den P G (.call pf f args t) nx ρ H:=fun w hw=>by
 rw[ha];exact(hd w hw).mono fun e w' ⟨v,H',he,hs,hV⟩=>⟨v,H',he,hs,(n v H' hV).1,(n v H' hV).2⟩
theorem y8 {pf:Bool} {f:FuncId} {args:List SV} {t:Tree} {vs:List Value} {v:Value} (hd:Det P f vs v) (ha:args.map (D P ρ)=vs) (n:den P G t nx (ρ++[v]) H):den P G (.call pf f args t) nx ρ H:=
 g9 (hd.con H) ha fun u H' ⟨hu,hH⟩=>by subst hu;subst hH;exact⟨fun _=>Pl.refl _,n⟩
theorem t7 {pf:Bool} {id i:Nat} {o:Oper} {args:List SV} {t:Tree} {vs:List Value} {V:Value->PH->Prop} (hd:Opn P o vs H V) (ha:args.map (D P ρ)=vs) (n:∀v H',V v H'->(pf=true->Pl H H')/\den P G t nx (ρ++[v]) H'):den P G (.eff pf id i o args t) nx ρ H:=fun w hw=>by
 rw[ha];exact(hd w hw).mono fun v w' ⟨H',hs,hV⟩=>⟨H',hs,(n v H' hV).1,(n v H' hV).2⟩
theorem j7 {id i:Nat} {o:Oper} {args:List SV} {t:Tree} {vs:List Value} {v:Value} (hd:Rds P o vs H v) (ha:args.map (D P ρ)=vs) (n:den P G t nx (ρ++[v]) H):den P G (.prim id i o args t) nx ρ H:=⟨v,by rw[ha];exact hd,n⟩
theorem ft {f:FuncId} {args:List SV} {t:Tree} {vs:List Value} {v:Value} (hd:Own P f vs v) (ha:args.map (D P ρ)=vs) (n:den P G t nx (ρ++[v]) H):den P G (.ext f args t) nx ρ H:=⟨v,by rw[ha];exact fun w _=>hd w,n⟩
theorem g7 {c:SV} {t e:Tree} {b:Bool} (hc:D P ρ c= .bool b) (h1:b=true->den P G t nx ρ H) (h2:b=false->den P G e nx ρ H):den P G (.br c t e) nx ρ H:=
 ⟨fun h=>h1 (by rw[hc]at h;cases h;rfl),fun h=>h2 (by rw[hc]at h;cases h;rfl)⟩
theorem Fh {c:SV} {t e:Tree} (hc:D P ρ c= .bool true) (h1:den P G t nx ρ H):den P G (.br c t e) nx ρ H:=g7 hc (fun _=>h1) (fun h=>by cases h)
theorem r9 {c:SV} {t e:Tree} (hc:D P ρ c= .bool false) (h1:den P G e nx ρ H):den P G (.br c t e) nx ρ H:=g7 hc (fun h=>by cases h) (fun _=>h1)
theorem g6 {l:List SV} {v:Value} (h:Am (l.map (D P ρ))=v) (hR:G v H):den P G (.ret l) nx ρ H:=by rw[<-h]at hR;exact hR
theorem d9 {r:Rq} {t:Tree} (n:den P G t nx ρ H) (h:r.holds P ρ:=by exact⟨_,rfl⟩):den P G (.rq r t) nx ρ H:=⟨h,n⟩
theorem i8 {r:Rq} {t:Tree} (n:den P G t nx ρ H) (h:r.holds P ρ:=by exact⟨_,rfl,aD⟩):den P G (.rq r t) nx ρ H:=⟨h,n⟩
theorem j8 {c:SV} {t e:Tree} {p:Prop} [Decidable p] (hc:D P ρ c= .bool (decide p)) (h1:p->den P G t nx ρ H) (h2:¬p->den P G e nx ρ H):den P G (.br c t e) nx ρ H:=g7 hc (fun h=>h1 (oDt h)) fun h=>h2 (oDf h)
end
theorem Fj (cs:Array Value):(Value.agg cs).cells=cs:=rfl
theorem fw (k:IntKind) (n:Int):(Value.int k n).cells= #[.int k n]:=rfl
theorem Xy (b:Bool):(Value.bool b).cells= #[.bool b]:=rfl
@[reducible] def Tree.cq (n:Nat) (x:SV) (t:Tree):Tree:= .rq (.cells n x) t
@[reducible] def Tree.tq (i:Nat) (x:SV) (t:Tree):Tree:= .rq (.tup i x) t
@[reducible] def Tree.rb (x:SV) (t:Tree):Tree:= .rq (.bool x) t
@[reducible] def Tree.cf (f:FuncId) (l:List SV) (t:Tree):Tree:= .call false f l t
@[reducible] def Tree.ct (f:FuncId) (l:List SV) (t:Tree):Tree:= .call true f l t
@[reducible] def SV.cn (x:SV) (i:Nat):SV:= .cell x i 0 noI
@[reducible] def SV.sn (x:SV) (a n:Nat):SV:= .sub x a n 0 noI
@[reducible] def SV.pn (x:SV) (a n:Nat) (y:SV):SV:= .put x a n y 0 noI
@[reducible] def kF:SV:= .k (.bool false)
@[reducible] def kT:SV:= .k (.bool true)
@[reducible] def Tree.pm (f:Func) (i j:Nat) (l:List SV) (t:Tree):Tree:= .prim i j (opr f i j) l t
@[reducible] def Tree.ef (b:Bool) (f:Func) (i j:Nat) (l:List SV) (t:Tree):Tree:= .eff b i j (opr f i j) l t
@[reducible] def Tree.mq (f:Func) (i j:Nat) (l:List SV) (t:Tree):Tree:= .mk i j (opr f i j) l t
@[reducible] def SV.ki (n:Int):SV:= .k (.int .i64 n)
@[reducible] def Tree.ri (x:SV) (t:Tree):Tree:= .rq (.int .i64 x) t
@[reducible] def Tree.ru (x:SV) (t:Tree):Tree:= .rq (.int .u64 x) t
@[reducible] def SV.io (o:BinOp) (x y:SV):SV:= .op2 o .i64 x y
@[reducible] def SV.uo (o:BinOp) (x y:SV):SV:= .op2 o .u64 x y
@[reducible] def npf (P:Program) (f:FuncId):Option Nat:=(P.funcs[f]?).map (fun fn=>fn.params.size+fn.nfree)
@[reducible] def V0:SV:= .v 0
@[reducible] def kU (n:Int):SV:= .k (.int .u64 n)
@[reducible] def kI (n:Int):SV:= .k (.int .i64 n)
@[reducible] def kB (n:Int):SV:= .k (.int .u8 n)
@[reducible] def V1:SV:= .v 1
@[reducible] def V2:SV:= .v 2
@[reducible] def V3:SV:= .v 3
@[reducible] def V4:SV:= .v 4
@[reducible] def V5:SV:= .v 5
@[reducible] def V6:SV:= .v 6
@[reducible] def V7:SV:= .v 7
@[reducible] def V8:SV:= .v 8
@[reducible] def V9:SV:= .v 9
@[reducible] def V10:SV:= .v 10
@[reducible] def V11:SV:= .v 11
@[reducible] def V12:SV:= .v 12
@[reducible] def V13:SV:= .v 13
@[reducible] def V14:SV:= .v 14
@[reducible] def V15:SV:= .v 15
@[reducible] def V16:SV:= .v 16
@[reducible] def V17:SV:= .v 17
@[reducible] def V18:SV:= .v 18
@[reducible] def V19:SV:= .v 19
@[reducible] def V20:SV:= .v 20
@[reducible] def V21:SV:= .v 21
@[reducible] def V22:SV:= .v 22
@[reducible] def V23:SV:= .v 23
@[reducible] def V24:SV:= .v 24
@[reducible] def V25:SV:= .v 25
@[reducible] def V26:SV:= .v 26
@[reducible] def V27:SV:= .v 27
@[reducible] def V28:SV:= .v 28
@[reducible] def V29:SV:= .v 29
@[reducible] def V30:SV:= .v 30
@[reducible] def V31:SV:= .v 31
@[reducible] def V32:SV:= .v 32
@[reducible] def V33:SV:= .v 33
@[reducible] def V34:SV:= .v 34
@[reducible] def V35:SV:= .v 35
@[reducible] def V36:SV:= .v 36
@[reducible] def V37:SV:= .v 37
@[reducible] def V38:SV:= .v 38
@[reducible] def V39:SV:= .v 39
theorem cA {α:Type} {a:α} {l m:List α}:a::l++m=a::(l++m):=rfl
theorem nA {α:Type} {l:List α}:[]++l=l:=rfl
end Go.RX

/- Soundness of the executor: code, loops, functions. -/
import Derived.Test.YtlmgkkjgdapnpaaGreatDoorRxG
import Derived.Deep.LoopGhost
import Derived.AtR
namespace Go.RX
open Go.RowKit
theorem a4j:∀(lv:List Nat) (n:Nat) (sl:List SL),(a5c lv n sl).length=sl.length:=by
 intro lv
 induction lv with
 |nil=>intro n sl;rfl
 |cons t ts ih=>intro n sl;simp only[a5c,ih,List.length_set]
theorem a8L:∀(lv:List Nat) (n:Nat) (sl:List SL) (u:Nat),u∉lv->(a5c lv n sl)[u]? =sl[u]?:=by
 intro lv
 induction lv with
 |nil=>intro n sl u _;rfl
 |cons t ts ih=>
  intro n sl u hu
  simp only[List.mem_cons,not_or]at hu
  simp only[a5c,ih _ _ _ hu.2,List.getElem?_set]
  rw[if_neg (fun e=>hu.1 e.symm)]
theorem b7N:∀(lv:List Nat) (n:Nat) (sl:List SL) (k u:Nat),lv.Nodup->lv[k]? =some u->u<sl.length->(a5c lv n sl)[u]? =some (.x (.v (n+k))):=by
 intro lv
 induction lv with
 |nil=>intro n sl k u _ h;simp at h
 |cons t ts ih=>
  intro n sl k u hnd h hlt
  rw[List.nodup_cons]at hnd
  cases k with
  |zero=>
   simp at h;subst h
   simp only[a5c,a8L _ _ _ _ hnd.1,List.getElem?_set,hlt,if_true,Nat.add_zero]
  |succ k=>
   simp at h
   simp only[a5c]
   rw[ih (n+1) _ k u hnd.2 h (by simpa using hlt)]
   congr 3;omega
theorem a8M (s:SL):∀(ts:List Nat) (sl:List SL),(a6i sl ts s).length=sl.length:=by
 intro ts
 induction ts with
 |nil=>intro sl;rfl
 |cons t ts ih=>intro sl;simp only[a6i,List.foldl_cons]at ih⊢;rw[ih];simp
theorem a8N (s:SL) (u:Nat):∀(ts:List Nat) (sl:List SL),u∉ts->(a6i sl ts s)[u]? =sl[u]?:=by
 intro ts
 induction ts with
 |nil=>intro sl _;rfl
 |cons t ts ih=>
  intro sl hu
  simp only[List.mem_cons,not_or]at hu
  simp only[a6i,List.foldl_cons]at ih⊢
  rw[ih _ hu.2,List.getElem?_set,if_neg (fun e=>hu.1 e.symm)]
theorem b7O (s:SL) (u:Nat):∀(ts:List Nat) (sl:List SL),u∈ts->u<sl.length->(a6i sl ts s)[u]? =some s:=by
 intro ts
 induction ts with
 |nil=>intro sl h;cases h
 |cons t ts ih=>
  intro sl hu hlt
  by_cases h:u∈ts
  ·simp only[a6i,List.foldl_cons]at ih⊢
   exact ih _ h (by simpa using hlt)
  ·have e:u=t:=(List.mem_cons.1 hu).resolve_right h
   subst e
   have:=a8N s u ts (sl.set u s) h
   simp only[a6i,List.foldl_cons]at this⊢
   rw[this];simp[hlt]
theorem dedup_mem {x:Nat}:∀{l:List Nat},x∈b0Y l↔x∈l:=by
 intro l
 induction l with
 |nil=>simp[b0Y]
 |cons y l ih=>
  simp only[b0Y]
  split
  ·rename_i h
   rw[List.contains_iff_mem]at h
   rw[ih,List.mem_cons]
   exact⟨.inr,fun e=>e.elim (fun e=>by rw[e];exact h) (fun e=>e)⟩
  ·rw[List.mem_cons,List.mem_cons,ih]
theorem b3d:∀(l:List Nat),(b0Y l).Nodup:=by
 intro l
 induction l with
 |nil=>exact List.nodup_nil
 |cons y l ih=>
  simp only[b0Y]
  split
  ·exact ih
  ·rename_i h
   rw[List.contains_iff_mem]at h
   exact List.nodup_cons.2 ⟨fun e=>h (dedup_mem.1 e),ih⟩
theorem b5R (bs:List Nat) (n:Nat):∀(bl:List Blk) (i:Nat),(a7b bs n bl i).length=bl.length:=by
 intro bl
 induction bl with
 |nil=>intro i;rfl
 |cons b bl ih=>intro i;simp only[a7b,List.length_cons,ih]
theorem b5S (bs:List Nat) (n:Nat):∀(bl:List Blk) (i j:Nat) (B':Blk),(a7b bs n bl i)[j]? =some B'->∃B,bl[j]? =some B/\B'=(match a1Z (i+j) bs 0 with|some k=>{B with c:= .v (n+k)}|none=>B):=by
 intro bl
 induction bl with
 |nil=>intro i j B' h;simp[a7b]at h
 |cons b bl ih=>
  intro i j B' h
  simp only[a7b]at h
  cases j with
  |zero=>simp only[List.getElem?_cons_zero,Option.some.injEq]at h;exact⟨b,rfl,h.symm⟩
  |succ j=>
   simp only[List.getElem?_cons_succ]at h
   obtain⟨B,hB,he⟩:=ih (i+1) j B' h
   exact⟨B,hB,by rw[he,show i+1+j=i+(j+1)from by omega]⟩
theorem a3d {i:Nat}:∀{bs:List Nat} {j k:Nat},a1Z i bs j=some k->∃k',k=j+k'/\bs[k']? =some i:=by
 intro bs
 induction bs with
 |nil=>intro j k h;simp[a1Z]at h
 |cons x l ih=>
  intro j k h
  simp only[a1Z]at h
  split at h
  ·rename_i e
   simp only[Option.some.injEq]at h
   exact⟨0,by omega,by simpa using e⟩
  ·obtain⟨k',h1,h2⟩:=ih h
   exact⟨k'+1,by omega,by simpa using h2⟩
theorem a8O {i:Nat}:∀{bs:List Nat} {j:Nat},a1Z i bs j=none->bs.contains i=false:=by
 intro bs
 induction bs with
 |nil=>intro j _;rfl
 |cons x l ih=>
  intro j h
  simp only[a1Z]at h
  split at h
  ·cases h
  ·rename_i e
   simp only[List.contains_cons,ih h,Bool.or_false]
   simp at e⊢
   exact fun e'=>e e'.symm
theorem b7P {i:Nat}:∀{bs:List Nat} {j k:Nat},bs.Nodup->bs[k]? =some i->a1Z i bs j=some (j+k):=by
 intro bs
 induction bs with
 |nil=>intro j k _ h;simp at h
 |cons x l ih=>
  intro j k hn h
  rw[List.nodup_cons]at hn
  cases k with
  |zero=>simp only[List.getElem?_cons_zero,Option.some.injEq]at h;subst h;simp[a1Z]
  |succ k=>
   simp only[List.getElem?_cons_succ]at h
   have hm:=List.mem_of_getElem? h
   have hne:¬x=i:=fun e=>hn.1 (e ▸ hm)
   simp only[a1Z,beq_iff_eq,hne,if_false,ih hn.2 h]
   congr 1;omega
theorem a3Q:∀{l:List Nat},c7w l=true->l.Nodup:=by
 intro l
 induction l with
 |nil=>intro _;exact List.nodup_nil
 |cons x l ih=>
  intro h
  simp only[c7w,Bool.and_eq_true,Bool.not_eq_true',List.contains_eq_mem,decide_eq_false_iff_not]at h
  exact List.nodup_cons.2 ⟨h.1,ih h.2⟩
theorem a5K {bl:List Blk}:∀{bs:List Nat} {ib:List SV},cAt bl bs=some ib->ib.length=bs.length/\∀(k i:Nat),bs[k]? =some i->∃B,bl[i]? =some B/\ib[k]? =some B.c:=by
 intro bs
 induction bs with
 |nil=>intro ib h;simp only[cAt,Option.some.injEq]at h;subst h;exact⟨rfl,fun k i h=>by simp at h⟩
 |cons i bs ih=>
  intro ib h
  simp only[cAt]at h
  split at h
  ·rename_i B l hB hl
   simp only[Option.some.injEq]at h;subst h
   obtain⟨h1,h2⟩:=ih hl
   refine⟨by simp[h1],fun k u hk=> ?_⟩
   cases k with
   |zero=>simp only[List.getElem?_cons_zero,Option.some.injEq]at hk;subst hk;exact⟨B,hB,rfl⟩
   |succ k=>simp only[List.getElem?_cons_succ]at hk⊢;exact h2 k u hk
  ·cases h
theorem b5T {bl:List Blk}:∀{bs:List Nat} {n:Nat} {r:Rq},r∈b0X bl bs n->∃k i B,bs[k]? =some i/\bl[i]? =some B/\r= .cells B.n (.v (n+k)):=by
 intro bs
 induction bs with
 |nil=>intro n r h;simp[b0X]at h
 |cons i bs ih=>
  intro n r h
  simp only[b0X,List.mem_append]at h
  rcases h with h|h
  ·split at h
   ·rename_i B hB
    simp only[List.mem_cons,List.not_mem_nil,or_false]at h
    exact⟨0,i,B,rfl,hB,h⟩
   ·cases h
  ·obtain⟨k,u,B,h1,h2,h3⟩:=ih h
   exact⟨k+1,u,B,h1,h2,by rw[h3];congr 2;omega⟩
theorem a4k {sl:List SL}:∀{lv:List Nat} {iv:List SV},a6j sl lv=some iv->iv.length=lv.length/\∀(k t:Nat),lv[k]? =some t->∃s,sl[t]? =some (.x s)/\iv[k]? =some s:=by
 intro lv
 induction lv with
 |nil=>intro iv h;simp[a6j]at h;subst h;exact⟨rfl,fun k t h=>by simp at h⟩
 |cons t ts ih=>
  intro iv h
  simp only[a6j]at h
  split at h
  ·rename_i s l hs hl
   simp only[Option.some.injEq]at h;subst h
   obtain⟨h1,h2⟩:=ih hl
   refine⟨by simp[h1],fun k u hk=> ?_⟩
   cases k with
   |zero=>
    simp at hk;subst hk
    refine⟨s,?_,rfl⟩
    unfold d3I at hs
    split at hs
    ·rename_i s' hs';simp only[Option.some.injEq]at hs;subst hs;exact hs'
    ·cases hs
   |succ k=>simp at hk;simpa using h2 k u hk
  ·cases h
section
variable {P:Program} {G Xp:Value->PH->Prop} {w0:Cx} {ρ:List Value} {β:Nat->Nat} {st:St} {a:Act} {W:World}
structure Bk (w0:Cx) (β:Nat->Nat) (st:St) (a:Act) (W:World):Prop where
 df:∃Ds:List Nat,a.defers=Ds.map c3T/\Ds.Nodup/\∀D∈Ds,w0.w.heap.size<=D/\w0.K D=some (.deferred (some []))
 inj:∀b b',b<st.bl.length->b'<st.bl.length->β b=β b'->b=b'
 own:∀b,b<st.bl.length->w0.w.heap.size<=β b\/w0.H0 (β b)≠none
 sep:∀b,b<st.bl.length->w0.H (β b)=none
 fr:Step w0.H0 w0.w w0.H W
 kp:w0.K.In W
 rd:st.rd=false->w0.ro=none
 ag:∀b,b<w0.n0->β b=w0.b0 b
 ln:w0.n0<=st.bl.length
 kle:PH.le w0.K0 w0.K
 kpH:∀k,w0.K k≠none->w0.H k=none
 kpB:∀b,b<st.bl.length->w0.K (β b)=none
theorem Mt.bk {w0:Cx} (m:Mt P w0 ρ β st a W):Bk w0 β st a W:=⟨m.df,m.inj,m.own,m.sep,m.fr,m.kp,m.rd,m.ag,m.ln,m.kle,m.kpH,m.kpB⟩
theorem Bk.less {w0:Cx} {st2:St} (h:Bk w0 β st2 a W) (hl:st.bl.length<=st2.bl.length) (hrd:st.rd=false->w0.ro=none) (hln:w0.n0<=st.bl.length):Bk w0 β st a W:=
 ⟨h.df,fun i j hi hj=>h.inj i j (by omega) (by omega),fun i hi=>h.own i (by omega),fun i hi=>h.sep i (by omega),h.fr,h.kp,hrd,h.ag,hln,h.kle,h.kpH,fun i hi=>h.kpB i (by omega)⟩
theorem a9G {w0:Cx} {lv dd bs:List Nat} {δ:Nat} (hsc:a6A st=true) (hn:ρ.length=st.n) (hkn:∀r∈st.kn,r.holds P ρ) (hkb:∀p∈st.kb,D P ρ p.1= .bool p.2)
  {vals:List Value} (hv:vals.length=lv.length+bs.length) (sz:a.tmps.size=st.sl.length)
  (hpb:∀(t b o s:Nat) (i:SV),st.sl[t]? =some (.p b o s i)->b<st.bl.length) (hnd:lv.Nodup) (hbd:bs.Nodup)
  (h1:∀(t:Nat) (s:SL),t∉lv->t∉dd->st.sl[t]? =some s->∃v,a.tmps[t]? =some v/\ML P ρ β s v)
  (h2:∀(k t:Nat),lv[k]? =some t->a.tmps[t]? =some (vals.getD k undef))
  (hb:∀(i:Nat) (B:Blk),st.bl[i]? =some B->W.heap[β i]? =some (.cells (match a1Z i bs 0 with|some k=>vals.getD (lv.length+k) undef|none=>D P ρ B.c).cells B.T (0,0))/\(match a1Z i bs 0 with|some k=>vals.getD (lv.length+k) undef|none=>D P ρ B.c).cells.size=B.n/\a0p (match a1Z i bs 0 with|some k=>vals.getD (lv.length+k) undef|none=>D P ρ B.c).cells)
  (bk:Bk w0 β st a W):
  Mt P w0 (ρ++vals) β (a2H st lv dd bs δ) a W:=by
 have hsc':=hsc
 unfold a6A at hsc'
 simp only[Bool.and_eq_true,List.all_eq_true]at hsc'
 obtain⟨⟨⟨c1,c2⟩,c3⟩,c4⟩:=hsc'
 rw[<-hn]at c1 c2 c3 c4
 have hbl:(a2H st lv dd bs δ).bl.length=st.bl.length:=b5R _ _ _ _
 have hvar:∀k,D P (ρ++vals) (.v (st.n+k))=vals.getD k undef:=fun k=>by
  simp only[D,<-hn,List.getD_eq_getElem?_getD]
  rw[List.getElem?_append_right (by omega),Nat.add_sub_cancel_left]
 have lk:∀(u:Nat) (s:SL),(a2H st lv dd bs δ).sl[u]? =some s->s= .u\/(∃k,lv[k]? =some u/\s= .x (.v (st.n+k)))\/(u∉lv/\u∉dd/\st.sl[u]? =some s):=by
  intro u s hs
  simp only[a2H]at hs
  by_cases hd:u∈dd
  ·have hlt:u<st.sl.length:=by
    have:=(List.getElem?_eq_some_iff.1 hs).1
    rwa[a8M,a4j]at this
   rw[b7O _ _ _ _ hd (by rw[a4j];exact hlt)]at hs
   simp only[Option.some.injEq]at hs
   exact .inl hs.symm
  ·rw[a8N _ _ _ _ hd]at hs
   by_cases hl:u∈lv
   ·obtain⟨k,hk⟩:=List.getElem?_of_mem hl
    have hlt:u<st.sl.length:=by
     have:=(List.getElem?_eq_some_iff.1 hs).1
     rwa[a4j]at this
    rw[b7N _ _ _ k u hnd hk hlt]at hs
    simp only[Option.some.injEq]at hs
    exact .inr (.inl ⟨k,hk,hs.symm⟩)
   ·rw[a8L _ _ _ _ hl]at hs
    exact .inr (.inr ⟨hl,hd,hs⟩)
 have hslen:(a2H st lv dd bs δ).sl.length=st.sl.length:=by simp only[a2H];rw[a8M,a4j]
 refine{sz:=by rw[hslen];exact sz,sl:= ?_,pb:= ?_,df:=bk.df,n:= ?_,bl:= ?_,inj:= ?_,own:= ?_,sep:= ?_,fr:=bk.fr,kp:=bk.kp,rd:=bk.rd,kle:=bk.kle,ag:=bk.ag,ln:=by rw[hbl];exact bk.ln,kpH:=bk.kpH,kpB:=by rw[hbl];exact bk.kpB,kn:= ?_,kb:= ?_}
 ·intro u s hs
  rcases lk u s hs with rfl|⟨k,hk,rfl⟩|⟨hl,hd,hs'⟩
  ·have hlt:u<a.tmps.size:=by
    rw[sz,<-hslen];exact(List.getElem?_eq_some_iff.1 hs).1
   exact⟨a.tmps[u],by simp[hlt],trivial⟩
  ·exact⟨_,h2 k u hk,(hvar k).symm⟩
  ·obtain⟨v,hv',hm'⟩:=h1 u s hl hd hs'
   refine⟨v,hv',?_⟩
   have hl:=c1 s (List.mem_of_getElem? hs')
   cases s with
   |x s=>simp only[ML,SL.lt]at hm' hl⊢;rw[a1n P ρ vals s hl];exact hm'
   |p b o s i=>simp only[ML,SL.lt]at hm' hl⊢;rw[a1n P ρ vals i hl];exact hm'
   |u=>trivial
 ·intro u b' o s i hs
  rw[hbl]
  rcases lk u _ hs with h|⟨k,hk,h⟩|⟨_,_,hs'⟩
  ·cases h
  ·cases h
  ·exact hpb u b' o s i hs'
 ·simp only[a2H,List.length_append,hv,hn];omega
 ·intro i B hB
  obtain⟨B0,hB0,rfl⟩:=b5S _ _ _ _ _ _ hB
  rw[Nat.zero_add]
  have:=hb i B0 hB0
  cases hp:a1Z i bs 0 with
  |some k=>
   simp only[hp]at this⊢
   have e:D P (ρ++vals) (.v (st.n+lv.length+k))=vals.getD (lv.length+k) undef:=by rw[Nat.add_assoc];exact hvar _
   rw[e];exact this
  |none=>
   simp only[hp]at this⊢
   rw[a1n P ρ vals B0.c (c2 B0 (List.mem_of_getElem? hB0))];exact this
 ·rw[hbl];exact bk.inj
 ·rw[hbl];exact bk.own
 ·rw[hbl];exact bk.sep
 ·intro r hr
  simp only[a2H,List.mem_append]at hr
  rcases hr with hr|hr
  ·obtain⟨k,i,B,h1,h2,rfl⟩:=b5T hr
   have:=hb i B h2
   rw[b7P hbd h1,Nat.zero_add]at this
   simp only at this
   have e:D P (ρ++vals) (.v (st.n+lv.length+k))=vals.getD (lv.length+k) undef:=by rw[Nat.add_assoc];exact hvar _
   simp only[Rq.holds,e];exact this.2
  ·exact(a6l P ρ vals r (c3 r hr)).2 (hkn r hr)
 ·intro p hp
  rw[a1n P ρ vals p.1 (c4 p hp)]
  exact hkb p hp
theorem a9H (ws:List Nat):∀(a b:List SL) (i:Nat),b5K ws a b i=true->a.length=b.length/\∀t x,a[t]? =some x->∃y,b[t]? =some y/\(x.beq y||ws.contains (i+t))=true
 |[],[],_,_=>⟨rfl,fun t x h=>by simp at h⟩
 |x::a,y::b,i,h=>by
  simp only[b5K,Bool.and_eq_true]at h
  obtain⟨h1,h2⟩:=a9H ws a b (i+1) h.2
  refine⟨by simp[h1],fun t z hz=> ?_⟩
  cases t with
  |zero=>
   simp only[List.getElem?_cons_zero,Option.some.injEq]at hz;subst hz
   exact⟨y,rfl,h.1⟩
  |succ t=>
   simp only[List.getElem?_cons_succ]at hz
   obtain⟨y',g1,g2⟩:=h2 t z hz
   exact⟨y',by simpa using g1,by rw[show i+(t+1)=i+1+t by omega];exact g2⟩
 |[],_::_,_,h=>by simp[b5K]at h
 |_::_,[],_,h=>by simp[b5K]at h
theorem b3e {ws:List Nat} {x y:List SL} (h:a7c ws x y=true):x.length=y.length:=(a9H ws x y 0 h).1
theorem b1f {ws:List Nat} {x y:List SL} (h:a7c ws x y=true) {t:Nat} (ht:t∉ws) {s:SL} (hs:x[t]? =some s):∃s',y[t]? =some s'/\(s=s'\/s= .u):=by
 obtain⟨s',h1,h2⟩:=(a9H ws x y 0 h).2 t s hs
 rw[Nat.zero_add,Bool.or_eq_true,List.contains_iff_mem]at h2
 exact⟨s',h1,SL.beq_sound (h2.resolve_right ht)⟩
theorem a7l {bs:List Nat}:∀{x y:List Blk} {j:Nat},a6k bs x y j=true->x.length<=y.length/\∀(i:Nat) (B:Blk),x[i]? =some B->∃B',y[i]? =some B'/\B'.T=B.T/\B'.n=B.n/\(bs.contains (j+i)=false->B'.c=B.c):=by
 intro x
 induction x with
 |nil=>intro y j _;exact⟨by simp,fun i B h=>by simp at h⟩
 |cons b x ih=>
  intro y j h
  cases y with
  |nil=>simp[a6k]at h
  |cons c y=>
   simp only[a6k,Bool.and_eq_true,beq_iff_eq,Bool.or_eq_true]at h
   obtain⟨⟨⟨h1,h2⟩,h3⟩,h4⟩:=h
   obtain⟨k1,k2⟩:=ih h4
   refine⟨by simp;exact k1,fun i B hB=> ?_⟩
   cases i with
   |zero=>
    simp only[List.getElem?_cons_zero,Option.some.injEq]at hB;subst hB
    refine⟨c,rfl,h1.symm,h2.symm,fun hc=> ?_⟩
    rcases h3 with h3|h3
    ·rw[Nat.add_zero,h3]at hc;cases hc
    ·exact(SV.beq_sound h3).symm
   |succ i=>
    simp only[List.getElem?_cons_succ]at hB⊢
    obtain⟨B',q1,q2,q3,q4⟩:=k2 i B hB
    exact⟨B',q1,q2,q3,fun hc=>q4 (by rw[show j+1+i=j+(i+1)from by omega];exact hc)⟩
theorem b7Q {c1:Bs} {H K H3 K3:PH} {β2:Nat->Nat} {st2:St} {a2:Act} {W2:World} {r:List Value} {b:Code} {lv dd bs:List Nat} {δ:Nat} {nv nb:List SV} (hsc:a6A st=true) (m:Mt P ⟨c1,H,K⟩ ρ β st a W) (m2:Mt P ⟨c1,H3,K3⟩ (ρ++r) β2 st2 a2 W2) (hlv:lv.Nodup) (hbs:bs.Nodup) (hcov:∀u,u∈b0L b->u<st.sl.length->u∈lv\/u∈dd)
  (hnv:a6j st2.sl lv=some nv) (hnb:cAt st2.bl bs=some nb) (hs1:a7c (b0L b) st.sl st2.sl=true) (hs2:a6k bs st.bl st2.bl 0=true):Mt P ⟨c1,H3,K3⟩ (ρ++(nv++nb).map (D P (ρ++r))) β2 (a2H st lv dd bs δ) a2 W2:=by
 have hsc':=hsc
 unfold a6A at hsc'
 simp only[Bool.and_eq_true,List.all_eq_true]at hsc'
 obtain⟨⟨⟨c1,c2⟩,c3⟩,c4⟩:=hsc'
 rw[<-m.n]at c1 c2 c3 c4
 obtain⟨k1,k2⟩:=a4k hnv
 obtain⟨k3,k4⟩:=a5K hnb
 obtain⟨s1,s2⟩:=a7l hs2
 have gl:∀(l:List SV) (ρ':List Value) (j:Nat) (s:SV),l[j]? =some s->(l.map (D P ρ')).getD j undef=D P ρ' s:=fun l ρ' j s hj=>by
  simp[List.getD_eq_getElem?_getD,hj]
 have hszl:st2.sl.length=st.sl.length:=(b3e hs1).symm
 refine a9G hsc m.n m.kn m.kb (by rw[List.length_map,List.length_append,k1,k3]) (by rw[m2.sz,hszl]) m.pb hlv hbs (fun u s hl hd hs=> ?_) (fun k' u hk'=> ?_) (fun i B hB=> ?_) (m2.bk.less s1 m.rd m.ln)
 ·have hu:u∉b0L b:=fun h=>(hcov u h (List.getElem?_eq_some_iff.1 hs).1).elim hl hd
  obtain⟨s',hs',hor⟩:=b1f hs1 hu hs
  obtain⟨v,hv,hmv⟩:=m2.sl u s' hs'
  refine⟨v,hv,?_⟩
  rcases hor with rfl|rfl
  ·have hl:=c1 s (List.mem_of_getElem? hs)
   cases s with
   |x s=>simp only[ML,SL.lt]at hmv hl⊢;rw[a1n P ρ r s hl]at hmv;exact hmv
   |p b o s i=>simp only[ML,SL.lt]at hmv hl⊢;rw[a1n P ρ r i hl]at hmv;exact hmv
   |u=>trivial
  ·trivial
 ·obtain⟨s,hs,hk2⟩:=k2 k' u hk'
  obtain⟨v,hv,hmv⟩:=m2.sl u _ hs
  rw[hv]
  congr 1
  rw[gl _ _ k' s]
  ·exact hmv
  ·rw[List.getElem?_append_left (List.getElem?_eq_some_iff.1 hk2).1];exact hk2
 ·obtain⟨B',hB',hT,hn',hc⟩:=s2 i B hB
  have g:=m2.bl i B' hB'
  rw[hT,hn']at g
  cases hp:a1Z i bs 0 with
  |some k=>
   obtain⟨k',rfl,hk'⟩:=a3d hp
   obtain⟨B2,hB2,hq⟩:=k4 k' i hk'
   obtain rfl:B2=B':=Option.some.inj (hB2.symm.trans hB')
   have e:((nv++nb).map (D P (ρ++r))).getD (lv.length+(0+k')) undef=D P (ρ++r) B2.c:=gl _ _ _ _ (by
    rw[List.getElem?_append_right (by omega),k1,Nat.zero_add,Nat.add_sub_cancel_left];exact hq)
   simp only[e];exact g
  |none=>
   simp only
   rw[hc (by rw[Nat.zero_add];exact a8O hp),a1n P ρ r B.c (c2 B (List.mem_of_getElem? hB))]at g
   exact g
theorem a4L {nx nx':List (List Value->PH->Prop)} (h:nx<+:nx') {d:Nat} (hd:d<nx.length):nx'.getD d (fun _ _=>False)=nx.getD d fun _ _=>False:=by
 obtain⟨r,rfl⟩:=h
 simp[List.getD_eq_getElem?_getD,List.getElem?_append_left hd]
def PnQ (P:Program) (c1:Bs) (Xp:Value->PH->Prop) (Q:Exit->Act->World->Prop):Prop:=
 ∀x ρ' β' st' a' a'' W' H' K',Mt P ⟨c1,H',K'⟩ ρ' β' st' a' W'->a''.defers=a'.defers->Xp x H'->Q (.panic [{v:=x,recovered:=false}]) a'' W'
theorem PnQ.of {P:Program} {c1:Bs} {Xp:Value->PH->Prop} {Q Q':Exit->Act->World->Prop} (h:PnQ P c1 Xp Q) (hh:∀ch a w,Q (.panic ch) a w->Q' (.panic ch) a w):PnQ P c1 Xp Q':=
 fun x _ _ _ _ a'' W' _ _ m hd hx=>hh _ a'' W' (h x _ _ _ _ _ _ _ _ m hd hx)
theorem PnQ.no {P:Program} {c1:Bs} {Q:Exit->Act->World->Prop}:PnQ P c1 noP Q:=fun _ _ _ _ _ _ _ _ _ _ _ hx=>hx.elim
def c8Z (P:Program) (G Xp:Value->PH->Prop) (c1:Bs) (rm:Nat) (c:Code) (run:St->(Exit->St->Option Tree)->Option Tree):Prop:=
 ∀(st:St) (k:Exit->St->Option Tree) (t:Tree) (ρ:List Value) (β:Nat->Nat) (a:Act) (W:World) (H K:PH) (nx:List (List Value->PH->Prop)) (Q:Exit->Act->World->Prop),
  run st k=some t->Mt P ⟨c1,H,K⟩ ρ β st a W->nx.length=st.d->den P G Xp t nx ρ H->PnQ P c1 Xp Q->
  (∀e st' t' ρ' β' a' W' H' K' nx',k e st'=some t'->Mt P ⟨c1,H',K'⟩ ρ' β' st' a' W'->ρ<+:ρ'->nx<+:nx'->nx'.length=st'.d->den P G Xp t' nx' ρ' H'->Q e a' W')->c.wpIn (Fr c1.ro) rm P Q a W
theorem Mt.depth (m:Mt P w0 ρ β st a W) (d:Nat):Mt P w0 ρ β {st with d:=d} a W:={m with}
theorem a9I {c1:Bs} {rm:Nat} {c:Code} {run:St->(Exit->St->Option Tree)->Option Tree} (hr:c8Z P G Xp c1 rm c run) (ts bs:List Nat):c8Z P G Xp c1 rm c fun st k=>jn st c ts bs run k:=by
 intro st k t ρ β a W H K nx Q h m hd hden hX hQ
 simp only[jn]at h
 split at h
 ·rename_i hc
  simp only[Bool.and_eq_true]at hc
  obtain⟨⟨hsc,hts⟩,hbs⟩:=hc
  split at h
  ·rename_i t1 u e1 e2
   simp only[Option.some.injEq]at h;subst h
   obtain⟨J,hJ1,hJ2⟩:=hden
   refine hr _ _ t1 ρ β a W H K (nx++[J]) Q e1 (m.depth _) (by simp[hd]) hJ1 hX ?_
   intro e st2 t2 ρ2 β2 a2 W2 H3 K3 nx2 h2 m2 hp2 hn2 hd2 hden2
   have hpn:nx<+:nx2:=(List.prefix_append _ _).trans hn2
   cases e with
   |normal=>
    simp only at h2
    split at h2
    ·rename_i nv nb hnv hnb
     split at h2
     ·rename_i hsame
      rw[Bool.and_eq_true]at hsame
      simp only[Option.some.injEq]at h2;subst h2
      have hh:=hden2
      have e1:nx2.getD st.d (fun _ _=>False)=J:=by
       rw[a4L hn2 (by simp[hd])]
       simp[List.getD_eq_getElem?_getD,<-hd]
      simp only[den]at hh
      rw[e1]at hh
      obtain⟨r,rfl⟩:=hp2
      have hmt:=b7Q (δ:=0) (dd:=(b0L c).filter fun t=> !ts.contains t) hsc m m2 (a3Q hts) (a3Q hbs) (fun u hu _=>by
       by_cases ht:u∈ts
       ·exact .inl ht
       ·exact .inr (List.mem_filter.2 ⟨hu,by simpa using ht⟩)) hnv hnb hsame.1 hsame.2
      refine hQ .normal _ u _ β2 a2 W2 H3 K3 nx e2 hmt (List.prefix_append _ _) (List.prefix_refl _) (by simp[a2H,hd]) (hJ2 _ H3 ?_ hh)
      rw[List.length_map,List.length_append,(a4k hnv).1,(a5K hnb).1]
     ·simp only[Option.some.injEq]at h2;subst h2;exact hden2.elim
    ·simp only[Option.some.injEq]at h2;subst h2;exact hden2.elim
   |exit id=>exact hQ _ _ _ _ _ _ _ _ _ _ h2 m2 hp2 hpn hd2 hden2
   |goto l=>exact hQ _ _ _ _ _ _ _ _ _ _ h2 m2 hp2 hpn hd2 hden2
   |ret=>exact hQ _ _ _ _ _ _ _ _ _ _ h2 m2 hp2 hpn hd2 hden2
   |panic ch=>exact hQ _ _ _ _ _ _ _ _ _ _ h2 m2 hp2 hpn hd2 hden2
   |outgrown=>exact hQ _ _ _ _ _ _ _ _ _ _ h2 m2 hp2 hpn hd2 hden2
  ·cases h
 ·cases h
theorem a7m {F:Fence} {n:Nat} {P:Program} {Q:Exit->Act->World->Prop} {a:Act} {w:World} {c:Code} (I:Nat->Act->World->Prop) (n₀:Nat) (h₀:I n₀ a w)
  (round:∀m a w,I m a w->c.wpIn F n P (Exit.then (fun a' w'=>∃n',n'<m/\I n' a' w') Q) a w):(Code.loop c).wpIn F n P Q a w:=by
 refine wpIn_loop (fun a w=>∃m,I m a w) (fun a w=>leastOf (fun m=>I m a w)) ⟨n₀,h₀⟩ ?_
 intro a w hI
 refine wpIn_mono (round _ a w (leastOf_spec hI).1) ?_
 intro e a' w' hq
 cases e with
 |normal=>
  obtain⟨n',hlt,hI'⟩:=hq
  exact show(∃n,I n a' w')/\leastOf (fun n=>I n a' w')<leastOf (fun n=>I n a w)from⟨⟨n',hI'⟩,Nat.lt_of_le_of_lt ((leastOf_spec ⟨n',hI'⟩).2 n' hI') hlt⟩
 |exit id=>exact hq
 |goto l=>exact hq
 |ret=>exact hq
 |panic ch=>exact hq
 |outgrown=>exact hq
def Exit.noGo (Q:Exit->Act->World->Prop):Exit->Act->World->Prop
 | .goto _,_,_=>False
 |e,a,w=>Q e a w
theorem a1T {P:Program} {b:Frame} {a:Act} {k:List Item} {cs:List Frame} {w:World} {c:Code}:step P (lone (b.atR a (.code (.scope c)::k)) cs w)= .next (lone (b.atR a (.code c:: .inScope c::k)) cs w):=
 step_lone_go (by simp[stepG,stepG.exec,Frame.atR])
theorem a9J {P:Program} {b:Frame} {a:Act} {k:List Item} {cs:List Frame} {w:World} {c:Code}:step P (lone (b.atR a (.inScope c::k)) cs w)= .next (lone (b.atR a k) cs w):=
 step_lone_go (by simp[stepG,stepG.exec,Frame.atR])
theorem a4M {F:Fence} {n:Nat} {P:Program} {Q:Exit->Act->World->Prop} {a:Act} {w:World} {c:Code} (h:c.wpIn F n P (Exit.noGo Q) a w):(Code.scope c).wpIn F n P Q a w:=by
 intro b k cs hro hb hr
 have h0:(lone (b.atR a (.code (.scope c)::k)) cs w).fenced P F:=fenced_calm hb hr rfl
 obtain⟨e,a₁,w₁,hq,harr⟩:=h b (.inScope c::k) cs hro hb hr
 cases e with
 |normal=>exact⟨.normal,a₁,w₁,hq,.head h0 a1T (StepsIn.trans harr (.one (fenced_calm hb hr rfl) a9J))⟩
 |exit id=>
  have hx:exitTo id (.inScope c::k)=exitTo id k:=by simp[exitTo]
  exact⟨.exit id,a₁,w₁,hq,fun k' hk=> .head h0 a1T (harr.1 k' (by rw[hx];exact hk)),
   fun hr' hk=>let⟨k₁,h1,h2⟩:=harr.2 hr' (by rw[hx];exact hk);⟨k₁,h1,.head h0 a1T h2⟩⟩
 |goto l=>exact hq.elim
 |ret=>exact⟨_,a₁,w₁,hq,.of_steps (.one h0 a1T) harr⟩
 |panic ch=>exact⟨_,a₁,w₁,hq,.of_steps (.one h0 a1T) harr⟩
 |outgrown=>exact⟨_,a₁,w₁,hq,.of_steps (.one h0 a1T) harr⟩
theorem a1i {W:World} {l k:Nat} {o:Obj} (h:k≠l):(W.putObj l o).heap[k]? =W.heap[k]?:=World.putObj_heap_other h
theorem Mt.turn {c1:Bs} {H K:PH} (m:Mt P ⟨c1,H,K⟩ ρ β st a W) {l:Nat} (o':Obj) (hl:K l≠none) (ho:c1.w.heap.size<=l\/c1.H0 l≠none) {K' K0':PH} (hK':K'.In (W.putObj l o')) (hKd:∀k,K' k≠none->K k≠none) (hle:PH.le K0' K')
  {df:List Deferred} (hdf:∃Ds:List Nat,df=Ds.map c3T/\Ds.Nodup/\∀D∈Ds,c1.w.heap.size<=D/\K' D=some (.deferred (some []))):Mt P ⟨{c1 with K0:=K0'},H,K'⟩ ρ β st {a with defers:=df} (W.putObj l o'):=
 {sz:=m.sz,sl:=m.sl,pb:=m.pb,df:=hdf,n:=m.n
  bl:=fun b B hB=>by
   have hne:β b≠l:=fun e=>hl (by rw[<-e];exact m.kpB b (List.getElem?_eq_some_iff.1 hB).1)
   rw[a1i hne];exact m.bl b B hB
  inj:=m.inj,own:=m.own,sep:=m.sep
  fr:=⟨m.fr.os,m.fr.tape,m.fr.output,by rw[World.putObj_size];exact m.fr.size,fun k hk hn=>by
   rw[a1i (fun e=>by
    subst e
    rcases ho with h|h
    ·exact Nat.lt_irrefl _ (Nat.lt_of_lt_of_le hk h)
    ·exact h hn)];exact m.fr.block k hk hn,fun k ob hk=>by
   rw[a1i (fun e=>by rw[e,m.kpH l hl]at hk;cases hk)];exact m.fr.holds k ob hk,m.fr.dom,m.fr.dr⟩
  kp:=hK',rd:=m.rd,ag:=m.ag,ln:=m.ln,kle:=hle,kpH:=fun k hk=>m.kpH k (hKd k hk)
  kpB:=fun b hb=>by
   cases e:K' (β b)with
   |none=>exact e
   |some o=>exact absurd (m.kpB b hb) (hKd _ (by simp[e]))
  kn:=m.kn,kb:=m.kb}
theorem b7R {c1:Bs} (hK0:∀k,c1.K0 k=none) {H:PH} {fn:Func} {R:Ending->World->Prop} {tm:Array Value}
  (h:∀(K':PH) (a':Act) (W':World),Mt P ⟨c1,H,K'⟩ ρ β st a' W'->a'.tmps=tm->∃v,(results fn tm).run P W'= .ok v W'/\R (.returned v) W'):∀(Ds:List Nat) (K:PH) (a:Act) (W:World),Mt P ⟨c1,H,K⟩ ρ β st a W->a.tmps=tm->a.defers=Ds.map c3T->Ds.Nodup->(∀D∈Ds,c1.w.heap.size<=D/\K D=some (.deferred (some [])))->
  LeavesInM Fence.wide 0 P fn tm R a.defers .returning W:=by
 intro Ds
 induction Ds with
 |nil=>intro K a W m ht hd _ _;rw[hd];exact h K a W m ht
 |cons D Ds ih=>
  intro K a W m ht hd hn hD
  rw[hd]
  obtain⟨hDs,hDK⟩:=hD D (by simp)
  rw[List.nodup_cons]at hn
  have hw:=m.kp D _ hDK
  refine⟨by simp,.inl ⟨D,_,rfl,run_takeDeferred hw,?_⟩⟩
  have hD':∀D'∈Ds,c1.w.heap.size<=D'/\(fun k=>if k=D then none else K k) D'=some (.deferred (some [])):=fun D' h'=>by
   obtain⟨g1,g2⟩:=hD D' (by simp[h'])
   refine⟨g1,?_⟩
   show(if D'=D then none else K D')=_
   rw[if_neg (show ¬D'=D from fun e=>hn.1 (e ▸ h'))];exact g2
  have:=m.turn (.deferred none) (K':=fun k=>if k=D then none else K k) (K0':=c1.K0) (df:=Ds.map c3T) (by rw[hDK];simp) (.inl hDs) (fun k ob hk=>by
   change (if k=D then none else K k)=some ob at hk
   split at hk
   ·cases hk
   ·rename_i e;rw[a1i e];exact m.kp k ob hk) (fun k hk=>by
   change (if k=D then none else K k)≠none at hk
   split at hk
   ·exact absurd rfl hk
   ·exact hk) (fun k o hk=>by rw[hK0]at hk;cases hk) ⟨Ds,rfl,hn.2,hD'⟩
  exact ih _ _ _ this ht rfl hn.2 hD'
theorem b7S {c1:Bs} (hK0:∀k,c1.K0 k=none) {H:PH} {fn:Func} {R:Ending->World->Prop} {ch:List PanicEntry}
  (h:∀(K':PH) (a':Act) (W':World),Mt P ⟨c1,H,K'⟩ ρ β st a' W'->R (.panicked ch) W'):∀(Ds:List Nat) (K:PH) (a:Act) (W:World) (tm:Array Value),Mt P ⟨c1,H,K⟩ ρ β st a W->a.defers=Ds.map c3T->Ds.Nodup->(∀D∈Ds,c1.w.heap.size<=D/\K D=some (.deferred (some [])))->
  LeavesInM Fence.wide 0 P fn tm R a.defers (.panicking ch) W:=by
 intro Ds
 induction Ds with
 |nil=>intro K a W tm m hd _ _;rw[hd];exact h K a W m
 |cons D Ds ih=>
  intro K a W tm m hd hn hD
  rw[hd]
  obtain⟨hDs,hDK⟩:=hD D (by simp)
  rw[List.nodup_cons]at hn
  have hw:=m.kp D _ hDK
  refine⟨by simp,.inl ⟨D,_,rfl,run_takeDeferred hw,?_⟩⟩
  have hD':∀D'∈Ds,c1.w.heap.size<=D'/\(fun k=>if k=D then none else K k) D'=some (.deferred (some [])):=fun D' h'=>by
   obtain⟨g1,g2⟩:=hD D' (by simp[h'])
   refine⟨g1,?_⟩
   show(if D'=D then none else K D')=_
   rw[if_neg (show ¬D'=D from fun e=>hn.1 (e ▸ h'))];exact g2
  have:=m.turn (.deferred none) (K':=fun k=>if k=D then none else K k) (K0':=c1.K0) (df:=Ds.map c3T) (by rw[hDK];simp) (.inl hDs) (fun k ob hk=>by
   change (if k=D then none else K k)=some ob at hk
   split at hk
   ·cases hk
   ·rename_i e;rw[a1i e];exact m.kp k ob hk) (fun k hk=>by
   change (if k=D then none else K k)≠none at hk
   split at hk
   ·exact absurd rfl hk
   ·exact hk) (fun k o hk=>by rw[hK0]at hk;cases hk) ⟨Ds,rfl,hn.2,hD'⟩
  exact ih _ _ _ tm this rfl hn.2 hD'
theorem PH.or_none {X K:PH} {b:Nat}:X.or K b=none↔X b=none/\K b=none:=by
 unfold PH.or
 cases e:X b with
 |none=>simp
 |some o=>simp
theorem PH.le_or (X K:PH):PH.le X (X.or K):=fun b o h=>by unfold PH.or;rw[h]
theorem PH.or_r {X K:PH} (h:Disj X K):PH.le K (X.or K):=fun b o hk=>by
 unfold PH.or
 cases e:X b with
 |none=>exact hk
 |some o'=>rw[h b (by simp[e])]at hk;cases hk
theorem PH.or_In {X K:PH} {w:World} (h1:X.In w) (h2:K.In w):(X.or K).In w:=fun b o h=>by
 unfold PH.or at h
 cases e:X b with
 |none=>simp only[e]at h;exact h2 b o h
 |some o'=>simp only[e]at h;cases h;exact h1 b _ e
theorem b7T {X K:PH} {b:Nat} (h:X b≠none):X.or K b≠none:=fun e=>h (PH.or_none.1 e).1
theorem Step.less {H H' H'':PH} {w w':World} (h:Step H w H' w') (hl:PH.le H'' H'):Step H w H'' w':=
 ⟨h.os,h.tape,h.output,h.size,h.block,hl.In h.holds,fun b hb=>h.dom b fun e=>hb (by
  cases e2:H'' b with
  |none=>rfl
  |some o=>rw[hl b o e2]at e;cases e),h.dr⟩
def b7U (P:Program) (ρ:List Value) (st:St) (bs:List Nat) (vals:List Value) (i:Nat):Value:=
 match a1Z i bs 0 with
 |some k=>vals.getD k undef
 |none=>match st.bl[i]? with|some B=>D P ρ B.c|none=>undef
def c3m (P:Program) (ρ:List Value) (st:St) (bs:List Nat) (vals:List Value) (i:Nat):Obj:=
 .cells (b7U P ρ st bs vals i).cells (match st.bl[i]? with|some B=>B.T|none=>0) (0,0)
def c7y (P:Program) (ρ:List Value) (st:St) (bs:List Nat) (β:Nat->Nat) (vals:List Value):PH:=fun b=>((List.range st.bl.length).find? fun i=>β i==b).map (c3m P ρ st bs vals)
def Yof (P:Program) (ρ:List Value) (st:St) (bs:List Nat) (β:Nat->Nat) (l:Nat) (r:Loop) (vals:List Value) (X:PH):PH:=fun b=>
 if b=l then some (.loop r)else match c7y P ρ st bs β vals b with|some o=>some o|none=>X b
structure Fit (P:Program) (ρ:List Value) (st:St) (bs:List Nat) (β:Nat->Nat) (l:Nat) (vals:List Value) (X:PH):Prop where
 sz:∀(i:Nat) (B:Blk),st.bl[i]? =some B->(b7U P ρ st bs vals i).cells.size=B.n/\a0p (b7U P ρ st bs vals i).cells
 xb:∀i,i<st.bl.length->X (β i)=none
 xl:X l=none
section
variable {bs:List Nat} {vals:List Value} {l:Nat} {r:Loop} {X K:PH}
theorem c9a (inj:∀b b',b<st.bl.length->b'<st.bl.length->β b=β b'->b=b') {i:Nat} (hi:i<st.bl.length):c7y P ρ st bs β vals (β i)=some (c3m P ρ st bs vals i):=by
 unfold c7y
 cases e:(List.range st.bl.length).find? fun j=>β j==β i with
 |none=>
  have:=List.find?_eq_none.1 e i (List.mem_range.2 hi)
  simp at this
 |some j=>
  have h1:=List.find?_some e
  have h2:=List.mem_range.1 (List.mem_of_find?_eq_some e)
  simp only[beq_iff_eq]at h1
  rw[inj j i h2 hi h1];rfl
theorem a7n {b:Nat} {o:Obj} (h:c7y P ρ st bs β vals b=some o):∃i,i<st.bl.length/\β i=b/\o=c3m P ρ st bs vals i:=by
 unfold c7y at h
 rw[Option.map_eq_some_iff]at h
 obtain⟨i,h1,h2⟩:=h
 have h3:=List.find?_some h1
 exact⟨i,List.mem_range.1 (List.mem_of_find?_eq_some h1),by simpa using h3,h2.symm⟩
theorem b7V:Yof P ρ st bs β l r vals X l=some (.loop r):=by unfold Yof;rw[if_pos rfl]
theorem a4N (inj:∀b b',b<st.bl.length->b'<st.bl.length->β b=β b'->b=b') {i:Nat} (hi:i<st.bl.length) (hne:β i≠l):Yof P ρ st bs β l r vals X (β i)=some (c3m P ρ st bs vals i):=by
 unfold Yof;rw[if_neg hne,c9a inj hi]
theorem b3f (hf:Fit P ρ st bs β l vals X):PH.le X (Yof P ρ st bs β l r vals X):=fun b o hb=>by
 unfold Yof
 rw[if_neg (fun e=>by rw[e,hf.xl]at hb;cases hb)]
 cases e:c7y P ρ st bs β vals b with
 |none=>exact hb
 |some o'=>
  obtain⟨i,hi,rfl,_⟩:=a7n e
  rw[hf.xb i hi]at hb;cases hb
theorem a4O {b:Nat} (h:Yof P ρ st bs β l r vals X b≠none):b=l\/(∃i,i<st.bl.length/\β i=b)\/X b≠none:=by
 unfold Yof at h
 split at h
 ·rename_i e;exact .inl e
 ·cases e:c7y P ρ st bs β vals b with
  |none=>rw[e]at h;exact .inr (.inr h)
  |some o=>obtain⟨i,hi,he,_⟩:=a7n e;exact .inr (.inl ⟨i,hi,he⟩)
theorem c7z {w:World} (hl:w.heap[l]? =some (.loop r)) (hb:∀i,i<st.bl.length->w.heap[β i]? =some (c3m P ρ st bs vals i)) (hx:X.In w):(Yof P ρ st bs β l r vals X).In w:=fun b o h=>by
 unfold Yof at h
 split at h
 ·rename_i e;subst e;cases h;exact hl
 ·cases e:c7y P ρ st bs β vals b with
  |none=>rw[e]at h;exact hx b o h
  |some o'=>
   rw[e]at h;cases h
   obtain⟨i,hi,rfl,rfl⟩:=a7n e
   exact hb i hi
theorem a9K {i:Nat} {B:Blk} (h:st.bl[i]? =some B):c3m P ρ st bs vals i= .cells (b7U P ρ st bs vals i).cells B.T (0,0):=by
 unfold c3m;rw[h]
theorem a7o {i:Nat} {B:Blk} (h:st.bl[i]? =some B):b7U P ρ st bs vals i=match a1Z i bs 0 with|some k=>vals.getD k undef|none=>D P ρ B.c:=by
 unfold b7U;rw[h]
end
theorem d3M:∀(ps:List Nat) (xs:List Value) (tm:Array Value),ps.length=xs.length->ps.Nodup->(∀p∈ps,p<tm.size)->
  ((ps.zip xs).foldl (fun t (p:Nat×Value)=>t.setIfInBounds p.1 p.2) tm).size=tm.size/\(∀t:Nat,t∉ps->((ps.zip xs).foldl (fun t (p:Nat×Value)=>t.setIfInBounds p.1 p.2) tm)[t]? =tm[t]?)/\
  ∀(k t:Nat),ps[k]? =some t->((ps.zip xs).foldl (fun t (p:Nat×Value)=>t.setIfInBounds p.1 p.2) tm)[t]? =some (xs.getD k undef):=by
 intro ps
 induction ps with
 |nil=>intro xs tm _ _ _;exact⟨rfl,fun _ _=>rfl,fun k t h=>by simp at h⟩
 |cons p ps ih=>
  intro xs tm hl hn hr
  cases xs with
  |nil=>simp at hl
  |cons x xs=>
   rw[List.nodup_cons]at hn
   simp only[List.zip_cons_cons,List.foldl_cons]
   obtain⟨g1,g2,g3⟩:=ih xs (tm.setIfInBounds p x) (by simpa using hl) hn.2 (fun q hq=>by simpa using hr q (by simp[hq]))
   refine⟨by rw[g1];simp,fun t ht=> ?_,fun k t hk=> ?_⟩
   ·simp only[List.mem_cons,not_or]at ht
    rw[g2 t ht.2,Array.getElem?_setIfInBounds_ne (fun e=>ht.1 e.symm)]
   ·cases k with
    |zero=>
     simp only[List.getElem?_cons_zero,Option.some.injEq]at hk;subst hk
     rw[g2 p hn.1,Array.getElem?_setIfInBounds_self_of_lt (hr p (by simp))]
     rfl
    |succ k=>
     simp only[List.getElem?_cons_succ]at hk
     rw[g3 k t hk];rfl
theorem b1g {e:Exit} {l:List Exit} (h:d3t e l=true):∃r,l=e::r/\(e= .ret\/∃i,e= .exit i):=by
 unfold d3t at h
 split at h
 ·exact⟨_,rfl,.inl rfl⟩
 ·rw[beq_iff_eq]at h;subst h;exact⟨_,rfl,.inr ⟨_,rfl⟩⟩
 ·cases h
theorem d3N {c2:Bs} {H2 K2:PH} {bs:List Nat} {l j:Nat} {st2:St} {t2:Tree} {ρ2:List Value} {β2:Nat->Nat} {a2:Act} {w2:World} {nx2:List (List Value->PH->Prop)} (hsc:a6A st=true) (hn:ρ.length=st.n) (hp:ρ<+:ρ2)
  (h2:b0Z st bs j st2=some t2) (m2:Mt P ⟨c2,H2,K2⟩ ρ2 β2 st2 a2 w2) (hn0:c2.n0=st.bl.length) (hb0:c2.b0=β) (hl:c2.K0 l≠none) (hden:den P G Xp t2 nx2 ρ2 H2):
  ∃vals,vals.length=bs.length/\(nx2.getD (st.d+j) fun _ _=>False) vals H2/\Fit P ρ st bs β l vals H2/\∀i,i<st.bl.length->w2.heap[β i]? =some (c3m P ρ st bs vals i):=by
 unfold b0Z at h2
 split at h2
 ·rename_i nb hnb
  split at h2
  ·rename_i hs
   simp only[Option.some.injEq]at h2;subst h2
   obtain⟨g1,g2⟩:=a5K hnb
   obtain⟨s1,s2⟩:=a7l hs
   unfold a6A at hsc
   simp only[Bool.and_eq_true,List.all_eq_true]at hsc
   obtain⟨⟨⟨_,c2'⟩,_⟩,_⟩:=hsc
   rw[<-hn]at c2'
   obtain⟨rr,rfl⟩:=hp
   have key:∀(i:Nat) (B:Blk),st.bl[i]? =some B->∃B',st2.bl[i]? =some B'/\B'.T=B.T/\B'.n=B.n/\b7U P ρ st bs (nb.map (D P (ρ++rr))) i=D P (ρ++rr) B'.c:=fun i B hB=>by
    obtain⟨B',q1,q2,q3,q4⟩:=s2 i B hB
    refine⟨B',q1,q2,q3,?_⟩
    rw[a7o hB]
    cases e:a1Z i bs 0 with
    |some k=>
     obtain⟨k',rfl,hk'⟩:=a3d e
     obtain⟨B2,r1,r2⟩:=g2 k' i hk'
     obtain rfl:B2=B':=Option.some.inj (r1.symm.trans q1)
     simp[List.getD_eq_getElem?_getD,r2]
    |none=>
     simp only
     rw[q4 (by rw[Nat.zero_add];exact a8O e),a1n P ρ rr B.c (c2' B (List.mem_of_getElem? hB))]
   have hβ:∀i,i<st.bl.length->β2 i=β i:=fun i hi=>by rw[<-hb0];exact m2.ag i (by show i<c2.n0;omega)
   refine⟨nb.map (D P (ρ++rr)),by rw[List.length_map,g1],hden,⟨fun i B hB=> ?_,fun i hi=> ?_,m2.kpH l ?_⟩,fun i hi=> ?_⟩
   ·obtain⟨B',q1,q2,q3,q4⟩:=key i B hB
    rw[q4,<-q3];exact(m2.bl i B' q1).2
   ·rw[<-hβ i hi];exact m2.sep i (by omega)
   ·intro e
    cases e2:c2.K0 l with
    |none=>exact hl e2
    |some o=>have h3:=m2.kle l o e2;simp only at h3 e;rw[e]at h3;cases h3
   ·obtain⟨B,hB⟩:∃B,st.bl[i]? =some B:=⟨_,List.getElem?_eq_getElem hi⟩
    obtain⟨B',q1,q2,q3,q4⟩:=key i B hB
    rw[a9K hB,q4,<-q2,<-hβ i hi];exact(m2.bl i B' q1).1
  ·simp only[Option.some.injEq]at h2;subst h2;exact hden.elim
 ·simp only[Option.some.injEq]at h2;subst h2;exact hden.elim
theorem c3Y {C:List b0K} {g:Operand} {ps:Array Tmp} {asg body:Code} (ihA:∀(c1:Bs) (rm:Nat),c8Z P G noP c1 rm asg (ex P C asg)) (ihB:∀(c1:Bs) (rm:Nat),c8Z P G noP c1 rm body (ex P C body))
  {c1:Bs} {rm:Nat} {st:St} {k:Exit->St->Option Tree} {t:Tree} {ρ:List Value} {β:Nat->Nat} {a:Act} {W:World} {H K:PH} {nx:List (List Value->PH->Prop)} {Q:Exit->Act->World->Prop}
  (h:ex P C (.rangeFunc g ps asg body) st k=some t) (m:Mt P ⟨c1,H,K⟩ ρ β st a W) (hd:nx.length=st.d) (hden:den P G Xp t nx ρ H)
  (hQ:∀e st' t' ρ' β' a' W' H' K' nx',k e st'=some t'->Mt P ⟨c1,H',K'⟩ ρ' β' st' a' W'->ρ<+:ρ'->nx<+:nx'->nx'.length=st'.d->den P G Xp t' nx' ρ' H'->Q e a' W'):(Code.rangeFunc g ps asg body).wpIn (Fr c1.ro) rm P Q a W:=by
 simp only[ex]at h
 split at h
 ·rename_i gv ib hrd hgv hib
  split at h
  ·rename_i hc
   simp only[Bool.and_eq_true]at hc
   obtain⟨⟨⟨hsc,hbs⟩,hps⟩,hrg⟩:=hc
   split at h
   ·rename_i tb ta te eb ea ee
    simp only[Option.some.injEq]at h;subst h
    revert hib hbs eb ea ee
    generalize c7x st asg body=bs
    intro hib hbs eb ea ee
    have hbn:=a3Q hbs
    have hpn:=a3Q hps
    have hro:c1.ro=none:=m.rd hrd
    obtain⟨f,caps,X,K1,Ro,E,S,Sp,I,Ix,hg,hent,hHe,hdis,hit,hRo,hI0,hrnd,haft,hext⟩:=hden
    have hev:a.eval g= .func (.func f) #[] caps.toArray:=(m.val hgv).trans hg
    obtain⟨hb1,hb2⟩:=a5K hib
    have hrg':∀p∈ps.toList,p<a.tmps.size:=fun p hp=>by rw[m.sz];simpa using List.all_eq_true.1 hrg p hp
    rw[hro]
    refine wpIn_rangeFunc fun fn _=> ?_
    obtain⟨rec,hrec⟩:∃rec:LoopState->Option Code->Loop,rec=fun s p=>{state:=s,pending:=p,fn,tmps:=a.tmps,params:=ps,assign:=asg,body,defers:=W.heap.size}:=⟨_,rfl⟩
    obtain⟨W1,hW1⟩:∃W1,(W.alloc (.deferred (some []))).alloc (.loop (rec .ready none))=W1:=⟨_,rfl⟩
    have hs0:(W.alloc (.deferred (some []))).heap.size=W.heap.size+1:=by show(W.heap.push _).size=_;simp
    have hx1:Ext W W1:=hW1 ▸ (Ext.alloc W _).trans (Ext.alloc _ _)
    have hsz1:W1.heap.size=W.heap.size+2:=by
     rw[<-hW1];show((W.alloc (.deferred (some []))).heap.push _).size=_;simp[hs0]
    have hD1:W1.heap[W.heap.size]? =some (.deferred (some [])):=by
     rw[<-hW1];exact(Ext.alloc _ _).block (World.alloc_heap_new W _)
    have hL1:W1.heap[W.heap.size+1]? =some (.loop (rec .ready none)):=by
     rw[<-hW1,<-hs0];exact World.alloc_heap_new _ _
    obtain⟨l,hl⟩:∃l,l=W.heap.size+1:=⟨_,rfl⟩
    have hβl:∀i,i<st.bl.length->β i≠l:=fun i hi=>by have:=m.lt hi;omega
    refine⟨l,[c3T W.heap.size],W1,{target:= .fn (.func f) caps.toArray,args:= #[.func (.yield l) #[] #[]]},W1,f,#[.func (.yield l) #[] #[]]++caps.toArray,W1,?_,?_,fun _ _=>trivial,?_,fun e=>by simp[Fr,Fence.wide]at e,a5G ?_⟩
    ·rw[<-hW1,hrec,hl];exact run_enterLoop_outer _ _ _ _ _
    ·simp only[resolve,hev]
     simp[go_sem]
    ·simp[invoke,go_sem,a2a hent]
    rw[show #[Value.func (.yield l) #[] #[]]++caps.toArray=((Value.func (.yield l) #[] #[])::caps).toArray from by simp]
    have Xin:X.In W:=(PH.le_or X K1).In (hHe ▸ m.fr.holds)
    have K1in:K1.In W:=(PH.or_r hdis).In (hHe ▸ m.fr.holds)
    have hXl:∀Z:PH,Z.In W->Z l=none:=fun Z hZ=>by
     cases e:Z l with
     |none=>rfl
     |some o=>have:=a0y (hZ _ _ e);omega
    have hXb:∀i,i<st.bl.length->X (β i)=none/\K1 (β i)=none:=fun i hi=>by
     have:=m.sep i hi
     simp only[hHe]at this
     exact PH.or_none.1 this
    have round:∀(pre:List (List Value)) (xs:List Value) (vals:List Value) (X' K':PH),E pre xs->vals.length=ib.length->I pre vals X'->Fit P ρ st bs β l vals X'->Disj (Yof P ρ st bs β l (rec .ready none) vals X') K'->
      b7L P l xs (Yof P ρ st bs β l (rec .ready none) vals X') K' fun v Y'=>
       (v= .bool true/\∃vals' X'',vals'.length=ib.length/\I (pre++[xs]) vals' X''/\Fit P ρ st bs β l vals' X''/\Y'=Yof P ρ st bs β l (rec .ready none) vals' X'')\/
       (v= .bool false/\∃vals' X'' e0 r0 c0,b7A body=e0::r0/\((e0= .ret/\c0=Code.ret)\/∃i,e0= .exit i/\c0=Code.exit i)/\vals'.length=ib.length/\Ix (pre++[xs]) vals' X''/\Fit P ρ st bs β l vals' X''/\Y'=Yof P ρ st bs β l (rec .done (some c0)) vals' X''):=by
     intro pre xs vals X' K' hE hvl hI hf hdj w hin
     obtain⟨hxl,hdn⟩:=hrnd pre xs vals X' hE hvl hI
     have hYin:(Yof P ρ st bs β l (rec .ready none) vals X').In w:=(PH.le_or _ K').In hin
     have hKin:K'.In w:=(PH.or_r hdj).In hin
     have hXin:X'.In w:=(b3f hf).In hYin
     have hlw:=hYin l _ b7V
     have hKl:K' l=none:=hdj l (by rw[b7V];simp)
     have hKb:∀i,i<st.bl.length->K' (β i)=none:=fun i hi=>hdj _ (by rw[a4N m.inj hi (hβl i hi)];simp)
     refine⟨fn,(ps.zip xs.toArray).foldl (fun tmps x=>match x with|(t,a)=>tmps.setIfInBounds t a) a.tmps,asg,body,?_,roundIn_of_wpIn trivial ?_⟩
     ·have:=run_yield (P:=P) (args:=xs.toArray) hlw (by rw[hrec];simpa using hxl)
      rw[hrec]at this
      exact this
     obtain⟨c2,hc2⟩:∃c2:Bs,c2=⟨w,(Yof P ρ st bs β l (rec .ready none) vals X').or K',some l,st.bl.length,β,K'.put l (.loop (rec .ready none))⟩:=⟨_,rfl⟩
     have hYl:(Yof P ρ st bs β l (rec .ready none) vals X').or K' l≠none:=b7T (by rw[b7V];simp)
     have hputK:∀(r:Loop) k,(K'.put l (.loop r)) k≠none->k=l\/K' k≠none:=fun r k hk=>by
      unfold PH.put at hk
      split at hk
      ·rename_i e;exact .inl e
      ·exact .inr hk
     obtain⟨z1,z2,z3⟩:=d3M ps.toList xs a.tmps (by simpa using hxl.symm) hpn hrg'
     have hzip:(ps.zip xs.toArray).foldl (fun tmps x=>match x with|(t,a)=>tmps.setIfInBounds t a) a.tmps=(ps.toList.zip xs).foldl (fun t (p:Nat×Value)=>t.setIfInBounds p.1 p.2) a.tmps:=by
      rw[<-Array.foldl_toList,Array.toList_zip]
     rw[hzip]
     generalize (ps.toList.zip xs).foldl (fun t (p:Nat×Value)=>t.setIfInBounds p.1 p.2) a.tmps=tm at z1 z2 z3
     have m0:Mt P ⟨c2,X',K'.put l (.loop (rec .ready none))⟩ (ρ++(xs++vals)) β (b7B st ps.toList bs) {tmps:=tm,defers:=[]} w:=by
      refine a9G (st:={st with rd:=true}) (lv:=ps.toList) (dd:=[]) (bs:=bs) (δ:=2) hsc m.n m.kn m.kb (by simp[hxl,hvl,hb1]) (by rw[<-m.sz];exact z1) m.pb hpn hbn (fun u s hl' _ hs=> ?_) (fun k' u hk'=> ?_) (fun i B hB=> ?_) ?_
      ·rw[z2 u hl'];exact m.sl u s hs
      ·rw[z3 k' u hk']
       have hlt:=(List.getElem?_eq_some_iff.1 hk').1
       rw[Array.length_toList]at hlt
       rw[List.getD_eq_getElem?_getD,List.getD_eq_getElem?_getD,List.getElem?_append_left (by omega)]
      ·change st.bl[i]? =some B at hB
       have hi:=(List.getElem?_eq_some_iff.1 hB).1
       have e1:(match a1Z i bs 0 with|some k=>(xs++vals).getD (ps.toList.length+k) undef|none=>D P ρ B.c)=b7U P ρ st bs vals i:=by
        rw[a7o hB]
        cases a1Z i bs 0 with
        |none=>rfl
        |some k=>
         simp only[List.getD_eq_getElem?_getD,Array.length_toList]
         rw[List.getElem?_append_right (by omega),hxl,Nat.add_sub_cancel_left]
       rw[e1]
       refine⟨?_,hf.sz i B hB⟩
       rw[<-a9K hB]
       exact hYin _ _ (a4N m.inj hi (hβl i hi))
      ·subst hc2
       refine⟨⟨[],rfl,List.nodup_nil,by simp⟩,m.inj,fun i hi=> .inr (b7T (by rw[a4N m.inj hi (hβl i hi)];simp)),hf.xb,⟨rfl,rfl,rfl,Nat.le_refl _,fun _ _ _=>rfl,hXin,fun b hb=> .inl (b7T (fun e=>hb ?_)),Nat.le_refl _⟩,PH.put_in hKin hlw,(fun e=>by cases e),fun _ _=>rfl,Nat.le_refl _,PH.le.refl _,fun k' hk'=> ?_,fun i hi=> ?_⟩
       ·cases e2:X' b with
        |none=>exact e2
        |some o=>rw[b3f hf b o e2]at e;cases e
       ·rcases hputK _ k' hk' with rfl|hk'
        ·exact hf.xl
        ·cases e2:X' k' with
         |none=>exact e2
         |some o=>exact absurd (hdj k' (by rw[b3f hf k' o e2];simp)) hk'
       ·show PH.put K' l _ (β i)=none
        unfold PH.put;rw[if_neg (hβl i hi)];exact hKb i hi
     refine ihA c2 0 _ _ tb _ β _ w X' _ _ _ eb m0 (by simp[b7B,a2H,hd]) hdn PnQ.no ?_|>fun hh=>(by subst hc2;exact hh)
     intro e st1 t1 ρ1 β1 a1 w1 H1 K1' nx1 h1 m1 hp1 hn1 hd1 hden1
     cases e with
     |exit id=>simp only[Option.some.injEq]at h1;subst h1;exact hden1.elim
     |goto l=>simp only[Option.some.injEq]at h1;subst h1;exact hden1.elim
     |ret=>simp only[Option.some.injEq]at h1;subst h1;exact hden1.elim
     |panic ch=>simp only[Option.some.injEq]at h1;subst h1;exact hden1.elim
     |outgrown=>simp only[Option.some.injEq]at h1;subst h1;exact hden1.elim
     |normal=>
      have hK1l:K1' l=some (.loop (rec .ready none)):=m1.kle l _ (by subst hc2;show PH.put K' l _ l=_;unfold PH.put;rw[if_pos rfl])
      have hw1l:=m1.kp l _ hK1l
      refine⟨_,run_beginRound hw1l (by rw[hrec]),?_⟩
      have hbusy:({rec .ready none with state:= .busy}:Loop)=rec .busy none:=by rw[hrec]
      rw[hbusy]
      have hlt1:=a0y hw1l
      obtain⟨Ds1,d1,d2,d3⟩:=m1.df
      have m1':Mt P ⟨{c2 with K0:=K'.put l (.loop (rec .busy none))},H1,K1'.put l (.loop (rec .busy none))⟩ ρ1 β1 st1 {a1 with defers:=a1.defers} (w1.putObj l (.loop (rec .busy none))):=by
       refine m1.turn _ (by rw[hK1l];simp) (by subst hc2;exact .inr hYl) (fun k' o hk'=> ?_) (fun k' hk'=> ?_) (fun k' o hk'=> ?_) ⟨Ds1,d1,d2,fun D hD=>⟨(d3 D hD).1,?_⟩⟩
       ·unfold PH.put at hk'
        split at hk'
        ·rename_i e;subst e;cases hk';exact World.putObj_heap_same hlt1
        ·rename_i e;rw[a1i e];exact m1.kp k' o hk'
       ·unfold PH.put at hk'
        split at hk'
        ·rename_i e;subst e;rw[hK1l];simp
        ·exact hk'
       ·unfold PH.put at hk'⊢
        split
        ·rename_i e;rw[if_pos e]at hk';exact hk'
        ·rename_i e;rw[if_neg e]at hk'
         exact m1.kle k' o (by subst hc2;show PH.put K' l _ k'=_;unfold PH.put;rw[if_neg e];exact hk')
       ·unfold PH.put
        have h5:K1' D=some (.deferred (some [])):=(d3 D hD).2
        rw[if_neg (fun e=>by rw[e,hK1l]at h5;cases h5)];exact h5
      refine ihB {c2 with K0:=K'.put l (.loop (rec .busy none))} 0 st1 _ t1 ρ1 β1 _ _ H1 _ nx1 _ h1 m1' hd1 hden1 PnQ.no ?_|>fun hh=>(by subst hc2;exact hh)
      intro e st2 t2 ρ2 β2 a2 w2 H2 K2 nx2 h2 m2 hp2 hn2 hd2 hden2
      have hpp:ρ<+:ρ2:=((List.prefix_append _ _).trans hp1).trans hp2
      have hnn:=hn1.trans hn2
      have hK2:∀k' o,(K'.put l (.loop (rec .busy none))) k'=some o->K2 k'=some o:=fun k' o hk'=>m2.kle k' o hk'
      have hK2l:=hK2 l _ (by unfold PH.put;rw[if_pos rfl])
      have hw2l:=m2.kp l _ hK2l
      have hlt2:=a0y hw2l
      have hK2k:∀k' o,K' k'=some o->K2 k'=some o:=fun k' o hk'=>hK2 k' o (by unfold PH.put;rw[if_neg (fun e=>by rw[e,hKl]at hk';cases hk')];exact hk')
      have fin:∀(jump:Option Code) (vals':List Value),Fit P ρ st bs β l vals' H2->(∀i,i<st.bl.length->w2.heap[β i]? =some (c3m P ρ st bs vals' i))->
        (Instr.endRound l jump).run P w2= .ok (.bool jump.isNone) (w2.putObj l (.loop (rec (if jump.isNone then .ready else .done) jump)))/\
        Step ((Yof P ρ st bs β l (rec .ready none) vals X').or K') w ((Yof P ρ st bs β l (rec (if jump.isNone then .ready else .done) jump) vals' H2).or K') (w2.putObj l (.loop (rec (if jump.isNone then .ready else .done) jump)))/\
        Disj (Yof P ρ st bs β l (rec (if jump.isNone then .ready else .done) jump) vals' H2) K':=fun jump vals' hf' hbl'=>by
       have hfr:Step ((Yof P ρ st bs β l (rec .ready none) vals X').or K') w H2 w2:=by have:=m2.fr;subst hc2;exact this
       have hj:∀b,Yof P ρ st bs β l (rec (if jump.isNone then .ready else .done) jump) vals' H2 b≠none->K' b=none:=fun b hb=>by
        rcases a4O hb with rfl|⟨i,hi,rfl⟩|hb
        ·exact hKl
        ·exact hKb i hi
        ·cases e2:K' b with
         |none=>rfl
         |some o=>exact absurd (m2.kpH b (by show K2 b≠none;rw[hK2k b o e2];simp)) hb
       refine⟨?_,⟨hfr.os,hfr.tape,hfr.output,by rw[World.putObj_size];exact hfr.size,fun k' hk' hn'=> ?_,PH.or_In (c7z (World.putObj_heap_same hlt2) (fun i hi=> ?_) fun b o hb=> ?_) fun b o hb=> ?_,fun b hb=> ?_,hfr.dr⟩,hj⟩
       ·have:=run_endRound (P:=P) jump hw2l
        rw[this,hrec]
       ·rw[a1i (fun e=>by rw[e]at hn';exact hYl hn')];exact hfr.block k' hk' hn'
       ·rw[a1i (hβl i hi)];exact hbl' i hi
       ·rw[a1i (fun e=>by rw[e,hf'.xl]at hb;cases hb)];exact m2.fr.holds b o hb
       ·rw[a1i (fun e=>by rw[e,hKl]at hb;cases hb)];exact m2.kp b o (hK2k b o hb)
       ·by_cases hb':K' b=none
        ·rcases a4O (fun e=>hb (PH.or_none.2 ⟨e,hb'⟩))with rfl|⟨i,hi,rfl⟩|hb
         ·exact .inl hYl
         ·exact .inl (b7T (by rw[a4N m.inj hi (hβl i hi)];simp))
         ·exact hfr.dom b hb
        ·exact .inl fun e=>hb' (PH.or_none.1 e).2
      have hend:=fun(j:Nat) (h2:b0Z st bs j st2=some t2)=>d3N (l:=l) (c2:={c2 with K0:=K'.put l (.loop (rec .busy none))}) hsc m.n hpp h2 m2 (by subst hc2;rfl) (by subst hc2;rfl) (by show PH.put K' l _ l≠none;unfold PH.put;rw[if_pos rfl];simp) hden2
      have hnx:∀j,j<2->(nx2.getD (st.d+j) fun _ _=>False)=((nx++[fun v h=>I (pre++[xs]) v h,fun v h=>Ix (pre++[xs]) v h]).getD (st.d+j) fun _ _=>False):=fun j hj=>a4L hnn (by simp[hd];omega)
      cases e with
      |normal=>
       obtain⟨vals',g1,g2,g3,g4⟩:=hend 0 h2
       rw[hnx 0 (by omega)]at g2
       have g2:I (pre++[xs]) vals' H2:=by simpa[List.getD_eq_getElem?_getD,<-hd]using g2
       obtain⟨q1,q2,q3⟩:=fin none vals' g3 g4
       exact⟨_,_,q1,_,_,rfl,q2,q3,.inl ⟨rfl,vals',H2,by omega,g2,g3,rfl⟩⟩
      |panic ch=>simp only[d3t,Bool.false_eq_true,if_false,Option.some.injEq]at h2;subst h2;exact hden2.elim
      |outgrown=>simp only[d3t,Bool.false_eq_true,if_false,Option.some.injEq]at h2;subst h2;exact hden2.elim
      |goto l=>simp only[d3t,Bool.false_eq_true,if_false,Option.some.injEq]at h2;subst h2;exact hden2.elim
      |ret=>
       simp only at h2
       split at h2
       ·rename_i hx
        obtain⟨r0,hr0,_⟩:=b1g hx
        obtain⟨vals',g1,g2,g3,g4⟩:=hend 1 h2
        rw[hnx 1 (by omega)]at g2
        have g2:Ix (pre++[xs]) vals' H2:=by simpa[List.getD_eq_getElem?_getD,<-hd]using g2
        obtain⟨q1,q2,q3⟩:=fin (some .ret) vals' g3 g4
        exact⟨_,_,q1,_,_,rfl,q2,q3,.inr ⟨rfl,vals',H2,_,r0,.ret,hr0,.inl ⟨rfl,rfl⟩,by omega,g2,g3,rfl⟩⟩
       ·simp only[Option.some.injEq]at h2;subst h2;exact hden2.elim
      |exit id=>
       simp only at h2
       split at h2
       ·rename_i hx
        obtain⟨r0,hr0,_⟩:=b1g hx
        obtain⟨vals',g1,g2,g3,g4⟩:=hend 1 h2
        rw[hnx 1 (by omega)]at g2
        have g2:Ix (pre++[xs]) vals' H2:=by simpa[List.getD_eq_getElem?_getD,<-hd]using g2
        obtain⟨q1,q2,q3⟩:=fin (some (.exit id)) vals' g3 g4
        exact⟨_,_,q1,_,_,rfl,q2,q3,.inr ⟨rfl,vals',H2,_,r0,.exit id,hr0,.inr ⟨id,rfl,rfl⟩,by omega,g2,g3,rfl⟩⟩
       ·simp only[Option.some.injEq]at h2;subst h2;exact hden2.elim
    have fit0:Fit P ρ st bs β l (ib.map (D P ρ)) X:=by
     refine⟨fun i B hB=> ?_,fun i hi=>(hXb i hi).1,hXl X Xin⟩
     have e1:b7U P ρ st bs (ib.map (D P ρ)) i=D P ρ B.c:=by
      rw[a7o hB]
      cases e:a1Z i bs 0 with
      |none=>rfl
      |some k'=>
       obtain⟨k'',rfl,hk''⟩:=a3d e
       obtain⟨B2,r1,r2⟩:=hb2 k'' i hk''
       obtain rfl:B2=B:=Option.some.inj (r1.symm.trans hB)
       simp[List.getD_eq_getElem?_getD,r2]
     rw[e1];exact(m.bl i B hB).2
    have own0:∀i,i<st.bl.length->W.heap[β i]? =some (c3m P ρ st bs (ib.map (D P ρ)) i):=fun i hi=>by
     obtain⟨B,hB⟩:∃B,st.bl[i]? =some B:=⟨_,List.getElem?_eq_getElem hi⟩
     rw[a9K hB]
     have e1:b7U P ρ st bs (ib.map (D P ρ)) i=D P ρ B.c:=by
      rw[a7o hB]
      cases e:a1Z i bs 0 with
      |none=>rfl
      |some k'=>
       obtain⟨k'',rfl,hk''⟩:=a3d e
       obtain⟨B2,r1,r2⟩:=hb2 k'' i hk''
       obtain rfl:B2=B:=Option.some.inj (r1.symm.trans hB)
       simp[List.getD_eq_getElem?_getD,r2]
     rw[e1];exact(m.bl i B hB).1
    have dj0:Disj (Yof P ρ st bs β l (rec .ready none) (ib.map (D P ρ)) X) K1:=fun b hb=>by
     rcases a4O hb with rfl|⟨i,hi,rfl⟩|hb
     ·exact hXl K1 K1in
     ·exact(hXb i hi).2
     ·exact hdis b hb
    have in0:((Yof P ρ st bs β l (rec .ready none) (ib.map (D P ρ)) X).or K1).In W1:=PH.or_In (c7z (by rw[hl];exact hL1) (fun i hi=>hx1.block (own0 i hi)) (Xin.ext hx1)) (K1in.ext hx1)
    refine(hit l (fun pre y=>∃vals X',vals.length=ib.length/\I pre vals X'/\Fit P ρ st bs β l vals X'/\y=Yof P ρ st bs β l (rec .ready none) vals X')
     (fun pre y=>∃vals X' e0 r0 c0,b7A body=e0::r0/\((e0= .ret/\c0=Code.ret)\/∃i,e0= .exit i/\c0=Code.exit i)/\vals.length=ib.length/\Ix pre vals X'/\Fit P ρ st bs β l vals X'/\y=Yof P ρ st bs β l (rec .done (some c0)) vals X')
     ?_ ?_ _ ⟨_,X,by simp,hI0,fit0,rfl⟩ dj0 W1 in0).mono ?_
    ·rintro pre y ⟨vals,X',_,h1,h2,rfl⟩
     exact(hRo pre vals X' h1).trans (b3f h2)
    ·rintro pre xs y K' hE ⟨vals,X',h0,h1,h2,rfl⟩ hdj
     exact round pre xs vals X' K' hE h0 h1 h2 hdj
    ·rintro e W2 ⟨v,H',rfl,hst,Y',K',hle,hdj,hpost⟩
     have back:∀(r:Loop) (vals':List Value) (X':PH),r.state≠ .busy->Y'=Yof P ρ st bs β l r vals' X'->vals'.length=ib.length->Fit P ρ st bs β l vals' X'->
       (Instr.endLoop l).run P W2= .ok r.pending (W2.putObj l (.loop {r with state:= .exhausted}))/\Disj X' K'/\
       Mt P ⟨c1,X'.or K',K.put W.heap.size (.deferred (some []))⟩ (ρ++vals') β (a2H st [] [] bs 0) {a with defers:=[c3T W.heap.size]++a.defers} (W2.putObj l (.loop {r with state:= .exhausted})):=by
      rintro r vals' X' hr rfl hvl hf
      have hst':=hst.less hle
      have hYin:=(PH.le_or _ K').In hst'.holds
      have hKin:=(PH.or_r hdj).In hst'.holds
      have hl2:=hYin l _ b7V
      have hKl:K' l=none:=hdj l (by rw[b7V];simp)
      have hXK:Disj X' K':=fun b hb=>hdj b (by
       cases e:X' b with
       |none=>exact absurd e hb
       |some o=>rw[b3f hf b o e];simp)
      have hKW:∀b o,K b=some o->b<W.heap.size:=fun b o hb=>a0y (m.kp b o hb)
      have hKn:∀b,K b≠none->((Yof P ρ st bs β l (rec .ready none) (ib.map (D P ρ)) X).or K1) b=none:=fun b hb=>by
       have h1:H b=none:=m.kpH b hb
       rw[hHe]at h1
       obtain⟨h2,h3⟩:=PH.or_none.1 h1
       refine PH.or_none.2 ⟨?_,h3⟩
       cases e:Yof P ρ st bs β l (rec .ready none) (ib.map (D P ρ)) X b with
       |none=>rfl
       |some o=>
        rcases a4O (by rw[e];simp:Yof P ρ st bs β l (rec .ready none) (ib.map (D P ρ)) X b≠none)with rfl|⟨i,hi,rfl⟩|h4
        ·cases e2:K b with
         |none=>exact absurd e2 hb
         |some o2=>have:=hKW _ _ e2;omega
        ·exact absurd (m.kpB i hi) hb
        ·exact absurd h2 h4
      have hDn:((Yof P ρ st bs β l (rec .ready none) (ib.map (D P ρ)) X).or K1) W.heap.size=none:=by
       refine PH.or_none.2 ⟨?_,?_⟩
       ·cases e:Yof P ρ st bs β l (rec .ready none) (ib.map (D P ρ)) X W.heap.size with
        |none=>rfl
        |some o=>
         rcases a4O (by rw[e];simp:Yof P ρ st bs β l (rec .ready none) (ib.map (D P ρ)) X W.heap.size≠none)with h4|⟨i,hi,h4⟩|h4
         ·omega
         ·have:=m.lt hi;omega
         ·cases e2:X W.heap.size with
          |none=>exact absurd e2 h4
          |some o2=>have:=a0y (Xin _ _ e2);omega
       ·cases e:K1 W.heap.size with
        |none=>rfl
        |some o=>have:=a0y (K1in _ _ e);omega
      have hnone:∀b,b<W1.heap.size->((Yof P ρ st bs β l (rec .ready none) (ib.map (D P ρ)) X).or K1) b=none->(X'.or K') b=none:=fun b hb hn=>by
       cases e:(X'.or K') b with
       |none=>rfl
       |some o=>
        have h4:(Yof P ρ st bs β l r vals' X').or K' b≠none:=fun e2=>by
         obtain⟨e3,e4⟩:=PH.or_none.1 e2
         have e5:X' b=none:=by
          cases e6:X' b with
          |none=>rfl
          |some o=>rw[b3f hf b o e6]at e3;cases e3
         rw[PH.or_none.2 ⟨e5,e4⟩]at e;cases e
        rcases hst'.dom b h4 with h5|h5
        ·exact absurd hn h5
        ·omega
      have hKD:K W.heap.size=none:=by
       cases e:K W.heap.size with
       |none=>rfl
       |some o=>have:=hKW _ _ e;omega
      refine⟨run_endLoop hl2 hr,hXK,a9G (lv:=[]) (dd:=[]) (bs:=bs) (δ:=0) hsc m.n m.kn m.kb (by simp[hvl,hb1]) m.sz m.pb List.nodup_nil hbn (fun u s _ _ hs=>m.sl u s hs) (fun k' u hk'=>by simp at hk') (fun i B hB=> ?_) ?_⟩
      ·have hi:=(List.getElem?_eq_some_iff.1 hB).1
       have e1:(match a1Z i bs 0 with|some k=>vals'.getD (([]:List Nat).length+k) undef|none=>D P ρ B.c)=b7U P ρ st bs vals' i:=by
        rw[a7o hB]
        cases a1Z i bs 0 with
        |none=>rfl
        |some k=>simp only[List.length_nil,Nat.zero_add]
       rw[e1,a1i (hβl i hi),<-a9K hB]
       exact⟨hYin _ _ (a4N m.inj hi (hβl i hi)),hf.sz i B hB⟩
      ·obtain⟨Ds,d1,d2,d3⟩:=m.df
       have hfr:=m.fr
       refine⟨⟨W.heap.size::Ds,by simp[d1],List.nodup_cons.2 ⟨fun h=> ?_,d2⟩,fun D hD=> ?_⟩,m.inj,m.own,fun i hi=> ?_,⟨hst'.os.trans (hx1.os.trans hfr.os),hst'.tape.trans (hx1.tape.trans hfr.tape),hst'.output.trans (hx1.output.trans hfr.output),?_,fun k' hk' hn'=> ?_,fun b o hb=> ?_,fun b hb=> ?_,Nat.le_trans hfr.dr (Nat.le_trans hx1.dr hst'.dr)⟩,fun b o hb=> ?_,m.rd,m.ag,m.ln,fun b o hb=> ?_,fun b hb=> ?_,fun i hi=> ?_⟩
       ·have:=(d3 _ h).2
        simp only at this;rw[hKD]at this;cases this
       ·rcases List.mem_cons.1 hD with rfl|hD
        ·exact⟨hfr.size,by show PH.put K _ _ _=_;unfold PH.put;rw[if_pos rfl]⟩
        ·refine⟨(d3 D hD).1,?_⟩
         show PH.put K _ _ _=_
         unfold PH.put;rw[if_neg (fun e=>by have:=(d3 D hD).2;simp only at this;rw[e,hKD]at this;cases this)];exact(d3 D hD).2
       ·exact PH.or_none.2 ⟨hf.xb i hi,hdj _ (by rw[a4N m.inj hi (hβl i hi)];simp)⟩
       ·rw[World.putObj_size];exact Nat.le_trans hfr.size (Nat.le_trans hx1.size hst'.size)
       ·have hk2:k'<W.heap.size:=Nat.lt_of_lt_of_le hk' hfr.size
        rw[a1i (by omega),hst'.block k' (by omega) ?_,hx1.block' hk2,hfr.block k' hk' hn']
        refine PH.or_none.2 ⟨?_,?_⟩
        ·cases e:Yof P ρ st bs β l (rec .ready none) (ib.map (D P ρ)) X k' with
         |none=>rfl
         |some o=>
          rcases a4O (by rw[e];simp:Yof P ρ st bs β l (rec .ready none) (ib.map (D P ρ)) X k'≠none)with h4|⟨i,hi,h4⟩|h4
          ·omega
          ·subst h4
           rcases m.own i hi with h5|h5
           ·exact absurd h5 (Nat.not_le.2 hk')
           ·exact absurd hn' h5
          ·have h6:H k'≠none:=by rw[hHe];exact b7T h4
           rcases hfr.dom k' h6 with h5|h5
           ·exact absurd hn' h5
           ·exact absurd h5 (Nat.not_le.2 hk')
        ·cases e:K1 k' with
         |none=>rfl
         |some o=>
          have h6:H k'≠none:=by rw[hHe];intro e2;rw[(PH.or_none.1 e2).2]at e;cases e
          rcases hfr.dom k' h6 with h5|h5
          ·exact absurd hn' h5
          ·exact absurd h5 (Nat.not_le.2 hk')
       ·change (X'.or K') b=some o at hb
        have hne:b≠l:=fun e=>by
         subst e
         rw[PH.or_none.2 ⟨hf.xl,hKl⟩]at hb;cases hb
        rw[a1i hne]
        exact PH.or_In ((b3f hf).In hYin) hKin b o hb
       ·by_cases hlt:b<W1.heap.size
        ·by_cases hn2:((Yof P ρ st bs β l (rec .ready none) (ib.map (D P ρ)) X).or K1) b=none
         ·exact absurd (hnone b hlt hn2) hb
         ·by_cases h7:H b=none
          ·rw[hHe]at h7
           obtain⟨h8,h9⟩:=PH.or_none.1 h7
           rcases a4O (fun e=>hn2 (PH.or_none.2 ⟨e,h9⟩))with rfl|⟨i,hi,rfl⟩|h4
           ·right;have:=hfr.size;simp only at this⊢;omega
           ·exact absurd (PH.or_none.2 ⟨hf.xb i hi,hdj _ (by rw[a4N m.inj hi (hβl i hi)];simp)⟩) hb
           ·exact absurd h8 h4
          ·exact hfr.dom b h7
        ·right;have:=hfr.size;simp only at this⊢;omega
       ·change (if b=W.heap.size then some (Obj.deferred (some []))else K b)=some o at hb
        split at hb
        ·rename_i e;subst e;cases hb
         rw[a1i (by omega),hst'.block _ (by omega) hDn];exact hD1
        ·have hb1':=m.kp b o hb
         have:=hKW b o hb
         rw[a1i (by omega),hst'.block b (by omega) (hKn b (by rw[hb];simp))]
         exact hx1.block hb1'
       ·show PH.put K _ _ b=some o
        have h4:=m.kle b o hb
        have:=hKW b o h4
        unfold PH.put;rw[if_neg (by omega)];exact h4
       ·change (if b=W.heap.size then some (Obj.deferred (some []))else K b)≠none at hb
        split at hb
        ·rename_i e;subst e;exact hnone _ (by omega) hDn
        ·cases e2:K b with
         |none=>exact absurd e2 hb
         |some o=>have:=hKW b o e2;exact hnone b (by omega) (hKn b hb)
       ·show PH.put K _ _ (β i)=none
        have:=m.lt hi
        unfold PH.put;rw[if_neg (by omega)];exact m.kpB i hi
     rcases hpost with⟨xs,hS,vals',X',h0,h1,h2,hY⟩|⟨pre,hS,vals',X',e0,r0,c0,ho,hc0,h0,h1,h2,hY⟩
     ·obtain⟨q1,q2,q3⟩:=back _ vals' X' (by rw[hrec];simp) hY h0 h2
      have q1':(Instr.endLoop l).run P W2= .ok none (W2.putObj l (.loop {rec .ready none with state:= .exhausted})):=by rw[q1,hrec]
      refine⟨none,_,q1',?_⟩
      exact hQ .normal _ ta (ρ++vals') β _ _ (X'.or K') _ nx ea q3 (List.prefix_append _ _) (List.prefix_refl _) (by simp[a2H,hd]) (haft xs vals' X' K' hS q2 h0 h1)
     ·obtain⟨q1,q2,q3⟩:=back _ vals' X' (by rw[hrec];simp) hY h0 h2
      have q1':(Instr.endLoop l).run P W2= .ok (some c0) (W2.putObj l (.loop {rec .done (some c0)with state:= .exhausted})):=by rw[q1,hrec]
      refine⟨some c0,_,q1',?_⟩
      have hk0:k e0 (a2H st [] [] bs 0)=some te:=by rw[ho]at ee;exact ee
      have:=hQ e0 _ te (ρ++vals') β _ _ (X'.or K') _ nx hk0 q3 (List.prefix_append _ _) (List.prefix_refl _) (by simp[a2H,hd]) (hext pre vals' X' K' hS q2 h0 h1)
      rcases hc0 with⟨rfl,rfl⟩|⟨i,rfl,rfl⟩
      ·exact wpIn_ret this
      ·exact wpIn_exit this
   ·cases h
  ·cases h
 ·simp only[Option.some.injEq]at h;subst h;exact hden.elim
theorem c3Z {C:List b0K} (hm:P.follows .mixedOrders=true):∀(c:Code) (Xp:Value->PH->Prop) (c1:Bs) (rm:Nat) (st:St) (k:Exit->St->Option Tree) (t:Tree) (ρ:List Value) (β:Nat->Nat) (a:Act) (W:World) (H K:PH) (nx:List (List Value->PH->Prop)) (Q:Exit->Act->World->Prop),
  ex P C c st k=some t->Mt P ⟨c1,H,K⟩ ρ β st a W->nx.length=st.d->den P G Xp t nx ρ H->PnQ P c1 Xp Q->
  (∀e st' t' ρ' β' a' W' H' K' nx',k e st'=some t'->Mt P ⟨c1,H',K'⟩ ρ' β' st' a' W'->ρ<+:ρ'->nx<+:nx'->nx'.length=st'.d->den P G Xp t' nx' ρ' H'->Q e a' W')->c.wpIn (Fr c1.ro) rm P Q a W:=by
 intro c
 induction c with
 |skip=>intro Xp c1 rm st k t ρ β a W H K nx Q h m hd hden hX hQ;exact wpIn_skip (hQ _ _ _ _ _ _ _ _ _ _ h m (List.prefix_refl _) (List.prefix_refl _) hd hden)
 |exit id=>intro Xp c1 rm st k t ρ β a W H K nx Q h m hd hden hX hQ;exact wpIn_exit (hQ _ _ _ _ _ _ _ _ _ _ h m (List.prefix_refl _) (List.prefix_refl _) hd hden)
 |ret=>intro Xp c1 rm st k t ρ β a W H K nx Q h m hd hden hX hQ;exact wpIn_ret (hQ _ _ _ _ _ _ _ _ _ _ h m (List.prefix_refl _) (List.prefix_refl _) hd hden)
 |region id ops draw=>
  intro Xp c1 rm st k t ρ β a W H K nx Q h m hd hden hX hQ
  have hrun:c8Z P G Xp c1 rm (.region id ops draw) (exR P C id ops draw):=by
   intro st k t ρ β a W H K nx Q h m hd hden hX hQ
   have hrg:Rg st β st β:=⟨fun _ _=>rfl,Nat.le_refl _⟩
   have hXT:∀x a' w',a'.defers=a.defers->XT P c1 K Xp a.defers x w'->Q (.panic [{v:=x,recovered:=false}]) a' w':=fun x a' w' h1 ⟨ρ',β',st',a1,H',hm,h2,hx⟩=>hX x ρ' β' st' a1 a' w' H' K hm (h1.trans h2.symm) hx
   cases draw with
   |false=>
    simp only[exR]at h
    refine a6X (X:=XT P c1 K Xp a.defers) (kd:=fun _=>4) (ta:=fun i=>β (0*i)) hXT ?_
    exact a8K (ρ:=ρ) (dn:=st.d) (nx:=nx) (tg:=fun i=>0*i) (st0:=st) (β0:=β) (fun _ _ _ _=>rfl) (fun i h=>by omega) (fun i h=>by omega) (fun st2 t2 ρ2 β2 a2 W2 H2 h2 m2 hp2 hd2 hden2=>hQ _ _ _ _ _ _ _ _ _ _ h2 m2 hp2 (List.prefix_refl _) (by rw[hd2];exact hd) hden2) _ st t ρ β a W H rfl h m (List.prefix_refl _) rfl hrg hden
   |true=>
    have hx:=Ext.drawn W
    have tags:∀(c:b0K),tgB st.bl.length c=true->∀i,((c.ks.getD i 99=5\/c.ks.getD i 99=6)->c.ts.getD i 0<st.bl.length)/\(c.ks.getD i 99=8->c.ts.getD i 0=0\/st.bl.length<=c.ts.getD i 0):=fun c hTg i=>by
     rcases Nat.lt_or_ge i c.ks.length with hlt|hge
     ·have:=List.all_eq_true.1 hTg i (List.mem_range.2 hlt)
      simp only[Bool.and_eq_true,Bool.or_eq_true,Bool.not_eq_true',Bool.or_eq_false_iff,beq_eq_false_iff_ne,decide_eq_true_eq,beq_iff_eq]at this
      obtain⟨h1,h2⟩:=this
      refine⟨fun hi=> ?_,fun hi=> ?_⟩
      ·rcases h1 with⟨h1,h1'⟩|h1
       ·exact absurd hi (by omega)
       ·exact h1
      ·rcases h2 with h2|h2
       ·exact absurd hi h2
       ·exact h2
     ·have e:c.ks.getD i 99=99:=by rw[List.getD_eq_getElem?_getD,List.getElem?_eq_none hge];rfl
      rw[e]
      exact⟨fun h=>by omega,fun h=>by omega⟩
    have one:∀(c:b0K) (t0:Tree),(∀i,(c.ks.getD i 99=5\/c.ks.getD i 99=6)->c.ts.getD i 0<st.bl.length)->(∀i,c.ks.getD i 99=8->c.ts.getD i 0=0\/st.bl.length<=c.ts.getD i 0)->(c.F.all fun i=>frK (c.ks.getD i 99))=true->
      a6g P true (ckC P c) ops id (fun st'=>a6g P false (ckC P c) ops id (k .normal) c.T st') c.F st=some t0->den P G Xp t0 nx ρ H->
      wpF P ops (fun i=>c.ks.getD i 99) (fun i=>β (c.ts.getD i 0)) W.heap.size (wpT P (XT P c1 K Xp a.defers) ops (fun i=>c.ks.getD i 99) (fun i=>β (c.ts.getD i 0)) (Q .normal) c.T) c.F [] a {W with drawn:=W.drawn+1}:=fun c t0 htg hfr hF h hden=>by
     refine b5Q (ρ:=ρ) (dn:=st.d) (nx:=nx) (kd:=fun i=>c.ks.getD i 99) (tg:=fun i=>c.ts.getD i 0) (st0:=st) (β0:=β) m.fr.size (fun k hk=>by
       cases e:K k with
       |none=>exact absurd e hk
       |some ob=>exact a0y (m.kp k ob e)) (fun _ _ _ h=>h) htg (fun st' t' ρ' β' a' W' H' hdf' h' m' hp hd' hrg' hden'=> ?_) _ [] st t0 ρ β a _ H rfl (fun i hi=> ?_) h (m.ext hx) (List.prefix_refl _) rfl hrg (fun i hi=> .inl (m.lt hi)) (fun b hb=> ?_) hden
     ·exact a8K (ρ:=ρ) (dn:=st.d) (nx:=nx) (kd:=fun i=>c.ks.getD i 99) (tg:=fun i=>c.ts.getD i 0) (st0:=st) (β0:=β) (fun _ _ _ h=>h) htg hfr (fun st2 t2 ρ2 β2 a2 W2 H2 h2 m2 hp2 hd2 hden2=>hQ _ _ _ _ _ _ _ _ _ _ h2 m2 hp2 (List.prefix_refl _) (by rw[hd2];exact hd) hden2) _ st' t' ρ' β' a' W' H' hdf' h' m' hp hd' hrg' hden'
     ·exact List.all_eq_true.1 hF i hi
     ·cases e:H b with
      |none=>exact absurd e hb
      |some ob=>exact .inl (a0y (m.fr.holds b ob e))
    have frs:∀{ops':Array Oper} {c:b0K},c7u ops' (a9t ops'.toList []) (fun i=>c.ks.getD i 99) (fun i=>c.ts.getD i 0) c.F c.T=true->(c.F.all fun i=>frK (c.ks.getD i 99))=true:=fun hB=>by
     simp only[c7u,Bool.and_eq_true]at hB
     exact hB.1.1.1.2
    simp only[exR]at h
    split at h
    ·split at h
     ·split at h
      ·rename_i hCB
       simp only[b7x,Bool.and_eq_true,beq_iff_eq,bne_iff_ne]at hCB
       obtain⟨hxy,⟨⟨hA1,hT1⟩,hB1⟩,⟨hA2,hT2⟩,hB2⟩:=hCB
       rw[hA1]at hB1
       rw[hA2]at hB2
       have g1:=fun i=>(tags _ hT1 i).1
       have g2:=fun i=>(tags _ hT2 i).1
       split at h
       ·rename_i h1 h2
        simp only[Option.some.injEq]at h
        subst h
        exact a6W hm hxy (b0Q hB1 (fun i j hi hj hne e=>hne (m.inj _ _ (g1 i hi) (g1 j hj) e)) hXT (one _ _ g1 (fun i=>(tags _ hT1 i).2) (frs hB1) h1 hden.1))
         (b0Q hB2 (fun i j hi hj hne e=>hne (m.inj _ _ (g2 i hi) (g2 j hj) e)) hXT (one _ _ g2 (fun i=>(tags _ hT2 i).2) (frs hB2) h2 hden.2))
       ·cases h
      ·simp only[Option.some.injEq]at h;subst h;exact hden.elim
     ·simp only[Option.some.injEq]at h;subst h;exact hden.elim
    ·split at h
     ·rename_i c hfc
      split at h
      ·rename_i hCB
       simp only[b7x,Bool.and_eq_true,beq_iff_eq]at hCB
       obtain⟨⟨hA,hTg⟩,hB⟩:=hCB
       rw[hA]at hB
       have htg:=fun i=>(tags c hTg i).1
       exact a3O (kd:=fun i=>c.ks.getD i 99) (tg:=fun i=>c.ts.getD i 0) (ta:=fun i=>β (c.ts.getD i 0)) hm hB (fun i j hi hj hne e=>hne (m.inj _ _ (htg i hi) (htg j hj) e)) hXT (one c t htg (fun i=>(tags c hTg i).2) (frs hB) h hden)
      ·simp only[Option.some.injEq]at h;subst h;exact hden.elim
     ·simp only[Option.some.injEq]at h;subst h;exact hden.elim
  simp only[ex]at h
  split at h
  ·exact a9I hrun _ _ st k t ρ β a W H K nx Q h m hd hden hX hQ
  ·exact hrun st k t ρ β a W H K nx Q h m hd hden hX hQ
 |seq x y ihx ihy=>
  intro Xp c1 rm st k t ρ β a W H K nx Q h m hd hden hX hQ
  simp only[ex]at h
  refine wpIn_seq (ihx Xp c1 rm st _ t ρ β a W H K nx _ h m hd hden (hX.of fun _ _ _ h=>h) fun e st' t' ρ' β' a' W' H' K' nx' h' m' hp hn hd' hden'=> ?_)
  cases e with
  |normal=>exact ihy Xp c1 rm st' k t' ρ' β' a' W' H' K' nx' Q h' m' hd' hden' hX fun e2 st2 t2 ρ2 β2 a2 W2 H2 K2 nx2 h2 m2 hp2 hn2 hd2 hden2=>hQ _ _ _ _ _ _ _ _ _ _ h2 m2 (hp.trans hp2) (hn.trans hn2) hd2 hden2
  |exit id=>exact hQ _ _ _ _ _ _ _ _ _ _ h' m' hp hn hd' hden'
  |goto l=>exact hQ _ _ _ _ _ _ _ _ _ _ h' m' hp hn hd' hden'
  |ret=>exact hQ _ _ _ _ _ _ _ _ _ _ h' m' hp hn hd' hden'
  |panic ch=>exact hQ _ _ _ _ _ _ _ _ _ _ h' m' hp hn hd' hden'
  |outgrown=>exact hQ _ _ _ _ _ _ _ _ _ _ h' m' hp hn hd' hden'
 |cond c x y ihx ihy=>
  intro Xp c1 rm st k t ρ β a W H K nx Q h m hd hden hX hQ
  have hrun:c8Z P G Xp c1 rm (.cond c x y) fun st k=>match(st.val c).map (b0T st.kb)with
    |some (.k (.bool true))=>ex P C x st k
    |some (.k (.bool false))=>ex P C y st k
    |some s=>match amO st.am c with
     |some true=>a3b P [.isb true s] st fun st=>ex P C x (st.know P s true) k
     |some false=>a3b P [.isb false s] st fun st=>ex P C y (st.know P s false) k
     |none=>a3b P [.bool s] st fun st=>
      match ex P C x (st.know P s true) k,ex P C y (st.know P s false) k with
      |some t1,some t2=>some (.br s t1 t2)
      |_,_=>none
    |none=>none:=by
   intro st k t ρ β a W H K nx Q h m hd hden hX hQ
   simp only at h
   cases hv:st.val c with
   |none=>simp[hv]at h
   |some s=>
    simp only[hv,Option.map_some]at h
    have he:=m.val hv
    have hD:=a4J (P:=P) (ρ:=ρ) m.kb s
    split at h
    ·rename_i hl
     simp only[Option.some.injEq]at hl
     rw[hl]at hD
     exact wpIn_cond_true (by rw[he,<-hD];rfl) (ihx Xp c1 rm st k t ρ β a W H K nx Q h m hd hden hX hQ)
    ·rename_i hl
     simp only[Option.some.injEq]at hl
     rw[hl]at hD
     exact wpIn_cond_false (by rw[he,<-hD];rfl) (ihy Xp c1 rm st k t ρ β a W H K nx Q h m hd hden hX hQ)
    ·rename_i c' _ _ hl
     simp only[Option.some.injEq]at hl
     rw[hl]at hD
     split at h
     ·obtain⟨st',t',h1,h2,h3,h4,h5⟩:=a1F h m.kn hden
      have hb:D P ρ c'= .bool true:=h3 (.isb true c') (by simp)
      exact wpIn_cond_true (by rw[he,<-hD];exact hb) (ihx Xp c1 rm _ k t' ρ β a W H K nx Q h4 ((m.more h1 h2).know hb) (by simp only[St.know];rw[h1.d];exact hd) h5 hX hQ)
     ·obtain⟨st',t',h1,h2,h3,h4,h5⟩:=a1F h m.kn hden
      have hb:D P ρ c'= .bool false:=h3 (.isb false c') (by simp)
      exact wpIn_cond_false (by rw[he,<-hD];exact hb) (ihy Xp c1 rm _ k t' ρ β a W H K nx Q h4 ((m.more h1 h2).know hb) (by simp only[St.know];rw[h1.d];exact hd) h5 hX hQ)
     obtain⟨st',t',h1,h2,h3,h4,h5⟩:=a1F h m.kn hden
     obtain⟨b,hb⟩:∃b,D P ρ c'= .bool b:=h3 (.bool c') (by simp)
     have m':=m.more h1 h2
     split at h4
     ·rename_i t1 t2 e1 e2
      simp only[Option.some.injEq]at h4;subst h4
      cases b with
      |true=>exact wpIn_cond_true (by rw[he,<-hD];exact hb) (ihx Xp c1 rm _ k t1 ρ β a W H K nx Q e1 (m'.know hb) (by simp only[St.know];rw[h1.d];exact hd) (h5.1 hb) hX hQ)
      |false=>exact wpIn_cond_false (by rw[he,<-hD];exact hb) (ihy Xp c1 rm _ k t2 ρ β a W H K nx Q e2 (m'.know hb) (by simp only[St.know];rw[h1.d];exact hd) (h5.2 hb) hX hQ)
     ·cases h4
    ·rename_i hl;cases hl
  simp only[ex]at h
  split at h
  ·exact a9I hrun _ _ st k t ρ β a W H K nx Q h m hd hden hX hQ
  ·exact hrun st k t ρ β a W H K nx Q h m hd hden hX hQ
 |block id x ih=>
  intro Xp c1 rm st k t ρ β a W H K nx Q h m hd hden hX hQ
  have hrun:c8Z P G Xp c1 rm (.block id x) fun st k=>ex P C x st fun e st=>match e with
    | .exit j=>if j=id then k .normal st else k (.exit j) st
    |e=>k e st:=by
   intro st k t ρ β a W H K nx Q h m hd hden hX hQ
   simp only at h
   refine wpIn_block (ih Xp c1 rm st _ t ρ β a W H K nx _ h m hd hden (hX.of fun _ _ _ h=>h) fun e st' t' ρ' β' a' W' H' K' nx' h' m' hp hn hd' hden'=> ?_)
   cases e with
   |exit j=>
    simp only[Exit.inBlock]
    simp only at h'
    split at h'
    ·rename_i e;rw[if_pos e];exact hQ _ _ _ _ _ _ _ _ _ _ h' m' hp hn hd' hden'
    ·rename_i e;rw[if_neg e];exact hQ _ _ _ _ _ _ _ _ _ _ h' m' hp hn hd' hden'
   |normal=>exact hQ _ _ _ _ _ _ _ _ _ _ h' m' hp hn hd' hden'
   |goto l=>exact hQ _ _ _ _ _ _ _ _ _ _ h' m' hp hn hd' hden'
   |ret=>exact hQ _ _ _ _ _ _ _ _ _ _ h' m' hp hn hd' hden'
   |panic ch=>exact hQ _ _ _ _ _ _ _ _ _ _ h' m' hp hn hd' hden'
   |outgrown=>exact hQ _ _ _ _ _ _ _ _ _ _ h' m' hp hn hd' hden'
  simp only[ex]at h
  split at h
  ·exact a9I hrun _ _ st k t ρ β a W H K nx Q h m hd hden hX hQ
  ·exact hrun st k t ρ β a W H K nx Q h m hd hden hX hQ
 |loop b ih=>
  intro Xp c1 rm st k t ρ β a W H K nx Q h m hd hden hX hQ
  simp only[ex]at h
  split at h
  ·rename_i iv ib hiv hib
   split at h
   ·rename_i hc
    rw[Bool.and_eq_true]at hc
    obtain⟨hsc,hbs⟩:=hc
    have hbs:=a3Q hbs
    rw[Option.map_eq_some_iff]at h
    obtain⟨tb,h,rfl⟩:=h
    obtain⟨I,μ,hI0,hI⟩:=hden
    obtain⟨hl1,hl2⟩:=a4k hiv
    obtain⟨hb1,hb2⟩:=a5K hib
    have hnd:(a7a st.sl (b0L b)).Nodup:=(b3d _).filter _
    have hcov:∀u,u∈b0L b->u<st.sl.length->u∈a7a st.sl (b0L b)\/u∈b7y st.sl (b0L b):=fun u hu hlt=>by
     cases hlv:c8S st.sl[u]with
     |true=>exact .inl (List.mem_filter.2 ⟨hu,by simp[hlt,hlv]⟩)
     |false=>exact .inr (List.mem_filter.2 ⟨hu,by simp[hlt,hlv]⟩)
    have gl:∀(l:List SV) (ρ':List Value) (j:Nat) (s:SV),l[j]? =some s->(l.map (D P ρ')).getD j undef=D P ρ' s:=fun l ρ' j s hj=>by
     simp[List.getD_eq_getElem?_getD,hj]
    refine a7m (fun n a' W'=>∃vals β' H' K',vals.length=(iv++ib).length/\I vals H'/\μ vals H'=n/\Mt P ⟨c1,H',K'⟩ (ρ++vals) β' (a2H st (a7a st.sl (b0L b)) (b7y st.sl (b0L b)) (c8T st b) 1) a' W') (μ _ H) ⟨(iv++ib).map (D P ρ),β,H,K,by simp,hI0,rfl,?_⟩ ?_
    ·refine a9G hsc m.n m.kn m.kb (by rw[List.length_map,List.length_append,hl1,hb1]) m.sz m.pb hnd hbs (fun u s _ _ hs=>m.sl u s hs) (fun k' u hk'=> ?_) (fun i B hB=> ?_) m.bk
     ·obtain⟨s,hs,hk2⟩:=hl2 k' u hk'
      obtain⟨v,hv,hmv⟩:=m.sl u _ hs
      rw[hv]
      congr 1
      rw[gl _ ρ k' s]
      ·exact hmv
      ·rw[List.getElem?_append_left (List.getElem?_eq_some_iff.1 hk2).1];exact hk2
     ·cases hp:a1Z i (c8T st b) 0 with
      |some k'=>
       obtain⟨k'',rfl,hk'⟩:=a3d hp
       obtain⟨B2,hB2,hq⟩:=hb2 k'' i hk'
       obtain rfl:B2=B:=Option.some.inj (hB2.symm.trans hB)
       have e:((iv++ib).map (D P ρ)).getD ((a7a st.sl (b0L b)).length+(0+k'')) undef=D P ρ B2.c:=gl _ _ _ _ (by
        rw[List.getElem?_append_right (by omega),hl1,Nat.zero_add,Nat.add_sub_cancel_left];exact hq)
       simp only[e];exact m.bl i B2 hB
      |none=>simp only;exact m.bl i B hB
    ·rintro n a1 W1 ⟨vals,β1,H2,K2,hvl,hIv,hμ,m1⟩
     refine ih Xp c1 rm _ _ tb (ρ++vals) β1 a1 W1 H2 K2 (nx++[fun l w=>I l w/\μ l w<μ vals H2]) _ h m1 (by simp[a2H,hd]) (hI vals H2 hvl hIv) (hX.of fun _ _ _ h=>h) ?_
     intro e st2 t2 ρ2 β2 a2 W2 H3 K3 nx2 h2 m2 hp2 hn2 hd2 hden2
     have hpρ:ρ<+:ρ2:=(List.prefix_append _ _).trans hp2
     have hpn:nx<+:nx2:=(List.prefix_append _ _).trans hn2
     cases e with
     |normal=>
      simp only at h2
      split at h2
      ·rename_i nv nb hnv hnb
       split at h2
       ·rename_i hsame
        rw[Bool.and_eq_true]at hsame
        simp only[Option.some.injEq]at h2;subst h2
        have hh:=hden2
        have e1:nx2.getD st.d (fun _ _=>False)=fun l w=>I l w/\μ l w<μ vals H2:=by
         rw[a4L hn2 (by simp[hd])]
         simp[List.getD_eq_getElem?_getD,<-hd]
        simp only[den]at hh
        rw[e1]at hh
        obtain⟨hIn,hlt⟩:=hh
        obtain⟨r,rfl⟩:=hpρ
        refine⟨μ _ H3,by rw[<-hμ];exact hlt,(nv++nb).map (D P (ρ++r)),β2,H3,K3,?_,hIn,rfl,?_⟩
        ·rw[List.length_map,List.length_append,List.length_append,(a4k hnv).1,(a5K hnb).1,hl1,hb1]
        ·exact b7Q hsc m m2 hnd hbs hcov hnv hnb hsame.1 hsame.2
       ·simp only[Option.some.injEq]at h2;subst h2;exact hden2.elim
      ·simp only[Option.some.injEq]at h2;subst h2;exact hden2.elim
     |exit id=>exact hQ _ _ _ _ _ _ _ _ _ _ h2 m2 hpρ hpn hd2 hden2
     |goto l=>exact hQ _ _ _ _ _ _ _ _ _ _ h2 m2 hpρ hpn hd2 hden2
     |ret=>exact hQ _ _ _ _ _ _ _ _ _ _ h2 m2 hpρ hpn hd2 hden2
     |panic ch=>exact hQ _ _ _ _ _ _ _ _ _ _ h2 m2 hpρ hpn hd2 hden2
     |outgrown=>exact hQ _ _ _ _ _ _ _ _ _ _ h2 m2 hpρ hpn hd2 hden2
   ·cases h
  ·cases h
 |rangeFunc g ps asg body ihA ihB=>
  intro Xp c1 rm st k t ρ β a W H K nx Q h m hd hden hX hQ
  exact c3Y (ihA noP) (ihB noP) h m hd hden hQ
 |scope x ih=>
  intro Xp c1 rm st k t ρ β a W H K nx Q h m hd hden hX hQ
  simp only[ex]at h
  refine a4M (ih Xp c1 rm st _ t ρ β a W H K nx _ h m hd hden (hX.of fun _ _ _ h=>h) fun e st' t' ρ' β' a' W' H' K' nx' h' m' hp hn hd' hden'=> ?_)
  cases e with
  |goto l=>simp only[Option.some.injEq]at h';subst h';exact hden'.elim
  |exit id=>exact hQ _ _ _ _ _ _ _ _ _ _ h' m' hp hn hd' hden'
  |normal=>exact hQ _ _ _ _ _ _ _ _ _ _ h' m' hp hn hd' hden'
  |ret=>exact hQ _ _ _ _ _ _ _ _ _ _ h' m' hp hn hd' hden'
  |panic ch=>exact hQ _ _ _ _ _ _ _ _ _ _ h' m' hp hn hd' hden'
  |outgrown=>exact hQ _ _ _ _ _ _ _ _ _ _ h' m' hp hn hd' hden'
 |label l=>intro Xp c1 rm st k t ρ β a W H K nx Q h m hd hden hX hQ;exact wpIn_label (hQ _ _ _ _ _ _ _ _ _ _ h m (List.prefix_refl _) (List.prefix_refl _) hd hden)
 |goto l=>intro Xp c1 rm st k t ρ β a W H K nx Q h m hd hden;simp only[ex,Option.some.injEq]at h;subst h;exact fun _ _=>hden.elim
 |refuse s=>intro Xp c1 rm st k t ρ β a W H K nx Q h m hd hden;simp only[ex,Option.some.injEq]at h;subst h;exact fun _ _=>hden.elim
def c3n (tmps:Array Value):ResultVar->Sem Value
 | .tmp t=>pure (tmps.getD t undef)
 | .cell a t=>do loadVar t (<-asAddr (tmps.getD a undef))
theorem a7p {T:TypeId} {t:Tmp} {v:Value} {W':World} (hrun:(execOp a.eval (ldO T t)).run P W'= .ok (.value v) W'):(c3n a.tmps (.cell t T)).run P W'= .ok v W':=by
 simp only[execOp,ldO,Sem.run_bind]at hrun
 unfold c3n
 show(asAddr (a.eval (.tmp t))>>=loadVar T).run P W'=_
 unfold Instr.loadAt at hrun
 generalize a.eval (.tmp t)=x at hrun
 cases x with
 |pointer p=>
  cases p with
  |none=>simp[Instr.sureAddr]at hrun
  |some ad=>
   simp only[Instr.sureAddr,Sem.run_bind,Sem.run_pure,Result.andThen_ok]at hrun
   simp only[asAddr,Sem.run_bind,Sem.run_pure,Result.andThen_ok]
   cases hl:(loadVar T ad).run P W' with
   |ok x w=>rw[hl]at hrun;simp at hrun;obtain⟨rfl,rfl⟩:=hrun;rfl
   |halt x w=>rw[hl]at hrun;simp[Result.andThen]at hrun
 |_=>simp[Instr.sureAddr]at hrun
theorem b5U {c1:Bs} {H K:PH} {nx:List (List Value->PH->Prop)}:∀{rs:List ResultVar} {st:St} {ρ:List Value} {l:List SV} {t:Tree},Mt P ⟨c1,H,K⟩ ρ β st a W->c3M P st rs l=some t->den P G Xp t nx ρ H->∃vs,(rs.mapM (c3n a.tmps)).run P W= .ok vs W/\G (a4w (l.map (D P ρ)++vs)) H:=by
 intro rs
 induction rs with
 |nil=>
  intro st ρ l t m h hd
  simp only[c3M,Option.some.injEq]at h;subst h
  exact⟨[],rfl,by rw[List.append_nil];exact hd⟩
 |cons r rs ih=>
  intro st ρ l t m h hd
  cases r with
  |tmp u=>
   simp only[c3M]at h
   split at h
   ·rename_i s hs
    obtain⟨vs,h1,h2⟩:=ih m h hd
    obtain⟨v,hv,hm⟩:=m.sl u _ hs
    have e:a.tmps.getD u undef=D P ρ s:=by
     rw[Array.getD_eq_getD_getElem?,hv];exact hm
    refine⟨D P ρ s::vs,?_,?_⟩
    ·simp only[List.mapM_cons,Sem.run_bind,c3n,Sem.run_pure,Result.andThen_ok,h1,e]
    ·rw[List.map_append,List.append_assoc]at h2;exact h2
   ·cases h
  |cell u T=>
   simp only[c3M]at h
   split at h
   ·rename_i s hs
    obtain⟨vs,h1,h2⟩:=ih m h hd
    have hsnd:=a9C m (o:=ldO T u) (T:=T) (x:= .tmp u) rfl
    rw[hs]at hsnd
    obtain⟨_,_,v,hv,hrun⟩:=hsnd (by simp)
    have hv:v=D P ρ s:=hv
    have e:=a7p (hrun W (.inr (.inl (Ext.refl _))))
    rw[hv]at e
    refine⟨D P ρ s::vs,?_,?_⟩
    ·simp only[List.mapM_cons,Sem.run_bind,e,Result.andThen_ok,h1,Sem.run_pure]
    ·rw[List.map_append,List.append_assoc]at h2;exact h2
   ·rename_i x hs
    split at h
    ·rename_i hsc
     simp only[Bool.and_eq_true]at hsc
     rw[Option.map_eq_some_iff]at h
     obtain⟨t2,h2,rfl⟩:=h
     obtain⟨v,hv,hd2⟩:=hd
     have hsnd:=a9C m (o:=ldO T u) (T:=T) (x:= .tmp u) rfl
     rw[hs]at hsnd
     obtain⟨_,hrun⟩:=hsnd (by simp)
     have hv:=hv W m.fr.holds
     rw[<-hrun]at hv
     have e:=a7p hv
     obtain⟨vs,h3,h4⟩:=ih (m.bind hsc.1.1 v none) h2 hd2
     refine⟨v::vs,?_,?_⟩
     ·simp only[List.mapM_cons,Sem.run_bind,e,Result.andThen_ok,h3,Sem.run_pure]
     ·have hl:l.map (D P (ρ++[v]))=l.map (D P ρ):=List.map_congr_left fun y hy=>a1n P ρ [v] y (by rw[m.n];exact List.all_eq_true.1 hsc.2 y hy)
      rw[List.map_append,List.append_assoc,hl]at h4
      have hvn:D P (ρ++[v]) (.v st.n)=v:=by
       show(ρ++[v]).getD st.n undef=v
       rw[<-m.n];simp
      rw[List.map_cons,List.map_nil,hvn]at h4
      exact h4
    ·cases h
   ·cases h
theorem a4P {fn:Func} {tmps:Array Value} {l:List Value} {w:World} (h:(fn.results.toList.mapM (c3n tmps)).run P w= .ok l w):(results fn tmps).run P w= .ok (a4w l) w:=by
 unfold results
 have e:(fn.results.mapM (c3n tmps)).run P w= .ok l.toArray w:=by
  rw[Array.mapM_eq_mapM_toList]
  have:(List.toArray<$>fn.results.toList.mapM (c3n tmps):Sem (Array Value))=(fn.results.toList.mapM (c3n tmps)>>=fun x=>pure x.toArray):=rfl
  rw[this,Sem.run_bind,h]
  rfl
 show((fn.results.mapM (c3n tmps))>>=fun vs=>pure (if h:vs.size=1 then vs[0]else .tuple vs)).run P w=_
 rw[Sem.run_bind,e]
 simp only[Result.andThen_ok,Sem.run_pure]
 congr 1
 match l with
 |[]=>rfl
 |[x]=>rfl
 |x::y::r=>simp[a4w]
theorem a7q (hm:P.follows .mixedOrders=true) {f:FuncId} {E:List Nat} {A:List (Nat×Bool)} {J:List Jn} {C:List b0K} {t:Tree} (ht:a0w P E A J C f=some t) (args:List Value) {np:Nat} (hnp:(P.funcs[f]?).map (fun fn=>fn.params.size+fn.nfree)=some np) (hargs:args.length=np) {H:PH} (hden:den P G Xp t [] args H) (W:World) (hin:H.In W):
  Calls P f args.toArray W fun e w'=>(∃v H',e= .returned v/\Step H W H' w'/\G v H')\/(∃x H',e=pnE x/\Step H W H' w'/\Xp x H'):=by
 unfold a0w at ht
 split at ht
 ·rename_i fn hf
  split at ht
  ·rename_i c hc
   rw[hf]at hnp
   simp only[Option.map_some,Option.some.injEq]at hnp
   rw[hnp]at ht
   refine(callsIn_wide (n:=0)).1 (callsIn_of_wp_marks hf hc trivial ?_)
   refine c3Z (G:=G) hm c Xp ⟨W,H,none,0,fun _=>0,fun _=>none⟩ 0 _ _ t args (fun _=>0) _ W H (fun _=>none) [] _ ht ?_ rfl hden ?_ ?_
   ·refine{sz:=by simp[hargs],sl:= ?_,pb:= ?_,df:=⟨[],rfl,List.nodup_nil,by simp⟩,n:=hargs,bl:=fun b B h=>by simp at h,inj:=fun b b' h=>by simp at h,own:=fun b h=>by simp at h,sep:=fun b h=>by simp at h,fr:=Step.refl hin,kp:=(fun b o h=>by cases h),rd:=fun _=>rfl,kle:=(fun _ _ h=>by cases h),ag:=(fun b h=>by simp at h),ln:=Nat.zero_le _,kpH:=fun k h=>absurd rfl h,kpB:=fun b h=>by simp at h,kn:=by simp,kb:=by simp}
    ·intro u s hs
     simp only at hs
     by_cases hu:u<np
     ·rw[List.getElem?_append_left (by simpa using hu)]at hs
      simp[hu]at hs
      subst hs
      refine⟨args[u]'(by omega),?_,?_⟩
      ·rw[Array.getElem?_append_left (by simpa[hargs]using hu)]
       simp[hargs,hu]
      ·show _=args.getD u undef
       simp[List.getD_eq_getElem?_getD,hargs,hu]
     ·rw[List.getElem?_append_right (by simpa using hu)]at hs
      have hs1:=(List.getElem?_eq_some_iff.1 hs).1
      rw[List.getElem?_replicate]at hs
      split at hs
      ·rename_i hlt
       simp only[Option.some.injEq]at hs;subst hs
       refine⟨undef,?_,rfl⟩
       rw[Array.getElem?_append_right (by simp[hargs];omega),Array.getElem?_replicate,if_pos]
       simp[hargs]at hlt⊢;omega
      ·cases hs
    ·intro u b o s i hs
     simp only at hs
     have:=List.mem_of_getElem? hs
     simp at this
   ·intro x ρ' β' st' a' a'' W' H' K' m' hdf hx
    obtain⟨Ds,d1,d2,d3⟩:=m'.df
    show LeavesInM _ _ _ _ _ _ a''.defers _ W'
    rw[hdf]
    exact b7S (fun _=>rfl) (fun K'' a1 W1 m1=> .inr ⟨x,H',rfl,m1.fr,hx⟩) Ds _ a' W' a''.tmps m' d1 d2 d3
   ·intro e st' t' ρ' β' a' W' H' K' nx' h' m' hp hn hd' hden'
    have fin:c3M P st' fn.results.toList []=some t'->LeavesInM Fence.wide 0 P fn a'.tmps (fun e w'=>(∃v H',e= .returned v/\Step H W H' w'/\G v H')\/(∃x H',e=pnE x/\Step H W H' w'/\Xp x H')) a'.defers .returning W':=fun h'=>by
     obtain⟨Ds,d1,d2,d3⟩:=m'.df
     refine b7R (fun _=>rfl) (fun K'' a'' W'' m'' e''=> ?_) Ds _ a' W' m' rfl d1 d2 d3
     obtain⟨vs,h1,h2⟩:=b5U m'' h' hden'
     exact⟨_,by rw[<-e''];exact a4P h1,.inl ⟨_,_,rfl,m''.fr,h2⟩⟩
    cases e with
    |normal=>exact fin h'
    |ret=>exact fin h'
    |exit id=>cases h'
    |goto l=>cases h'
    |panic ch=>cases h'
    |outgrown=>cases h'
  ·cases ht
 ·cases ht
theorem a8P (hm:P.follows .mixedOrders=true) {f:FuncId} {E:List Nat} {A:List (Nat×Bool)} {J:List Jn} {C:List b0K} {t:Tree} (ht:a0w P E A J C f=some t) (args:List Value) {np:Nat} (hnp:(P.funcs[f]?).map (fun fn=>fn.params.size+fn.nfree)=some np) (hargs:args.length=np) {H:PH} (hden:den P G noP t [] args H) (W:World) (hin:H.In W):
  Calls P f args.toArray W fun e w'=>∃v H',e= .returned v/\Step H W H' w'/\G v H':=
 (a7q hm ht args hnp hargs hden W hin).mono fun _ _ h=>h.resolve_right fun⟨_,_,_,_,hx⟩=>hx
end
open Go.RowKit
def a8z (id:Nat):Code->Option (Array Oper)
 | .region j ops _=>if j=id then some ops else none
 | .seq a b=>(a8z id a).orElse fun _=>a8z id b
 | .cond _ a b=>(a8z id a).orElse fun _=>a8z id b
 | .block _ a=>a8z id a
 | .loop a=>a8z id a
 | .scope a=>a8z id a
 | .rangeFunc _ _ a c=>(a8z id a).orElse fun _=>a8z id c
 |_=>none
def opr (fn:Func) (id i:Nat):Oper:=(((fn.body.bind (a8z id)).bind (·[i]?))).getD default
def Det (P:Program) (f:FuncId) (args:List Value) (v:Value):Prop:=∀w,Calls P f args.toArray w fun e w'=>e= .returned v/\Ext w w'
def Yld (P:Program) (o:Oper) (args:List Value) (v:Value):Prop:=∀w,(execOp (a0k o.op.operands.toList args) o).run P w= .ok (.value v) w
def Own (P:Program) (f:FuncId) (args:List Value) (v:Value):Prop:=∀w,(callFunc f args.toArray).run P w= .ok (.value v) w
def Run (P:Program) (o:Oper) (args:List Value) (v:Value):Prop:=∀w,Stp P o (a0k o.op.operands.toList args) w fun v' w'=>v'=v/\Ext w w'
def Con (P:Program) (f:FuncId) (args:List Value) (H:PH) (V:Value->PH->Prop):Prop:=
 ∀w,H.In w->Calls P f args.toArray w fun e w'=>∃v H',e= .returned v/\Step H w H' w'/\V v H'
def Opn (P:Program) (o:Oper) (args:List Value) (H:PH) (V:Value->PH->Prop):Prop:=
 ∀w,H.In w->Stp P o (a0k o.op.operands.toList args) w fun v w'=>∃H',Step H w H' w'/\V v H'
def Rds (P:Program) (o:Oper) (args:List Value) (H:PH) (v:Value):Prop:=∀w,H.In w->(execOp (a0k o.op.operands.toList args) o).run P w= .ok (.value v) w
theorem Step.of_ext {H:PH} {w w':World} (h:H.In w) (hx:Ext w w'):Step H w H w':=(Step.refl h).ext hx
theorem Det.con {P:Program} {f:FuncId} {args:List Value} {v:Value} (h:Det P f args v) (H:PH):Con P f args H fun u H'=>u=v/\H'=H:=
 fun w hw=>(h w).mono fun e w' ⟨he,hx⟩=>⟨v,H,he,Step.of_ext hw hx,rfl,rfl⟩
theorem Con.mono {P:Program} {f:FuncId} {args:List Value} {H:PH} {V V':Value->PH->Prop} (h:Con P f args H V) (hv:∀v H',V v H'->V' v H'):Con P f args H V':=
 fun w hw=>(h w hw).mono fun e w' ⟨v,H',he,hs,hV⟩=>⟨v,H',he,hs,hv v H' hV⟩
theorem Opn.mono {P:Program} {o:Oper} {args:List Value} {H:PH} {V V':Value->PH->Prop} (h:Opn P o args H V) (hv:∀v H',V v H'->V' v H'):Opn P o args H V':=
 fun w hw=>(h w hw).mono fun v w' ⟨H',hs,hV⟩=>⟨H',hs,hv v H' hV⟩
theorem Yld.rds {P:Program} {o:Oper} {args:List Value} {v:Value} (h:Yld P o args v) (H:PH):Rds P o args H v:=fun w _=>h w
def c4a (P:Program) (f:FuncId) (args:List Value) (H:PH) (V X:Value->PH->Prop):Prop:=
 ∀w,H.In w->Calls P f args.toArray w fun e w'=>(∃v H',e= .returned v/\Step H w H' w'/\V v H')\/(∃x H',e=pnE x/\Step H w H' w'/\X x H')
def d7L (P:Program) (o:Oper) (args:List Value) (H:PH) (V X:Value->PH->Prop):Prop:=
 ∀w,H.In w->StpX P (fun x w'=>∃H',Step H w H' w'/\X x H') o (a0k o.op.operands.toList args) w fun v w'=>∃H',Step H w H' w'/\V v H'
theorem Con.toX {P:Program} {f:FuncId} {args:List Value} {H:PH} {V X:Value->PH->Prop} (h:Con P f args H V):c4a P f args H V X:=fun w hw=>(h w hw).mono fun _ _ hh=> .inl hh
theorem a0b {P:Program} {f:FuncId} {E:List Nat} {A:List (Nat×Bool)} {J:List Jn} {C:List b0K} {t:Tree} {args:List Value} {np:Nat} {H:PH} {V:Value->PH->Prop} (hm:P.follows .mixedOrders=true) (ht:a0w P E A J C f=some t) (hnp:(P.funcs[f]?).map (fun fn=>fn.params.size+fn.nfree)=some np) (hargs:args.length=np)
  (h:den P V noP t [] args H):Con P f args H V:=fun w hw=>a8P hm ht args hnp hargs h w hw
theorem a2b {P:Program} {f:FuncId} {E:List Nat} {A:List (Nat×Bool)} {J:List Jn} {C:List b0K} {t:Tree} {args:List Value} {np:Nat} {H:PH} {V X:Value->PH->Prop} (hm:P.follows .mixedOrders=true) (ht:a0w P E A J C f=some t) (hnp:(P.funcs[f]?).map (fun fn=>fn.params.size+fn.nfree)=some np) (hargs:args.length=np)
  (h:den P V X t [] args H):c4a P f args H V X:=fun w hw=>a7q hm ht args hnp hargs h w hw
def pd (P:Program) (R:Value->Prop):Tree->List (List Value->Prop)->List Value->Prop
 | .ret l,_,ρ=>R (a4w (l.map (D P ρ)))
 | .rq r t,nx,ρ=>r.holds P ρ/\pd P R t nx ρ
 | .br c t e,nx,ρ=>(D P ρ c= .bool true->pd P R t nx ρ)/\(D P ρ c= .bool false->pd P R e nx ρ)
 | .call _ f args t,nx,ρ=>∃v,Det P f (args.map (D P ρ)) v/\pd P R t nx (ρ++[v])
 | .prim _ _ o args t,nx,ρ=>∃v,Yld P o (args.map (D P ρ)) v/\pd P R t nx (ρ++[v])
 | .eff _ _ _ o args t,nx,ρ=>∃v,Run P o (args.map (D P ρ)) v/\pd P R t nx (ρ++[v])
 | .ext f args t,nx,ρ=>∃v,Own P f (args.map (D P ρ)) v/\pd P R t nx (ρ++[v])
 | .pub _ _ _,_,_=>False
 | .dead _,_,_=>False
 | .both _ _,_,_=>False
 | .rf _ _ _ _ _ _,_,_=>False
 | .mk _ _ _ _ _,_,_=>False
 | .loop ini t,nx,ρ=>∃(I:List Value->Prop) (μ:List Value->Nat),I (ini.map (D P ρ))/\∀vals,vals.length=ini.length->I vals->pd P R t (nx++[fun l=>I l/\μ l<μ vals]) (ρ++vals)
 | .next d l,nx,ρ=>(nx.getD d fun _=>False) (l.map (D P ρ))
 | .join n t u,nx,ρ=>∃J:List Value->Prop,pd P R t (nx++[J]) ρ/\∀vals,vals.length=n->J vals->pd P R u nx (ρ++vals)
theorem b7W {P:Program} {R:Value->Prop} {H:PH}:∀(t:Tree) (nx:List (List Value->Prop)) (ρ:List Value),pd P R t nx ρ->den P (fun v h=>R v/\h=H) noP t (nx.map fun g l h=>g l/\h=H) ρ H:=by
 intro t
 induction t with
 |ret l=>intro nx ρ h;exact⟨h,rfl⟩
 |rq r t ih=>intro nx ρ h;exact⟨h.1,ih _ _ h.2⟩
 |br c t e ih1 ih2=>intro nx ρ h;exact⟨fun hc=>ih1 _ _ (h.1 hc),fun hc=>ih2 _ _ (h.2 hc)⟩
 |call pf f args t ih=>
  intro nx ρ h w hw
  obtain⟨v,hd,hn⟩:=h
  exact(hd w).mono fun e w' ⟨he,hx⟩=> .inl ⟨v,H,he,Step.of_ext hw hx,fun _=>PH.le.refl H,ih _ _ hn⟩
 |prim id i o args t ih=>
  intro nx ρ h
  obtain⟨v,hd,hn⟩:=h
  exact⟨v,fun w _=>hd w,ih _ _ hn⟩
 |eff pf id i o args t ih=>
  intro nx ρ h w hw
  obtain⟨v,hd,hn⟩:=h
  exact Stp.toX ((hd w).mono fun u w' ⟨he,hx⟩=>⟨H,Step.of_ext hw hx,fun _=>PH.le.refl H,by rw[he];exact ih _ _ hn⟩)
 |ext f args t ih=>
  intro nx ρ h
  obtain⟨v,hd,hn⟩:=h
  exact⟨v,fun w _=>hd w,ih _ _ hn⟩
 |pub T c t ih=>intro nx ρ h;exact h.elim
 |dead n=>intro nx ρ h;exact h.elim
 |both t u=>intro nx ρ h;exact h.elim
 |rf g np ini tb ta te=>intro nx ρ h;exact h.elim
 |mk id i o args t ih=>intro nx ρ h;exact h.elim
 |loop ini t ih=>
  intro nx ρ h
  obtain⟨I,μ,h0,h1⟩:=h
  refine⟨fun l h=>I l/\h=H,fun l _=>μ l,⟨h0,rfl⟩,?_⟩
  rintro vals H' hl ⟨hI,rfl⟩
  have:=ih _ _ (h1 vals hl hI)
  have e:(fun(l:List Value) (h:PH)=>(I l/\h=H')/\μ l<μ vals)=fun l h=>(I l/\μ l<μ vals)/\h=H':=by
   funext l h
   exact propext ⟨fun⟨⟨a,b⟩,c⟩=>⟨⟨a,c⟩,b⟩,fun⟨⟨a,c⟩,b⟩=>⟨⟨a,b⟩,c⟩⟩
  rw[e]
  simpa only[List.map_append,List.map_cons,List.map_nil]using this
 |next d l=>
  intro nx ρ h
  simp only[pd]at h
  simp only[den]
  rw[List.getD_eq_getElem?_getD,List.getElem?_map]
  rw[List.getD_eq_getElem?_getD]at h
  cases hn:nx[d]? with
  |none=>simp[hn]at h
  |some g=>simp only[hn,Option.getD_some]at h;simpa using h
 |join n t u ih1 ih2=>
  intro nx ρ h
  obtain⟨J,h1,h2⟩:=h
  refine⟨fun l h=>J l/\h=H,?_,?_⟩
  ·simpa only[List.map_append,List.map_cons,List.map_nil]using ih1 _ _ h1
  ·rintro vals H' hl ⟨hJ,rfl⟩
   exact ih2 _ _ (h2 vals hl hJ)
theorem a0H {P:Program} {f:FuncId} {E:List Nat} {A:List (Nat×Bool)} {J:List Jn} {C:List b0K} {t:Tree} {args:List Value} {v:Value} {np:Nat} (hm:P.follows .mixedOrders=true) (ht:a0w P E A J C f=some t) (hnp:(P.funcs[f]?).map (fun fn=>fn.params.size+fn.nfree)=some np) (hargs:args.length=np)
  (h:pd P (fun u=>u=v) t [] args):Det P f args v:=fun w=>by
 have:=a8P (H:=fun _=>none) hm ht args hnp hargs (b7W t [] args h) w (fun b o hb=>by cases hb)
 refine this.mono fun e w' ⟨u,H',he,hs,hu,hH⟩=>⟨by rw[he,hu],?_⟩
 exact hs.toExt (fun b o hb=>by cases hb) (fun b o hb=>by cases hb)
section
variable {P:Program} {R:Value->Prop} {nx:List (List Value->Prop)} {ρ:List Value}
theorem a0v {r:Rq} {t:Tree} (h:r.holds P ρ) (n:pd P R t nx ρ):pd P R (.rq r t) nx ρ:=⟨h,n⟩
theorem a1l {pf:Bool} {f:FuncId} {args:List SV} {t:Tree} {vs:List Value} {v:Value} (hd:Det P f vs v) (ha:args.map (D P ρ)=vs) (n:pd P R t nx (ρ++[v])):pd P R (.call pf f args t) nx ρ:=⟨v,by rw[ha];exact hd,n⟩
theorem b7X {id i:Nat} {o:Oper} {args:List SV} {t:Tree} {vs:List Value} {v:Value} (hd:Yld P o vs v) (ha:args.map (D P ρ)=vs) (n:pd P R t nx (ρ++[v])):pd P R (.prim id i o args t) nx ρ:=⟨v,by rw[ha];exact hd,n⟩
theorem c7A {f:FuncId} {args:List SV} {t:Tree} {vs:List Value} {v:Value} (hd:Own P f vs v) (ha:args.map (D P ρ)=vs) (n:pd P R t nx (ρ++[v])):pd P R (.ext f args t) nx ρ:=⟨v,by rw[ha];exact hd,n⟩
theorem a1I {c:SV} {t e:Tree} {b:Bool} (hc:D P ρ c= .bool b) (h1:b=true->pd P R t nx ρ) (h2:b=false->pd P R e nx ρ):pd P R (.br c t e) nx ρ:=
 ⟨fun h=>h1 (by rw[hc]at h;cases h;rfl),fun h=>h2 (by rw[hc]at h;cases h;rfl)⟩
theorem c9b {c:SV} {t e:Tree} (hc:D P ρ c= .bool true) (h1:pd P R t nx ρ):pd P R (.br c t e) nx ρ:=a1I hc (fun _=>h1) (fun h=>by cases h)
theorem a9L {c:SV} {t e:Tree} (hc:D P ρ c= .bool false) (h1:pd P R e nx ρ):pd P R (.br c t e) nx ρ:=a1I hc (fun h=>by cases h) (fun _=>h1)
theorem a0Z {l:List SV} {v:Value} (h:a4w (l.map (D P ρ))=v) (hR:R v):pd P R (.ret l) nx ρ:=by rw[<-h]at hR;exact hR
end
section
variable {P:Program} {G X:Value->PH->Prop} {nx:List (List Value->PH->Prop)} {ρ:List Value} {H:PH}
theorem a0a {r:Rq} {t:Tree} (h:r.holds P ρ) (n:den P G X t nx ρ H):den P G X (.rq r t) nx ρ H:=⟨h,n⟩
theorem a0d {pf:Bool} {f:FuncId} {args:List SV} {t:Tree} {vs:List Value} {V:Value->PH->Prop} (hd:Con P f vs H V) (ha:args.map (D P ρ)=vs) (n:∀v H',V v H'->(pf=true->PH.le H H')/\den P G X t nx (ρ++[v]) H'):den P G X (.call pf f args t) nx ρ H:=fun w hw=>by
 rw[ha];exact(hd w hw).mono fun e w' ⟨v,H',he,hs,hV⟩=> .inl ⟨v,H',he,hs,(n v H' hV).1,(n v H' hV).2⟩
theorem a5g {f:FuncId} {args:List SV} {t:Tree} {vs:List Value} {V X':Value->PH->Prop} (hd:c4a P f vs H V X') (ha:args.map (D P ρ)=vs) (n:∀v H',V v H'->den P G X t nx (ρ++[v]) H') (m:∀x H',X' x H'->X x H'):den P G X (.call false f args t) nx ρ H:=fun w hw=>by
 rw[ha];exact(hd w hw).mono fun e w' hh=>hh.imp (fun⟨v,H',he,hs,hV⟩=>⟨v,H',he,hs,(fun e=>by cases e),n v H' hV⟩) fun⟨x,H',he,hs,hX⟩=>⟨x,he,rfl,H',hs,m x H' hX⟩
theorem a1o {pf:Bool} {f:FuncId} {args:List SV} {t:Tree} {vs:List Value} {v:Value} (hd:Det P f vs v) (ha:args.map (D P ρ)=vs) (n:den P G X t nx (ρ++[v]) H):den P G X (.call pf f args t) nx ρ H:=
 a0d (hd.con H) ha fun u H' ⟨hu,hH⟩=>by subst hu;subst hH;exact⟨fun _=>PH.le.refl _,n⟩
theorem a0n {pf:Bool} {id i:Nat} {o:Oper} {args:List SV} {t:Tree} {vs:List Value} {V:Value->PH->Prop} (hd:Opn P o vs H V) (ha:args.map (D P ρ)=vs) (n:∀v H',V v H'->(pf=true->PH.le H H')/\den P G X t nx (ρ++[v]) H'):den P G X (.eff pf id i o args t) nx ρ H:=fun w hw=>by
 rw[ha];exact Stp.toX ((hd w hw).mono fun v w' ⟨H',hs,hV⟩=>⟨H',hs,(n v H' hV).1,(n v H' hV).2⟩)
theorem c4b {id i:Nat} {o:Oper} {args:List SV} {t:Tree} {vs:List Value} {V X':Value->PH->Prop} (hd:d7L P o vs H V X') (ha:args.map (D P ρ)=vs) (n:∀v H',V v H'->den P G X t nx (ρ++[v]) H') (m:∀x H',X' x H'->X x H'):den P G X (.eff false id i o args t) nx ρ H:=fun w hw=>by
 rw[ha];exact(hd w hw).mono2 (fun v w' ⟨H',hs,hV⟩=>⟨H',hs,(fun e=>by cases e),n v H' hV⟩) fun x w' ⟨H',hs,hX⟩=>⟨rfl,H',hs,m x H' hX⟩
theorem a0l {id i:Nat} {o:Oper} {args:List SV} {t:Tree} {vs:List Value} {v:Value} (hd:Rds P o vs H v) (ha:args.map (D P ρ)=vs) (n:den P G X t nx (ρ++[v]) H):den P G X (.prim id i o args t) nx ρ H:=⟨v,by rw[ha];exact hd,n⟩
theorem a9M {f:FuncId} {args:List SV} {t:Tree} {vs:List Value} {v:Value} (hd:Own P f vs v) (ha:args.map (D P ρ)=vs) (n:den P G X t nx (ρ++[v]) H):den P G X (.ext f args t) nx ρ H:=⟨v,by rw[ha];exact fun w _=>hd w,n⟩
theorem a0f {c:SV} {t e:Tree} {b:Bool} (hc:D P ρ c= .bool b) (h1:b=true->den P G X t nx ρ H) (h2:b=false->den P G X e nx ρ H):den P G X (.br c t e) nx ρ H:=
 ⟨fun h=>h1 (by rw[hc]at h;cases h;rfl),fun h=>h2 (by rw[hc]at h;cases h;rfl)⟩
theorem a0K {c:SV} {t e:Tree} (hc:D P ρ c= .bool true) (h1:den P G X t nx ρ H):den P G X (.br c t e) nx ρ H:=a0f hc (fun _=>h1) (fun h=>by cases h)
theorem a0e {c:SV} {t e:Tree} (hc:D P ρ c= .bool false) (h1:den P G X e nx ρ H):den P G X (.br c t e) nx ρ H:=a0f hc (fun h=>by cases h) (fun _=>h1)
theorem a0c {l:List SV} {v:Value} (h:a4w (l.map (D P ρ))=v) (hR:G v H):den P G X (.ret l) nx ρ H:=by rw[<-h]at hR;exact hR
end
theorem a1e (cs:Array Value):(Value.agg cs).cells=cs:=rfl
theorem b1h (k:IntKind) (n:Int):(Value.int k n).cells= #[.int k n]:=rfl
theorem a5L (b:Bool):(Value.bool b).cells= #[.bool b]:=rfl
@[reducible] def Tree.pm (f:Func) (i j:Nat) (l:List SV) (t:Tree):Tree:= .prim i j (opr f i j) l t
@[reducible] def Tree.ef (b:Bool) (f:Func) (i j:Nat) (l:List SV) (t:Tree):Tree:= .eff b i j (opr f i j) l t
@[reducible] def Tree.mq (f:Func) (i j:Nat) (l:List SV) (t:Tree):Tree:= .mk i j (opr f i j) l t
@[reducible] def SV.ki (n:Int):SV:= .k (.int .i64 n)
@[reducible] def Tree.ri (x:SV) (t:Tree):Tree:= .rq (.int .i64 x) t
@[reducible] def Tree.ru (x:SV) (t:Tree):Tree:= .rq (.int .u64 x) t
@[reducible] def SV.io (o:BinOp) (x y:SV):SV:= .op2 o .i64 x y
@[reducible] def SV.uo (o:BinOp) (x y:SV):SV:= .op2 o .u64 x y
@[reducible] def npf (P:Program) (f:FuncId):Option Nat:=(P.funcs[f]?).map (fun fn=>fn.params.size+fn.nfree)
@[reducible] def V0:SV:= .v 0
@[reducible] def V1:SV:= .v 1
@[reducible] def V2:SV:= .v 2
@[reducible] def V3:SV:= .v 3
@[reducible] def V4:SV:= .v 4
@[reducible] def V5:SV:= .v 5
@[reducible] def V6:SV:= .v 6
@[reducible] def V7:SV:= .v 7
@[reducible] def V8:SV:= .v 8
@[reducible] def V9:SV:= .v 9
@[reducible] def V10:SV:= .v 10
@[reducible] def V11:SV:= .v 11
@[reducible] def V12:SV:= .v 12
@[reducible] def V13:SV:= .v 13
@[reducible] def V14:SV:= .v 14
@[reducible] def V15:SV:= .v 15
@[reducible] def V16:SV:= .v 16
@[reducible] def V17:SV:= .v 17
@[reducible] def V18:SV:= .v 18
@[reducible] def V19:SV:= .v 19
@[reducible] def V20:SV:= .v 20
@[reducible] def V21:SV:= .v 21
@[reducible] def V22:SV:= .v 22
@[reducible] def V23:SV:= .v 23
@[reducible] def V24:SV:= .v 24
@[reducible] def V25:SV:= .v 25
@[reducible] def V26:SV:= .v 26
@[reducible] def V27:SV:= .v 27
@[reducible] def V28:SV:= .v 28
@[reducible] def V29:SV:= .v 29
@[reducible] def V30:SV:= .v 30
@[reducible] def V31:SV:= .v 31
@[reducible] def V32:SV:= .v 32
theorem cA {α:Type} {a:α} {l m:List α}:a::l++m=a::(l++m):=rfl
theorem nA {α:Type} {l:List α}:[]++l=l:=rfl
end Go.RX

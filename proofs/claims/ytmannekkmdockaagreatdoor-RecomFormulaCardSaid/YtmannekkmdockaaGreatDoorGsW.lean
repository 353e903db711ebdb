/- Laplacians of graphs: an edge's two ways, no negative corner, a corner that is 0, bounds. -/
import Derived.Test.YtmannekkmdockaaGreatDoorGsT
import Derived.Test.YtmannekkmdockaaGreatDoorGdA
namespace Go.GS
def a0U (V:List Nat) (q:Nat):List Nat:=V.filter (fun x=>x !=q)
theorem b5r {V:List Nat} {q:Nat} (h:q∉V):a0U V q=V:=List.filter_eq_self.2 fun x hx=>by simp;exact fun hh=>h (hh ▸ hx)
theorem c0F (l m:List Nat) (q:Nat):a0U (l++m) q=a0U l q++a0U m q:=List.filter_append ..
theorem c9C (l:List Nat) (q:Nat):a0U (q::l) q=a0U l q:=by unfold a0U;simp
theorem d3g (V:List Nat) (q:Nat):a0U V.reverse q=(a0U V q).reverse:=by unfold a0U;rw[List.filter_reverse]
theorem c0G {V:List Nat} {q:Nat} (h:V.Nodup):(a0U V q).Nodup:=h.filter _
section
variable {e:Nat×Nat} {E:List (Nat×Nat)} {lab:Nat->Nat} {V l:List Nat} {p q:Nat}
theorem a8V (h:Ends lab e p q) (hq:q∈V) (hn:V.Nodup):Dg (e::E) lab V=Dg E lab V+Dg E (mg lab q p) (a0U V q):=by
 obtain⟨l1,l2,rfl⟩:=List.append_of_mem hq
 rw[List.nodup_append]at hn
 obtain⟨n1,n2,n3⟩:=hn
 rw[List.nodup_cons]at n2
 have hq1:q∉l1:=fun hh=>n3 q hh q (by simp) rfl
 have hw:a0U (l1++q::l2) q=l1++l2:=by rw[c0F,c9C,b5r hq1,b5r n2.1]
 rw[hw]
 by_cases hp1:p∈l1
 ·obtain⟨m1,m2,rfl⟩:=List.append_of_mem hp1
  rw[List.nodup_append,List.nodup_cons]at n1
  obtain⟨_,⟨a2,_⟩,a3⟩:=n1
  have:=d3f (E:=E) (l1:=m1) (l2:=m2) (l3:=l2) h (fun hh=>a3 p hh p (by simp) rfl) a2 (fun hh=>n3 p (by simp) p (by simp[hh]) rfl) (fun hh=>hq1 (by simp[hh])) (fun hh=>hq1 (by simp[hh])) n2.1
  simpa using this
 ·by_cases hp2:p∈l2
  ·obtain⟨m1,m2,rfl⟩:=List.append_of_mem hp2
   have n4:=n2.2
   rw[List.nodup_append,List.nodup_cons]at n4
   obtain⟨_,⟨a2,_⟩,a3⟩:=n4
   have:=c9B (E:=E) (l1:=l1) (l2:=m1) (l3:=m2) h hp1 (fun hh=>a3 p hh p (by simp) rfl) a2 hq1 (fun hh=>n2.1 (by simp[hh])) (fun hh=>n2.1 (by simp[hh]))
   simpa using this
  ·exact d3e h.sym hq1 n2.1 hp1 hp2
theorem a5J (h:lab e.1≠lab e.2):Ends lab e (lab e.1) (lab e.2):=⟨h,.inl ⟨rfl,rfl⟩⟩
theorem c9D {C:Type} {cs:List C} {x:C->Int} (h:∀c∈cs,x c=0) (l1 l2:List (C->Int)):dt cs (l1++x::l2)=0:=by
 have h0:=a3M (x:=x) (r:=x) (s:=x) (t:=1) (cs:=cs) (fun c hc=>by rw[h c hc];rfl) l1 l2
 omega
theorem c0H (lab:Nat->Nat) (V:List Nat):Dg [] lab V=if V=[]then 1 else 0:=by
 cases V with
 |nil=>rfl
 |cons x V=>
  rw[if_neg (by simp)]
  exact c9D (x:=Fm [] (cv lab x)) (fun _ _=>rfl) [] _
theorem b0t:∀(E:List (Nat×Nat)) (lab:Nat->Nat) (V:List Nat),V.Nodup->0<=Dg E lab V
 |[],lab,V,_=>by rw[c0H];split<;>omega
 |e::E,lab,V,h=>by
  by_cases h1:lab e.1=lab e.2
  ·rw[b3C h1];exact b0t E lab V h
  ·by_cases h2:lab e.2∈V
   ·rw[a8V (a5J h1) h2 h]
    have a:=b0t E lab V h;have b:=b0t E (mg lab (lab e.2) (lab e.1)) _ (c0G (q:=lab e.2) h);omega
   ·by_cases h3:lab e.1∈V
    ·rw[a8V (a5J h1).sym h3 h]
     have a:=b0t E lab V h;have b:=b0t E (mg lab (lab e.1) (lab e.2)) _ (c0G (q:=lab e.1) h);omega
    ·rw[c0E h3 h2];exact b0t E lab V h
theorem d3h (hp:p∉V) (hq:q∉V):Dg E (mg lab q p) V=Dg E lab V:=by unfold Dg;rw[a5e hp hq]
theorem c4w {l V:List Nat} (h:(l++V).Nodup):V.Nodup:=(List.nodup_append.1 h).2.1
theorem a2Z:∀(E:List (Nat×Nat)) (lab:Nat->Nat) (l V:List Nat),(l++V).Nodup->Dg E lab V=0->Dg E lab (l++V)=0
 |[],lab,l,V,_,h=>by
  rw[c0H]at h⊢
  rw[if_neg]
  intro hh
  rw[if_pos (by simpa using(List.append_eq_nil_iff.1 hh).2)]at h
  omega
 |e::E,lab,l,V,hn,h=>by
  have hv:=c4w hn
  by_cases h1:lab e.1=lab e.2
  ·rw[b3C h1]at h⊢;exact a2Z E lab l V hn h
  ·--q in V
   have key:∀p q,Ends lab e p q->q∈V->Dg (e::E) lab (l++V)=0:=fun p q he hq=>by
    rw[a8V he hq hv]at h
    have a:=b0t E lab V hv;have b:=b0t E (mg lab q p) _ (c0G (q:=q) hv)
    have hql:q∉l:=fun hh=>(List.nodup_append.1 hn).2.2 q hh q hq rfl
    have hw:a0U (l++V) q=l++a0U V q:=by rw[c0F,b5r hql]
    rw[a8V he (by simp[hq]) hn,a2Z E lab l V hn (by omega),hw,a2Z E _ l _ (by rw[<-hw];exact c0G hn) (by omega)]
    rfl
   by_cases h2:lab e.2∈V
   ·exact key _ _ (a5J h1) h2
   ·by_cases h3:lab e.1∈V
    ·exact key _ _ (a5J h1).sym h3
    ·rw[c0E h3 h2]at h
     have i1:=a2Z E lab l V hn h
     have key2:∀p q,Ends lab e p q->q∈l->q∉V->p∉V->Dg (e::E) lab (l++V)=0:=fun p q he hq hqV hpV=>by
      have hw:a0U (l++V) q=a0U l q++V:=by rw[c0F,b5r hqV]
      rw[a8V he (by simp[hq]) hn,i1,hw,a2Z E _ _ V (by rw[<-hw];exact c0G hn) (by rw[d3h hpV hqV];exact h)]
      rfl
     by_cases h4:lab e.2∈l
     ·exact key2 _ _ (a5J h1) h4 h2 h3
     ·by_cases h5:lab e.1∈l
      ·exact key2 _ _ (a5J h1).sym h5 h3 h2
      ·rw[c0E (by simp[h3,h5]) (by simp[h2,h4])];exact i1
theorem a7K (lab:Nat->Nat) (x:Nat):∀E:List (Nat×Nat),Fm (E.filter fun e=>lab e.1 !=lab e.2) (cv lab x)=Fm E (cv lab x)
 |[]=>rfl
 |e::E=>by
  by_cases h:lab e.1=lab e.2
  ·rw[List.filter_cons_of_neg (by simp[h]),a7K lab x E]
   refine(c0B ?_).symm
   rw[b2f,h];omega
  ·rw[List.filter_cons_of_pos (by simp[h])]
   funext v
   simp only[Fm]
   rw[a7K lab x E]
theorem c0I (E:List (Nat×Nat)) (lab:Nat->Nat) (V:List Nat):Dg (E.filter fun e=>lab e.1 !=lab e.2) lab V=Dg E lab V:=by
 unfold Dg Dv
 rw[List.map_map,List.map_map]
 congr 1
 exact List.map_congr_left fun x _=>a7K lab x E
end
theorem b5s {C:Type} {c:C} {d:List (C->Int)->Int} {B K:Nat}:∀(l pre:List (C->Int)),(∀r∈l,(r c).natAbs<=B)->(∀p s:List (C->Int),∀x,pre++l=p++x::s->(d (p++s)).natAbs<=K)->(dx c d pre l).natAbs<=l.length*(B*K)
 |[],pre,_,_=>by simp[dx]
 |x::l,pre,h,hd=>by
  simp only[dx,List.length_cons]
  have h1:=b5s l (pre++[x]) (fun r hr=>h r (by simp[hr])) (fun p s y hy=>hd p s y (by simpa using hy))
  have h2:=hd pre l x rfl
  have h3:(x c*d (pre++l)).natAbs<=B*K:=by rw[Int.natAbs_mul];exact Nat.mul_le_mul (h x (by simp)) h2
  rw[Nat.succ_mul]
  omega
theorem b0u {C:Type} {B:Nat}:∀(cs:List C) (l:List (C->Int)) (m:Nat),l.length<=m->(∀r∈l,∀c∈cs,(r c).natAbs<=B)->(dt cs l).natAbs<=(m*B)^cs.length
 |[],[],_,_,_=>by simp[dt]
 |[],_::_,_,_,_=>by simp[dt]
 |c::cs,l,m,hl,h=>by
  have h1:=b5s (c:=c) (d:=dt cs) (B:=B) (K:=(m*B)^cs.length) l [] (fun r hr=>h r hr c (by simp)) fun p s x hx=>by
   simp only[List.nil_append]at hx
   refine b0u cs (p++s) m ?_ fun r hr e he=>h r ?_ e (by simp[he])
   ·rw[hx]at hl;simp at hl⊢;omega
   ·rw[hx];simp at hr⊢;rcases hr with hr|hr<;>simp[hr]
  refine Nat.le_trans h1 ?_
  rw[List.length_cons,Nat.pow_succ,<-Nat.mul_assoc,Nat.mul_comm ((m*B)^cs.length)]
  exact Nat.mul_le_mul_right _ (Nat.mul_le_mul_right _ hl)
theorem b5t (e:Nat×Nat) (lab:Nat->Nat) (x:Nat):(dl e (cv lab x)).natAbs<=1:=by
 rw[b2f]
 split<;>split<;>decide
theorem b5u (lab:Nat->Nat) (x y:Nat):∀E:List (Nat×Nat),(Fm E (cv lab x) (cv lab y)).natAbs<=E.length
 |[]=>by simp[Fm]
 |e::E=>by
  simp only[Fm,List.length_cons]
  have h1:=b5u lab x y E
  have h2:(dl e (cv lab x)*dl e (cv lab y)).natAbs<=1:=by rw[Int.natAbs_mul];exact Nat.le_trans (Nat.mul_le_mul (b5t e lab x) (b5t e lab y)) (by decide)
  omega
end Go.GS
/- Spanning trees by determinants: each edge's two ways, and the tree of a number. -/
namespace Go.GS
def lst (set:Nat):Nat:=(els set).headD 64
def b2g (set:Nat) (f:Nat->Nat):List Nat:=(List.range 64).filter fun x=>bit set x&&decide (f x=x)&&decide (x≠f (lst set))
def KK (E:List (Nat×Nat)) (set:Nat) (f:Nat->Nat):Int:=Dg E f (b2g set f).reverse
theorem c6y (set:Nat) (f:Nat->Nat):(b2g set f).Nodup:=List.nodup_range.filter _
theorem c0J (set:Nat) (f:Nat->Nat):(b2g set f).reverse.Nodup:=by unfold List.Nodup;rw[List.pairwise_reverse];exact(c6y set f).imp fun h hh=>h hh.symm
theorem c9E {set x:Nat} {f:Nat->Nat} (hs:set<M64):x∈b2g set f↔bit set x=true/\f x=x/\x≠f (lst set):=by
 unfold b2g
 rw[List.mem_filter,List.mem_range]
 simp only[Bool.and_eq_true,decide_eq_true_eq]
 exact⟨fun h=>⟨h.2.1.1,h.2.1.2,h.2.2⟩,fun h=>⟨a1q hs h.1,⟨h.1,h.2.1⟩,h.2.2⟩⟩
theorem d3i (E:List (Nat×Nat)) (set:Nat) (f:Nat->Nat):0<=KK E set f:=b0t E f _ (c0J set f)
theorem b5v {set x:Nat} (hs:set<M64) (hx:bit set x=true):lst set<=x:=by
 have h0:set≠0:=fun h=>by rw[h]at hx;simp[bit]at hx
 obtain⟨y,r,he,hy,_,hl⟩:=b3y hs h0
 unfold lst
 rw[he]
 show y<=x
 rcases Nat.lt_or_ge x y with h|h
 ·rw[hl x h]at hx;cases hx
 ·exact h
theorem b7c {f:Nat->Nat} (h:Lb f) {e:Nat×Nat} (hne:f e.1≠f e.2) (y:Nat):a1D f e y=y↔f y=y/\y≠max (f e.1) (f e.2):=by
 unfold a1D
 have ha:=h.idm e.1
 have hb:=h.idm e.2
 generalize f e.1=a at*
 generalize f e.2=b at*
 constructor
 ·intro hj
  split at hj
  ·rename_i hfy
   exfalso
   rcases Nat.le_total a b with hh|hh
   ·rw[Nat.min_eq_left hh]at hj
    rw[Nat.max_eq_right hh,<-hj,ha]at hfy
    exact hne hfy
   ·rw[Nat.min_eq_right hh]at hj
    rw[Nat.max_eq_left hh,<-hj,hb]at hfy
    exact hne hfy.symm
  ·rename_i hfy
   exact⟨hj,fun e2=>hfy (by rw[hj,e2])⟩
 ·rintro⟨h3,h4⟩
  rw[if_neg (by rw[h3];exact h4)];exact h3
section
variable {set:Nat} {f:Nat->Nat} {e:Nat×Nat} {E:List (Nat×Nat)}
theorem c9F (h:Lb f) (hs:set<M64) (h1:bit set (f e.1)=true) (h2:bit set (f e.2)=true) (hl:bit set (lst set)=true) (hne:f e.1≠f e.2):max (f e.1) (f e.2)∈b2g set f:=by
 rw[c9E hs]
 have ha:=h.idm e.1
 have hb:=h.idm e.2
 have l0:=h.le (lst set)
 have l1:=b5v hs h1
 have l2:=b5v hs h2
 generalize f e.1=a at*
 generalize f e.2=b at*
 rcases Nat.le_total a b with hh|hh
 ·rw[Nat.max_eq_right hh];exact⟨h2,hb,by omega⟩
 ·rw[Nat.max_eq_left hh];exact⟨h1,ha,by omega⟩
theorem c4x (h:Lb f) (hs:set<M64) (h1:bit set (f e.1)=true) (h2:bit set (f e.2)=true) (hne:f e.1≠f e.2):b2g set (a1D f e)=a0U (b2g set f) (max (f e.1) (f e.2)):=by
 unfold b2g a0U
 rw[List.filter_filter]
 refine List.filter_congr fun x _=> ?_
 have hm:a1D f e (lst set)=f (lst set):=by
  unfold a1D
  rw[if_neg]
  intro hh
  have l0:=h.le (lst set)
  have l1:=b5v hs h1
  have l2:=b5v hs h2
  omega
 rw[hm]
 have:=b7c h hne x
 rw[Bool.eq_iff_iff]
 simp only[Bool.and_eq_true,decide_eq_true_eq,bne_iff_ne,this]
 exact⟨fun h=>⟨h.1.2.2,⟨h.1.1,h.1.2.1⟩,h.2⟩,fun h=>⟨⟨h.2.1.1,h.2.1.2,h.1⟩,h.2.2⟩⟩
theorem d3j (h:Lb f) (hs:set<M64) (h1:bit set (f e.1)=true) (h2:bit set (f e.2)=true) (hl:bit set (lst set)=true) (hne:f e.1≠f e.2):KK (e::E) set f=KK E set f+KK E set (a1D f e):=by
 have he:Ends f e (min (f e.1) (f e.2)) (max (f e.1) (f e.2)):=by
  refine⟨by omega,?_⟩
  rcases Nat.le_total (f e.1) (f e.2)with hh|hh
  ·rw[Nat.max_eq_right hh,Nat.min_eq_left hh];exact .inl ⟨rfl,rfl⟩
  ·rw[Nat.max_eq_left hh,Nat.min_eq_right hh];exact .inr ⟨rfl,rfl⟩
 have:=a8V (E:=E) he (List.mem_reverse.2 (c9F h hs h1 h2 hl hne)) (c0J set f)
 unfold KK
 rw[this,d3g,<-c4x h hs h1 h2 hne]
 rfl
theorem c9G (h:f e.1=f e.2):KK (e::E) set f=KK E set f:=b3C h
theorem c0K (E:List (Nat×Nat)) (set:Nat) (f:Nat->Nat):KK (E.filter fun e=>f e.1 !=f e.2) set f=KK E set f:=c0I ..
end
theorem c9H {set:Nat} {f:Nat->Nat} (h:Lb f) (hs:set<M64) (h0:set≠0) (hin:∀x,bit set x=true->bit set (f x)=true):cnt f set=(b2g set f).length+1:=by
 obtain⟨x,r,he,hx,_,_⟩:=b3y hs h0
 have hl:lst set=x:=by unfold lst;rw[he];rfl
 have hr:=hin x hx
 have:=b9M (p:=fun x=>bit set x&&decide (f x=x)) (q:=fun x=>bit set x&&decide (f x=x)&&decide (x≠f (lst set))) (x:=f x) (by simp[hr,h.idm]) (fun y=>by rw[hl]) (List.range 64) (List.mem_range.2 (a1q hs hr)) List.nodup_range
 unfold cnt b2g
 omega
theorem c6z {set:Nat} {f:Nat->Nat} (h:Lb f) (hs:set<M64) (h0:set≠0) (hin:∀x,bit set x=true->bit set (f x)=true):KK [] set f=if cnt f set=1 then 1 else 0:=by
 unfold KK
 rw[c0H]
 have:=c9H h hs h0 hin
 by_cases hc:b2g set f=[]
 ·rw[if_pos (by rw[hc];rfl),if_pos (by rw[this,hc];rfl)]
 ·rw[if_neg (by simpa using hc),if_neg]
  intro hh
  exact hc (List.eq_nil_of_length_eq_zero (by omega))
def inE (es:List (Nat×Nat)) (set j:Nat):List (Nat×Nat):=(es.drop j).filter (inB set)
theorem c9I {es:List (Nat×Nat)} {set j:Nat} {e:Nat×Nat} (h:es[j]? =some e) (hb:inB set e=true):inE es set j=e::inE es set (j+1):=by
 obtain⟨hj,rfl⟩:=List.getElem?_eq_some_iff.1 h
 unfold inE
 rw[List.drop_eq_getElem_cons hj,List.filter_cons_of_pos hb]
theorem d3k {es:List (Nat×Nat)} {set j:Nat} {e:Nat×Nat} (h:es[j]? =some e) (hb:inB set e=false):inE es set j=inE es set (j+1):=by
 obtain⟨hj,rfl⟩:=List.getElem?_eq_some_iff.1 h
 unfold inE
 rw[List.drop_eq_getElem_cons hj,List.filter_cons_of_neg (by rw[hb];simp)]
theorem c0L {es:List (Nat×Nat)} {set j:Nat} (h:es.length<=j):inE es set j=[]:=by
 unfold inE;rw[List.drop_eq_nil_of_le h];rfl
def trN (es:List (Nat×Nat)) (set:Nat) (t:List Int) (j:Nat):Int:=KK (inE es set j) set (lab (etl es t))
def trH (es:List (Nat×Nat)) (set:Nat) (t:List Int) (j:Nat):Int:=if lab (etl es t) (Ed es (j:Nat)).1=lab (etl es t) (Ed es (j:Nat)).2 then 0 else trN es set (t++[(j:Int)]) (j+1)
section
variable {es:List (Nat×Nat)} {set j:Nat} {t:List Int}
theorem c6A:0<=trN es set t j:=d3i _ _ _
theorem d3l:0<=trH es set t j:=by unfold trH;split;exact Int.le_refl 0;exact c6A
theorem b5w {e:Nat×Nat} (h:es[j]? =some e) (hb:inB set e=false):trN es set t j=trN es set t (j+1):=by
 unfold trN;rw[d3k h hb]
theorem a7L (hs:set<M64) (h0:set≠0):bit set (lst set)=true:=by
 obtain⟨x,r,he,hx,_,_⟩:=b3y hs h0
 unfold lst;rw[he];exact hx
theorem b5x (hs:set<M64) (h0:set≠0) (hin:Inn set (etl es t)) (hj:j<es.length) (hb:inB set (Ed es (j:Nat))=true):trN es set t j=trN es set t (j+1)+trH es set t j:=by
 have he:=a3K hj
 have hb':=hb
 unfold inB at hb'
 simp only[Bool.and_eq_true]at hb'
 unfold trH
 unfold trN
 rw[c9I he hb]
 by_cases hl:lab (etl es t) (Ed es (j:Nat)).1=lab (etl es t) (Ed es (j:Nat)).2
 ·rw[if_pos hl,c9G hl];omega
 ·rw[if_neg hl,d3j (Lb.lab _) hs (a2Y hin _ hb'.1) (a2Y hin _ hb'.2) (a7L hs h0) hl,a2A,a3m]
theorem Beg.add {t:List Int} (h:Beg es set t) (hlt:∀i∈t,i<(j:Int)) (hj:j<es.length) (hb:inB set (Ed es (j:Nat))=true) (hl:lab (etl es t) (Ed es (j:Nat)).1≠lab (etl es t) (Ed es (j:Nat)).2):Beg es set (t++[(j:Int)]):=by
 unfold inB at hb
 simp only[Bool.and_eq_true]at hb
 refine⟨b3x h.asc hlt,?_,?_⟩
 ·intro i hi
  rw[List.mem_append,List.mem_singleton]at hi
  rcases hi with hi|rfl
  ·exact h.ok i hi
  ·exact⟨by omega,by omega,hb⟩
 ·rw[a2A,List.length_append]
  exact h.acy.snoc hl
theorem b0v (hs:set<M64) (h0:set≠0):∀(k j:Nat) (t:List Int),es.length-j=k->Beg es set t->(∀i∈t,i<(j:Int))->Spn es set t j->0<trN es set t j
 |k,j,t,hk,hb,hlt,h=>by
  by_cases hj:j<es.length
  ·cases hi:inB set (Ed es (j:Nat))with
   |false=>
    rw[b5w (a3K hj) hi]
    exact b0v hs h0 (es.length-(j+1)) (j+1) t rfl hb (fun i hi=>by have:=hlt i hi;omega) (h.skip (a3K hj) hi)
   |true=>
    rw[b5x hs h0 hb.inn hj hi]
    have hi':=hi
    unfold inB at hi'
    simp only[Bool.and_eq_true]at hi'
    by_cases hl:lab (etl es t) (Ed es (j:Nat)).1=lab (etl es t) (Ed es (j:Nat)).2
    ·have:=b0v hs h0 (es.length-(j+1)) (j+1) t rfl hb (fun i hi=>by have:=hlt i hi;omega) (h.cyc (a3K hj) ((a3J hb.inn hi'.1 hi'.2).1 hl))
     have h2:0<=trH es set t j:=d3l
     omega
    ·have:=b0v hs h0 (es.length-(j+1)) (j+1) (t++[(j:Int)]) rfl (hb.add hlt hj hi hl) (fun i hi=>by
      rcases List.mem_append.1 hi with hi|hi
      ·have:=hlt i hi;omega
      ·rw[List.mem_singleton]at hi;omega) (h.take hj)
     have h2:0<=trN es set t (j+1):=c6A
     have h3:trH es set t j=trN es set (t++[(j:Int)]) (j+1):=if_neg hl
     omega
  ·have hl:=h.end hs h0 (by omega) hb.inn hb.acy
   unfold trN
   rw[c0L (by omega),c6z (Lb.lab _) hs h0 (a2Y hb.inn)]
   have h3:=a5G hs hb.inn (etl es t).length (Nat.le_refl _)
   rw[List.take_length,(a3I _ (Nat.le_refl _)).2 hb.acy]at h3
   rw[if_pos (by omega)];decide
 termination_by k=>k
 decreasing_by all_goals omega
end
end Go.GS
/- Determinants by steps without fractions. -/
namespace Go.GS
def blk (k:Nat):List Nat:=(List.range k).reverse
theorem b5y (k:Nat):blk (k+1)=k::blk k:=by unfold blk;rw[List.range_succ,List.reverse_append];rfl
theorem b0w (k:Nat):(blk k).length=k:=by unfold blk;simp
def gk (F:Nat->Nat->Int) (k i j:Nat):Int:=dt (j::blk k) (F i::(blk k).map F)
def pk (F:Nat->Nat->Int) (k:Nat):Int:=dt (blk k) ((blk k).map F)
section
variable {F:Nat->Nat->Int} {k i j n:Nat}
theorem b5z (F:Nat->Nat->Int) (k:Nat):gk F k k k=pk F (k+1):=by unfold gk pk;rw[b5y];rfl
theorem c0M (F:Nat->Nat->Int):pk F 0=1:=rfl
theorem c9J (F:Nat->Nat->Int) (i j:Nat):gk F 0 i j=F i j:=by simp[gk,blk,dt,dx]
theorem c9K:pk F k*gk F (k+1) i j=gk F k i j*gk F k k k-gk F k i k*gk F k k j:=by
 have:=c9z (blk k) ((blk k).map F) (F k) (F i) k j
 unfold gk pk
 rw[b5y,List.map_cons,this]
 grind
theorem d3m (h:pk F k≠0):(gk F k i j*gk F k k k-gk F k i k*gk F k k j)/pk F k=gk F (k+1) i j:=by
 rw[<-c9K,Int.mul_ediv_cancel_left _ h]
theorem c4y {B:Nat} (h:∀i j,(F i j).natAbs<=B) (k i j:Nat):(gk F k i j).natAbs<=((k+1)*B)^(k+1):=by
 have:=b0u (B:=B) (j::blk k) (F i::(blk k).map F) (k+1) (by simp[b0w]) (fun r hr c hc=>by
  rcases List.mem_cons.1 hr with rfl|hr
  ·exact h _ _
  ·obtain⟨x,_,rfl⟩:=List.mem_map.1 hr
   exact h _ _)
 unfold gk;simpa[b0w]using this
end
theorem c6B {C R:Type} (φ:R->C) (c:R) (cs:List R) (ih:∀l:List (C->Int),dt (cs.map φ) l=dt cs (l.map fun r x=>r (φ x))):∀(l p:List (C->Int)),dx (φ c) (dt (cs.map φ)) p l=dx c (dt cs) (p.map fun r x=>r (φ x)) (l.map fun r x=>r (φ x))
 |[],_=>rfl
 |x::l,p=>by
  simp only[List.map_cons,dx]
  rw[ih,c6B φ c cs ih l (p++[x]),List.map_append,List.map_append]
  rfl
theorem c6C {C R:Type} (φ:R->C):∀(cs:List R) (l:List (C->Int)),dt (cs.map φ) l=dt cs (l.map fun r x=>r (φ x))
 |[],[]=>rfl
 |[],_::_=>rfl
 |c::cs,l=>c6B φ c cs (c6C φ cs) l []
def c4z (E:List (Nat×Nat)) (lab:Nat->Nat) (V:List Nat) (i j:Nat):Int:=Fm E (cv lab (V.getD i 0)) (cv lab (V.getD j 0))
theorem c4A (V:List Nat) {k:Nat} (hk:k<=V.length):(blk k).map (fun i=>V.getD i 0)=(V.take k).reverse:=by
 unfold blk
 rw[List.map_reverse]
 congr 1
 apply List.ext_getElem?
 intro i
 rw[List.getElem?_map,List.getElem?_take]
 by_cases h:i<k
 ·rw[List.getElem?_range h,if_pos h,Option.map_some,List.getD_eq_getElem?_getD,List.getElem?_eq_getElem (by omega)]
  rfl
 ·rw[if_neg h,List.getElem?_eq_none (by simp;omega)]
  rfl
theorem c6D (E:List (Nat×Nat)) (lab:Nat->Nat) (V:List Nat) {k:Nat} (hk:k<=V.length):pk (c4z E lab V) k=Dg E lab (V.take k).reverse:=by
 unfold Dg Dv
 rw[<-c4A V hk,List.map_map,List.map_map,c6C,List.map_map]
 rfl
theorem b3D (E:List (Nat×Nat)) (lab:Nat->Nat) (V:List Nat):pk (c4z E lab V) V.length=Dg E lab V.reverse:=by
 rw[c6D E lab V (Nat.le_refl _),List.take_length]
theorem c0N (E:List (Nat×Nat)) (lab:Nat->Nat) {V:List Nat} (hn:V.Nodup) {k:Nat} (hk:k<=V.length) (h:pk (c4z E lab V) k=0):Dg E lab V.reverse=0:=by
 rw[c6D E lab V hk]at h
 have e:V.reverse=(V.drop k).reverse++(V.take k).reverse:=by rw[<-List.reverse_append,List.take_append_drop]
 rw[e]
 refine a2Z E lab _ _ ?_ h
 rw[<-e]
 unfold List.Nodup;rw[List.pairwise_reverse];exact hn.imp fun h hh=>h hh.symm
theorem a7M (E:List (Nat×Nat)) (lab:Nat->Nat) (V:List Nat) (i j:Nat):(c4z E lab V i j).natAbs<=E.length:=b5u lab _ _ E
end Go.GS

/- Slices of elements of any kind, iterators. -/
import Derived.Test.YtlmgkkjgdapnpaaGreatDoorWdT
namespace Go.RX
open Go.RowKit
section
variable {α:Type} {ce:α->List Value} {sz:Nat}
theorem a4B (hl:∀x,(ce x).length=sz):∀l:List α,(l.flatMap ce).length=l.length*sz:=by
 intro l
 induction l with
 |nil=>simp
 |cons x l ih=>simp only[List.flatMap_cons,List.length_append,hl,ih,List.length_cons,Nat.add_mul,Nat.one_mul];omega
theorem b3x (hl:∀x,(ce x).length=sz):∀(l:List α) (j:Nat),(l.flatMap ce).drop (j*sz)=(l.drop j).flatMap ce:=by
 intro l
 induction l with
 |nil=>intro j;simp
 |cons x l ih=>
  intro j
  cases j with
  |zero=>simp
  |succ j=>rw[List.flatMap_cons,Nat.add_mul,Nat.one_mul,Nat.add_comm,<-List.drop_drop,show sz=(ce x).length from(hl x).symm,List.drop_left,hl x,ih j,List.drop_succ_cons]
theorem b9b (hl:∀x,(ce x).length=sz):∀(l:List α) (j:Nat),(l.flatMap ce).take (j*sz)=(l.take j).flatMap ce:=by
 intro l
 induction l with
 |nil=>intro j;simp
 |cons x l ih=>
  intro j
  cases j with
  |zero=>simp
  |succ j=>
   rw[List.flatMap_cons,List.take_succ_cons,List.flatMap_cons,Nat.add_mul,Nat.one_mul,List.take_append,hl x,List.take_of_length_le (by rw[hl x];omega),Nat.add_sub_cancel,ih j]
theorem d4z (hl:∀x,(ce x).length=sz) {l:List α} {j:Nat} {a:α} (h:l[j]? =some a):((l.flatMap ce).drop (j*sz)).take sz=ce a:=by
 rw[b3x hl]
 obtain⟨hlt,rfl⟩:=List.getElem?_eq_some_iff.1 h
 rw[List.drop_eq_getElem_cons hlt,List.flatMap_cons,List.take_append_of_le_length (by rw[hl];exact Nat.le_refl _),List.take_of_length_le (by rw[hl];exact Nat.le_refl _)]
theorem d4A (hl:∀x,(ce x).length=sz) {l:List α} {j:Nat} (hj:j<l.length) (a:α):(l.set j a).flatMap ce=(l.flatMap ce).take (j*sz)++ce a++(l.flatMap ce).drop (j*sz+sz):=by
 rw[b9b hl,show j*sz+sz=(j+1)*sz from by rw[Nat.add_mul,Nat.one_mul],b3x hl,List.set_eq_take_append_cons_drop,if_pos hj,List.flatMap_append,List.flatMap_cons,List.append_assoc]
theorem b6s:∀(ys zs:List Value) (cs:Array Value) (q:Nat),spl cs q (ys++zs)=spl (spl cs q ys) (q+ys.length) zs:=by
 intro ys
 induction ys with
 |nil=>intro zs cs q;rfl
 |cons y ys ih=>intro zs cs q;simp only[List.cons_append,spl,ih,List.length_cons];congr 1;omega
theorem b1y {ve:α->Value} (hl:∀x,(ce x).length=sz) (hc:∀x,(ve x).cells.toList=ce x):∀(l:List α) (k:Nat) (cs:Array Value),((l.zipIdx k).map fun p=>(p.2,ve p.1)).foldl (fun acc p=>spl acc (((some (p.1*sz,sz):Option (Nat×Nat)).getD (0,0)).1) p.2.cells.toList) cs=spl cs (k*sz) (l.flatMap ce):=by
 intro l
 induction l with
 |nil=>intro k cs;rfl
 |cons a l ih=>
  intro k cs
  simp only[List.zipIdx_cons,List.map_cons,List.foldl_cons,List.flatMap_cons]
  rw[ih,b6s,hl,hc,Nat.add_mul,Nat.one_mul]
  rfl
end
structure El (P:Program) (T e:TypeId) (sz:Nat) (ag:Bool) {α:Type} (ce:α->List Value) (ve:α->Value):Prop where
 und:P.underlying T=some (.slice e)
 has:a2h P e=true
 cel:P.cellsOf e=sz
 agg:a0F P e=ag
 pos:0<sz
 one1:ag=false->sz=1
 small:sz<=1000
 inf:∃i z,P.info? e=some i/\i.zero=some z/\i.size=sz/\z.cells.size=sz/\i.bytes<=1000
 len:∀x,(ce x).length=sz
 val:∀x,ve x=if ag then .agg (ce x).toArray else(ce x).headD undef
 cells:∀x,(ve x).cells.toList=ce x
 one:∀x,∀c∈ce x,a3G c=true
def SE (H:PH) (sz:Nat) {α:Type} (ce:α->List Value) (v:Value) (l:List α):Prop:=Sl H sz v l.length (l.flatMap ce)
def SO (H0 H:PH) (e:TypeId) (sz:Nat) {α:Type} (ce:α->List Value) (v:Value) (l:List α):Prop:=OwS H0 H e sz v l.length (l.flatMap ce)
def Pt (H:PH) (p:Value) (ws:List Value):Prop:=∃b q cs T fz,p= .pointer (some ⟨b,q,none⟩)/\H b=some (.cells cs T fz)/\q+ws.length<=cs.size/\(cs.toList.drop q).take ws.length=ws
section
variable {α:Type} {ce:α->List Value} {sz:Nat} {H H' H0:PH} {v:Value} {l:List α} {e:TypeId}
theorem SE.mono (h:SE H sz ce v l) (hl:PH.le H H'):SE H' sz ce v l:=Sl.mono h hl
theorem SO.mono (h:SO H0 H e sz ce v l) (hl:PH.le H H'):SO H0 H' e sz ce v l:=OwS.mono h hl
theorem SO.less {H1:PH} (h:SO H1 H e sz ce v l) (hl:PH.le H0 H1):SO H0 H e sz ce v l:=OwS.less h hl
theorem SO.se (h:SO H0 H e sz ce v l):SE H sz ce v l:=OwS.sl h
theorem SO.nil (H0 H:PH) (e:TypeId) (sz:Nat) (ce:α->List Value):SO H0 H e sz ce (.slice none 0 0) []:=OwS.nil H0 H e sz
theorem SE.nil (H:PH) (sz:Nat) (ce:α->List Value):SE H sz ce (.slice none 0 0) []:=(SO.nil H H 0 sz ce).se
theorem SE.len (h:SE H sz ce v l):l.length<9223372036854775808:=by
 have:=Sl.len_le h;simp only[maxLen]at this;omega
theorem SE.cells (h:SE H sz ce v l):v.cells= #[v]:=by
 obtain⟨_,a,c,h2,_⟩:=h;rw[h2];rfl
theorem SE.one (h:SE H sz ce v l):v.cells.size=1/\a0p v.cells:=by
 rw[h.cells]
 obtain⟨_,a,c,h2,_⟩:=h
 refine⟨rfl,fun c hc=> ?_⟩
 simp at hc;rw[hc,h2];rfl
end
section
variable {P:Program} {T e:TypeId} {sz:Nat} {ag:Bool} {α:Type} {ce:α->List Value} {ve:α->Value} (E:El P T e sz ag ce ve)
variable {G Xp:Value->PH->Prop} {nx:List (List Value->PH->Prop)} {ρ:List Value} {H H0:PH} {o o1 o2:Oper} {x y x2 y2 lo hi:Operand} {id i id2 i2:Nat} {args args2:List SV} {t:Tree} {v p:Value} {l:List α} {a:α} {k:IntKind} {j:Nat} {pf pf2:Bool} {vs:List Value}
include E
theorem El.vcells (x:α):(ve x).cells.size=sz/\a0p (ve x).cells:=by
 refine⟨?_,fun c hc=> ?_⟩
 ·rw[<-Array.length_toList,E.cells,E.len]
 ·rw[E.cells]at hc;exact E.one x c hc
theorem a0j (ho:o.op= .call ⟨.builtin .len,#[x],#[T]⟩) (hx:a0k [x] [v] x=v) (h:SE H sz ce v l) (ha:args.map (D P ρ)=[v]) (n:den P G Xp t nx (ρ++[.int .i64 (l.length:Nat)]) H):den P G Xp (.prim id i o args t) nx ρ H:=
 a0l ((b7Z ho hx E.und h).rds H) ha n
theorem d6O (ho:o.op= .indexAddr T x y) (hx:a0k [x,y] [v,.int k (j:Nat)] x=v) (hy:a0k [x,y] [v,.int k (j:Nat)] y= .int k (j:Nat)) (h:SE H sz ce v l) (hj:l[j]? =some a):∃p,Yld P o [v,.int k (j:Nat)] p/\Pt H p (ce a):=by
 obtain⟨hlt,_⟩:=List.getElem?_eq_some_iff.1 hj
 obtain⟨b,q,cs,T',fz,h1,h2,h3,h4⟩:=c9d (P:=P) ho hx hy E.und E.has E.cel E.pos h hlt
 rw[d4z E.len hj]at h4
 exact⟨_,h1,b,q,cs,T',fz,rfl,h2,by rw[E.len];exact h3,by rw[E.len];exact h4⟩
theorem b0d (ho:o.op= .indexAddr T x y) (hx:a0k [x,y] [v,.int k (j:Nat)] x=v) (hy:a0k [x,y] [v,.int k (j:Nat)] y= .int k (j:Nat)) (h:SE H sz ce v l) (hj:l[j]? =some a) (ha:args.map (D P ρ)=[v,.int k (j:Nat)])
  (n:∀p,Pt H p (ce a)->den P G Xp t nx (ρ++[p]) H):den P G Xp (.prim id i o args t) nx ρ H:=by
 obtain⟨p,h1,h2⟩:=d6O E ho hx hy h hj
 exact a0l (h1.rds H) ha (n p h2)
theorem d0a (ho:o.op= .load e x) (hx:a0k [x] [p] x=p) (h:Pt H p (ce a)):Rds P o [p] H (ve a):=by
 obtain⟨b,q,cs,T',fz,rfl,h2,h3,h4⟩:=h
 rw[E.len]at h3 h4
 rw[E.val a]
 cases hag:ag with
 |true=>
  have:=b4k ho hx h2 E.has (by rw[E.agg,hag]) E.cel h3 h4
  simpa using this
 |false=>
  have h1:=E.one1 hag
  subst h1
  have e1:ce a=[(ce a).headD undef]:=by
   have:=E.len a
   match hc:ce a,this with
   |[c],_=>rfl
  rw[e1]at h4
  have:=a9P ho hx h2 E.has (by rw[E.agg,hag]) E.cel h3 h4
  simpa using this
theorem d0b (ho:o.op= .load e x) (hx:a0k [x] [p] x=p) (h:Pt H p (ce a)) (ha:args.map (D P ρ)=[p]) (n:den P G Xp t nx (ρ++[ve a]) H):den P G Xp (.prim id i o args t) nx ρ H:=
 a0l (d0a E ho hx h) ha n
theorem a0m (ho1:o1.op= .indexAddr T x y) (ho2:o2.op= .load e x2) (hx:a0k [x,y] [v,.int k (j:Nat)] x=v) (hy:a0k [x,y] [v,.int k (j:Nat)] y= .int k (j:Nat)) (hx2:∀p,a0k [x2] [p] x2=p) (h:SE H sz ce v l) (hj:l[j]? =some a)
  (ha:args.map (D P ρ)=[v,.int k (j:Nat)]) (ha2:∀p,args2.map (D P (ρ++[p]))=[p]) (n:∀p,den P G Xp t nx (ρ++[p]++[ve a]) H):den P G Xp (.prim id i o1 args (.prim id2 i2 o2 args2 t)) nx ρ H:=
 b0d E ho1 hx hy h hj ha fun p hp=>d0b E ho2 (hx2 p) hp (ha2 p) (n p)
theorem a1M (ho1:o1.op= .indexAddr T x y) (ho2:o2.op= .store e x2 y2) (hx:a0k [x,y] [v,.int k (j:Nat)] x=v) (hy:a0k [x,y] [v,.int k (j:Nat)] y= .int k (j:Nat)) (hx2:∀p,a0k [x2,y2] [p,ve a] x2=p) (hy2:∀p,a0k [x2,y2] [p,ve a] y2=ve a)
  (hle:PH.le H0 H) (h:SO H0 H e sz ce v l) (hj:j<l.length) (ha:args.map (D P ρ)=[v,.int k (j:Nat)]) (ha2:∀p,args2.map (D P (ρ++[p]))=[p,ve a]) (hpf:pf=false)
  (n:∀p u H',PH.le H0 H'->SO H0 H' e sz ce v (l.set j a)->(∃g ob,H0 g=none/\H'=H.put g ob)->den P G Xp t nx (ρ++[p]++[u]) H'):den P G Xp (.prim id i o1 args (.eff pf id2 i2 o2 args2 t)) nx ρ H:=by
 obtain⟨hlen,hv⟩:=h
 rcases hv with⟨_,h0⟩|⟨g,cap,cur,rfl,hg0,hg,hnc,hcm,hcs,htk⟩
 ·omega
 have hpos:=E.pos
 have hjs:(j+1)*sz<=l.length*sz:=Nat.mul_le_mul_right _ hj
 have hcap:l.length*sz<=cap*sz:=Nat.mul_le_mul_right _ hnc
 rw[Nat.add_mul,Nat.one_mul]at hjs
 have hix:=a5N (P:=P) (m:=(j:Int)) (n:=l.length) (c:=cap) ho1 hx hy E.und E.has (by omega) (by omega)
 rw[Int.toNat_natCast,E.cel,Nat.zero_add]at hix
 refine a0l (hix.rds H) ha (a0n (a3R ho2 (hx2 _) (hy2 _) hg E.has (by rw[E.cel];omega) (by rw[E.cel];exact(E.vcells a).1) (E.vcells a).2) (ha2 _) ?_)
 rintro u H' ⟨rfl,rfl⟩
 subst hpf
 rw[E.cells]
 refine⟨fun h=>(nomatch h),n _ _ _ ?_ ⟨by rw[a4B E.len,List.length_set],.inr ⟨g,cap,_,by rw[List.length_set],hg0,PH.put_self _ _ _,by rw[List.length_set];exact hnc,hcm,by rw[a5d];exact hcs,?_⟩⟩ ⟨g,_,hg0,rfl⟩⟩
 ·intro k' ob hk
  rw[PH.put_ne _ _ (fun e=>by rw[e,hg0]at hk;cases hk)]
  exact hle _ _ hk
 ·have hcur:l.length*sz<=cur.size:=by rw[hcs];exact hcap
  have hN:(cur.toList.take (l.length*sz)).length=l.length*sz:=by rw[List.length_take,Array.length_toList];exact Nat.min_eq_left hcur
  clear hcs hcap
  rw[List.length_set,d4A E.len hj,<-htk]
  apply List.ext_getElem?
  intro m
  rw[List.getElem?_take,Array.getElem?_toList,a9y,E.len,List.append_assoc,List.getElem?_append,List.length_take,hN,Nat.min_eq_left (by omega),List.getElem?_append,E.len,List.getElem?_take,List.getElem?_drop,List.getElem?_take,List.getElem?_take,Array.getElem?_toList,Array.getElem?_toList]
  by_cases h1:m<l.length*sz
  ·rw[if_pos h1,if_pos (by omega)]
   by_cases h2:m<j*sz
   ·rw[if_neg (by omega),if_pos h2,if_pos h2,if_pos h1]
   ·rw[if_neg h2]
    by_cases h3:m-j*sz<sz
    ·rw[if_pos (by omega),if_pos h3]
    ·rw[if_neg (by omega),if_neg h3,if_pos (by omega)]
     rw[show j*sz+sz+(m-j*sz-sz)=m from by omega,Array.getElem?_toList]
  ·rw[if_neg h1,if_neg (by omega),if_neg (by omega),if_neg (by omega)]
theorem b1z {g n:Nat} {cs:Array Value} (hg:H g=none) (hl:l.length=n) (hn:n<=maxLen) (hc:cs.toList=l.flatMap ce):SO H (H.put g (.cells cs e (0,0))) e sz ce (.slice (some ⟨g,0,none⟩) n n) l:=by
 have hs:cs.size=n*sz:=by rw[<-Array.length_toList,hc,a4B E.len,hl]
 refine⟨a4B E.len l,.inr ⟨g,n,cs,by rw[hl],hg,PH.put_self _ _ _,by omega,hn,hs,?_⟩⟩
 rw[hc,List.take_of_length_le (by rw[a4B E.len];exact Nat.le_refl _)]
theorem a2x {kl kc:IntKind} {m:Nat} {z:α} (hz:a0G P e=ve z) (ho:o.op= .makeSlice T x y) (hx:a0k [x,y] [.int kl (m:Nat),.int kc (m:Nat)] x= .int kl (m:Nat)) (hy:a0k [x,y] [.int kl (m:Nat),.int kc (m:Nat)] y= .int kc (m:Nat)) (hm:m<=68719476736) (ha:args.map (D P ρ)=[.int kl (m:Nat),.int kc (m:Nat)])
  (n:∀v H',PH.le H H'->SO H H' e sz ce v (List.replicate m z)->(∃g ob,H g=none/\H'=H.put g ob)->den P G Xp t nx (ρ++[v]) H'):den P G Xp (.eff pf id i o args t) nx ρ H:=by
 obtain⟨ti,zv,h1,h2,h3,h4,h5⟩:=E.inf
 refine a0n (b8b ho hx hy E.und h1 h2 h3 (by have:=Nat.mul_le_mul h5 hm;omega) (by simp only[maxLen];omega)) ha ?_
 rintro v H' ⟨g,hg,rfl,rfl⟩
 refine⟨fun _=>PH.le_put hg _,n _ _ (PH.le_put hg _) (b1z E hg (by simp) (by simp only[maxLen];omega) ?_) ⟨g,_,hg,rfl⟩⟩
 have hzv:zv=ve z:=by
  rw[<-hz];unfold a0G;rw[h1];simp[h2]
 subst hzv
 have hpos:=E.pos
 have hcz:=E.cells z
 have hlz:=E.len z
 show(madeCells (ve z).cells (m*sz)).toList=_
 have hr:∀m,(List.replicate m z).flatMap ce=(List.range (m*sz)).map fun c=>(ce z)[c%sz]?.getD undef:=by
  intro m
  induction m with
  |zero=>simp
  |succ m ih=>
   rw[List.replicate_succ',List.flatMap_append,ih,Nat.add_mul,Nat.one_mul,List.range_add,List.map_append]
   congr 1
   simp only[List.flatMap_cons,List.flatMap_nil,List.append_nil]
   apply List.ext_getElem?
   intro c
   simp only[List.getElem?_map,List.getElem?_range]
   by_cases hc:c<sz
   ·rw[List.getElem?_range hc]
    simp only[Option.map_some]
    rw[Nat.add_comm,Nat.add_mul_mod_self_right,Nat.mod_eq_of_lt hc,List.getElem?_eq_getElem (by omega)];rfl
   ·rw[List.getElem?_eq_none (by omega),List.getElem?_eq_none (by simp;omega)];rfl
 rw[hr]
 apply List.ext_getElem?
 intro c
 simp only[madeCells,Array.toList_map,List.getElem?_map,Array.toList_range]
 by_cases hc:c<m*sz
 ·rw[List.getElem?_range hc]
  simp only[Option.map_some]
  congr 1
  have hm2:c%sz<sz:=Nat.mod_lt _ hpos
  rw[h4,<-hcz]
  have:c%sz<(ve z).cells.size:=by omega
  simp[this]
 ·rw[List.getElem?_eq_none (by simp;omega)];simp
theorem a2t {N:Nat} {parts:Array (Nat×Operand)} (hl:l.length=N) (h0:0<N) (hN:N<=1000) (ho:o.op= .buildSlice T N parts) (hp:parts.toList.map (fun p=>(p.1,a0k (parts.toList.map (·.2)) vs p.2))=(l.zipIdx 0).map fun p=>(p.2,ve p.1)) (ha:args.map (D P ρ)=vs)
  (n:∀v H',PH.le H H'->SO H H' e sz ce v l->(∃g ob,H g=none/\H'=H.put g ob)->den P G Xp t nx (ρ++[v]) H'):den P G Xp (.eff pf id i o args t) nx ρ H:=by
 obtain⟨ti,zv,h1,h2,h3,h4,h5⟩:=E.inf
 have hpos:=E.pos
 have hsm:=E.small
 have hb:N*sz<=1000*1000:=Nat.mul_le_mul hN hsm
 have hNp:0<N*sz:=Nat.mul_pos h0 hpos
 refine a0n (a9Q (cells:=(l.flatMap ce).toArray) ho E.und h1 h2 (by rw[h3];omega) (by rw[h3];omega) ?_) ha ?_
 ·rw[h3,hp,a6H _ _ _ fun p hp=> ?_]
  ·rw[b1y E.len E.cells,Nat.zero_mul,a9A (by rw[a4B E.len,hl];simp)]
  ·simp only[List.mem_map,Prod.exists]at hp
   obtain⟨a,k,hk,rfl⟩:=hp
   have hk':=List.mem_zipIdx hk
   refine⟨k*sz,sz,rfl,(E.vcells a).1,?_⟩
   have:(k+1)*sz<=N*sz:=Nat.mul_le_mul_right _ (by omega)
   rw[Nat.add_mul,Nat.one_mul]at this
   simpa using this
 ·rintro v H' ⟨g,hg,rfl,rfl⟩
  exact⟨fun _=>PH.le_put hg _,n _ _ (PH.le_put hg _) (b1z E hg hl (by simp only[maxLen];omega) (by simp)) ⟨g,_,hg,rfl⟩⟩
theorem a3w (ho:o.op= .buildSlice T 1 #[(0,x)]) (hx:a0k [x] [ve a] x=ve a) (ha:args.map (D P ρ)=[ve a])
  (n:∀v H',PH.le H H'->SO H H' e sz ce v [a]->(∃g ob,H g=none/\H'=H.put g ob)->den P G Xp t nx (ρ++[v]) H'):den P G Xp (.eff pf id i o args t) nx ρ H:=
 a2t E (l:=[a]) (N:=1) rfl (by decide) (by decide) ho (by simp[hx]) ha n
theorem b3y (ho:o.op= .buildSlice T 0 #[]) (ha:args.map (D P ρ)=[])
  (n:∀v H',PH.le H H'->SO H H' e sz ce v []->(∃g ob,H g=none/\H'=H.put g ob)->den P G Xp t nx (ρ++[v]) H'):den P G Xp (.eff pf id i o args t) nx ρ H:=by
 obtain⟨ti,zv,h1,h2,h3,h4,h5⟩:=E.inf
 refine a0n (b1i ho E.und h1) ha ?_
 rintro v H' ⟨g,hg,rfl,rfl⟩
 exact⟨fun _=>PH.le_put hg _,n _ _ (PH.le_put hg _) (b1z E hg rfl (by simp only[maxLen];omega) rfl) ⟨g,_,hg,rfl⟩⟩
theorem b1A {l2:List α} {u:Value} (ho:o.op= .call ⟨.builtin .append,#[x,y],#[T,T]⟩) (hx:a0k [x,y] [v,u] x=v) (hy:a0k [x,y] [v,u] y=u) (hle:PH.le H0 H) (h:SO H0 H e sz ce v l) (h2:SE H sz ce u l2) (hb:l.length+l2.length<=68719476736)
  (ha:args.map (D P ρ)=[v,u]) (hpf:pf=false) (n:∀v' H',PH.le H0 H'->SO H0 H' e sz ce v' (l++l2)->(H'=H\/∃g ob,H0 g=none/\H'=H.put g ob/\(H g=none\/∃cs,H g=some (.cells cs e (0,0))))->den P G Xp t nx (ρ++[v']) H'):den P G Xp (.eff pf id i o args t) nx ρ H:=by
 obtain⟨ti,zv,h1,h3,h4,h5,h6⟩:=E.inf
 subst hpf
 by_cases hm:0<l2.length
 ·refine a0n (b3g ho hx hy E.und h1 h3 h4 h5 hle h h2 hm (fun c hc=> ?_) (by simp only[maxLen];omega) (by have:=Nat.mul_le_mul hb h6;omega)) ha ?_
  ·rw[List.mem_flatMap]at hc
   obtain⟨a,_,ha⟩:=hc
   rw[b3a];exact E.one a c ha
  ·rintro v' H' ⟨h6,h7,g,ob,h8,h9,h10⟩
   refine⟨fun h=>(nomatch h),n v' H' h6 ?_ (.inr ⟨g,ob,h9,h8,h10⟩)⟩
   unfold SO
   rw[List.length_append,List.flatMap_append];exact h7
 ·have hl2:l2=[]:=List.eq_nil_of_length_eq_zero (by omega)
  subst hl2
  refine a0n (b3h ho hx hy E.und h1 h.se h2) ha ?_
  rintro v' H' ⟨rfl,rfl⟩
  exact⟨fun h=>(nomatch h),n _ _ hle (by rw[List.append_nil];exact h) (.inl rfl)⟩
theorem a7M {l2:List α} {u:Value} (ho:o.op= .call ⟨.builtin .append,#[x,y],#[T,T]⟩) (hx:a0k [x,y] [v,u] x=v) (hy:a0k [x,y] [v,u] y=u) (hle:PH.le H0 H) (h:SO H0 H e sz ce v l) (h2:SE H sz ce u l2) (hb:l.length+l2.length<=68719476736)
  (ha:args.map (D P ρ)=[v,u]) (hpf:pf=false) (n:∀v' H',PH.le H0 H'->SO H0 H' e sz ce v' (l++l2)->(H'=H\/∃g ob,H0 g=none/\H'=H.put g ob)->den P G Xp t nx (ρ++[v']) H'):den P G Xp (.eff pf id i o args t) nx ρ H:=
 b1A E ho hx hy hle h h2 hb ha hpf fun v' H' a b c=>n v' H' a b (c.imp (fun h=>h) fun⟨g,ob,d,e,_⟩=>⟨g,ob,d,e⟩)
theorem a0P (ho1:o1.op= .buildSlice T 1 #[(0,x)]) (ho2:o2.op= .call ⟨.builtin .append,#[x2,y2],#[T,T]⟩) (hx:a0k [x] [ve a] x=ve a) (hx2:∀p,a0k [x2,y2] [v,p] x2=v) (hy2:∀p,a0k [x2,y2] [v,p] y2=p) (hle:PH.le H0 H) (h:SO H0 H e sz ce v l) (hb:l.length+1<=68719476736)
  (ha:args.map (D P ρ)=[ve a]) (ha2:∀p,args2.map (D P (ρ++[p]))=[v,p]) (hpf:pf2=false) (n:∀p v' H',PH.le H0 H'->SO H0 H' e sz ce v' (l++[a])->den P G Xp t nx (ρ++[p]++[v']) H'):den P G Xp (.eff pf id i o1 args (.eff pf2 id2 i2 o2 args2 t)) nx ρ H:=by
 refine a3w E ho1 hx ha fun u H1 hl1 h1 _=> ?_
 exact a7M E ho2 (hx2 _) (hy2 _) (hle.trans hl1) (h.mono hl1) h1.se hb (ha2 _) hpf fun v' H' hl2 h3 _=>n u v' H' hl2 h3
theorem b1B {vs:List Value} (ho:o.op= .slice T x none (some hi) none) (hx:a0k [x,hi] vs x=v) (hl:a0k [x,hi] vs hi= .int k (j:Nat)) (h:SE H sz ce v l) (h1:j<=l.length):∃u,Yld P o vs u/\SE H sz ce u (l.take j):=by
 obtain⟨u,h2,h3⟩:=b8a ho hx hl E.und E.has h h1
 refine⟨u,h2,?_⟩
 unfold SE
 rw[List.length_take,Nat.min_eq_left h1,<-b9b E.len]
 exact h3
theorem b9c {vs:List Value} (ho:o.op= .slice T x (some lo) none none) (hx:a0k [x,lo] vs x=v) (hl:a0k [x,lo] vs lo= .int k (j:Nat)) (h:SE H sz ce v l) (h1:j<=l.length):∃u,Yld P o vs u/\SE H sz ce u (l.drop j):=by
 obtain⟨hlen,a,c,h2,h3,h4,h5⟩:=h
 obtain⟨⟨ie,hie⟩,_⟩:=a1b E.has
 have hos:o.op.operands.toList=[x,lo]:=by simp[ho,Op.operands]
 have hsz:P.cellsOf e=sz:=E.cel
 by_cases hc0:c-j=0
 ·have hn:l.length=j:=by omega
  refine⟨.slice a (l.length-j) (c-j),fun w=> ?_,by rw[a4B E.len,List.length_drop],a,0,by rw[hc0,List.length_drop],by rw[List.length_drop];omega,by simp[maxLen],.inl (by rw[List.length_drop];omega)⟩
  rw[hos]
  simp only[execOp,ho,hx,h2,Option.map_some,Option.map_none,hl,Instr.sliceAt,Instr.slice,Sem.run_bind,run_underlying E.und,Result.andThen_ok,Sem.run_pure,Instr.sliceBounds]
  rw[run_sliceBound w k (j:Int) l.length _ (by omega) (by omega)]
  have hcj:c=j:=by omega
  simp[Result.andThen_ok,a1j hie,Int.toNat_natCast,hcj]
 ·refine⟨.slice (a.map (·.add (j*sz))) (l.length-j) (c-j),fun w=> ?_,?_⟩
  ·rw[hos]
   simp only[execOp,ho,hx,h2,Option.map_some,Option.map_none,hl,Instr.sliceAt,Instr.slice,Sem.run_bind,run_underlying E.und,Result.andThen_ok,Sem.run_pure,Instr.sliceBounds]
   rw[run_sliceBound w k (j:Int) l.length _ (by omega) (by omega)]
   have hcj:¬c=j:=by omega
   simp[Result.andThen_ok,a1j hie,Int.toNat_natCast,hcj,hsz]
  ·refine⟨by rw[a4B E.len,List.length_drop],_,c-j,by rw[List.length_drop],by rw[List.length_drop];omega,by omega,?_⟩
   rcases h5 with h5|⟨b,q,cs,T',fz,h5,h6,h7⟩
   ·left;rw[List.length_drop];omega
   ·right
    refine⟨b,q+j*sz,cs,T',fz,by rw[h5];simp[Addr.add],h6,?_⟩
    rw[<-b3x E.len,<-h7,List.length_drop,<-List.drop_drop,List.drop_take,Nat.sub_mul]
end
theorem PH.put_or {X:PH} {b:Nat} {ob:Obj} (h:X b=none):X.put b ob=X.or (PH.nil.put b ob):=by
 funext k
 unfold PH.put PH.or PH.nil
 by_cases e:k=b
 ·subst e;simp[h]
 ·simp only[if_neg e];cases X k<;>rfl
theorem PH.or_put {X K:PH} {b:Nat} {ob:Obj} (h:X b=none):(X.or K).put b ob=X.or (K.put b ob):=by
 funext k
 unfold PH.put PH.or
 by_cases e:k=b
 ·subst e;simp[h]
 ·simp only[if_neg e]
theorem b0e {X K:PH} {b:Nat} {ob:Obj} (h:Disj X K) (hb:X b=none):Disj X (K.put b ob):=fun k hk=>by
 unfold PH.put
 rw[if_neg (fun e=>by rw[e]at hk;exact hk hb)];exact h k hk
theorem a5p (X:PH):Disj X PH.nil:=fun _ _=>rfl
theorem Disj.none {X K:PH} (h:Disj X K) {b:Nat} (hb:K b≠none):X b=none:=by
 cases e:X b with
 |none=>rfl
 |some o=>exact absurd (h b (by simp[e])) hb
theorem PH.or_right {X K:PH} {b:Nat} {ob:Obj} (h:Disj X K) (hb:K b=some ob):X.or K b=some ob:=PH.or_r h b ob hb
theorem a5q {P:Program} {G Xp:Value->PH->Prop} {nx:List (List Value->PH->Prop)} {ρ:List Value} {g:SV} {np:Nat} {ini:List SV} {tb ta te:Tree} {f:FuncId} {caps:List Value} {X K Ro:PH} {E:List (List Value)->List Value->Prop} {S Sp:List (List Value)->PH->Prop} (I Ix:List (List Value)->List Value->PH->Prop)
  (hit:ItC P f caps Ro K E S Sp) (hent:a1q P f=true) (hd:Disj X K) (hg:D P ρ g= .func (.func f) #[] caps.toArray) (hRo:∀pre vals X',I pre vals X'->PH.le Ro X') (h0:I [] (ini.map (D P ρ)) X)
  (hr:∀pre xs vals X',E pre xs->vals.length=ini.length->I pre vals X'->xs.length=np/\den P G noP tb (nx++[fun v h=>I (pre++[xs]) v h,fun v h=>Ix (pre++[xs]) v h]) (ρ++(xs++vals)) X')
  (ha:∀xs vals X' K',S xs K'->Disj X' K'->vals.length=ini.length->I xs vals X'->den P G Xp ta nx (ρ++vals) (X'.or K'))
  (hx:∀pre vals X' K',Sp pre K'->Disj X' K'->vals.length=ini.length->Ix pre vals X'->den P G Xp te nx (ρ++vals) (X'.or K')):den P G Xp (.rf g np ini tb ta te) nx ρ (X.or K):=
 ⟨f,caps,X,K,Ro,E,S,Sp,I,Ix,hg,hent,rfl,hd,hit,hRo,h0,hr,ha,hx⟩
theorem a3X {P:Program} {G Xp:Value->PH->Prop} {nx:List (List Value->PH->Prop)} {ρ:List Value} {pf:Bool} {id i:Nat} {o:Oper} {x:Operand} {az:Array Operand} {tys:Array TypeId} {args:List SV} {t:Tree} {l:Nat} {xs:List Value} {X K:PH} {V:Value->PH->Prop}
  (hy:b7L P l xs X K V) (ho:o.op= .call ⟨.value x,az,tys⟩) (hx:a0k (x::az.toList) (.func (.yield l) #[] #[]::xs) x= .func (.yield l) #[] #[]) (ha':az.toList.map (a0k (x::az.toList) (.func (.yield l) #[] #[]::xs))=xs) (ha:args.map (D P ρ)= .func (.yield l) #[] #[]::xs) (hpf:pf=false)
  (n:∀v X',Disj X' K->V v X'->den P G Xp t nx (ρ++[v]) (X'.or K)):den P G Xp (.eff pf id i o args t) nx ρ (X.or K):=by
 intro w hw
 rw[ha]
 have hA:az.map (a0k (x::az.toList) (.func (.yield l) #[] #[]::xs))=xs.toArray:=by rw[<-Array.toList_inj,Array.toList_map];exact ha'
 have hos:o.op.operands.toList=x::az.toList:=by simp[ho,Op.operands,Call.operands]
 obtain⟨fn,tmps,asg,body,h1,h2⟩:=hy w hw
 have hr:(execOp (a0k (x::az.toList) (.func (.yield l) #[] #[]::xs)) o).run P w= .ok (.round l fn tmps asg body) w:=by
  simp only[execOp,ho,resolve,hx,hA,Deferred.ofValue,Sem.run_bind,Sem.run_pure,Result.andThen_ok,invoke]
  simpa using h1
 unfold StpX
 rw[hos,hr]
 refine h2.mono fun e w' ⟨v,X',he,hs,hd,hV⟩=>⟨v,he,X'.or K,hs,(fun h=>by rw[hpf]at h;cases h),n v X' hd hV⟩
end Go.RX

/- Lemmas of the proof. -/
import Derived.Test.YtmannekkmdockaaGreatDoorRxV
open Array renaming getElem?_toList->dY,length_toList->fS,toList_map->iS
open Go.Result renaming andThen_ok->aE
open Go.Sem renaming run_bind->aG,run_pure->aT
open Int renaming toNat_natCast->bB
open List renaming append_assoc->bG,append_nil->dC,drop_drop->oC,ext_getElem?->cU,flatMap_append->jK,flatMap_cons->cY,getElem?_append->lZ,getElem?_eq_none->aW,getElem?_eq_some_iff->aC,getElem?_map->aO,getElem?_range->eA,getElem?_take->dE,length_append->aJ,length_cons->bA,length_drop->cX,length_set->bD,length_take->cB,replicate->bC,take_of_length_le->aK
open Nat renaming add_comm->eI,add_mul->cP,le_refl->aN,min_eq_left->cD,mul_le_mul->cI,mul_le_mul_right->dX,one_mul->dS
open Option renaming map_none->gX,map_some->dK
namespace Go.RX
open Go.RowKit
section
variable {α:Type} {ce:α->List Value} {sz:Nat}
theorem Lt (hl:∀x,(ce x).length=sz):∀l:List α,(l.flatMap ce).length=l.length*sz:=by
 intro l;induction l with
 |nil=>simp
 |cons x l ih=>simp only[cY,aJ,hl,ih,bA,cP,dS];omega
theorem vj (hl:∀x,(ce x).length=sz):∀(l:List α) (j:Nat),(l.flatMap ce).drop (j*sz)=(l.drop j).flatMap ce:=by
 intro l;induction l with
 |nil=>intro j;simp
 |cons x l ih=>
  intro j;cases j with
  |zero=>simp
  |succ j=>rw[cY,cP,dS,eI,<-oC,show sz=(ce x).length from(hl x).symm,List.drop_left,hl x,ih j,List.drop_succ_cons]
theorem JJ (hl:∀x,(ce x).length=sz):∀(l:List α) (j:Nat),(l.flatMap ce).take (j*sz)=(l.take j).flatMap ce:=by
 intro l;induction l with
 |nil=>intro j;simp
 |cons x l ih=>
  intro j;cases j with
  |zero=>simp
  |succ j=>
   rw[cY,List.take_succ_cons,cY,cP,dS,List.take_append,hl x,aK (by rw[hl x];omega),Nat.add_sub_cancel,ih j]
theorem T4 (hl:∀x,(ce x).length=sz) {l:List α} {j:Nat} {a:α} (h:l[j]? =some a):((l.flatMap ce).drop (j*sz)).take sz=ce a:=by
 rw[vj hl];obtain⟨pO,rfl⟩:=aC.1 h;rw[List.drop_eq_getElem_cons pO,cY,List.take_append_of_le_length (by rw[hl];exact aN _),aK (by rw[hl];exact aN _)]
theorem T5 (hl:∀x,(ce x).length=sz) {l:List α} {j:Nat} (hj:j<l.length) (a:α):(l.set j a).flatMap ce=(l.flatMap ce).take (j*sz)++ce a++(l.flatMap ce).drop (j*sz+sz):=by
 rw[JJ hl,show j*sz+sz=(j+1)*sz from by rw[cP,dS],vj hl,List.set_eq_take_append_cons_drop,if_pos hj,jK,cY,bG]
theorem T6:∀(ys zs:List Value) (cs:Array Value) (q:Nat),spl cs q (ys++zs)=spl (spl cs q ys) (q+ys.length) zs:=by
 intro ys;induction ys with
 |nil=>intro zs cs q;rfl
 |cons y ys ih=>intro zs cs q;simp only[List.cons_append,spl,ih,bA];congr 1;omega
theorem vo {ve:α->Value} (hl:∀x,(ce x).length=sz) (hc:∀x,(ve x).cells.toList=ce x):∀(l:List α) (k:Nat) (cs:Array Value),((l.zipIdx k).map fun p=>(p.2,ve p.1)).foldl (fun acc p=>spl acc (((some (p.1*sz,sz):Option (Nat×Nat)).getD (0,0)).1) p.2.cells.toList) cs=spl cs (k*sz) (l.flatMap ce):=by
 intro l;induction l with
 |nil=>intro k cs;rfl
 |cons a l ih=>
  intro k cs;simp only[List.zipIdx_cons,List.map_cons,List.foldl_cons,cY];rw[ih,T6,hl,hc,cP,dS];rfl
end
structure El (P:Program) (T e:TypeId) (sz:Nat) (ag:Bool) {α:Type} (ce:α->List Value) (ve:α->Value):Prop where
 und:P.underlying T=some (.slice e)
 has:z7 P e=true
 cel:P.cellsOf e=sz
 agg:Aw P e=ag
 pos:0<sz
 one1:ag=false->sz=1
 small:sz<=1000
 inf:∃i z,P.info? e=some i/\i.zero=some z/\i.size=sz/\z.cells.size=sz/\i.bytes<=1000
 len:∀x,(ce x).length=sz
 val:∀x,ve x=if ag then .agg (ce x).toArray else(ce x).headD undef
 cells:∀x,(ve x).cells.toList=ce x
 one:∀x,∀c∈ce x,Dx c=true
def SE (H:PH) (sz:Nat) {α:Type} (ce:α->List Value) (v:Value) (l:List α):Prop:=Sl H sz v l.length (l.flatMap ce)
def SO (H0 H:PH) (e:TypeId) (sz:Nat) {α:Type} (ce:α->List Value) (v:Value) (l:List α):Prop:=OwS H0 H e sz v l.length (l.flatMap ce)
def Pt (H:PH) (p:Value) (ws:List Value):Prop:=∃b q cs T fz,p= .pointer (some ⟨b,q,none⟩)/\H b=some (.cells cs T fz)/\q+ws.length<=cs.size/\(cs.toList.drop q).take ws.length=ws
section
variable {α:Type} {ce:α->List Value} {sz:Nat} {H H' H0:PH} {v:Value} {l:List α} {e:TypeId}
theorem SE.mono (h:SE H sz ce v l) (hl:PH.le H H'):SE H' sz ce v l:=Sl.mono h hl
theorem SO.mono (h:SO H0 H e sz ce v l) (hl:PH.le H H'):SO H0 H' e sz ce v l:=OwS.mono h hl
theorem SO.less {H1:PH} (h:SO H1 H e sz ce v l) (hl:PH.le H0 H1):SO H0 H e sz ce v l:=OwS.less h hl
theorem SO.se (h:SO H0 H e sz ce v l):SE H sz ce v l:=OwS.sl h
theorem SO.nil (H0 H:PH) (e:TypeId) (sz:Nat) (ce:α->List Value):SO H0 H e sz ce (.slice none 0 0) []:=OwS.nil H0 H e sz
theorem SE.nil (H:PH) (sz:Nat) (ce:α->List Value):SE H sz ce (.slice none 0 0) []:=(SO.nil H H 0 sz ce).se
theorem SE.len (h:SE H sz ce v l):l.length<9223372036854775808:=by
 have:=Sl.len_le h;simp only[maxLen]at this;omega
theorem SE.cells (h:SE H sz ce v l):v.cells= #[v]:=by
 obtain⟨_,a,c,h2,_⟩:=h;rw[h2];rfl
theorem SE.one (h:SE H sz ce v l):v.cells.size=1/\s8 v.cells:=by
 rw[h.cells];obtain⟨_,a,c,h2,_⟩:=h;refine⟨rfl,fun c hc=> ?_⟩;simp at hc;rw[hc,h2];rfl
end
section
variable {P:Program} {T e:TypeId} {sz:Nat} {ag:Bool} {α:Type} {ce:α->List Value} {ve:α->Value} (E:El P T e sz ag ce ve)
variable {G:Value->PH->Prop} {nx:List (List Value->PH->Prop)} {ρ:List Value} {H H0:PH} {o o1 o2:Oper} {x y x2 y2 lo hi:Operand} {id i id2 i2:Nat} {args args2:List SV} {t:Tree} {v p:Value} {l:List α} {a:α} {k:IntKind} {j:Nat} {pf pf2:Bool} {vs:List Value}
include E
theorem El.vcells (x:α):(ve x).cells.size=sz/\s8 (ve x).cells:=by
 refine⟨?_,fun c hc=> ?_⟩
 ·rw[<-fS,E.cells,E.len]
 ·rw[E.cells]at hc;exact E.one x c hc
theorem Om (ho:o.op= .call ⟨.builtin .len,#[x],#[T]⟩) (hx:g9 [x] [v] x=v) (h:SE H sz ce v l) (ha:args.map (D P ρ)=[v]) (n:den P G t nx (ρ++[.int .i64 (l.length:Nat)]) H):den P G (.prim id i o args t) nx ρ H:=
 r7 ((rl ho hx E.und h).rds H) ha n
theorem T7 (ho:o.op= .indexAddr T x y) (hx:g9 [x,y] [v,.int k (j:Nat)] x=v) (hy:g9 [x,y] [v,.int k (j:Nat)] y= .int k (j:Nat)) (h:SE H sz ce v l) (hj:l[j]? =some a):∃p,Yld P o [v,.int k (j:Nat)] p/\Pt H p (ce a):=by
 obtain⟨pO,_⟩:=aC.1 hj;obtain⟨b,q,cs,T',fz,h1,h2,h3,h4⟩:=rn (P:=P) ho hx hy E.und E.has E.cel E.pos h pO;rw[T4 E.len hj]at h4;exact⟨_,h1,b,q,cs,T',fz,rfl,h2,by rw[E.len];exact h3,by rw[E.len];exact h4⟩
theorem vu (ho:o.op= .indexAddr T x y) (hx:g9 [x,y] [v,.int k (j:Nat)] x=v) (hy:g9 [x,y] [v,.int k (j:Nat)] y= .int k (j:Nat)) (h:SE H sz ce v l) (hj:l[j]? =some a) (ha:args.map (D P ρ)=[v,.int k (j:Nat)])
  (n:∀p,Pt H p (ce a)->den P G t nx (ρ++[p]) H):den P G (.prim id i o args t) nx ρ H:=by
 obtain⟨p,h1,h2⟩:=T7 E ho hx hy h hj;exact r7 (h1.rds H) ha (n p h2)
theorem T8 (ho:o.op= .load e x) (hx:g9 [x] [p] x=p) (h:Pt H p (ce a)):Rds P o [p] H (ve a):=by
 obtain⟨b,q,cs,T',fz,rfl,h2,h3,h4⟩:=h;rw[E.len]at h3 h4;rw[E.val a];cases uB:ag with
 |true=>
  have:=FM ho hx h2 E.has (by rw[E.agg,uB]) E.cel h3 h4;simpa using this
 |false=>
  have h1:=E.one1 uB;subst h1;have e1:ce a=[(ce a).headD undef]:=by
   have:=E.len a
   match hc:ce a,this with
   |[c],_=>rfl
  rw[e1]at h4;have:=rx ho hx h2 E.has (by rw[E.agg,uB]) E.cel h3 h4;simpa using this
theorem T9 (ho:o.op= .load e x) (hx:g9 [x] [p] x=p) (h:Pt H p (ce a)) (ha:args.map (D P ρ)=[p]) (n:den P G t nx (ρ++[ve a]) H):den P G (.prim id i o args t) nx ρ H:=
 r7 (T8 E ho hx h) ha n
theorem Do (tZ:o1.op= .indexAddr T x y) (uA:o2.op= .load e x2) (hx:g9 [x,y] [v,.int k (j:Nat)] x=v) (hy:g9 [x,y] [v,.int k (j:Nat)] y= .int k (j:Nat)) (rR:∀p,g9 [x2] [p] x2=p) (h:SE H sz ce v l) (hj:l[j]? =some a)
  (ha:args.map (D P ρ)=[v,.int k (j:Nat)]) (rX:∀p,args2.map (D P (ρ++[p]))=[p]) (n:∀p,den P G t nx (ρ++[p]++[ve a]) H):den P G (.prim id i o1 args (.prim id2 i2 o2 args2 t)) nx ρ H:=
 vu E tZ hx hy h hj ha fun p hp=>T9 E uA (rR p) hp (rX p) (n p)
theorem j8 (h:SE H sz ce v l) (hj:l[j]? =some a) (n:∀p,den P G t nx (ρ++[p]++[ve a]) H) (tZ:o1.op= .indexAddr T x y:=by exact rfl) (uA:o2.op= .load e x2:=by exact rfl) (ha:args.map (D P ρ)=[v,.int k (j:Nat)]:=by exact rfl) (hx:g9 [x,y] [v,.int k (j:Nat)] x=v:=by exact rfl) (hy:g9 [x,y] [v,.int k (j:Nat)] y= .int k (j:Nat):=by exact rfl) (rR:∀p,g9 [x2] [p] x2=p:=by exact fun _=>rfl) (rX:∀p,args2.map (D P (ρ++[p]))=[p]:=by exact fun _=>rfl):den P G (.prim id i o1 args (.prim id2 i2 o2 args2 t)) nx ρ H:=Do E tZ uA hx hy rR h hj ha rX n
theorem j7 (h:SE H sz ce v l) (n:den P G t nx (ρ++[.int .i64 (l.length:Nat)]) H) (ho:o.op= .call ⟨.builtin .len,#[x],#[T]⟩:=by exact rfl) (hx:g9 [x] [v] x=v:=by exact rfl) (ha:args.map (D P ρ)=[v]:=by exact rfl):den P G (.prim id i o args t) nx ρ H:=Om E ho hx h ha n
theorem Dp (tZ:o1.op= .indexAddr T x y) (uA:o2.op= .store e x2 y2) (hx:g9 [x,y] [v,.int k (j:Nat)] x=v) (hy:g9 [x,y] [v,.int k (j:Nat)] y= .int k (j:Nat)) (rR:∀p,g9 [x2,y2] [p,ve a] x2=p) (wC:∀p,g9 [x2,y2] [p,ve a] y2=ve a)
  (pP:PH.le H0 H) (h:SO H0 H e sz ce v l) (hj:j<l.length) (ha:args.map (D P ρ)=[v,.int k (j:Nat)]) (rX:∀p,args2.map (D P (ρ++[p]))=[p,ve a]) (vB:pf=false)
  (n:∀p u H',PH.le H0 H'->SO H0 H' e sz ce v (l.set j a)->(∃g ob,H0 g=none/\H'=H.put g ob)->den P G t nx (ρ++[p]++[u]) H'):den P G (.prim id i o1 args (.eff pf id2 i2 o2 args2 t)) nx ρ H:=by
 obtain⟨pR,hv⟩:=h;rcases hv with⟨_,h0⟩|⟨g,cap,cur,rfl,sN,hg,hnc,uW,qI,zA⟩
 ·omega
 have qW:=E.pos;have hjs:(j+1)*sz<=l.length*sz:=dX _ hj;have a2x:l.length*sz<=cap*sz:=dX _ hnc;rw[cP,dS]at hjs;have zZ:=rk (P:=P) (m:=(j:Int)) (n:=l.length) (c:=cap) tZ hx hy E.und E.has (by omega) (by omega);rw[bB,E.cel,Nat.zero_add]at zZ;refine r7 (zZ.rds H) ha (r4 (Ug uA (rR _) (wC _) hg E.has (by rw[E.cel];omega) (by rw[E.cel];exact(E.vcells a).1) (E.vcells a).2) (rX _) ?_);rintro u H' ⟨rfl,rfl⟩;subst vB;rw[E.cells];refine⟨fun h=>(nomatch h),n _ _ _ ?_ ⟨by rw[Lt E.len,bD],.inr ⟨g,cap,_,by rw[bD],sN,PH.put_self _ _ _,by rw[bD];exact hnc,uW,by rw[Xo];exact qI,?_⟩⟩ ⟨g,_,sN,rfl⟩⟩
 ·intro k' ob hk;rw[PH.put_ne _ _ (fun e=>by rw[e,sN]at hk;cases hk)];exact pP _ _ hk
 ·have a1i:l.length*sz<=cur.size:=by rw[qI];exact a2x
  have hN:(cur.toList.take (l.length*sz)).length=l.length*sz:=by rw[cB,fS];exact cD a1i
  clear qI a2x;rw[bD,T5 E.len hj,<-zA];apply cU;intro m;rw[dE,dY,ei,E.len,bG,lZ,cB,hN,cD (by omega),lZ,E.len,dE,List.getElem?_drop,dE,dE,dY,dY];by_cases h1:m<l.length*sz
  ·rw[if_pos h1,if_pos (by omega)];by_cases h2:m<j*sz
   ·rw[if_neg (by omega),if_pos h2,if_pos h2,if_pos h1]
   ·rw[if_neg h2];by_cases h3:m-j*sz<sz
    ·rw[if_pos (by omega),if_pos h3]
    ·rw[if_neg (by omega),if_neg h3,if_pos (by omega)];rw[show j*sz+sz+(m-j*sz-sz)=m from by omega,dY]
  ·rw[if_neg h1,if_neg (by omega),if_neg (by omega),if_neg (by omega)]
theorem Yq {g n:Nat} {cs:Array Value} (hg:H g=none) (hl:l.length=n) (hn:n<=maxLen) (hc:cs.toList=l.flatMap ce):SO H (H.put g (.cells cs e (0,0))) e sz ce (.slice (some ⟨g,0,none⟩) n n) l:=by
 have hs:cs.size=n*sz:=by rw[<-fS,hc,Lt E.len,hl]
 refine⟨Lt E.len l,.inr ⟨g,n,cs,by rw[hl],hg,PH.put_self _ _ _,by omega,hn,hs,?_⟩⟩;rw[hc,aK (by rw[Lt E.len];exact aN _)]
theorem Ux {kl kc:IntKind} {m:Nat} {z:α} (hz:s7 P e=ve z) (ho:o.op= .makeSlice T x y) (hx:g9 [x,y] [.int kl (m:Nat),.int kc (m:Nat)] x= .int kl (m:Nat)) (hy:g9 [x,y] [.int kl (m:Nat),.int kc (m:Nat)] y= .int kc (m:Nat)) (hm:m<=68719476736) (ha:args.map (D P ρ)=[.int kl (m:Nat),.int kc (m:Nat)])
  (n:∀v H',PH.le H H'->SO H H' e sz ce v (bC m z)->(∃g ob,H g=none/\H'=H.put g ob)->den P G t nx (ρ++[v]) H'):den P G (.eff pf id i o args t) nx ρ H:=by
 obtain⟨ti,zv,h1,h2,h3,h4,h5⟩:=E.inf;refine r4 (ry ho hx hy E.und h1 h2 h3 (by have:=cI h5 hm;omega) (by simp only[maxLen];omega)) ha ?_;rintro v H' ⟨g,hg,rfl,rfl⟩;refine⟨fun _=>PH.le_put hg _,n _ _ (PH.le_put hg _) (Yq E hg (by simp) (by simp only[maxLen];omega) ?_) ⟨g,_,hg,rfl⟩⟩;have hzv:zv=ve z:=by
  rw[<-hz];unfold s7;rw[h1];simp[h2]
 subst hzv;have qW:=E.pos;have hcz:=E.cells z;have hlz:=E.len z;show(madeCells (ve z).cells (m*sz)).toList=_;have hr:∀m,(bC m z).flatMap ce=(List.range (m*sz)).map fun c=>(ce z)[c%sz]?.getD undef:=by
  intro m;induction m with
  |zero=>simp
  |succ m ih=>
   rw[List.replicate_succ',jK,ih,cP,dS,List.range_add,List.map_append];congr 1;simp only[cY,List.flatMap_nil,dC];apply cU;intro c;simp only[aO,eA];by_cases hc:c<sz
   ·rw[eA hc];simp only[dK];rw[eI,Nat.add_mul_mod_self_right,Nat.mod_eq_of_lt hc,List.getElem?_eq_getElem (by omega)];rfl
   ·rw[aW (by omega),aW (by simp;omega)];rfl
 rw[hr];apply cU;intro c;simp only[madeCells,iS,aO,Array.toList_range];by_cases hc:c<m*sz
 ·rw[eA hc];simp only[dK];congr 1;have uM:c%sz<sz:=Nat.mod_lt _ qW;rw[h4,<-hcz];have:c%sz<(ve z).cells.size:=by omega
  simp[this]
 ·rw[aW (by simp;omega)];simp
theorem Hu {N:Nat} {parts:Array (Nat×Operand)} (hl:l.length=N) (h0:0<N) (hN:N<=1000) (ho:o.op= .buildSlice T N parts) (hp:parts.toList.map (fun p=>(p.1,g9 (parts.toList.map (·.2)) vs p.2))=(l.zipIdx 0).map fun p=>(p.2,ve p.1)) (ha:args.map (D P ρ)=vs)
  (n:∀v H',PH.le H H'->SO H H' e sz ce v l->(∃g ob,H g=none/\H'=H.put g ob)->den P G t nx (ρ++[v]) H'):den P G (.eff pf id i o args t) nx ρ H:=by
 obtain⟨ti,zv,h1,h2,h3,h4,h5⟩:=E.inf;have qW:=E.pos;have hsm:=E.small;have hb:N*sz<=1000*1000:=cI hN hsm;have hNp:0<N*sz:=Nat.mul_pos h0 qW;refine r4 (sd (cells:=(l.flatMap ce).toArray) ho E.und h1 h2 (by rw[h3];omega) (by rw[h3];omega) ?_) ha ?_
 ·rw[h3,hp,Xq _ _ _ fun p hp=> ?_]
  ·rw[vo E.len E.cells,Nat.zero_mul,eo (by rw[Lt E.len,hl];simp)]
  ·simp only[List.mem_map,Prod.exists]at hp;obtain⟨a,k,hk,rfl⟩:=hp;have qO:=List.mem_zipIdx hk;refine⟨k*sz,sz,rfl,(E.vcells a).1,?_⟩;have:(k+1)*sz<=N*sz:=dX _ (by omega);rw[cP,dS]at this;simpa using this
 ·rintro v H' ⟨g,hg,rfl,rfl⟩;exact⟨fun _=>PH.le_put hg _,n _ _ (PH.le_put hg _) (Yq E hg hl (by simp only[maxLen];omega) (by simp)) ⟨g,_,hg,rfl⟩⟩
theorem On (ho:o.op= .buildSlice T 1 #[(0,x)]) (hx:g9 [x] [ve a] x=ve a) (ha:args.map (D P ρ)=[ve a])
  (n:∀v H',PH.le H H'->SO H H' e sz ce v [a]->(∃g ob,H g=none/\H'=H.put g ob)->den P G t nx (ρ++[v]) H'):den P G (.eff pf id i o args t) nx ρ H:=
 Hu E (l:=[a]) (N:=1) rfl (by decide) (by decide) ho (by simp[hx]) ha n
theorem gq (ho:o.op= .buildSlice T 0 #[]) (ha:args.map (D P ρ)=[])
  (n:∀v H',PH.le H H'->SO H H' e sz ce v []->(∃g ob,H g=none/\H'=H.put g ob)->den P G t nx (ρ++[v]) H'):den P G (.eff pf id i o args t) nx ρ H:=by
 obtain⟨ti,zv,h1,h2,h3,h4,h5⟩:=E.inf;refine r4 (FP ho E.und h1) ha ?_;rintro v H' ⟨g,hg,rfl,rfl⟩;exact⟨fun _=>PH.le_put hg _,n _ _ (PH.le_put hg _) (Yq E hg rfl (by simp only[maxLen];omega) rfl) ⟨g,_,hg,rfl⟩⟩
theorem gu {l2:List α} {u:Value} (ho:o.op= .call ⟨.builtin .append,#[x,y],#[T,T]⟩) (hx:g9 [x,y] [v,u] x=v) (hy:g9 [x,y] [v,u] y=u) (pP:PH.le H0 H) (h:SO H0 H e sz ce v l) (h2:SE H sz ce u l2) (hb:l.length+l2.length<=68719476736)
  (ha:args.map (D P ρ)=[v,u]) (vB:pf=false) (n:∀v' H',PH.le H0 H'->SO H0 H' e sz ce v' (l++l2)->(H'=H\/∃g ob,H0 g=none/\H'=H.put g ob/\(H g=none\/∃cs,H g=some (.cells cs e (0,0))))->den P G t nx (ρ++[v']) H'):den P G (.eff pf id i o args t) nx ρ H:=by
 obtain⟨ti,zv,h1,h3,h4,h5,h6⟩:=E.inf;subst vB;by_cases hm:0<l2.length
 ·refine r4 (ZD ho hx hy E.und h1 h3 h4 h5 pP h h2 hm (fun c hc=> ?_) (by simp only[maxLen];omega) (by have:=cI hb h6;omega)) ha ?_
  ·rw[List.mem_flatMap]at hc;obtain⟨a,_,ha⟩:=hc;rw[EG];exact E.one a c ha
  ·rintro v' H' ⟨h6,h7,g,ob,h8,h9,vL⟩;refine⟨fun h=>(nomatch h),n v' H' h6 ?_ (.inr ⟨g,ob,h9,h8,vL⟩)⟩;unfold SO;rw[aJ,jK];exact h7
 ·have tI:l2=[]:=List.eq_nil_of_length_eq_zero (by omega);subst tI;refine r4 (FO ho hx hy E.und h1 h.se h2) ha ?_;rintro v' H' ⟨rfl,rfl⟩;exact⟨fun h=>(nomatch h),n _ _ pP (by rw[dC];exact h) (.inl rfl)⟩
theorem Lu {l2:List α} {u:Value} (ho:o.op= .call ⟨.builtin .append,#[x,y],#[T,T]⟩) (hx:g9 [x,y] [v,u] x=v) (hy:g9 [x,y] [v,u] y=u) (pP:PH.le H0 H) (h:SO H0 H e sz ce v l) (h2:SE H sz ce u l2) (hb:l.length+l2.length<=68719476736)
  (ha:args.map (D P ρ)=[v,u]) (vB:pf=false) (n:∀v' H',PH.le H0 H'->SO H0 H' e sz ce v' (l++l2)->(H'=H\/∃g ob,H0 g=none/\H'=H.put g ob)->den P G t nx (ρ++[v']) H'):den P G (.eff pf id i o args t) nx ρ H:=
 gu E ho hx hy pP h h2 hb ha vB fun v' H' a b c=>n v' H' a b (c.imp (fun h=>h) fun⟨g,ob,d,e,_⟩=>⟨g,ob,d,e⟩)
theorem Iz (tZ:o1.op= .buildSlice T 1 #[(0,x)]) (uA:o2.op= .call ⟨.builtin .append,#[x2,y2],#[T,T]⟩) (hx:g9 [x] [ve a] x=ve a) (rR:∀p,g9 [x2,y2] [v,p] x2=v) (wC:∀p,g9 [x2,y2] [v,p] y2=p) (pP:PH.le H0 H) (h:SO H0 H e sz ce v l) (hb:l.length+1<=68719476736)
  (ha:args.map (D P ρ)=[ve a]) (rX:∀p,args2.map (D P (ρ++[p]))=[v,p]) (vB:pf2=false) (n:∀p v' H',PH.le H0 H'->SO H0 H' e sz ce v' (l++[a])->den P G t nx (ρ++[p]++[v']) H'):den P G (.eff pf id i o1 args (.eff pf2 id2 i2 o2 args2 t)) nx ρ H:=by
 refine On E tZ hx ha fun u H1 rF h1 _=> ?_;exact Lu E uA (rR _) (wC _) (pP.trans rF) (h.mono rF) h1.se hb (rX _) vB fun v' H' tI h3 _=>n u v' H' tI h3
theorem U0 {vs:List Value} (ho:o.op= .slice T x none (some hi) none) (hx:g9 [x,hi] vs x=v) (hl:g9 [x,hi] vs hi= .int k (j:Nat)) (h:SE H sz ce v l) (h1:j<=l.length):∃u,Yld P o vs u/\SE H sz ce u (l.take j):=by
 obtain⟨u,h2,h3⟩:=FN ho hx hl E.und E.has h h1;refine⟨u,h2,?_⟩;unfold SE;rw[cB,cD h1,<-JJ E.len];exact h3
theorem U1 {vs:List Value} (ho:o.op= .slice T x (some lo) none none) (hx:g9 [x,lo] vs x=v) (hl:g9 [x,lo] vs lo= .int k (j:Nat)) (h:SE H sz ce v l) (h1:j<=l.length):∃u,Yld P o vs u/\SE H sz ce u (l.drop j):=by
 obtain⟨pR,a,c,h2,h3,h4,h5⟩:=h;obtain⟨⟨ie,uF⟩,_⟩:=Hq E.has;have pZ:o.op.operands.toList=[x,lo]:=by simp[ho,Op.operands]
 have rP:P.cellsOf e=sz:=E.cel;by_cases wQ:c-j=0
 ·have hn:l.length=j:=by omega
  refine⟨.slice a (l.length-j) (c-j),fun w=> ?_,by rw[Lt E.len,cX],a,0,by rw[wQ,cX],by rw[cX];omega,by simp[maxLen],.inl (by rw[cX];omega)⟩;rw[pZ];simp only[execOp,ho,hx,h2,dK,gX,hl,Instr.sliceAt,Instr.slice,aG,run_underlying E.und,aE,aT,Instr.sliceBounds];rw[run_sliceBound w k (j:Int) l.length _ (by omega) (by omega)];have hcj:c=j:=by omega
  simp[aE,Ii uF,bB,hcj]
 ·refine⟨.slice (a.map (·.add (j*sz))) (l.length-j) (c-j),fun w=> ?_,?_⟩
  ·rw[pZ];simp only[execOp,ho,hx,h2,dK,gX,hl,Instr.sliceAt,Instr.slice,aG,run_underlying E.und,aE,aT,Instr.sliceBounds];rw[run_sliceBound w k (j:Int) l.length _ (by omega) (by omega)];have hcj:¬c=j:=by omega
   simp[aE,Ii uF,bB,hcj,rP]
  ·refine⟨by rw[Lt E.len,cX],_,c-j,by rw[cX],by rw[cX];omega,by omega,?_⟩;rcases h5 with h5|⟨b,q,cs,T',fz,h5,h6,h7⟩
   ·left;rw[cX];omega
   ·right;refine⟨b,q+j*sz,cs,T',fz,by rw[h5];simp[Addr.add],h6,?_⟩;rw[<-vj E.len,<-h7,cX,<-oC,List.drop_take,Nat.sub_mul]
end
theorem PH.put_or {X:PH} {b:Nat} {ob:Obj} (h:X b=none):X.put b ob=X.or (PH.nil.put b ob):=by
 funext k;unfold PH.put PH.or PH.nil;by_cases e:k=b
 ·subst e;simp[h]
 ·simp only[if_neg e];cases X k<;>rfl
theorem PH.or_put {X K:PH} {b:Nat} {ob:Obj} (h:X b=none):(X.or K).put b ob=X.or (K.put b ob):=by
 funext k;unfold PH.put PH.or;by_cases e:k=b
 ·subst e;simp[h]
 ·simp only[if_neg e]
theorem Yr {X K:PH} {b:Nat} {ob:Obj} (h:Disj X K) (hb:X b=none):Disj X (K.put b ob):=fun k hk=>by
 unfold PH.put;rw[if_neg (fun e=>by rw[e]at hk;exact hk hb)];exact h k hk
theorem vv (X:PH):Disj X PH.nil:=fun _ _=>rfl
theorem Disj.none {X K:PH} (h:Disj X K) {b:Nat} (hb:K b≠none):X b=none:=by
 cases e:X b with
 |none=>rfl
 |some o=>exact absurd (h b (by simp[e])) hb
theorem PH.or_right {X K:PH} {b:Nat} {ob:Obj} (h:Disj X K) (hb:K b=some ob):X.or K b=some ob:=PH.or_r h b ob hb
theorem Uy {P:Program} {G:Value->PH->Prop} {nx:List (List Value->PH->Prop)} {ρ:List Value} {g:SV} {np:Nat} {ini:List SV} {tb ta te:Tree} {f:FuncId} {caps:List Value} {X K Ro:PH} {E:List (List Value)->List Value->Prop} {S Sp:List (List Value)->PH->Prop} (I Ix:List (List Value)->List Value->PH->Prop)
  (hit:ItC P f caps Ro K E S Sp) (rC:Au P f=true) (hd:Disj X K) (hg:D P ρ g= .func (.func f) #[] caps.toArray) (vR:∀pre vals X',I pre vals X'->PH.le Ro X') (h0:I [] (ini.map (D P ρ)) X)
  (hr:∀pre xs vals X',E pre xs->vals.length=ini.length->I pre vals X'->xs.length=np/\den P G tb (nx++[fun v h=>I (pre++[xs]) v h,fun v h=>Ix (pre++[xs]) v h]) (ρ++(xs++vals)) X')
  (ha:∀xs vals X' K',S xs K'->Disj X' K'->vals.length=ini.length->I xs vals X'->den P G ta nx (ρ++vals) (X'.or K'))
  (hx:∀pre vals X' K',Sp pre K'->Disj X' K'->vals.length=ini.length->Ix pre vals X'->den P G te nx (ρ++vals) (X'.or K')):den P G (.rf g np ini tb ta te) nx ρ (X.or K):=
 ⟨f,caps,X,K,Ro,E,S,Sp,I,Ix,hg,rC,rfl,hd,hit,vR,h0,hr,ha,hx⟩
theorem Ys {P:Program} {G:Value->PH->Prop} {nx:List (List Value->PH->Prop)} {ρ:List Value} {pf:Bool} {id i:Nat} {o:Oper} {x:Operand} {az:Array Operand} {tys:Array TypeId} {args:List SV} {t:Tree} {l:Nat} {xs:List Value} {X K:PH} {V:Value->PH->Prop}
  (hy:qu P l xs X K V) (ho:o.op= .call ⟨.value x,az,tys⟩) (hx:g9 (x::az.toList) (.func (.yield l) #[] #[]::xs) x= .func (.yield l) #[] #[]) (vA:az.toList.map (g9 (x::az.toList) (.func (.yield l) #[] #[]::xs))=xs) (ha:args.map (D P ρ)= .func (.yield l) #[] #[]::xs) (vB:pf=false)
  (n:∀v X',Disj X' K->V v X'->den P G t nx (ρ++[v]) (X'.or K)):den P G (.eff pf id i o args t) nx ρ (X.or K):=by
 intro w hw;rw[ha];have hA:az.map (g9 (x::az.toList) (.func (.yield l) #[] #[]::xs))=xs.toArray:=by rw[<-Array.toList_inj,iS];exact vA
 have pZ:o.op.operands.toList=x::az.toList:=by simp[ho,Op.operands,Call.operands]
 obtain⟨fn,tmps,asg,body,h1,h2⟩:=hy w hw;have hr:(execOp (g9 (x::az.toList) (.func (.yield l) #[] #[]::xs)) o).run P w= .ok (.round l fn tmps asg body) w:=by
  simp only[execOp,ho,resolve,hx,hA,Deferred.ofValue,aG,aT,aE,invoke];simpa using h1
 unfold Stp;rw[pZ,hr];refine h2.mono fun e w' ⟨v,X',he,hs,hd,hV⟩=>⟨v,he,X'.or K,hs,(fun h=>by rw[vB]at h;cases h),n v X' hd hV⟩
end Go.RX

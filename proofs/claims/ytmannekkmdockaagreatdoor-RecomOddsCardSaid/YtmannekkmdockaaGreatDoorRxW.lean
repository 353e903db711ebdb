/- Lemmas of the proof. -/
import Derived.Test.YtmannekkmdockaaGreatDoorRxV
open Array renaming toList_map->jO
open Go.Result renaming andThen_ok->eH
open Go.Sem renaming run_bind->eI,run_pure->eJ
open List renaming drop_drop->oP,flatMap_append->jE,getElem?_append->kE,getElem?_range->fS,getElem?_take->fF,length_drop->eU,replicate->eK
open Nat renaming add_comm->fL
open Option renaming map_none->iW
namespace Go.RX
open RowKit
section
variable {α:Type} {ce:α->List Value} {sz:Nat}
theorem Kq (hl:∀x,(ce x).length=sz):∀l:List α,(l.flatMap ce).length=l.length*sz:=by
 intro l;induction l with
 |nil=>simp
 |cons x l ih=>simp only[eA,aM,hl,ih,aO,cK,cM];omega
theorem xz (hl:∀x,(ce x).length=sz):∀(l:List α) (j:Nat),(l.flatMap ce).drop (j*sz)=(l.drop j).flatMap ce:=by
 intro l;induction l with
 |nil=>intro j;simp
 |cons x l ih=>
  intro j;cases j with
  |zero=>simp
  |succ j=>rw[eA,cK,cM,fL,<-oP,show sz=(ce x).length from(hl x).symm,List.drop_left,hl x,ih j,List.drop_succ_cons]
theorem LC (hl:∀x,(ce x).length=sz):∀(l:List α) (j:Nat),(l.flatMap ce).take (j*sz)=(l.take j).flatMap ce:=by
 intro l;induction l with
 |nil=>intro j;simp
 |cons x l ih=>
  intro j;cases j with
  |zero=>simp
  |succ j=>
   rw[eA,List.take_succ_cons,eA,cK,cM,List.take_append,hl x,aF (by rw[hl x];omega),Nat.add_sub_cancel,ih j]
theorem LD (hl:∀x,(ce x).length=sz) {l:List α} {j:Nat} {a:α} (h:l[j]? =some a):((l.flatMap ce).drop (j*sz)).take sz=ce a:=by
 rw[xz hl];obtain⟨pX,rfl⟩:=aH.1 h;rw[cV pX,eA,List.take_append_of_le_length (by rw[hl];exact aS _),aF (by rw[hl];exact aS _)]
theorem LE (hl:∀x,(ce x).length=sz) {l:List α} {j:Nat} (hj:j<l.length) (a:α):(l.set j a).flatMap ce=(l.flatMap ce).take (j*sz)++ce a++(l.flatMap ce).drop (j*sz+sz):=by
 rw[LC hl,show j*sz+sz=(j+1)*sz from by rw[cK,cM],xz hl,List.set_eq_take_append_cons_drop,if_pos hj,jE,eA,bH]
theorem b9K:∀(ys zs:List Value) (cs:Array Value) (q:Nat),spl cs q (ys++zs)=spl (spl cs q ys) (q+ys.length) zs:=by
 intro ys;induction ys with
 |nil=>intro zs cs q;rfl
 |cons y ys ih=>intro zs cs q;simp only[cL,spl,ih,aO];congr 1;omega
theorem ya {ve:α->Value} (hl:∀x,(ce x).length=sz) (hc:∀x,(ve x).cells.toList=ce x):∀(l:List α) (k:Nat) (cs:Array Value),((l.zipIdx k).map fun p=>(p.2,ve p.1)).foldl (fun acc p=>spl acc (((some (p.1*sz,sz):Option (Nat×Nat)).getD (0,0)).1) p.2.cells.toList) cs=spl cs (k*sz) (l.flatMap ce):=by
 intro l;induction l with
 |nil=>intro k cs;rfl
 |cons a l ih=>
  intro k cs;simp only[List.zipIdx_cons,aN,List.foldl_cons,eA];rw[ih,b9K,hl,hc,cK,cM];rfl
end
structure El (P:Program) (T e:TypeId) (sz:Nat) (ag:Bool) {α:Type} (ce:α->List Value) (ve:α->Value):Prop where
 und:P.underlying T=some (.slice e)
 has:w9 P e=true
 cel:P.cellsOf e=sz
 agg:An P e=ag
 pos:0<sz
 one1:ag=false->sz=1
 small:sz<=1000
 inf:∃i z,P.info? e=some i/\i.zero=some z/\i.size=sz/\z.cells.size=sz/\i.bytes<=1000
 len:∀x,(ce x).length=sz
 val:∀x,ve x=if ag then .agg (ce x).toArray else(ce x).headD undef
 cells:∀x,(ve x).cells.toList=ce x
 one:∀x,∀c∈ce x,Dm c=true
def SE (H:PH) (sz:Nat) {α:Type} (ce:α->List Value) (v:Value) (l:List α):Prop:=Sl H sz v l.length (l.flatMap ce)
def SO (H0 H:PH) (e:TypeId) (sz:Nat) {α:Type} (ce:α->List Value) (v:Value) (l:List α):Prop:=OwS H0 H e sz v l.length (l.flatMap ce)
def Pt (H:PH) (p:Value) (ws:List Value):Prop:=∃b q cs T fz,p= .pointer (some ⟨b,q,none⟩)/\H b=some (.cells cs T fz)/\q+ws.length<=cs.size/\(cs.toList.drop q).take ws.length=ws
section
variable {α:Type} {ce:α->List Value} {sz:Nat} {H H' H0:PH} {v:Value} {l:List α} {e:TypeId}
theorem SE.mono (h:SE H sz ce v l) (hl:Pl H H'):SE H' sz ce v l:=Sl.mono h hl
theorem SO.mono (h:SO H0 H e sz ce v l) (hl:Pl H H'):SO H0 H' e sz ce v l:=OwS.mono h hl
theorem SO.less {H1:PH} (h:SO H1 H e sz ce v l) (hl:Pl H0 H1):SO H0 H e sz ce v l:=OwS.less h hl
theorem SO.se (h:SO H0 H e sz ce v l):SE H sz ce v l:=OwS.sl h
theorem SO.nil (H0 H:PH) (e:TypeId) (sz:Nat) (ce:α->List Value):SO H0 H e sz ce (.slice none 0 0) []:=OwS.nil H0 H e sz
theorem SE.nil (H:PH) (sz:Nat) (ce:α->List Value):SE H sz ce (.slice none 0 0) []:=(SO.nil H H 0 sz ce).se
theorem SE.len (h:SE H sz ce v l):l.length<9223372036854775808:=by
 have:=Sl.len_le h;simp only[maxLen]at this;omega
theorem SE.cells (h:SE H sz ce v l):v.cells= #[v]:=by
 obtain⟨_,a,c,h2,_⟩:=h;rw[h2];rfl
theorem SE.one (h:SE H sz ce v l):v.cells.size=1/\o0 v.cells:=by
 rw[h.cells];obtain⟨_,a,c,h2,_⟩:=h;refine⟨rfl,fun c hc=> ?_⟩;simp at hc;rw[hc,h2];rfl
end
section
variable {P:Program} {T e:TypeId} {sz:Nat} {ag:Bool} {α:Type} {ce:α->List Value} {ve:α->Value} (E:El P T e sz ag ce ve)
variable {G:Value->PH->Prop} {nx:List (List Value->PH->Prop)} {ρ:List Value} {H H0:PH} {o o1 o2:Oper} {x y x2 y2 lo hi:Operand} {id i id2 i2:Nat} {args args2:List SV} {t:Tree} {v p:Value} {l:List α} {a:α} {k:IntKind} {j:Nat} {pf pf2:Bool} {vs:List Value}
include E
theorem El.vcells (x:α):(ve x).cells.size=sz/\o0 (ve x).cells:=by
 refine⟨?_,fun c hc=> ?_⟩
 ·rw[<-dC,E.cells,E.len]
 ·rw[E.cells]at hc;exact E.one x c hc
theorem Ji (ho:o.op= .call ⟨.builtin .len,#[x],#[T]⟩) (hx:g8 [x] [v] x=v) (h:SE H sz ce v l) (ha:args.map (D P ρ)=[v]) (n:den P G t nx (ρ++[.int .i64 (l.length:Nat)]) H):den P G (.prim id i o args t) nx ρ H:=
 j7 ((uw ho hx E.und h).rds H) ha n
theorem d9Y (ho:o.op= .indexAddr T x y) (hx:g8 [x,y] [v,.int k (j:Nat)] x=v) (hy:g8 [x,y] [v,.int k (j:Nat)] y= .int k (j:Nat)) (h:SE H sz ce v l) (hj:l[j]? =some a):∃p,Yld P o [v,.int k (j:Nat)] p/\Pt H p (ce a):=by
 obtain⟨pX,_⟩:=aH.1 hj;obtain⟨b,q,cs,T',fz,h1,h2,h3,h4⟩:=ux (P:=P) ho hx hy E.und E.has E.cel E.pos h pX;rw[LD E.len hj]at h4;exact⟨_,h1,b,q,cs,T',fz,rfl,h2,by rw[E.len];exact h3,by rw[E.len];exact h4⟩
theorem Yx (ho:o.op= .indexAddr T x y) (hx:g8 [x,y] [v,.int k (j:Nat)] x=v) (hy:g8 [x,y] [v,.int k (j:Nat)] y= .int k (j:Nat)) (h:SE H sz ce v l) (hj:l[j]? =some a) (ha:args.map (D P ρ)=[v,.int k (j:Nat)])
  (n:∀p,Pt H p (ce a)->den P G t nx (ρ++[p]) H):den P G (.prim id i o args t) nx ρ H:=by
 obtain⟨p,h1,h2⟩:=d9Y E ho hx hy h hj;exact j7 (h1.rds H) ha (n p h2)
theorem d3a (ho:o.op= .load e x) (hx:g8 [x] [p] x=p) (h:Pt H p (ce a)):Rds P o [p] H (ve a):=by
 obtain⟨b,q,cs,T',fz,rfl,h2,h3,h4⟩:=h;rw[E.len]at h3 h4;rw[E.val a];cases uW:ag with
 |true=>
  have:=C5 ho hx h2 E.has (by rw[E.agg,uW]) E.cel h3 h4;simpa using this
 |false=>
  have h1:=E.one1 uW;subst h1;have e1:ce a=[(ce a).headD undef]:=by
   have:=E.len a
   match hc:ce a,this with
   |[c],_=>rfl
  rw[e1]at h4;have:=gf ho hx h2 E.has (by rw[E.agg,uW]) E.cel h3 h4;simpa using this
theorem d3b (ho:o.op= .load e x) (hx:g8 [x] [p] x=p) (h:Pt H p (ce a)) (ha:args.map (D P ρ)=[p]) (n:den P G t nx (ρ++[ve a]) H):den P G (.prim id i o args t) nx ρ H:=
 j7 (d3a E ho hx h) ha n
theorem Ey (sR:o1.op= .indexAddr T x y) (sS:o2.op= .load e x2) (hx:g8 [x,y] [v,.int k (j:Nat)] x=v) (hy:g8 [x,y] [v,.int k (j:Nat)] y= .int k (j:Nat)) (rG:∀p,g8 [x2] [p] x2=p) (h:SE H sz ce v l) (hj:l[j]? =some a)
  (ha:args.map (D P ρ)=[v,.int k (j:Nat)]) (rI:∀p,args2.map (D P (ρ++[p]))=[p]) (n:∀p,den P G t nx (ρ++[p]++[ve a]) H):den P G (.prim id i o1 args (.prim id2 i2 o2 args2 t)) nx ρ H:=
 Yx E sR hx hy h hj ha fun p hp=>d3b E sS (rG p) hp (rI p) (n p)
theorem j4 (h:SE H sz ce v l) (hj:l[j]? =some a) (n:∀p,den P G t nx (ρ++[p]++[ve a]) H) (sR:o1.op= .indexAddr T x y:=by exact rfl) (sS:o2.op= .load e x2:=by exact rfl) (ha:args.map (D P ρ)=[v,.int k (j:Nat)]:=by exact rfl) (hx:g8 [x,y] [v,.int k (j:Nat)] x=v:=by exact rfl) (hy:g8 [x,y] [v,.int k (j:Nat)] y= .int k (j:Nat):=by exact rfl) (rG:∀p,g8 [x2] [p] x2=p:=by exact fun _=>rfl) (rI:∀p,args2.map (D P (ρ++[p]))=[p]:=by exact fun _=>rfl):den P G (.prim id i o1 args (.prim id2 i2 o2 args2 t)) nx ρ H:=Ey E sR sS hx hy rG h hj ha rI n
theorem j1 (h:SE H sz ce v l) (n:den P G t nx (ρ++[.int .i64 (l.length:Nat)]) H) (ho:o.op= .call ⟨.builtin .len,#[x],#[T]⟩:=by exact rfl) (hx:g8 [x] [v] x=v:=by exact rfl) (ha:args.map (D P ρ)=[v]:=by exact rfl):den P G (.prim id i o args t) nx ρ H:=Ji E ho hx h ha n
theorem Dp (sR:o1.op= .indexAddr T x y) (sS:o2.op= .store e x2 y2) (hx:g8 [x,y] [v,.int k (j:Nat)] x=v) (hy:g8 [x,y] [v,.int k (j:Nat)] y= .int k (j:Nat)) (rG:∀p,g8 [x2,y2] [p,ve a] x2=p) (vL:∀p,g8 [x2,y2] [p,ve a] y2=ve a)
  (pY:Pl H0 H) (h:SO H0 H e sz ce v l) (hj:j<l.length) (ha:args.map (D P ρ)=[v,.int k (j:Nat)]) (rI:∀p,args2.map (D P (ρ++[p]))=[p,ve a]) (uT:pf=false)
  (n:∀p u H',Pl H0 H'->SO H0 H' e sz ce v (l.set j a)->(∃g ob,H0 g=none/\H'=H.put g ob)->den P G t nx (ρ++[p]++[u]) H'):den P G (.prim id i o1 args (.eff pf id2 i2 o2 args2 t)) nx ρ H:=by
 obtain⟨qD,hv⟩:=h;rcases hv with⟨_,h0⟩|⟨g,cap,cur,rfl,rZ,hg,hnc,uC,qM,vA⟩
 ·omega
 have rO:=E.pos;have hjs:(j+1)*sz<=l.length*sz:=bL _ hj;have a0j:l.length*sz<=cap*sz:=bL _ hnc;rw[cK,cM]at hjs;have xY:=Xz (P:=P) (m:=(j:Int)) (n:=l.length) (c:=cap) sR hx hy E.und E.has aA aA;rw[aV,E.cel,bK]at xY;refine j7 (xY.rds H) ha (t7 (Uf sS (rG _) (vL _) hg E.has (by rw[E.cel];omega) (by rw[E.cel];exact(E.vcells a).1) (E.vcells a).2) (rI _) ?_);rintro u H' ⟨rfl,rfl⟩;subst uT;rw[E.cells];refine⟨fun h=>(nomatch h),n _ _ _ ?_ ⟨by rw[Kq E.len,cJ],.inr ⟨g,cap,_,by rw[cJ],rZ,PH.put_self _ _ _,by rw[cJ];exact hnc,uC,by rw[Xo];exact qM,?_⟩⟩ ⟨g,_,rZ,rfl⟩⟩
 ·intro k' ob hk;rw[PH.put_ne _ _ (fun e=>by rw[e,rZ]at hk;cases hk)];exact pY _ _ hk
 ·have a0k:l.length*sz<=cur.size:=by rw[qM];exact a0j
  have hN:(cur.toList.take (l.length*sz)).length=l.length*sz:=by rw[bM,dC];exact bY a0k
  clear qM a0j;rw[cJ,LE E.len hj,<-vA];apply bG;intro m;rw[fF,cT,fe,E.len,bH,kE,bM,hN,bY aA,kE,E.len,fF,cS,fF,fF,cT,cT];by_cases h1:m<l.length*sz
  ·rw[if_pos h1,if_pos aA];by_cases h2:m<j*sz
   ·rw[if_neg aA,if_pos h2,if_pos h2,if_pos h1]
   ·rw[if_neg h2];by_cases h3:m-j*sz<sz
    ·rw[if_pos aA,if_pos h3]
    ·rw[if_neg aA,if_neg h3,if_pos aA];rw[show j*sz+sz+(m-j*sz-sz)=m from aA,cT]
  ·rw[if_neg h1,if_neg aA,if_neg aA,if_neg aA]
theorem Yy {g n:Nat} {cs:Array Value} (hg:H g=none) (hl:l.length=n) (hn:n<=maxLen) (hc:cs.toList=l.flatMap ce):SO H (H.put g (.cells cs e (0,0))) e sz ce (.slice (some ⟨g,0,none⟩) n n) l:=by
 have hs:cs.size=n*sz:=by rw[<-dC,hc,Kq E.len,hl]
 refine⟨Kq E.len l,.inr ⟨g,n,cs,by rw[hl],hg,PH.put_self _ _ _,aA,hn,hs,?_⟩⟩;rw[hc,aF (by rw[Kq E.len];exact aS _)]
theorem Uu {kl kc:IntKind} {m:Nat} {z:α} (hz:r8 P e=ve z) (ho:o.op= .makeSlice T x y) (hx:g8 [x,y] [.int kl (m:Nat),.int kc (m:Nat)] x= .int kl (m:Nat)) (hy:g8 [x,y] [.int kl (m:Nat),.int kc (m:Nat)] y= .int kc (m:Nat)) (hm:m<=68719476736) (ha:args.map (D P ρ)=[.int kl (m:Nat),.int kc (m:Nat)])
  (n:∀v H',Pl H H'->SO H H' e sz ce v (eK m z)->(∃g ob,H g=none/\H'=H.put g ob)->den P G t nx (ρ++[v]) H'):den P G (.eff pf id i o args t) nx ρ H:=by
 obtain⟨ti,zv,h1,h2,h3,h4,h5⟩:=E.inf;refine t7 (gg ho hx hy E.und h1 h2 h3 (by have:=bU h5 hm;omega) (by simp only[maxLen];omega)) ha ?_;rintro v H' ⟨g,hg,rfl,rfl⟩;refine⟨fun _=>PH.le_put hg _,n _ _ (PH.le_put hg _) (Yy E hg aD (by simp only[maxLen];omega) ?_) ⟨g,_,hg,rfl⟩⟩;have hzv:zv=ve z:=by
  rw[<-hz];unfold r8;rw[h1];simp[h2]
 subst hzv;have rO:=E.pos;have hcz:=E.cells z;have hlz:=E.len z;show(madeCells (ve z).cells (m*sz)).toList=_;have hr:∀m,(eK m z).flatMap ce=(List.range (m*sz)).map fun c=>(ce z)[c%sz]?.getD undef:=by
  intro m;induction m with
  |zero=>simp
  |succ m ih=>
   rw[List.replicate_succ',jE,ih,cK,cM,List.range_add,aT];congr 1;simp only[eA,List.flatMap_nil,bQ];apply bG;intro c;simp only[bO,fS];by_cases hc:c<sz
   ·rw[fS hc];simp only[dF];rw[fL,eB,cP hc,aJ aA];rfl
   ·rw[aW aA,aW (by simp;omega)];rfl
 rw[hr];apply bG;intro c;simp only[madeCells,jO,bO,Array.toList_range];by_cases hc:c<m*sz
 ·rw[fS hc];simp only[dF];congr 1;have hm2:c%sz<sz:=cO _ rO;rw[h4,<-hcz];have:c%sz<(ve z).cells.size:=aA;simp[this]
 ·rw[aW (by simp;omega)];simp
theorem Fp {N:Nat} {parts:Array (Nat×Operand)} (hl:l.length=N) (h0:0<N) (hN:N<=1000) (ho:o.op= .buildSlice T N parts) (hp:parts.toList.map (fun p=>(p.1,g8 (parts.toList.map (·.2)) vs p.2))=(l.zipIdx 0).map fun p=>(p.2,ve p.1)) (ha:args.map (D P ρ)=vs)
  (n:∀v H',Pl H H'->SO H H' e sz ce v l->(∃g ob,H g=none/\H'=H.put g ob)->den P G t nx (ρ++[v]) H'):den P G (.eff pf id i o args t) nx ρ H:=by
 obtain⟨ti,zv,h1,h2,h3,h4,h5⟩:=E.inf;have rO:=E.pos;have vC:=E.small;have hb:N*sz<=1000*1000:=bU hN vC;have hNp:0<N*sz:=eE h0 rO;refine t7 (gh (cells:=(l.flatMap ce).toArray) ho E.und h1 h2 (by rw[h3];omega) (by rw[h3];omega) ?_) ha ?_
 ·rw[h3,hp,Xq _ _ _ fun p hp=> ?_]
  ·rw[ya E.len E.cells,cD,fi (by rw[Kq E.len,hl];simp)]
  ·simp only[aY,Prod.exists]at hp;obtain⟨a,k,hk,rfl⟩:=hp;have qY:=List.mem_zipIdx hk;refine⟨k*sz,sz,rfl,(E.vcells a).1,?_⟩;have:(k+1)*sz<=N*sz:=bL _ aA;rw[cK,cM]at this;simpa using this
 ·rintro v H' ⟨g,hg,rfl,rfl⟩;exact⟨fun _=>PH.le_put hg _,n _ _ (PH.le_put hg _) (Yy E hg hl (by simp only[maxLen];omega) aD) ⟨g,_,hg,rfl⟩⟩
theorem Me (ho:o.op= .buildSlice T 1 #[(0,x)]) (hx:g8 [x] [ve a] x=ve a) (ha:args.map (D P ρ)=[ve a])
  (n:∀v H',Pl H H'->SO H H' e sz ce v [a]->(∃g ob,H g=none/\H'=H.put g ob)->den P G t nx (ρ++[v]) H'):den P G (.eff pf id i o args t) nx ρ H:=
 Fp E (l:=[a]) (N:=1) rfl aC aC ho (by simp[hx]) ha n
theorem jw (ho:o.op= .buildSlice T 0 #[]) (ha:args.map (D P ρ)=[])
  (n:∀v H',Pl H H'->SO H H' e sz ce v []->(∃g ob,H g=none/\H'=H.put g ob)->den P G t nx (ρ++[v]) H'):den P G (.eff pf id i o args t) nx ρ H:=by
 obtain⟨ti,zv,h1,h2,h3,h4,h5⟩:=E.inf;refine t7 (vc ho E.und h1) ha ?_;rintro v H' ⟨g,hg,rfl,rfl⟩;exact⟨fun _=>PH.le_put hg _,n _ _ (PH.le_put hg _) (Yy E hg rfl (by simp only[maxLen];omega) rfl) ⟨g,_,hg,rfl⟩⟩
theorem Pj {l2:List α} {u:Value} (ho:o.op= .call ⟨.builtin .append,#[x,y],#[T,T]⟩) (hx:g8 [x,y] [v,u] x=v) (hy:g8 [x,y] [v,u] y=u) (pY:Pl H0 H) (h:SO H0 H e sz ce v l) (h2:SE H sz ce u l2) (hb:l.length+l2.length<=68719476736)
  (ha:args.map (D P ρ)=[v,u]) (uT:pf=false) (n:∀v' H',Pl H0 H'->SO H0 H' e sz ce v' (l++l2)->(H'=H\/∃g ob,H0 g=none/\H'=H.put g ob/\(H g=none\/∃cs,H g=some (.cells cs e (0,0))))->den P G t nx (ρ++[v']) H'):den P G (.eff pf id i o args t) nx ρ H:=by
 obtain⟨ti,zv,h1,h3,h4,h5,h6⟩:=E.inf;subst uT;by_cases hm:0<l2.length
 ·refine t7 (HB ho hx hy E.und h1 h3 h4 h5 pY h h2 hm (fun c hc=> ?_) (by simp only[maxLen];omega) (by have:=bU hb h6;omega)) ha ?_
  ·rw[List.mem_flatMap]at hc;obtain⟨a,_,ha⟩:=hc;rw[FV];exact E.one a c ha
  ·rintro v' H' ⟨h6,h7,g,ob,h8,h9,vT⟩;refine⟨fun h=>(nomatch h),n v' H' h6 ?_ (.inr ⟨g,ob,h9,h8,vT⟩)⟩;unfold SO;rw[aM,jE];exact h7
 ·have rN:l2=[]:=aI aA;subst rN;refine t7 (uz ho hx hy E.und h1 h.se h2) ha ?_;rintro v' H' ⟨rfl,rfl⟩;exact⟨fun h=>(nomatch h),n _ _ pY (by rw[bQ];exact h) (.inl rfl)⟩
theorem Kr {l2:List α} {u:Value} (ho:o.op= .call ⟨.builtin .append,#[x,y],#[T,T]⟩) (hx:g8 [x,y] [v,u] x=v) (hy:g8 [x,y] [v,u] y=u) (pY:Pl H0 H) (h:SO H0 H e sz ce v l) (h2:SE H sz ce u l2) (hb:l.length+l2.length<=68719476736)
  (ha:args.map (D P ρ)=[v,u]) (uT:pf=false) (n:∀v' H',Pl H0 H'->SO H0 H' e sz ce v' (l++l2)->(H'=H\/∃g ob,H0 g=none/\H'=H.put g ob)->den P G t nx (ρ++[v']) H'):den P G (.eff pf id i o args t) nx ρ H:=
 Pj E ho hx hy pY h h2 hb ha uT fun v' H' a b c=>n v' H' a b (c.imp (fun h=>h) fun⟨g,ob,d,e,_⟩=>⟨g,ob,d,e⟩)
theorem Dk (sR:o1.op= .buildSlice T 1 #[(0,x)]) (sS:o2.op= .call ⟨.builtin .append,#[x2,y2],#[T,T]⟩) (hx:g8 [x] [ve a] x=ve a) (rG:∀p,g8 [x2,y2] [v,p] x2=v) (vL:∀p,g8 [x2,y2] [v,p] y2=p) (pY:Pl H0 H) (h:SO H0 H e sz ce v l) (hb:l.length+1<=68719476736)
  (ha:args.map (D P ρ)=[ve a]) (rI:∀p,args2.map (D P (ρ++[p]))=[v,p]) (uT:pf2=false) (n:∀p v' H',Pl H0 H'->SO H0 H' e sz ce v' (l++[a])->den P G t nx (ρ++[p]++[v']) H'):den P G (.eff pf id i o1 args (.eff pf2 id2 i2 o2 args2 t)) nx ρ H:=by
 refine Me E sR hx ha fun u H1 qR h1 _=> ?_;exact Kr E sS (rG _) (vL _) (pY.trans qR) (h.mono qR) h1.se hb (rI _) uT fun v' H' rN h3 _=>n u v' H' rN h3
theorem LF {vs:List Value} (ho:o.op= .slice T x none (some hi) none) (hx:g8 [x,hi] vs x=v) (hl:g8 [x,hi] vs hi= .int k (j:Nat)) (h:SE H sz ce v l) (h1:j<=l.length):∃u,Yld P o vs u/\SE H sz ce u (l.take j):=by
 obtain⟨u,h2,h3⟩:=uy ho hx hl E.und E.has h h1;refine⟨u,h2,?_⟩;unfold SE;rw[bM,bY h1,<-LC E.len];exact h3
theorem yb {vs:List Value} (ho:o.op= .slice T x (some lo) none none) (hx:g8 [x,lo] vs x=v) (hl:g8 [x,lo] vs lo= .int k (j:Nat)) (h:SE H sz ce v l) (h1:j<=l.length):∃u,Yld P o vs u/\SE H sz ce u (l.drop j):=by
 obtain⟨qD,a,c,h2,h3,h4,h5⟩:=h;obtain⟨⟨ie,uZ⟩,_⟩:=Gx E.has;have qK:o.op.operands.toList=[x,lo]:=by simp[ho,Op.operands]
 have rR:P.cellsOf e=sz:=E.cel;by_cases wZ:c-j=0
 ·have hn:l.length=j:=aA;refine⟨.slice a (l.length-j) (c-j),fun w=> ?_,by rw[Kq E.len,eU],a,0,by rw[wZ,eU],by rw[eU];omega,by simp[maxLen],.inl (by rw[eU];omega)⟩;rw[qK];simp only[execOp,ho,hx,h2,dF,iW,hl,Instr.sliceAt,Instr.slice,eI,run_underlying E.und,eH,eJ,Instr.sliceBounds];rw[run_sliceBound w k (j:Int) l.length _ aA aA];have hcj:c=j:=aA;simp[eH,Ht uZ,aV,hcj]
 ·refine⟨.slice (a.map (·.add (j*sz))) (l.length-j) (c-j),fun w=> ?_,?_⟩
  ·rw[qK];simp only[execOp,ho,hx,h2,dF,iW,hl,Instr.sliceAt,Instr.slice,eI,run_underlying E.und,eH,eJ,Instr.sliceBounds];rw[run_sliceBound w k (j:Int) l.length _ aA aA];have hcj:¬c=j:=aA;simp[eH,Ht uZ,aV,hcj,rR]
  ·refine⟨by rw[Kq E.len,eU],_,c-j,by rw[eU],by rw[eU];omega,aA,?_⟩;rcases h5 with h5|⟨b,q,cs,T',fz,h5,h6,h7⟩
   ·left;rw[eU];omega
   ·right;refine⟨b,q+j*sz,cs,T',fz,by rw[h5];simp[Addr.add],h6,?_⟩;rw[<-xz E.len,<-h7,eU,<-oP,List.drop_take,Nat.sub_mul]
end
theorem PH.put_or {X:PH} {b:Nat} {ob:Obj} (h:X b=none):X.put b ob=X.or (PH.nil.put b ob):=by
 funext k;unfold PH.put PH.or PH.nil;by_cases e:k=b
 ·subst e;simp[h]
 ·simp only[if_neg e];cases X k<;>rfl
theorem PH.or_put {X K:PH} {b:Nat} {ob:Obj} (h:X b=none):(X.or K).put b ob=X.or (K.put b ob):=by
 funext k;unfold PH.put PH.or;by_cases e:k=b
 ·subst e;simp[h]
 ·simp only[if_neg e]
theorem yc {X K:PH} {b:Nat} {ob:Obj} (h:Disj X K) (hb:X b=none):Disj X (K.put b ob):=fun k hk=>by
 unfold PH.put;rw[if_neg (fun e=>by rw[e]at hk;exact hk hb)];exact h k hk
theorem LG (X:PH):Disj X PH.nil:=fun _ _=>rfl
theorem Disj.none {X K:PH} (h:Disj X K) {b:Nat} (hb:K b≠none):X b=none:=by
 cases e:X b with
 |none=>rfl
 |some o=>exact absurd (h b (by simp[e])) hb
theorem PH.or_right {X K:PH} {b:Nat} {ob:Obj} (h:Disj X K) (hb:K b=some ob):X.or K b=some ob:=PH.or_r h b ob hb
theorem jx {P:Program} {G:Value->PH->Prop} {nx:List (List Value->PH->Prop)} {ρ:List Value} {g:SV} {np:Nat} {ini:List SV} {tb ta te:Tree} {f:FuncId} {caps:List Value} {X K Ro:PH} {E:List (List Value)->List Value->Prop} {S Sp:List (List Value)->PH->Prop} (I Ix:List (List Value)->List Value->PH->Prop)
  (hit:ItC P f caps Ro K E S Sp) (sJ:Da P f=true) (hd:Disj X K) (hg:D P ρ g= .func (.func f) #[] caps.toArray) (hRo:∀pre vals X',I pre vals X'->Pl Ro X') (h0:I [] (ini.map (D P ρ)) X)
  (hr:∀pre xs vals X',E pre xs->vals.length=ini.length->I pre vals X'->xs.length=np/\den P G tb (nx++[fun v h=>I (pre++[xs]) v h,fun v h=>Ix (pre++[xs]) v h]) (ρ++(xs++vals)) X')
  (ha:∀xs vals X' K',S xs K'->Disj X' K'->vals.length=ini.length->I xs vals X'->den P G ta nx (ρ++vals) (X'.or K'))
  (hx:∀pre vals X' K',Sp pre K'->Disj X' K'->vals.length=ini.length->Ix pre vals X'->den P G te nx (ρ++vals) (X'.or K')):den P G (.rf g np ini tb ta te) nx ρ (X.or K):=
 ⟨f,caps,X,K,Ro,E,S,Sp,I,Ix,hg,sJ,rfl,hd,hit,hRo,h0,hr,ha,hx⟩
theorem yd {P:Program} {G:Value->PH->Prop} {nx:List (List Value->PH->Prop)} {ρ:List Value} {pf:Bool} {id i:Nat} {o:Oper} {x:Operand} {az:Array Operand} {tys:Array TypeId} {args:List SV} {t:Tree} {l:Nat} {xs:List Value} {X K:PH} {V:Value->PH->Prop}
  (hy:ui P l xs X K V) (ho:o.op= .call ⟨.value x,az,tys⟩) (hx:g8 (x::az.toList) (.func (.yield l) #[] #[]::xs) x= .func (.yield l) #[] #[]) (tI:az.toList.map (g8 (x::az.toList) (.func (.yield l) #[] #[]::xs))=xs) (ha:args.map (D P ρ)= .func (.yield l) #[] #[]::xs) (uT:pf=false)
  (n:∀v X',Disj X' K->V v X'->den P G t nx (ρ++[v]) (X'.or K)):den P G (.eff pf id i o args t) nx ρ (X.or K):=by
 intro w hw;rw[ha];have hA:az.map (g8 (x::az.toList) (.func (.yield l) #[] #[]::xs))=xs.toArray:=by rw[<-cI,jO];exact tI
 have qK:o.op.operands.toList=x::az.toList:=by simp[ho,Op.operands,Call.operands]
 obtain⟨fn,tmps,asg,body,h1,h2⟩:=hy w hw;have hr:(execOp (g8 (x::az.toList) (.func (.yield l) #[] #[]::xs)) o).run P w= .ok (.round l fn tmps asg body) w:=by
  simp only[execOp,ho,resolve,hx,hA,Deferred.ofValue,eI,eJ,eH,invoke];simpa using h1
 unfold Stp;rw[qK,hr];refine h2.mono fun e w' ⟨v,X',he,hs,hd,hV⟩=>⟨v,he,X'.or K,hs,(fun h=>by rw[uT]at h;cases h),n v X' hd hV⟩
end Go.RX

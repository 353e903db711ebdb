/- Lemmas of the proof. -/
import Derived.Test.YtcdnhlplkhldbaaGreatDoorWdB
import Derived.Test.YtcdnhlplkhldbaaGreatDoorProg
open Go.Result renaming andThen_ok->eJ
open Go.Sem renaming run_bind->eK,run_pure->eL
open Int renaming emod_eq_of_lt->jP,fdiv_eq_ediv_of_nonneg->jI
open List renaming drop_drop->oL,flatMap_append->kE,flatMap_cons->fJ,getElem?_append->mQ,length_drop->fG,pairwise_cons->jE,pairwise_lt_range->lZ,range->eO,replicate->eS,size_toArray->jK
open Nat renaming add_comm->iP,and_le_left->iI,eq_of_testBit_eq->fA,or_lt_two_pow->iY,pow_succ->pJ,testBit_and->jB,testBit_lt_two_pow->mJ,testBit_two_pow->fK,testBit_two_pow_mul_add->lD
open Option renaming map_none->jO
set_option linter.all false
set_option maxRecDepth 100000
open Go.IntKind renaming wrap->wQ
namespace Go.RX
open RowKit
section
variable {α:Type} {ce:α->List Value} {sz:Nat}
def Jt (hl:∀x,(ce x).length=sz):∀l:List α,(l.flatMap ce).length=l.length*sz:=by
 intro l;induction l with
 |nil=>simp
 |cons x l ih=>simp only[fJ,aL,hl,ih,aP,dC,cQ];omega
def yv (hl:∀x,(ce x).length=sz):∀(l:List α) (j:Nat),(l.flatMap ce).drop (j*sz)=(l.drop j).flatMap ce:=by
 intro l;induction l with
 |nil=>intro j;simp
 |cons x l ih=>
  intro j;cases j with
  |zero=>simp
  |succ j=>rw[fJ,dC,cQ,iP,<-oL,show sz=(ce x).length from(hl x).symm,List.drop_left,hl x,ih j,List.drop_succ_cons]
def d4f (hl:∀x,(ce x).length=sz):∀(l:List α) (j:Nat),(l.flatMap ce).take (j*sz)=(l.take j).flatMap ce:=by
 intro l;induction l with
 |nil=>intro j;simp
 |cons x l ih=>
  intro j;cases j with
  |zero=>simp
  |succ j=>
   rw[fJ,List.take_succ_cons,fJ,dC,cQ,List.take_append,hl x,aI (by rw[hl x];omega),Nat.add_sub_cancel,ih j]
def LS (hl:∀x,(ce x).length=sz) {l:List α} {j:Nat} {a:α} (h:l[j]? =some a):((l.flatMap ce).drop (j*sz)).take sz=ce a:=by
 rw[yv hl];obtain⟨qB,rfl⟩:=aH.1 h;rw[dY qB,fJ,dG (by rw[hl];exact aS _),aI (by rw[hl];exact aS _)]
def d9E (hl:∀x,(ce x).length=sz) {l:List α} {j:Nat} (hj:j<l.length) (a:α):(l.set j a).flatMap ce=(l.flatMap ce).take (j*sz)++ce a++(l.flatMap ce).drop (j*sz+sz):=by
 rw[d4f hl,show j*sz+sz=(j+1)*sz from by rw[dC,cQ],yv hl,List.set_eq_take_append_cons_drop,if_pos hj,kE,fJ,bL]
def b8Y:∀(ys zs:List Value) (cs:Array Value) (q:Nat),spl cs q (ys++zs)=spl (spl cs q ys) (q+ys.length) zs:=by
 intro ys;induction ys with
 |nil=>intro zs cs q;rfl
 |cons y ys ih=>intro zs cs q;simp only[dM,spl,ih,aP];congr 1;omega
def LU {ve:α->Value} (hl:∀x,(ce x).length=sz) (hc:∀x,(ve x).cells.toList=ce x):∀(l:List α) (k:Nat) (cs:Array Value),((l.zipIdx k).map fun p=>(p.2,ve p.1)).foldl (fun acc p=>spl acc (((some (p.1*sz,sz):Option (Nat×Nat)).getD (0,0)).1) p.2.cells.toList) cs=spl cs (k*sz) (l.flatMap ce):=by
 intro l;induction l with
 |nil=>intro k cs;rfl
 |cons a l ih=>
  intro k cs;simp only[List.zipIdx_cons,bI,List.foldl_cons,fJ];rw[ih,b8Y,hl,hc,dC,cQ];rfl
end
structure El (P:Program) (T e:TypeId) (sz:Nat) (ag:Bool) {α:Type} (ce:α->List Value) (ve:α->Value):Prop where
 und:P.underlying T=some (.slice e)
 has:r9 P e=true
 cel:P.cellsOf e=sz
 agg:r8 P e=ag
 pos:0<sz
 one1:ag=false->sz=1
 small:sz<=1000
 inf:∃i z,P.info? e=some i/\i.zero=some z/\i.size=sz/\z.cells.size=sz/\i.bytes<=1000
 len:∀x,(ce x).length=sz
 val:∀x,ve x=if ag then .agg (ce x).toArray else(ce x).headD undef
 cells:∀x,(ve x).cells.toList=ce x
 one:∀x,∀c∈ce x,y6 c=true
def SE (H:PH) (sz:Nat) {α:Type} (ce:α->List Value) (v:Value) (l:List α):Prop:=Sl H sz v l.length (l.flatMap ce)
def SO (H0 H:PH) (e:TypeId) (sz:Nat) {α:Type} (ce:α->List Value) (v:Value) (l:List α):Prop:=OwS H0 H e sz v l.length (l.flatMap ce)
def Pt (H:PH) (p:Value) (ws:List Value):Prop:=∃b q cs T fz,p= .pointer (some ⟨b,q,none⟩)/\H b=some (.cells cs T fz)/\q+ws.length<=cs.size/\(cs.toList.drop q).take ws.length=ws
section
variable {α:Type} {ce:α->List Value} {sz:Nat} {H H' H0:PH} {v:Value} {l:List α} {e:TypeId}
def SE.mono (h:SE H sz ce v l) (hl:Pl H H'):SE H' sz ce v l:=Sl.mono h hl
def SO.mono (h:SO H0 H e sz ce v l) (hl:Pl H H'):SO H0 H' e sz ce v l:=OwS.mono h hl
def SO.less {H1:PH} (h:SO H1 H e sz ce v l) (hl:Pl H0 H1):SO H0 H e sz ce v l:=OwS.less h hl
def SO.se (h:SO H0 H e sz ce v l):SE H sz ce v l:=OwS.sl h
def SO.nil (H0 H:PH) (e:TypeId) (sz:Nat) (ce:α->List Value):SO H0 H e sz ce (.slice none 0 0) []:=OwS.nil H0 H e sz
def SE.nil (H:PH) (sz:Nat) (ce:α->List Value):SE H sz ce (.slice none 0 0) []:=(SO.nil H H 0 sz ce).se
def SE.len (h:SE H sz ce v l):l.length<9223372036854775808:=by
 have:=Sl.len_le h;simp only[maxLen]at this;omega
def SE.cells (h:SE H sz ce v l):v.cells= #[v]:=by
 obtain⟨_,a,c,h2,_⟩:=h;rw[h2];rfl
def SE.one (h:SE H sz ce v l):v.cells.size=1/\j0 v.cells:=by
 rw[h.cells];obtain⟨_,a,c,h2,_⟩:=h;refine⟨rfl,fun c hc=> ?_⟩;simp at hc;rw[hc,h2];rfl
end
section
variable {P:Program} {T e:TypeId} {sz:Nat} {ag:Bool} {α:Type} {ce:α->List Value} {ve:α->Value} (E:El P T e sz ag ce ve)
variable {G Xp:Value->PH->Prop} {nx:List (List Value->PH->Prop)} {ρ:List Value} {H H0:PH} {o o1 o2:Oper} {x y x2 y2 lo hi:Operand} {id i id2 i2:Nat} {args args2:List SV} {t:Tree} {v p:Value} {l:List α} {a:α} {k:IntKind} {j:Nat} {pf pf2:Bool} {vs:List Value}
include E
def El.vcells (x:α):(ve x).cells.size=sz/\j0 (ve x).cells:=by
 refine⟨?_,fun c hc=> ?_⟩
 ·rw[<-bA,E.cells,E.len]
 ·rw[E.cells]at hc;exact E.one x c hc
def Dc (ho:o.op= .call ⟨.builtin .len,#[x],#[T]⟩) (hx:e8 [x] [v] x=v) (h:SE H sz ce v l) (ha:args.map (D P ρ)=[v]) (n:den P G Xp t nx (ρ++[.int .i64 (l.length:Nat)]) H):den P G Xp (.prim id i o args t) nx ρ H:=
 j8 ((vi ho hx E.und h).rds H) ha n
def e2M (ho:o.op= .indexAddr T x y) (hx:e8 [x,y] [v,.int k (j:Nat)] x=v) (hy:e8 [x,y] [v,.int k (j:Nat)] y= .int k (j:Nat)) (h:SE H sz ce v l) (hj:l[j]? =some a):∃p,Yld P o [v,.int k (j:Nat)] p/\Pt H p (ce a):=by
 obtain⟨qB,_⟩:=aH.1 hj;obtain⟨b,q,cs,T',fz,h1,h2,h3,h4⟩:=vj (P:=P) ho hx hy E.und E.has E.cel E.pos h qB;rw[LS E.len hj]at h4;exact⟨_,h1,b,q,cs,T',fz,rfl,h2,by rw[E.len];exact h3,by rw[E.len];exact h4⟩
def jm (ho:o.op= .indexAddr T x y) (hx:e8 [x,y] [v,.int k (j:Nat)] x=v) (hy:e8 [x,y] [v,.int k (j:Nat)] y= .int k (j:Nat)) (h:SE H sz ce v l) (hj:l[j]? =some a) (ha:args.map (D P ρ)=[v,.int k (j:Nat)])
  (n:∀p,Pt H p (ce a)->den P G Xp t nx (ρ++[p]) H):den P G Xp (.prim id i o args t) nx ρ H:=by
 obtain⟨p,h1,h2⟩:=e2M E ho hx hy h hj;exact j8 (h1.rds H) ha (n p h2)
def d4g (ho:o.op= .load e x) (hx:e8 [x] [p] x=p) (h:Pt H p (ce a)):Rds P o [p] H (ve a):=by
 obtain⟨b,q,cs,T',fz,rfl,h2,h3,h4⟩:=h;rw[E.len]at h3 h4;rw[E.val a];cases tM:ag with
 |true=>
  have:=IG ho hx h2 E.has (by rw[E.agg,tM]) E.cel h3 h4;simpa using this
 |false=>
  have h1:=E.one1 tM;subst h1;have e1:ce a=[(ce a).headD undef]:=by
   have:=E.len a
   match hc:ce a,this with
   |[c],_=>rfl
  rw[e1]at h4;have:=vo ho hx h2 E.has (by rw[E.agg,tM]) E.cel h3 h4;simpa using this
def d4h (ho:o.op= .load e x) (hx:e8 [x] [p] x=p) (h:Pt H p (ce a)) (ha:args.map (D P ρ)=[p]) (n:den P G Xp t nx (ρ++[ve a]) H):den P G Xp (.prim id i o args t) nx ρ H:=
 j8 (d4g E ho hx h) ha n
def Ac (tU:o1.op= .indexAddr T x y) (tV:o2.op= .load e x2) (hx:e8 [x,y] [v,.int k (j:Nat)] x=v) (hy:e8 [x,y] [v,.int k (j:Nat)] y= .int k (j:Nat)) (sD:∀p,e8 [x2] [p] x2=p) (h:SE H sz ce v l) (hj:l[j]? =some a)
  (ha:args.map (D P ρ)=[v,.int k (j:Nat)]) (sV:∀p,args2.map (D P (ρ++[p]))=[p]) (n:∀p,den P G Xp t nx (ρ++[p]++[ve a]) H):den P G Xp (.prim id i o1 args (.prim id2 i2 o2 args2 t)) nx ρ H:=
 jm E tU hx hy h hj ha fun p hp=>d4h E tV (sD p) hp (sV p) (n p)
def n9 (h:SE H sz ce v l) (hj:l[j]? =some a) (n:∀p,den P G Xp t nx (ρ++[p]++[ve a]) H) (tU:o1.op= .indexAddr T x y:=by exact rfl) (tV:o2.op= .load e x2:=by exact rfl) (ha:args.map (D P ρ)=[v,.int k (j:Nat)]:=by exact rfl) (hx:e8 [x,y] [v,.int k (j:Nat)] x=v:=by exact rfl) (hy:e8 [x,y] [v,.int k (j:Nat)] y= .int k (j:Nat):=by exact rfl) (sD:∀p,e8 [x2] [p] x2=p:=by exact fun _=>rfl) (sV:∀p,args2.map (D P (ρ++[p]))=[p]:=by exact fun _=>rfl):den P G Xp (.prim id i o1 args (.prim id2 i2 o2 args2 t)) nx ρ H:=Ac E tU tV hx hy sD h hj ha sV n
def m9 (h:SE H sz ce v l) (n:den P G Xp t nx (ρ++[.int .i64 (l.length:Nat)]) H) (ho:o.op= .call ⟨.builtin .len,#[x],#[T]⟩:=by exact rfl) (hx:e8 [x] [v] x=v:=by exact rfl) (ha:args.map (D P ρ)=[v]:=by exact rfl):den P G Xp (.prim id i o args t) nx ρ H:=Dc E ho hx h ha n
def Ee (tU:o1.op= .indexAddr T x y) (tV:o2.op= .store e x2 y2) (hx:e8 [x,y] [v,.int k (j:Nat)] x=v) (hy:e8 [x,y] [v,.int k (j:Nat)] y= .int k (j:Nat)) (sD:∀p,e8 [x2,y2] [p,ve a] x2=p) (hy2:∀p,e8 [x2,y2] [p,ve a] y2=ve a)
  (pY:Pl H0 H) (h:SO H0 H e sz ce v l) (hj:j<l.length) (ha:args.map (D P ρ)=[v,.int k (j:Nat)]) (sV:∀p,args2.map (D P (ρ++[p]))=[p,ve a]) (vC:pf=false)
  (n:∀p u H',Pl H0 H'->SO H0 H' e sz ce v (l.set j a)->(∃g ob,H0 g=none/\H'=H.put g ob)->den P G Xp t nx (ρ++[p]++[u]) H'):den P G Xp (.prim id i o1 args (.eff pf id2 i2 o2 args2 t)) nx ρ H:=by
 obtain⟨qC,hv⟩:=h;rcases hv with⟨_,h0⟩|⟨g,cap,cur,rfl,vX,hg,hnc,uW,qR,htk⟩
 ·omega
 have rS:=E.pos;have hjs:(j+1)*sz<=l.length*sz:=bC _ hj;have tX:l.length*sz<=cap*sz:=bC _ hnc;rw[dC,cQ]at hjs;have hix:=vd (P:=P) (m:=(j:Int)) (n:=l.length) (c:=cap) tU hx hy E.und E.has aA aA;rw[bU,E.cel,bJ]at hix;refine j8 (hix.rds H) ha (j1 (Yy tV (sD _) (hy2 _) hg E.has (by rw[E.cel];omega) (by rw[E.cel];exact(E.vcells a).1) (E.vcells a).2) (sV _) ?_);rintro u H' ⟨rfl,rfl⟩;subst vC;rw[E.cells];refine⟨fun h=>(nomatch h),n _ _ _ ?_ ⟨by rw[Jt E.len,cX],.inr ⟨g,cap,_,by rw[cX],vX,PH.put_self _ _ _,by rw[cX];exact hnc,uW,by rw[Yp];exact qR,?_⟩⟩ ⟨g,_,vX,rfl⟩⟩
 ·intro k' ob hk;rw[PH.put_ne _ _ (fun e=>by rw[e,vX]at hk;cases hk)];exact pY _ _ hk
 ·have a1f:l.length*sz<=cur.size:=by rw[qR];exact tX
  have hN:(cur.toList.take (l.length*sz)).length=l.length*sz:=by rw[bH,bA];exact cD a1f
  clear qR tX;rw[cX,d9E E.len hj,<-htk];apply bP;intro m;rw[eI,cY,fx,E.len,bL,mQ,bH,hN,cD aA,mQ,E.len,eI,dP,eI,eI,cY,cY];by_cases h1:m<l.length*sz
  ·rw[if_pos h1,if_pos aA];by_cases h2:m<j*sz
   ·rw[if_neg aA,if_pos h2,if_pos h2,if_pos h1]
   ·rw[if_neg h2];by_cases h3:m-j*sz<sz
    ·rw[if_pos aA,if_pos h3]
    ·rw[if_neg aA,if_neg h3,if_pos aA];rw[show j*sz+sz+(m-j*sz-sz)=m from aA,cY]
  ·rw[if_neg h1,if_neg aA,if_neg aA,if_neg aA]
def Vt {g n:Nat} {cs:Array Value} (hg:H g=none) (hl:l.length=n) (hn:n<=maxLen) (hc:cs.toList=l.flatMap ce):SO H (H.put g (.cells cs e (0,0))) e sz ce (.slice (some ⟨g,0,none⟩) n n) l:=by
 have hs:cs.size=n*sz:=by rw[<-bA,hc,Jt E.len,hl]
 refine⟨Jt E.len l,.inr ⟨g,n,cs,by rw[hl],hg,PH.put_self _ _ _,aA,hn,hs,?_⟩⟩;rw[hc,aI (by rw[Jt E.len];exact aS _)]
def Ot {kl kc:IntKind} {m:Nat} {z:α} (hz:j3 P e=ve z) (ho:o.op= .makeSlice T x y) (hx:e8 [x,y] [.int kl (m:Nat),.int kc (m:Nat)] x= .int kl (m:Nat)) (hy:e8 [x,y] [.int kl (m:Nat),.int kc (m:Nat)] y= .int kc (m:Nat)) (hm:m<=68719476736) (ha:args.map (D P ρ)=[.int kl (m:Nat),.int kc (m:Nat)])
  (n:∀v H',Pl H H'->SO H H' e sz ce v (eS m z)->(∃g ob,H g=none/\H'=H.put g ob)->den P G Xp t nx (ρ++[v]) H'):den P G Xp (.eff pf id i o args t) nx ρ H:=by
 obtain⟨ti,zv,h1,h2,h3,h4,h5⟩:=E.inf;refine j1 (vu ho hx hy E.und h1 h2 h3 (by have:=eH h5 hm;omega) (by simp only[maxLen];omega)) ha ?_;rintro v H' ⟨g,hg,rfl,rfl⟩;refine⟨fun _=>PH.le_put hg _,n _ _ (PH.le_put hg _) (Vt E hg aD (by simp only[maxLen];omega) ?_) ⟨g,_,hg,rfl⟩⟩;have hzv:zv=ve z:=by
  rw[<-hz];unfold j3;rw[h1];simp[h2]
 subst hzv;have rS:=E.pos;have hcz:=E.cells z;have hlz:=E.len z;show(madeCells (ve z).cells (m*sz)).toList=_;have hr:∀m,(eS m z).flatMap ce=(eO (m*sz)).map fun c=>(ce z)[c%sz]?.getD undef:=by
  intro m;induction m with
  |zero=>simp
  |succ m ih=>
   rw[List.replicate_succ',kE,ih,dC,cQ,List.range_add,bM];congr 1;simp only[fJ,List.flatMap_nil,cC];apply bP;intro c;simp only[aX,cP];by_cases hc:c<sz
   ·rw[cP hc];simp only[cR];rw[iP,Nat.add_mul_mod_self_right,dV hc,aG aA];rfl
   ·rw[aO aA,aO (by simp;omega)];rfl
 rw[hr];apply bP;intro c;simp only[madeCells,dR,aX,Array.toList_range];by_cases hc:c<m*sz
 ·rw[cP hc];simp only[cR];congr 1;have wV:c%sz<sz:=cI _ rS;rw[h4,<-hcz];have:c%sz<(ve z).cells.size:=aA;simp[this]
 ·rw[aO (by simp;omega)];simp
def Gj {N:Nat} {parts:Array (Nat×Operand)} (hl:l.length=N) (h0:0<N) (hN:N<=1000) (ho:o.op= .buildSlice T N parts) (hp:parts.toList.map (fun p=>(p.1,e8 (parts.toList.map (·.2)) vs p.2))=(l.zipIdx 0).map fun p=>(p.2,ve p.1)) (ha:args.map (D P ρ)=vs)
  (n:∀v H',Pl H H'->SO H H' e sz ce v l->(∃g ob,H g=none/\H'=H.put g ob)->den P G Xp t nx (ρ++[v]) H'):den P G Xp (.eff pf id i o args t) nx ρ H:=by
 obtain⟨ti,zv,h1,h2,h3,h4,h5⟩:=E.inf;have rS:=E.pos;have hsm:=E.small;have hb:N*sz<=1000*1000:=eH hN hsm;have hNp:0<N*sz:=Nat.mul_pos h0 rS;refine j1 (vw (cells:=(l.flatMap ce).toArray) ho E.und h1 h2 (by rw[h3];omega) (by rw[h3];omega) ?_) ha ?_
 ·rw[h3,hp,gh _ _ _ fun p hp=> ?_]
  ·rw[LU E.len E.cells,bV,gd (by rw[Jt E.len,hl];simp)]
  ·simp only[aZ,Prod.exists]at hp;obtain⟨a,k,hk,rfl⟩:=hp;have rA:=List.mem_zipIdx hk;refine⟨k*sz,sz,rfl,(E.vcells a).1,?_⟩;have:(k+1)*sz<=N*sz:=bC _ aA;rw[dC,cQ]at this;simpa using this
 ·rintro v H' ⟨g,hg,rfl,rfl⟩;exact⟨fun _=>PH.le_put hg _,n _ _ (PH.le_put hg _) (Vt E hg hl (by simp only[maxLen];omega) aD) ⟨g,_,hg,rfl⟩⟩
def jo (ho:o.op= .buildSlice T 1 #[(0,x)]) (hx:e8 [x] [ve a] x=ve a) (ha:args.map (D P ρ)=[ve a])
  (n:∀v H',Pl H H'->SO H H' e sz ce v [a]->(∃g ob,H g=none/\H'=H.put g ob)->den P G Xp t nx (ρ++[v]) H'):den P G Xp (.eff pf id i o args t) nx ρ H:=
 Gj E (l:=[a]) (N:=1) rfl aC aC ho (by simp[hx]) ha n
def b5s (ho:o.op= .buildSlice T 0 #[]) (ha:args.map (D P ρ)=[])
  (n:∀v H',Pl H H'->SO H H' e sz ce v []->(∃g ob,H g=none/\H'=H.put g ob)->den P G Xp t nx (ρ++[v]) H'):den P G Xp (.eff pf id i o args t) nx ρ H:=by
 obtain⟨ti,zv,h1,h2,h3,h4,h5⟩:=E.inf;refine j1 (IH ho E.und h1) ha ?_;rintro v H' ⟨g,hg,rfl,rfl⟩;exact⟨fun _=>PH.le_put hg _,n _ _ (PH.le_put hg _) (Vt E hg rfl (by simp only[maxLen];omega) rfl) ⟨g,_,hg,rfl⟩⟩
def b3k {l2:List α} {u:Value} (ho:o.op= .call ⟨.builtin .append,#[x,y],#[T,T]⟩) (hx:e8 [x,y] [v,u] x=v) (hy:e8 [x,y] [v,u] y=u) (pY:Pl H0 H) (h:SO H0 H e sz ce v l) (h2:SE H sz ce u l2) (hb:l.length+l2.length<=68719476736)
  (ha:args.map (D P ρ)=[v,u]) (vC:pf=false) (n:∀v' H',Pl H0 H'->SO H0 H' e sz ce v' (l++l2)->(H'=H\/∃g ob,H0 g=none/\H'=H.put g ob/\(H g=none\/∃cs,H g=some (.cells cs e (0,0))))->den P G Xp t nx (ρ++[v']) H'):den P G Xp (.eff pf id i o args t) nx ρ H:=by
 obtain⟨ti,zv,h1,h3,h4,h5,h6⟩:=E.inf;subst vC;by_cases hm:0<l2.length
 ·refine j1 (F2 ho hx hy E.und h1 h3 h4 h5 pY h h2 hm (fun c hc=> ?_) (by simp only[maxLen];omega) (by have:=eH hb h6;omega)) ha ?_
  ·rw[List.mem_flatMap]at hc;obtain⟨a,_,ha⟩:=hc;rw[tw];exact E.one a c ha
  ·rintro v' H' ⟨h6,h7,g,ob,h8,h9,vJ⟩;refine⟨fun h=>(nomatch h),n v' H' h6 ?_ (.inr ⟨g,ob,h9,h8,vJ⟩)⟩;unfold SO;rw[aL,kE];exact h7
 ·have tO:l2=[]:=aT aA;subst tO;refine j1 (F3 ho hx hy E.und h1 h.se h2) ha ?_;rintro v' H' ⟨rfl,rfl⟩;exact⟨fun h=>(nomatch h),n _ _ pY (by rw[cC];exact h) (.inl rfl)⟩
def LW {l2:List α} {u:Value} (ho:o.op= .call ⟨.builtin .append,#[x,y],#[T,T]⟩) (hx:e8 [x,y] [v,u] x=v) (hy:e8 [x,y] [v,u] y=u) (pY:Pl H0 H) (h:SO H0 H e sz ce v l) (h2:SE H sz ce u l2) (hb:l.length+l2.length<=68719476736)
  (ha:args.map (D P ρ)=[v,u]) (vC:pf=false) (n:∀v' H',Pl H0 H'->SO H0 H' e sz ce v' (l++l2)->(H'=H\/∃g ob,H0 g=none/\H'=H.put g ob)->den P G Xp t nx (ρ++[v']) H'):den P G Xp (.eff pf id i o args t) nx ρ H:=
 b3k E ho hx hy pY h h2 hb ha vC fun v' H' a b c=>n v' H' a b (c.imp (fun h=>h) fun⟨g,ob,d,e,_⟩=>⟨g,ob,d,e⟩)
def Cf (tU:o1.op= .buildSlice T 1 #[(0,x)]) (tV:o2.op= .call ⟨.builtin .append,#[x2,y2],#[T,T]⟩) (hx:e8 [x] [ve a] x=ve a) (sD:∀p,e8 [x2,y2] [v,p] x2=v) (hy2:∀p,e8 [x2,y2] [v,p] y2=p) (pY:Pl H0 H) (h:SO H0 H e sz ce v l) (hb:l.length+1<=68719476736)
  (ha:args.map (D P ρ)=[ve a]) (sV:∀p,args2.map (D P (ρ++[p]))=[v,p]) (vC:pf2=false) (n:∀p v' H',Pl H0 H'->SO H0 H' e sz ce v' (l++[a])->den P G Xp t nx (ρ++[p]++[v']) H'):den P G Xp (.eff pf id i o1 args (.eff pf2 id2 i2 o2 args2 t)) nx ρ H:=by
 refine jo E tU hx ha fun u H1 rL h1 _=> ?_;exact LW E tV (sD _) (hy2 _) (pY.trans rL) (h.mono rL) h1.se hb (sV _) vC fun v' H' tO h3 _=>n u v' H' tO h3
def c1I {vs:List Value} (ho:o.op= .slice T x (some lo) none none) (hx:e8 [x,lo] vs x=v) (hl:e8 [x,lo] vs lo= .int k (j:Nat)) (h:SE H sz ce v l) (h1:j<=l.length):∃u,Yld P o vs u/\SE H sz ce u (l.drop j):=by
 obtain⟨qC,a,c,h2,h3,h4,h5⟩:=h;obtain⟨⟨ie,hie⟩,_⟩:=Fh E.has;have qE:o.op.operands.toList=[x,lo]:=by simp[ho,Op.operands]
 have rN:P.cellsOf e=sz:=E.cel;by_cases vV:c-j=0
 ·have hn:l.length=j:=aA;refine⟨.slice a (l.length-j) (c-j),fun w=> ?_,by rw[Jt E.len,fG],a,0,by rw[vV,fG],by rw[fG];omega,by simp[maxLen],.inl (by rw[fG];omega)⟩;rw[qE];simp only[execOp,ho,hx,h2,cR,jO,hl,Instr.sliceAt,Instr.slice,eK,run_underlying E.und,eJ,eL,Instr.sliceBounds];rw[run_sliceBound w k (j:Int) l.length _ aA aA];have hcj:c=j:=aA;simp[eJ,Gy hie,bU,hcj]
 ·refine⟨.slice (a.map (·.add (j*sz))) (l.length-j) (c-j),fun w=> ?_,?_⟩
  ·rw[qE];simp only[execOp,ho,hx,h2,cR,jO,hl,Instr.sliceAt,Instr.slice,eK,run_underlying E.und,eJ,eL,Instr.sliceBounds];rw[run_sliceBound w k (j:Int) l.length _ aA aA];have hcj:¬c=j:=aA;simp[eJ,Gy hie,bU,hcj,rN]
  ·refine⟨by rw[Jt E.len,fG],_,c-j,by rw[fG],by rw[fG];omega,aA,?_⟩;rcases h5 with h5|⟨b,q,cs,T',fz,h5,h6,h7⟩
   ·left;rw[fG];omega
   ·right;refine⟨b,q+j*sz,cs,T',fz,by rw[h5];simp[Addr.add],h6,?_⟩;rw[<-yv E.len,<-h7,fG,<-oL,List.drop_take,Nat.sub_mul]
end
def PH.put_or {X:PH} {b:Nat} {ob:Obj} (h:X b=none):X.put b ob=X.or (PH.nil.put b ob):=by
 funext k;unfold PH.put PH.or PH.nil;by_cases e:k=b
 ·subst e;simp[h]
 ·simp only[if_neg e];cases X k<;>rfl
def PH.or_put {X K:PH} {b:Nat} {ob:Obj} (h:X b=none):(X.or K).put b ob=X.or (K.put b ob):=by
 funext k;unfold PH.put PH.or;by_cases e:k=b
 ·subst e;simp[h]
 ·simp only[if_neg e]
def Zu {X K:PH} {b:Nat} {ob:Obj} (h:Disj X K) (hb:X b=none):Disj X (K.put b ob):=fun k hk=>by
 unfold PH.put;rw[if_neg (fun e=>by rw[e]at hk;exact hk hb)];exact h k hk
def Sm (X:PH):Disj X PH.nil:=fun _ _=>rfl
def Disj.none {X K:PH} (h:Disj X K) {b:Nat} (hb:K b≠none):X b=none:=by
 cases e:X b with
 |none=>rfl
 |some o=>exact absurd (h b (by simp[e])) hb
def PH.or_right {X K:PH} {b:Nat} {ob:Obj} (h:Disj X K) (hb:K b=some ob):X.or K b=some ob:=PH.or_r h b ob hb
def Hi {P:Program} {G Xp:Value->PH->Prop} {nx:List (List Value->PH->Prop)} {ρ:List Value} {g:SV} {np:Nat} {ini:List SV} {tb ta te:Tree} {f:FuncId} {caps:List Value} {X K Ro:PH} {E:List (List Value)->List Value->Prop} {S Sp:List (List Value)->PH->Prop} (I Ix:List (List Value)->List Value->PH->Prop)
  (hit:ItC P f caps Ro K E S Sp) (rZ:n8 P f=true) (hd:Disj X K) (hg:D P ρ g= .func (.func f) #[] caps.toArray) (uV:∀pre vals X',I pre vals X'->Pl Ro X') (h0:I [] (ini.map (D P ρ)) X)
  (hr:∀pre xs vals X',E pre xs->vals.length=ini.length->I pre vals X'->xs.length=np/\den P G noP tb (nx++[fun v h=>I (pre++[xs]) v h,fun v h=>Ix (pre++[xs]) v h]) (ρ++(xs++vals)) X')
  (ha:∀xs vals X' K',S xs K'->Disj X' K'->vals.length=ini.length->I xs vals X'->den P G Xp ta nx (ρ++vals) (X'.or K'))
  (hx:∀pre vals X' K',Sp pre K'->Disj X' K'->vals.length=ini.length->Ix pre vals X'->den P G Xp te nx (ρ++vals) (X'.or K')):den P G Xp (.rf g np ini tb ta te) nx ρ (X.or K):=
 ⟨f,caps,X,K,Ro,E,S,Sp,I,Ix,hg,rZ,rfl,hd,hit,uV,h0,hr,ha,hx⟩
def Vu {P:Program} {G Xp:Value->PH->Prop} {nx:List (List Value->PH->Prop)} {ρ:List Value} {pf:Bool} {id i:Nat} {o:Oper} {x:Operand} {az:Array Operand} {tys:Array TypeId} {args:List SV} {t:Tree} {l:Nat} {xs:List Value} {X K:PH} {V:Value->PH->Prop}
  (hy:ug P l xs X K V) (ho:o.op= .call ⟨.value x,az,tys⟩) (hx:e8 (x::az.toList) (.func (.yield l) #[] #[]::xs) x= .func (.yield l) #[] #[]) (vD:az.toList.map (e8 (x::az.toList) (.func (.yield l) #[] #[]::xs))=xs) (ha:args.map (D P ρ)= .func (.yield l) #[] #[]::xs) (vC:pf=false)
  (n:∀v X',Disj X' K->V v X'->den P G Xp t nx (ρ++[v]) (X'.or K)):den P G Xp (.eff pf id i o args t) nx ρ (X.or K):=by
 intro w hw;rw[ha];have hA:az.map (e8 (x::az.toList) (.func (.yield l) #[] #[]::xs))=xs.toArray:=by rw[<-bS,dR];exact vD
 have qE:o.op.operands.toList=x::az.toList:=by simp[ho,Op.operands,Call.operands]
 obtain⟨fn,tmps,asg,body,h1,h2⟩:=hy w hw;have hr:(execOp (e8 (x::az.toList) (.func (.yield l) #[] #[]::xs)) o).run P w= .ok (.round l fn tmps asg body) w:=by
  simp only[execOp,ho,resolve,hx,hA,Deferred.ofValue,eK,eL,eJ,invoke];simpa using h1
 unfold StpX;rw[qE,hr];refine h2.mono fun e w' ⟨v,X',he,hs,hd,hV⟩=>⟨v,he,X'.or K,hs,(fun h=>by rw[vC]at h;cases h),n v X' hd hV⟩
end Go.RX
namespace Go.Z
open Proofs.Tryz RowKit RX
def d4i:d9 prog [] [] [⟨0,3,[],[]⟩] [] 219=some (.ef false f219 1 0 [(.ki 64),(.ki 64)]
(.pm f219 2 1 [V0]
(.loop [(.ki 0)]
(.ri V2
(.ri V1
(.br (.io .lss V2 V1)
(.pm f219 5 3 [V0,V2]
(.ef false f219 5 4 [V3,V2]
(.next 0 [(.io .add V2 (.ki 1))]))) (.rq (.cells 1 V0) (.ret [(.ag V0)])))))))):=aB
def d4j:d9 prog [] [] [⟨0,1,[],[]⟩] [] 222=some (.loop [V1]
(.pm f222 1 2 [V0,V2]
(.pm f222 1 3 [V3]
(.ri V4
(.ri V2
(.br (.io .neq V4 V2)
(.pm f222 2 2 [V0,V2]
(.pm f222 2 3 [V5]
(.next 0 [V6]))) (.ret [V2]))))))):=aB
def d4k:d9 prog [] [] [] [⟨1,[0,1,0,4,15,0,32,0,128,511,1023,2047],rDx 12 2505025050,rDx 12 100001000,rDx 9 487653210++rAx 9 3,[]⟩] 221=some (.rq (.cells 1 V0) (.rq (.cells 2 V1) (.call true 222 [(.cell V0 0 0 noI),(.cell V1 0 0 noI)]
(.call true 222 [(.cell V0 0 0 noI),(.cell V1 1 0 noI)]
(.pm f221 2 4 [V2,V3]
(.pm f221 2 7 [V2,V3]
(.pm f221 2 8 [(.cell V0 0 0 noI),V4]
(.ef false f221 2 9 [V6,V5]
(.ri V2
(.ri V3
(.ret [(.io .neq V2 V3)]))))))))))):=aB
def d4l:d9 prog [] [] [] [] 276=some (.rq (.cells 2 V1)
(.ru V0
(.rq (.num (.cell V1 0 0 noI)) (.rq (.nn (.cell V1 0 0 noI)) (.br (.uo .eql (.uo .and (.uo .shr V0 (.cell V1 0 0 noI)) (kU 1)) (kU 1)) (.rq (.num (.cell V1 1 0 noI)) (.rq (.nn (.cell V1 1 0 noI)) (.ret [(.uo .eql (.uo .and (.uo .shr V0 (.cell V1 1 0 noI)) (kU 1)) (kU 1))]))) (.ret [(.k (.bool false))])))))):=aB
def d9F:d9 prog [] [] [] [⟨4,[0,1,3,7,15,7,39,127,255],rDx 9 5020000,rPx 9 0,rDx 9 874653210,[]⟩] 166=some (.rq (.cells 2 V0) (.call false 79 [(.ag V0)]
(.ri V2
(.br (.io .neq V2 (.ki 0)) (.ret [V2])
(.ru V1
(.br (.uo .eql V1 (kU 0)) (.ret [(.ki 2)]) (.call true 195 [V1]
(.ri V3
(.rq (.int .i64 (.cell V0 0 0 noI)) (.br (.io .gtr V3 (.cell V0 0 0 noI)) (.ret [(.ki 2)]) (.ret [(.ki 0)]))))))))))):=aB
def d4m:d9 prog [2,3] [] [] [] 220=some (.rq (.cells 2 V0) (.pub 33 V0
(.rq (.cells 1 V1) (.pub 49 V1
(.ef false f220 1 0 [V2,V3]
(.ret [V4])))))):=aB
def c8o:d9 prog [] [] [⟨0,1,[],[]⟩] [] 275=some (.pm f275 0 0 [V1]
(.pm f275 0 1 [V3]
(.pm f275 0 2 [V4]
(.loop [(.ki 0)]
(.ri V6
(.ri V5
(.br (.io .lss V6 V5)
(.pm f275 2 1 [V4,V6]
(.pm f275 2 2 [V7]
(.rq (.cells 2 V8)
(.pm f275 3 0 [V2]
(.call false 276 [V9,(.ag V8)]
(.rq (.bool V10) (.br V10
(.ef false f275 3 7 [V0,V6,(.ag V8)]
(.rq (.bool V11) (.br (.nt V11) (.ret []) (.next 0 [(.io .add V6 (.ki 1))])))) (.next 0 [(.io .add V6 (.ki 1))])))))))) (.ret [])))))))):=aB
def d4n:d9 prog [] [] [⟨0,3,[],[0,1]⟩,⟨0,8,[],[0,1]⟩,⟨0,12,[],[]⟩] [⟨14,[0,0,3,7,0,31,63,0,0,384,896,0,3968,8064,16383,0,0,0,196608,458752,0,2031616,4128768,8388607,16777215,0,67108863],rDx 27 432211011005211011001101100,rPx 15 0++rDx 12 2,rAx 0 14++rAx 15 8++[14,23,24,25],[26]⟩,⟨15,rDx 7 7300++[96,224,480,480,1023,3071],rDx 13 8100025501100,rDx 13 1300000,rAx 0 12,[12]⟩] 224=some (.call false 90 [(.ki 1)]
(.rq (.cells 2 V1)
(.pm f224 2 1 [V0]
(.loop [(.ki 0),(.z 106),V1]
(.ri V3
(.ri V2
(.br (.io .lss V3 V2)
(.pm f224 5 2 [V0,V3]
(.pm f224 5 3 [V6]
(.pm f224 5 5 [V7,V3]
(.pm f224 5 6 [V8]
(.call false 37 [V9]
(.ri V10
(.br (.io .eql V10 (.ki 0)) (.call false 90 [(.ki 0)]
(.rq (.cells 2 V11) (.ret [(.ag V11)]))) (.loop [(.io .add V3 (.ki 1)),V4,V5]
(.pm f224 8 2 [V0]
(.ri V11
(.ri V14
(.br (.io .lss V11 V14)
(.pm f224 10 2 [V0,V11]
(.pm f224 10 3 [V15]
(.pm f224 10 5 [V16,V3]
(.pm f224 10 6 [V17]
(.rq (.cells 2 V18) (.loop [V3]
(.pm f224 12 2 [V0]
(.ri V19
(.ri V20
(.br (.io .lss V19 V20)
(.pm f224 14 2 [V0,V11]
(.pm f224 14 3 [V21]
(.pm f224 14 5 [V22,V19]
(.pm f224 14 6 [V23]
(.pm f224 14 9 [V0,V3]
(.pm f224 14 10 [V25]
(.pm f224 14 12 [V26,V3]
(.pm f224 14 13 [V27]
(.pm f224 14 18 [V0,V3]
(.pm f224 14 19 [V29]
(.pm f224 14 21 [V30,V19]
(.pm f224 14 22 [V31]
(.call true 94 [V24,V28]
(.call true 94 [(.ag V18),V32]
(.call true 139 [V33,V34]
(.rq (.cells 2 V35)
(.pm f224 15 2 [V0,V11]
(.pm f224 15 3 [V36]
(.call true 155 [(.ag V35),(.ag V13)]
(.rq (.tup 0 V38) (.rq (.tup 1 V38)
(.pm f224 15 11 [V37,V19]
(.ef false f224 15 12 [V39,(.pj V38 0)]
(.next 2 [(.io .add V19 (.ki 1))])))))))))))))))))))))))) (.next 1 [(.io .add V11 (.ki 1)),V12,V13])))))))))))
(.pm f224 16 2 [V0,V3]
(.pm f224 16 3 [V15]
(.pm f224 16 5 [V16,V3]
(.pm f224 16 6 [V17]
(.rq (.cells 2 V18) (.next 0 [(.io .add V3 (.ki 1)),V12,V18])))))))))))))))))) (.ret [(.ag V5)])))))))):=aB
def d4o:d9 prog [12,16] [] [⟨4,5,[],[3]⟩,⟨0,11,[],[]⟩,⟨0,18,[],[]⟩,⟨4,26,[],[]⟩] [⟨9,[0,0,2,7,15],[5,0,2,2,0],[5,0,0,0,0],[0,1,2,3,4],[]⟩,⟨20,[0,0,0,4,12,31,63],rDx 7 8121101,rPx 7 0,[0,1,2,3,4,5],[6]⟩,⟨26,[0,0,2,7,0,0,32,127,255,511],rDx 10 25052505,rDx 10 7050705,rDx 10 9873654210,[]⟩] 167=some (.rq (.cells 2 V0) (.rq (.cells 1 V2) (.rq (.cells 1 V3) (.call false 219 []
(.rq (.cells 1 V4) (.call false 220 [(.ag V0),V1]
(.rf V5 2 [(.z 106)]
(.rq (.cells 2 V7)
(.pm f167 5 2 [(.cell V2 0 0 noI),V6]
(.rq (.bool V9) (.br V9
(.call false 221 [(.ag V4),(.ag V7)]
(.rq (.bool V10) (.br (.nt V10) (.call false 90 [(.ki 0)]
(.rq (.cells 2 V11) (.next 1 [V11]))) (.next 0 [V8])))) (.next 0 [V8])))))
(.ef false f167 7 0 []
(.pub 281 (.z 281)
(.ef false f167 7 2 [V8,V7]
(.ef false f167 8 2 [(.cell V4 0 0 noI)]
(.rq (.cells 1 V10) (.call true 113 [V1]
(.ef true f167 9 3 [(.cell V10 0 0 noI),V11]
(.loop [(.ki 0)]
(.ri V13
(.br (.io .lss V13 (.ki 64))
(.ru V1
(.rq (.num V13) (.rq (.nn V13) (.br (.uo .eql (.uo .and (.uo .shr V1 V13) (kU 1)) (kU 1))
(.ef false f167 13 8 [(.cell V10 0 0 noI),V13]
(.ri V14
(.br (.io .eql V14 V13)
(.ri V12
(.br (.io .neq V13 V12)
(.pm f167 14 0 [V8]
(.pm f167 14 2 [V8]
(.pm f167 14 3 [V16]
(.ef false f167 14 4 [V15,V13,V17]
(.next 0 [(.io .add V13 (.ki 1))]))))) (.next 0 [(.io .add V13 (.ki 1))]))) (.next 0 [(.io .add V13 (.ki 1))])))) (.next 0 [(.io .add V13 (.ki 1))])))))
(.pm f167 16 0 [V8]
(.pm f167 16 1 [V14]
(.ef false f167 16 2 [V15,V15]
(.pub 333 (.z 333)
(.ef false f167 16 4 [V17,V16]
(.pm f167 17 0 [V17]
(.pm f167 17 1 [V19]
(.loop [(.ki 0)]
(.ri V21
(.ri V20
(.br (.io .lss V21 V20)
(.pm f167 20 0 [V17]
(.pm f167 20 2 [V8]
(.pm f167 20 3 [V23]
(.ef true f167 20 4 [V24,V24]
(.pm f167 20 5 [V22,V21]
(.ef false f167 20 6 [V26,V25]
(.next 1 [(.io .add V21 (.ki 1))])))))))
(.ef false f167 22 0 [V8,V17]
(.rq (.cells 1 V22) (.call false 220 [(.ag V0),V1]
(.rf V23 2 []
(.rq (.cells 2 V25)
(.ef true f167 26 3 [(.cell V10 0 0 noI),(.cell V25 0 0 noI)]
(.ef true f167 26 7 [(.cell V10 0 0 noI),(.cell V25 1 0 noI)]
(.pm f167 27 2 [(.cell V3 0 0 noI),V24]
(.rq (.bool V28) (.br V28
(.next 2 [])
(.ri V26
(.ri V27
(.br (.io .eql V26 V27) (.next 2 [])
(.ef false f167 28 3 [(.cell V22 0 0 noI),V26,V26,(.ki 1)]
(.ef false f167 29 3 [(.cell V22 0 0 noI),V27,V27,(.ki 1)]
(.ef false f167 30 3 [(.cell V22 0 0 noI),V26,V27,(kI (-1))]
(.ef false f167 31 3 [(.cell V22 0 0 noI),V27,V26,(kI (-1))]
(.next 2 []))))))))))))))
(.pm f167 32 0 [V17]
(.call false 224 [V24]
(.rq (.cells 2 V25) (.ret [(.ag V25)])))) (.dead 818)))))))))))))))))))))))))) (.ret [(.ag V6)])))))))):=aB
def c8p:d9 prog [] [] [] [⟨3,rDx 7 7300++[96,224,0,992,2016,0,4096,16352,32767,65535],rDx 17 81220110110101101,rPx 17 0,rAx 0 16,[16]⟩] 223=some (.pm f223 0 0 [V3]
(.pm f223 0 2 [V5,V0]
(.rq (.tup 0 V6) (.rq (.tup 1 V6)
(.pm f223 1 0 [V3]
(.pm f223 1 2 [V7,V1]
(.rq (.tup 0 V8) (.rq (.tup 1 V8) (.rq (.bool (.pj V6 1)) (.br (.pj V6 1) (.rq (.bool (.pj V8 1)) (.br (.pj V8 1)
(.pm f223 3 0 [V4]
(.pm f223 3 2 [V9,(.pj V6 0)]
(.pm f223 3 3 [V10]
(.pm f223 3 5 [V4]
(.pm f223 3 7 [V12,(.pj V6 0)]
(.pm f223 3 8 [V13]
(.pm f223 3 10 [V14,(.pj V8 0)]
(.pm f223 3 11 [V15]
(.call true 90 [V2]
(.call true 110 [V16,V17]
(.pm f223 3 15 [V11,(.pj V8 0)]
(.ef false f223 3 16 [V19,V18]
(.ret []))))))))))))) (.ret []))) (.ret []))))))))))):=aB
def d4p:d9 prog [] [] [] [] 121=some (.rq (.cells 2 V0) (.call false 166 [(.ag V0),V1]
(.ri V2
(.br (.io .neq V2 (.ki 0)) (.ret [(.z 51),V2]) (.call false 167 [(.ag V0),V1,(.k (.map none)),(.k (.map none))]
(.call false 111 [V3]
(.rq (.tup 0 V4) (.rq (.tup 1 V4) (.rq (.cells 8 (.pj V4 0)) (.ret [(.ag (.pj V4 0)),(.pj V4 1)])))))))))):=aB
def e2N:d9 prog [] [] [] [] 113=some (.ru V0
(.br (.uo .eql V0 (kU 0)) (.ret [(.ki 64)])
(.pm f113 3 6 [(.k (.pointer (some ⟨0,0,none⟩))),(.uo .shr (.uo .mul (.uo .and V0 (.op1 .neg .u64 V0)) (kU 285870213051353865)) (kU 58))]
(.pm f113 3 7 [V1]
(.rq (.int .u8 V2) (.ret [(.cv .i64 V2)])))))):=aB
def c1J:(opr f113 3 7).op= .load 5 (.tmp 11):=aB
def d4q:d9 prog [] [] [⟨0,2,[],[]⟩] [] 127=some (.pm f127 1 1 [V0]
(.loop [(.ki 0),(.ki 0)]
(.ri V4
(.ri V2
(.br (.io .lss V4 V2)
(.pm f127 3 1 [V0,V4]
(.pm f127 3 2 [V5]
(.pm f127 4 2 [V1]
(.ri V7
(.br (.io .geq V4 V7) (.ret [(.ki 1)])
(.pm f127 6 2 [V1,V4]
(.pm f127 6 3 [V8]
(.call false 176 [V6,V9]
(.ri V10
(.br (.io .neq V10 (.ki 0)) (.ret [V10]) (.next 0 [V3,(.io .add V4 (.ki 1))])))))))))))
(.pm f127 11 1 [V0]
(.pm f127 11 3 [V1]
(.ri V5
(.ri V6
(.br (.io .lss V5 V6) (.ret [(kI (-1))]) (.ret [(.ki 0)]))))))))))):=aB
def d4r:d9 prog [] [] [] [] 176=some (.call false 237 [V0]
(.call false 237 [V1]
(.rq (.bool V2) (.br V2
(.rq (.bool V3) (.br V3
(.ret [(.ki 0)]) (.ret [(kI (-1))]))) (.rq (.bool V3) (.br V3
(.ret [(.ki 1)])
(.ri V0
(.ri V1
(.br (.io .lss V0 V1) (.ret [(kI (-1))]) (.br (.io .gtr V0 V1) (.ret [(.ki 1)]) (.ret [(.ki 0)]))))))))))):=aB
def d4s:d9 prog [] [] [] [] 237=some (.ri V0
(.ret [(.io .neq V0 V0)])):=aB
def d4t:d9 prog [] [] [⟨0,4,[],[]⟩] [⟨6,[0,0,3,7,0,0,48,112,255],rDx 9 11001100,rPx 9 0,rAx 0 9,[]⟩] 21=some (.pm f21 1 1 [V0]
(.pm f21 1 3 [V1]
(.ri V2
(.ri V3
(.br (.io .neq V2 V3) (.ret [(.k (.bool false))])
(.pm f21 3 1 [V0]
(.loop [(.k (.bool false)),(.ki 0)]
(.ri V6
(.ri V4
(.br (.io .lss V6 V4)
(.pm f21 6 2 [V0,V6]
(.pm f21 6 3 [V7]
(.pm f21 6 6 [V1,V6]
(.pm f21 6 7 [V9]
(.ri V8
(.ri V10
(.br (.io .neq V8 V10) (.ret [(.k (.bool false))]) (.next 0 [V5,(.io .add V6 (.ki 1))])))))))) (.ret [(.k (.bool true))]))))))))))):=aB
def d4u:d9 prog [] [] [] [] 130=some (.call false 180 [V0,V1]
(.ri V2
(.ret [(.io .geq V2 (.ki 0))]))):=aB
def d4v:d9 prog [] [] [] [] 144=some (.call false 203 [V0,V1]
(.ri V2
(.ret [(.io .geq V2 (.ki 0))]))):=aB
def d4w:d9 prog [] [] [⟨0,2,[],[]⟩] [] 180=some (.pm f180 1 1 [V0]
(.loop [(.ki 0),(.ki 0)]
(.ri V4
(.ri V2
(.br (.io .lss V4 V2)
(.pm f180 4 3 [V0,V4]
(.pm f180 4 4 [V5]
(.ef false f180 4 5 [V1,V6]
(.rq (.bool V7) (.br V7
(.ret [V4]) (.next 0 [V3,(.io .add V4 (.ki 1))])))))) (.ret [(kI (-1))])))))):=aB
def d4x:d9 prog [] [] [⟨0,2,[],[]⟩] [] 203=some (.pm f203 1 1 [V0]
(.loop [(.ki 0),(.ki 0)]
(.ri V4
(.ri V2
(.br (.io .lss V4 V2)
(.pm f203 4 3 [V0,V4]
(.pm f203 4 4 [V5]
(.ef false f203 4 5 [V1,V6]
(.rq (.bool V7) (.br V7
(.ret [V4]) (.next 0 [V3,(.io .add V4 (.ki 1))])))))) (.ret [(kI (-1))])))))):=aB
def d4y:d9 prog [3,5] [] [⟨0,5,[],[]⟩] [⟨7,[0,1,3,7,15,31,15,79,255,511,1023,2047,4095,2047,10239,32767,65535,131071,262143,262143,1048575,2097151,4194303],rDx 23 211000501100011110011,rPx 23 0,rAx 0 23,[]⟩] 79=some (.rq (.cells 2 V0) (.rq (.int .i64 (.cell V0 0 0 noI)) (.br (.io .lss (.cell V0 0 0 noI) (.ki 1)) (.ret [(.ki 180)]) (.br (.io .gtr (.cell V0 0 0 noI) (.ki 64)) (.ret [(.ki 180)])
(.pm f79 1 11 [(.cell V0 1 0 noI)]
(.ri V1
(.br (.io .gtr V1 (.ki 200)) (.ret [(.ki 180)]) (.pub 156 (.z 156)
(.ef false f79 3 2 [V2,(.put (.put (.z 156) 0 1 (kI (-1)) 0 noI) 1 1 (kI (-1)) 0 noI)]
(.pm f79 4 2 [(.cell V0 1 0 noI)]
(.loop [(.ki 0),(.ki 0)]
(.ri V6
(.ri V4
(.br (.io .lss V6 V4)
(.pm f79 6 0 [(.cell V0 1 0 noI),V6]
(.pm f79 6 1 [V7]
(.pub 156 (.z 156)
(.ef false f79 6 3 [V9,V8]
(.pm f79 7 0 [V9,(.ki 0)]
(.pm f79 7 1 [V11]
(.ri V12
(.br (.io .lss V12 (.ki 0)) (.ret [(.ki 180)])
(.pm f79 7 4 [V9,(.ki 0)]
(.pm f79 7 5 [V13]
(.pm f79 7 6 [V9,(.ki 1)]
(.pm f79 7 7 [V15]
(.ri V14
(.ri V16
(.br (.io .geq V14 V16) (.ret [(.ki 180)])
(.pm f79 7 11 [V9,(.ki 1)]
(.pm f79 7 12 [V17]
(.ri V18
(.br (.io .geq V18 (.cell V0 0 0 noI)) (.ret [(.ki 180)])
(.pm f79 7 18 [V2]
(.pm f79 7 19 [V9]
(.call true 127 [V19,V20]
(.ri V21
(.br (.io .geq V21 (.ki 0)) (.ret [(.ki 180)])
(.pm f79 9 0 [V9]
(.ef false f79 9 1 [V2,V22]
(.next 0 [V5,(.io .add V6 (.ki 1))]))))))))))))))))))))))))))) (.ret [(.ki 0)]))))))))))))))):=aB
def d9G:d9 prog [] [] [] [⟨4,[0,1,0,4,15],[0,2,0,5,0],[0,0,0,0,0],[0,2,3,1,4],[]⟩] 226=some (.rq (.cells 2 V0) (.call false 79 [(.ag V0)]
(.ri V2
(.br (.io .neq V2 (.ki 0)) (.ret [V2]) (.call true 195 [V1]
(.ri V3
(.rq (.int .i64 (.cell V0 0 0 noI)) (.br (.io .gtr V3 (.cell V0 0 0 noI)) (.ret [(.ki 2)]) (.ret [(.ki 0)]))))))))):=aB
def d4z:d9 prog [] [] [] [] 170=some (.rq (.cells 2 V0) (.call false 226 [(.ag V0),V1]
(.ri V2
(.br (.io .neq V2 (.ki 0)) (.ret [(.k (.bool false)),V2]) (.call false 227 [(.ag V0),V1]
(.pm f170 4 3 [V3]
(.ri V4
(.ret [(.io .eql V4 (.ki 1)),(.ki 0)])))))))):=aB
def d9H:d9 prog [] [] [⟨0,3,[],[]⟩] [⟨5,[0,0,2,7,15,0,32,96,255,511,1023],rDx 11 81005011500,rDx 11 1000100,rAx 0 10,[10]⟩,⟨6,[0,0,2,7,15,0,32,96,255,511,1023],rDx 11 81005011500,rDx 11 1000100,rAx 0 10,[10]⟩] 279=some (.rq (.cells 2 V0)
(.ef false f279 1 2 [(.cell V0 0 0 noI),(.cell V0 0 0 noI)]
(.pm f279 2 2 [(.cell V0 1 0 noI)]
(.loop [(.ki 0)]
(.ri V3
(.ri V2
(.br (.io .lss V3 V2)
(.pm f279 4 0 [(.cell V0 1 0 noI),V3]
(.pm f279 4 1 [V4]
(.rq (.cells 2 V5)
(.pm f279 5 3 [V1,(.cell V5 0 0 noI)]
(.pm f279 5 4 [V6]
(.rq (.num (.cell V5 1 0 noI)) (.rq (.nn (.cell V5 1 0 noI))
(.ru V7
(.pm f279 5 9 [V1,(.cell V5 0 0 noI)]
(.ef false f279 5 10 [V8,(.uo .or V7 (.uo .shl (kU 1) (.cell V5 1 0 noI)))]
(.pm f279 6 3 [V1,(.cell V5 1 0 noI)]
(.pm f279 6 4 [V10]
(.rq (.num (.cell V5 0 0 noI)) (.rq (.nn (.cell V5 0 0 noI))
(.ru V11
(.pm f279 6 9 [V1,(.cell V5 1 0 noI)]
(.ef false f279 6 10 [V12,(.uo .or V11 (.uo .shl (kU 1) (.cell V5 0 0 noI)))]
(.next 0 [(.io .add V3 (.ki 1))])))))))))))))))))) (.ret [V1])))))))):=aB
def c8q:d9 prog [] [] [⟨0,4,[],[0,1,2]⟩,⟨0,6,[],[0,1,2]⟩,⟨4,9,[],[3]⟩] [⟨9,[0,0,0,6,14,0,62,127,255],rDx 9 600511055,rDx 9 300100023,rAx 0 8,[8]⟩] 227=some (.rq (.cells 2 V0) (.rq (.cells 1 V1) (.call false 279 [(.ag V0)]
(.rq (.cells 1 V2) (.loop [(.k (.slice none 0 0)),(.cell V1 0 0 noI),V0,V1,V2]
(.ru V4
(.br (.uo .neq V4 (kU 0)) (.loop [(.uo .and V4 (.op1 .neg .u64 V4)),V5,V6,V7]
(.rq (.cells 1 V8) (.call false 280 [V8]
(.rf V12 1 [V8]
(.pm f227 9 3 [(.cell V11 0 0 noI),V13]
(.pm f227 9 4 [V15]
(.ru V16
(.rq (.int .u64 (.cell V10 0 0 noI)) (.rq (.int .u64 (.cell V14 0 0 noI)) (.next 2 [(.uo .or (.cell V14 0 0 noI) (.uo .and V16 (.cell V10 0 0 noI)))])))))) (.rq (.int .u64 (.cell V13 0 0 noI))
(.ru V8
(.br (.uo .eql (.cell V13 0 0 noI) V8)
(.ef false f227 12 2 [V8]
(.ef false f227 12 3 [V3,V14]
(.next 0 [V15,(.uo .andNot V4 V8),V9,V10,V11]))) (.next 1 [(.cell V13 0 0 noI),V9,V10,V11])))) (.dead 818))))) (.ret [V3])))))))):=aB
def d4A:d9 prog [1] [] [] [] 280=some (.rq (.cells 1 V0) (.pub 49 V0
(.ef false f280 1 0 [V1]
(.ret [V2])))):=aB
def c8r:d9 prog [] [] [⟨0,0,[],[]⟩] [] 313=some (.loop []
(.pm f313 0 0 [V1]
(.ru V2
(.br (.uo .neq V2 (kU 0))
(.pm f313 2 1 [V1]
(.call false 113 [V3]
(.ef false f313 2 3 [V0,V4]
(.rq (.bool V5) (.br (.nt V5) (.ret [])
(.pm f313 1 0 [V1]
(.pm f313 1 1 [V1]
(.ru V7
(.ru V6
(.ef false f313 1 4 [V1,(.uo .and V6 (.uo .sub V7 (kU 1)))]
(.next 0 []))))))))))) (.ret []))))):=aB
def d4B:d9 prog [] [] [⟨0,2,[],[]⟩] [] 164=some (.pm f164 1 1 [V0]
(.loop [(.k (.bool false)),(.ki 0)]
(.ri V4
(.ri V2
(.br (.io .lss V4 V2)
(.pm f164 3 0 [V0,V4]
(.pm f164 3 1 [V5]
(.ri V6
(.br (.io .lss V6 (.ki 0)) (.ret [(.k (.bool false))])
(.ri V1
(.br (.io .geq V6 V1) (.ret [(.k (.bool false))]) (.next 0 [V3,(.io .add V4 (.ki 1))])))))))
(.pm f164 7 1 [V0]
(.ri V5
(.br (.io .gtr V5 (.ki 0))
(.pm f164 7 5 [V0]
(.ri V6
(.ret [(.io .leq V6 (.ki 64))]))) (.ret [(.k (.bool false))]))))))))):=aB
def d4C:d9 prog [] [] [⟨0,3,[],[]⟩,⟨0,8,[],[]⟩] [⟨5,[0,0,3,7,0,16,63,127,255],rDx 9 810001100,rPx 9 0,rAx 0 8,[8]⟩] 165=some (.ef false f165 1 1 [V1,V1]
(.pm f165 2 1 [V0]
(.loop [(.ki 0)]
(.ri V4
(.ri V3
(.br (.io .lss V4 V3)
(.pm f165 4 1 [V0,V4]
(.pm f165 4 2 [V5]
(.pm f165 5 2 [V2,V6]
(.pm f165 5 3 [V7]
(.rq (.num V4) (.rq (.nn V4)
(.ru V8
(.pm f165 5 7 [V2,V6]
(.ef false f165 5 8 [V9,(.uo .or V8 (.uo .shl (kU 1) V4))]
(.next 0 [(.io .add V4 (.ki 1))])))))))))) (.loop [(.k (.slice none 0 0)),(.k (.bool false)),(.ki 0)]
(.ri V7
(.ri V1
(.br (.io .lss V7 V1)
(.pm f165 10 2 [V2,V7]
(.pm f165 10 3 [V8]
(.ru V9
(.br (.uo .eql V9 (kU 0)) (.ret [(.k (.slice none 0 0)),(.k (.bool false))]) (.next 1 [V5,V6,(.io .add V7 (.ki 1))]))))) (.ret [V2,(.k (.bool true))]))))))))))):=aB
def LX:d9 prog [45] [] [] [] 163=some (.rq (.cells 2 V0) (.call false 79 [(.ag V0)]
(.ri V3
(.br (.io .neq V3 (.ki 0)) (.ret [(.k (.pointer none)),V3])
(.ri V2
(.br (.io .lss V2 (.ki 1)) (.ret [(.k (.pointer none)),(.ki 2)]) (.br (.io .gtr V2 (.ki 8)) (.ret [(.k (.pointer none)),(.ki 2)])
(.pm f163 6 1 [V1]
(.ri V4
(.rq (.int .i64 (.cell V0 0 0 noI)) (.br (.io .neq V4 (.cell V0 0 0 noI)) (.ret [(.k (.pointer none)),(.ki 210)]) (.call false 164 [V1,V2]
(.rq (.bool V5) (.br (.nt V5) (.ret [(.k (.pointer none)),(.ki 210)]) (.call false 165 [V1,V2]
(.rq (.tup 0 V6) (.rq (.tup 1 V6) (.rq (.bool (.pj V6 1)) (.br (.nt (.pj V6 1)) (.ret [(.k (.pointer none)),(.ki 210)]) (.rq (.cells 1 V1) (.rq (.cells 1 (.pj V6 0)) (.pub 323 (.cat (.ag V0) 2 (.put (.cat V1 1 (.z 104)) 1 1 (.pj V6 0) 0 noI)) (.ret [V7,(.ki 0)]))))))))))))))))))))))):=aB
def d4D:d9 prog [] [] [] [] 119=some (.rq (.cells 2 V0) (.call false 163 [(.ag V0),V1,V2]
(.rq (.tup 0 V3) (.rq (.tup 1 V3) (.ret [(.pj V3 1)]))))):=aB
def d4E:d9 prog [] [] [] [] 120=some (.ri V1
(.br (.io .lss V1 (.ki 1)) (.ret [(.k (.slice none 0 0)),(.ki 2)]) (.br (.io .gtr V1 (.ki 8)) (.ret [(.k (.slice none 0 0)),(.ki 2)]) (.call false 164 [V0,V1]
(.rq (.bool V2) (.br (.nt V2) (.ret [(.k (.slice none 0 0)),(.ki 210)]) (.call false 165 [V0,V1]
(.rq (.tup 0 V3) (.rq (.tup 1 V3) (.rq (.bool (.pj V3 1)) (.br (.nt (.pj V3 1)) (.ret [(.k (.slice none 0 0)),(.ki 210)]) (.ret [(.pj V3 0),(.ki 0)])))))))))))):=aB
end Go.Z
namespace Go.GS
open RX
def uv (s:Nat):Value:= .int .u64 (s:Nat)
def ii (z:Int):Value:= .int .i64 z
abbrev M64:Nat:=18446744073709551616
def Ou {a:Nat} (h:a<M64):(BitVec.ofInt 64 (a:Int)).toNat=a:=by
 have h:a<18446744073709551616:=h;rw[BitVec.toNat_ofInt];simp;omega
def u64_and {a b:Nat} (ha:a<M64) (hb:b<M64):wQ .u64 ((BitVec.ofInt (IntKind.bits .u64) (a:Int)&&&BitVec.ofInt (IntKind.bits .u64) (b:Int)).toNat:Int)=((a&&&b:Nat):Int):=by
 have e:(BitVec.ofInt 64 (a:Int)&&&BitVec.ofInt 64 (b:Int)).toNat=a&&&b:=by rw[BitVec.toNat_and,Ou ha,Ou hb]
 show wQ .u64 ((BitVec.ofInt 64 (a:Int)&&&BitVec.ofInt 64 (b:Int)).toNat:Int)=_;rw[e,IntKind.wrap_u64];have:=Nat.and_lt_two_pow a (n:=64) (y:=b) (by simpa using hb);exact jP aA aA
def u64_or {a b:Nat} (ha:a<M64) (hb:b<M64):wQ .u64 ((BitVec.ofInt (IntKind.bits .u64) (a:Int)|||BitVec.ofInt (IntKind.bits .u64) (b:Int)).toNat:Int)=((a|||b:Nat):Int):=by
 have e:(BitVec.ofInt 64 (a:Int)|||BitVec.ofInt 64 (b:Int)).toNat=a|||b:=by rw[BitVec.toNat_or,Ou ha,Ou hb]
 show wQ .u64 ((BitVec.ofInt 64 (a:Int)|||BitVec.ofInt 64 (b:Int)).toNat:Int)=_;rw[e,IntKind.wrap_u64];have:=iY (n:=64) (x:=a) (y:=b) (by simpa using ha) (by simpa using hb);exact jP aA aA
def sdf (a b:Nat):Nat:=a^^^(a&&&b)
def Ls (a b i:Nat):(sdf a b).testBit i=(a.testBit i&& !b.testBit i):=by
 unfold sdf;rw[Nat.testBit_xor,jB];cases a.testBit i<;>cases b.testBit i<;>rfl
def Sr {a b:Nat} (ha:a<M64):sdf a b<M64:=by
 have h1:a&&&b<2^64:=bO iI (by simpa using ha);exact Nat.xor_lt_two_pow (n:=64) (by simpa using ha) h1
def u64_andn {a b:Nat} (ha:a<M64) (hb:b<M64):wQ .u64 ((BitVec.ofInt (IntKind.bits .u64) (a:Int)&&& ~~~BitVec.ofInt (IntKind.bits .u64) (b:Int)).toNat:Int)=((sdf a b:Nat):Int):=by
 have e:(BitVec.ofInt 64 (a:Int)&&& ~~~BitVec.ofInt 64 (b:Int)).toNat=sdf a b:=by
  apply fA;intro i;rw[BitVec.toNat_and,Ls,jB,Ou ha,<-BitVec.getLsbD,BitVec.getLsbD_not,BitVec.getLsbD,Ou hb];by_cases hi:i<64
  ·simp[hi]
  ·have:a.testBit i=false:=mJ (aU (by simpa using ha:a<2^64) (bQ aA aA));simp[this]
 show wQ .u64 ((BitVec.ofInt 64 (a:Int)&&& ~~~BitVec.ofInt 64 (b:Int)).toNat:Int)=_;rw[e,IntKind.wrap_u64];have:=Sr (b:=b) ha;exact jP aA (by simp only[M64]at this;omega)
def u64_shl {a k:Nat} (hk:k<64):wQ .u64 ((a:Int)*2^(min ((k:Nat):Int).toNat (IntKind.bits .u64)))=((a*2^k%M64:Nat):Int):=by
 have e:min ((k:Nat):Int).toNat (IntKind.bits .u64)=k:=by show min ((k:Nat):Int).toNat 64=k;rw[bU];omega
 rw[e,IntKind.wrap_u64];simp[M64]
def u64_shr {a k:Nat}:(a:Int).fdiv (2^(min ((k:Nat):Int).toNat (IntKind.bits .u64)))=((a/2^(min k 64):Nat):Int):=by
 show(a:Int).fdiv (2^(min ((k:Nat):Int).toNat 64))=_;rw[bU,show(2:Int)^(min k 64)=((2^(min k 64):Nat):Int)from aD,jI _ (eC _)];simp
def u64_neg {a:Nat} (ha:a<M64):wQ .u64 (0-(a:Int))=(((M64-a)%M64:Nat):Int):=by
 rw[IntKind.wrap_u64];simp only[M64]at*;omega
def u64_sub {a b:Nat} (ha:a<M64) (hb:b<=a):wQ .u64 ((a:Int)-(b:Int))=((a-b:Nat):Int):=by
 rw[IntKind.wrap_u64];simp only[M64]at*;omega
def bit (s x:Nat):Bool:=s.testBit x
def yw {s x:Nat} (hs:s<M64) (hx:64<=x):bit s x=false:=
 mJ (aU (by simpa using hs:s<2^64) (bQ aA hx))
def Vv {s x:Nat} (hs:s<M64) (h:bit s x=true):x<64:=by
 rcases dU x 64 with h1|h1
 ·exact h1
 ·rw[yw hs h1]at h;cases h
def Il (a b x:Nat):bit (a&&&b) x=(bit a x&&bit b x):=jB ..
def Ba (a b x:Nat):bit (a|||b) x=(bit a x||bit b x):=Nat.testBit_or ..
def Lt (a b x:Nat):bit (sdf a b) x=(bit a x&& !bit b x):=Ls ..
def Bw (k x:Nat):bit (2^k) x=decide (k=x):=fK ..
def Gk (x:Nat):bit 0 x=false:=Nat.zero_testBit x
def Hj {a b:Nat} (h:∀x,bit a x=bit b x):a=b:=fA h
def c1L {a b:Nat} (ha:a<M64) (hb:b<M64) (h:∀x,x<64->bit a x=bit b x):a=b:=Hj fun x=>by
 rcases dU x 64 with h1|h1
 ·exact h x h1
 ·rw[yw ha h1,yw hb h1]
def Dp {k:Nat} (h:k<64):2^k<M64:=by
 have:=cU (a:=2) aA h;exact this
def d4F {k:Nat} (h:k<64):1*2^k%M64=2^k:=by rw[cQ,dV (Dp h)]
def Ss {a b:Nat} (ha:a<M64) (hb:b<M64):a|||b<M64:=iY (n:=64) (by simpa using ha) (by simpa using hb)
def Su {a b:Nat} (ha:a<M64):a&&&b<M64:=bO iI ha
def Vw {a b:Nat} (hb:b<M64):a&&&b<M64:=bO Nat.and_le_right hb
def d4G {s x:Nat}:((s/2^x)&&&1:Nat)=if bit s x then 1 else 0:=by
 have h1:bit s x=((s/2^x)&&&1 !=0):=by
  unfold bit Nat.testBit;rw[Nat.shiftRight_eq_div_pow,Nat.and_comm]
 rw[h1,Nat.and_one_is_mod];rcases Nat.mod_two_eq_zero_or_one (s/2^x)with h|h<;>simp[h]
def d4H {s x:Nat} (h:s<M64):s/2^x<M64:=bO (Nat.div_le_self _ _) h
def els (s:Nat):List Nat:=(eO 64).filter (bit s)
def Ju {s x:Nat} (hs:s<M64):x∈els s↔bit s x=true:=by
 unfold els;rw[bZ,aW];exact⟨fun h=>h.2,fun h=>⟨Vv hs h,h⟩⟩
def c8s {s x:Nat} (h:x∈els s):x<64/\bit s x=true:=by
 unfold els at h;rw[bZ,aW]at h;exact h
def jq:els 0=[]:=by
 unfold els;rw[List.filter_eq_nil_iff];intro x _;simp[Gk]
def Ov {s:Nat} (hs:s<M64) (h:els s=[]):s=0:=c1L hs aC fun x hx=>by
 rw[Gk];cases e:bit s x with
 |false=>rfl
 |true=>have:=(Ju hs).2 e;rw[h]at this;cases this
def LY {s k:Nat} (hk:bit s k=true) (hl:∀j,j<k->bit s j=false):s=2^(k+1)*(s/2^(k+1))+2^k:=by
 have h:=Nat.div_add_mod s (2^(k+1));have e:s%2^(k+1)=2^k:=by
  apply fA;intro i;rw[Nat.testBit_mod_two_pow,fK];by_cases h1:i<k
  ·have:=hl i h1;unfold bit at this;simp[this,show ¬k=i from aA]
  ·by_cases h2:i=k
   ·subst h2;unfold bit at hk;simp[hk]
   ·simp[show ¬i<k+1 from aA,show ¬k=i from fun e=>h2 e.symm]
 rw[e]at h;exact h.symm
def Zv {s k:Nat} (hk:bit s k=true) (hl:∀j,j<k->bit s j=false) (i:Nat):bit (s-1) i=if i<k then true else if i=k then false else bit s i:=by
 have h:=LY hk hl;have h2:=Nat.two_pow_pos k;generalize s/2^(k+1)=q at h;have e1:s-1=2^(k+1)*q+(2^k-1):=aA;have qB:2^k-1<2^(k+1):=by rw[pJ];omega
 have a0t:2^k<2^(k+1):=by rw[pJ];omega
 unfold bit;rw[e1,lD _ qB];rw[h,lD _ a0t,Nat.testBit_two_pow_sub_one,fK];by_cases c1:i<k
 ·simp[c1,show i<k+1 from aA]
 ·by_cases c2:i=k
  ·subst c2;simp
  ·simp[c1,c2,show ¬i<k+1 from aA]
def Im {s x:Nat} {r:List Nat} (h:els s=x::r):bit s x=true/\x<64/\∀j,j<x->bit s j=false:=by
 have hm:=c8s (s:=s) (x:=x) (by rw[h];simp);refine⟨hm.2,hm.1,fun j hj=> ?_⟩;cases e:bit s j with
 |false=>rfl
 |true=>
  have hp:(els s).Pairwise (· < ·):=lZ.filter _;have xN:j∈els s:=by unfold els;rw[bZ,aW];exact⟨aA,e⟩
  rw[h]at xN hp;rcases bG.1 xN with rfl|xN
  ·omega
  ·have:=(jE.1 hp).1 j xN;omega
def yx (s:Nat):(els s).Pairwise (· < ·):=lZ.filter _
def LZ:∀{a b:List Nat},a.Pairwise (· < ·)->b.Pairwise (· < ·)->(∀x,x∈a↔x∈b)->a=b:=by
 intro a;induction a with
 |nil=>intro b _ _ h;cases b with
  |nil=>rfl
  |cons y b=>exact absurd ((h y).2 aD) aD
 |cons x a ih=>
  intro b ha hb h;cases b with
  |nil=>exact absurd ((h x).1 aD) aD
  |cons y b=>
   rw[jE]at ha hb;have e:x=y:=by
    rcases bG.1 ((h x).1 aD)with h1|h1
    ·exact h1
    ·rcases bG.1 ((h y).2 aD)with h2|h2
     ·exact h2.symm
     ·have:=ha.1 y h2;have:=hb.1 x h1;omega
   subst e;rw[ih ha.2 hb.2 fun z=> ?_];constructor
   ·intro hz;rcases bG.1 ((h z).1 (by simp[hz]))with h1|h1
    ·have:=ha.1 z hz;omega
    ·exact h1
   ·intro hz;rcases bG.1 ((h z).2 (by simp[hz]))with h1|h1
    ·have:=hb.1 z hz;omega
    ·exact h1
def yy {s x:Nat} {r:List Nat} (hs:s<M64) (h:els s=x::r):els (s&&&(s-1))=r:=by
 obtain⟨h1,h2,h3⟩:=Im h;have hp:=yx s;rw[h,jE]at hp;refine LZ (yx _) hp.2 fun y=> ?_;rw[Ju (Su hs),Il,Zv h1 h3];have hy:=Ju (x:=y) hs;rw[h]at hy;constructor
 ·intro hh;rw[aQ]at hh;rcases bG.1 (hy.2 hh.1)with rfl|h4
  ·simp at hh
  ·exact h4
 ·intro hh;have h4:=hp.1 y hh;rw[hy.1 (by simp[hh])];simp[show ¬y<x from aA,show ¬y=x from aA]
def jr {s x:Nat} {r:List Nat} (hs:s<M64) (h:els s=x::r):s&&&((M64-s)%M64)=2^x:=by
 obtain⟨h1,h2,h3⟩:=Im h;have h0:s≠0:=fun e=>by rw[e,Gk]at h1;cases h1
 apply Hj;intro i;have e1:(M64-s)%M64=2^64-((s-1)+1):=by
  rw[dV aA];show 2^64-s=_;congr 1;omega
 have e2:bit (2^64-((s-1)+1)) i=(decide (i<64)&& !bit (s-1) i):=Nat.testBit_two_pow_sub_succ (by simp only[M64]at hs;omega) i;rw[Il,e1,e2,Zv h1 h3,Bw];by_cases c1:i<x
 ·simp[c1,show ¬x=i from aA]
 ·by_cases c2:i=x
  ·subst c2;simp[h1,h2]
  ·simp[c1,c2,show ¬x=i from fun e=>c2 e.symm];intro h5 _;exact h5
def card (s:Nat):Nat:=(els s).length
end Go.GS
namespace Go.Z
open Proofs.Tryz RowKit RX WD GS
def el_int:El prog 39 3 1 false (fun z:Int=>[ii z]) ii where
 und:=aB
 has:=aB
 cel:=aB
 agg:=aB
 pos:=aC
 one1:=fun _=>rfl
 small:=aC
 inf:=⟨(prog.info? 3).getD default,ii 0,aB,aB,aB,rfl,oDt aB⟩
 len:=fun _=>rfl
 val:=fun _=>rfl
 cells:=fun _=>rfl
 one:=fun x c hc=>by simp at hc;subst hc;rfl
def z6:El prog 40 3 1 false (fun z:Int=>[ii z]) ii where
 und:=aB
 has:=aB
 cel:=aB
 agg:=aB
 pos:=aC
 one1:=fun _=>rfl
 small:=aC
 inf:=⟨(prog.info? 3).getD default,ii 0,aB,aB,aB,rfl,oDt aB⟩
 len:=fun _=>rfl
 val:=fun _=>rfl
 cells:=fun _=>rfl
 one:=fun x c hc=>by simp at hc;subst hc;rfl
def el_u64:El prog 104 49 1 false (fun s:Nat=>[uv s]) uv where
 und:=aB
 has:=aB
 cel:=aB
 agg:=aB
 pos:=aC
 one1:=fun _=>rfl
 small:=aC
 inf:=⟨(prog.info? 49).getD default,uv 0,aB,aB,aB,rfl,oDt aB⟩
 len:=fun _=>rfl
 val:=fun _=>rfl
 cells:=fun _=>rfl
 one:=fun x c hc=>by simp at hc;subst hc;rfl
def ec (e:Nat×Nat):List Value:=[ii e.1,ii e.2]
def ev2 (e:Nat×Nat):Value:= .agg #[ii e.1,ii e.2]
def el_edge:El prog 31 156 2 true ec ev2 where
 und:=aB
 has:=aB
 cel:=aB
 agg:=aB
 pos:=aC
 one1:=fun h=>by cases h
 small:=aC
 inf:=⟨(prog.info? 156).getD default,.agg #[ii 0,ii 0],aB,aB,aB,rfl,oDt aB⟩
 len:=fun _=>rfl
 val:=fun _=>rfl
 cells:=fun _=>rfl
 one:=fun x c hc=>by simp[ec]at hc;rcases hc with rfl|rfl<;>rfl
def d9I {n:Nat} (h:n<9223372036854775808):wQ .i64 (n:Int)=n:=by rw[IntKind.wrap_i64];omega
def d4I (k:IntKind) (a:Int):unV .neg k a= .int k (k.wrap (0-a)):=rfl
def c1M (k:IntKind) (a:Int):intOf (.int k a)=a:=rfl
def tabL:List Nat:=[0,1,56,2,57,49,28,3,61,58,42,50,38,29,17,4,62,47,59,36,45,43,51,22,53,39,33,30,24,18,12,5,63,55,48,27,60,41,37,16,46,35,44,21,52,32,23,11,54,26,40,15,34,20,31,10,25,14,19,9,13,8,7,6]
def Tb (H:PH):Prop:=∃T fz,H 0=some (.cells (tabL.map fun n=>Value.int .u8 (n:Nat)).toArray T fz)
def Tb.mono {H H':PH} (h:Tb H) (hl:Pl H H'):Tb H':=by
 obtain⟨T,fz,h⟩:=h;exact⟨T,fz,hl _ _ h⟩
def tz (s:Nat):Nat:=(els s).headD 64
def d9J:∀k,k<64->tabL[(2^k*285870213051353865%18446744073709551616)/288230376151711744]? =some k:=aC
section
variable {H:PH} {s:Nat}
def Zw (hT:Tb H) (hs:s<M64):Con prog 113 [uv s] H fun u H'=>H'=H/\u=ii (tz s):=by
 obtain⟨T,fz,hT⟩:=hT;refine s7 mixed e2N aB rfl (b4 ⟨_,rfl⟩ (g6 (b:=decide (s=0)) ?_ (fun h=> ?_) (fun h=> ?_)))
 ·simp only[rxs,uv];congr 1;rw[bY];simp
 ·have h:=oDt h;subst h;refine d4 rfl ⟨rfl,?_⟩;simp only[rxs,Ab,tz,jq];rfl
 ·have h:=oDf h;cases he:els s with
  |nil=>exact absurd (Ov hs he) h
  |cons x r=>
   have hn:=jr hs he;have hx:=(Im he).2.1;have htz:tz s=x:=by simp[tz,he]
   have a1g:=d9J x hx;have qB:=(aH.1 a1g).1;obtain⟨m,hm⟩:∃m,m=(2^x*285870213051353865%18446744073709551616)/288230376151711744:=⟨_,rfl⟩;rw[<-hm]at a1g qB;have qB:m<64:=qB;have e1:((M64-s)%M64:Nat)<M64:=cI _ aC;have ea:[SV.k (Value.pointer (some ⟨0,0,none⟩)),SV.op2 .shr .u64 (.op2 .mul .u64 (.op2 .and .u64 (.v 0) (.op1 .neg .u64 (.v 0))) (.k (.int .u64 285870213051353865))) (.k (.int .u64 58))].map (D prog [uv s])=[.pointer (some ⟨0,0,none⟩),.int .u64 ((m:Nat):Int)]:=by
    simp only[rxs,uv];congr 2;rw[IntKind.wrap_u64];have e58:(2:Int)^min (Int.toNat 58) (IntKind.bits .u64)=288230376151711744:=aC;have e2:∀n:Nat,(n:Int)*285870213051353865%18446744073709551616/288230376151711744=((n*285870213051353865%18446744073709551616/288230376151711744:Nat):Int):=fun n=>by omega
    rw[e58,d4I,c1M,Go.GS.u64_neg hs,Go.GS.u64_and hs e1,hn,jI _ aC,e2,<-hm]
   refine j8 ((uz (P:=prog) (len:=64) (e:=5) rfl rfl rfl aB aB aA aA).rds H) ea ?_;have rX:prog.cellsOf 5=1:=aB;have tM:r8 prog 5=false:=aB;rw[bU,rX,bJ,Nat.mul_one];have hl:=Vb (P:=prog) (o:=opr f113 3 7) (H:=H) (T:=5) c1J rfl hT aB (q:=m) (by rw[rX];simp only[jK,aR];show _<=64;omega) (fun _=>by simp only[jK,aR];show _<64;omega);rw[tM]at hl;have hv:((tabL.map fun n=>Value.int .u8 (n:Nat)).toArray).getD m undef= .int .u8 (x:Nat):=by
    rw[bD,List.getElem?_toArray,aX,a1g];rfl
   simp only[aY,if_false,hv]at hl;simp only[cA,nA];refine j8 hl rfl ?_;simp only[cA,nA];refine b4 ⟨_,rfl⟩ (d4 rfl ⟨rfl,?_⟩);simp only[rxs,Ab,htz,ii];rw[d9I aA]
end
def Sv {P:Program} {ρ:List Value} {a:SV} {n:Nat} {k:IntKind} (ha:D P ρ a= .int k (n:Nat)) (h:n<M64):D P ρ (.cv .u64 a)= .int .u64 (n:Nat):=by
 show Value.int .u64 (wQ .u64 (intOf (D P ρ a)))=_;rw[ha];show Value.int .u64 (wQ .u64 (n:Int))= .int .u64 _;congr 1;rw[IntKind.wrap_u64];simp only[M64]at h;omega
end Go.Z

/- Lemmas of the proof. -/
import Derived.Test.YtlmbepjdokomkaaGreatDoorLwA
import Derived.Test.YtlmbepjdokomkaaGreatDoorProg
open Array renaming getElem?_toList->fL
open Go.Result renaming andThen_ok->eL
open Go.Sem renaming run_bind->eM,run_pure->eO
open Int renaming emod_eq_of_lt->jC,fdiv_eq_ediv_of_nonneg->iZ
open List renaming drop_drop->nI,flatMap_append->jR,flatMap_cons->fO,getElem?_append->jS,length_drop->fR,pairwise_cons->iY,pairwise_lt_range->lH,range->eT,replicate->eS,size_toArray->kD
open Nat renaming add_comm->iF,and_le_left->iS,eq_of_testBit_eq->fE,mul_one->gB,pow_succ->kJ,testBit_and->iR,testBit_lt_two_pow->jO,testBit_two_pow->eU,testBit_two_pow_mul_add->kN
open Option renaming map_none->kC
open Go.IntKind renaming wrap->wQ
set_option linter.all false
namespace Go.RX
open RowKit
section
variable {α:Type} {ce:α->List Value} {sz:Nat}
def Hv (hl:∀x,(ce x).length=sz):∀l:List α,(l.flatMap ce).length=l.length*sz:=by
 intro l;induction l with
 |nil=>simp
 |cons x l ih=>simp only[fO,aL,hl,ih,aO,cM,cL];omega
def vd (hl:∀x,(ce x).length=sz):∀(l:List α) (j:Nat),(l.flatMap ce).drop (j*sz)=(l.drop j).flatMap ce:=by
 intro l;induction l with
 |nil=>intro j;simp
 |cons x l ih=>
  intro j;cases j with
  |zero=>simp
  |succ j=>rw[fO,cM,cL,iF,<-nI,show sz=(ce x).length from(hl x).symm,List.drop_left,hl x,ih j,List.drop_succ_cons]
def W0 (hl:∀x,(ce x).length=sz):∀(l:List α) (j:Nat),(l.flatMap ce).take (j*sz)=(l.take j).flatMap ce:=by
 intro l;induction l with
 |nil=>intro j;simp
 |cons x l ih=>
  intro j;cases j with
  |zero=>simp
  |succ j=>
   rw[fO,List.take_succ_cons,fO,cM,cL,List.take_append,hl x,aI (by rw[hl x];omega),Nat.add_sub_cancel,ih j]
def vf (hl:∀x,(ce x).length=sz) {l:List α} {j:Nat} {a:α} (h:l[j]? =some a):((l.flatMap ce).drop (j*sz)).take sz=ce a:=by
 rw[vd hl];obtain⟨oV,rfl⟩:=aH.1 h;rw[dP oV,fO,cG (by rw[hl];exact aS _),aI (by rw[hl];exact aS _)]
def JC (hl:∀x,(ce x).length=sz) {l:List α} {j:Nat} (hj:j<l.length) (a:α):(l.set j a).flatMap ce=(l.flatMap ce).take (j*sz)++ce a++(l.flatMap ce).drop (j*sz+sz):=by
 rw[W0 hl,show j*sz+sz=(j+1)*sz from by rw[cM,cL],vd hl,List.set_eq_take_append_cons_drop,if_pos hj,jR,fO,bL]
def W5:∀(ys zs:List Value) (cs:Array Value) (q:Nat),spl cs q (ys++zs)=spl (spl cs q ys) (q+ys.length) zs:=by
 intro ys;induction ys with
 |nil=>intro zs cs q;rfl
 |cons y ys ih=>intro zs cs q;simp only[dE,spl,ih,aO];congr 1;omega
def JD {ve:α->Value} (hl:∀x,(ce x).length=sz) (hc:∀x,(ve x).cells.toList=ce x):∀(l:List α) (k:Nat) (cs:Array Value),((l.zipIdx k).map fun p=>(p.2,ve p.1)).foldl (fun acc p=>spl acc (((some (p.1*sz,sz):Option (Nat×Nat)).getD (0,0)).1) p.2.cells.toList) cs=spl cs (k*sz) (l.flatMap ce):=by
 intro l;induction l with
 |nil=>intro k cs;rfl
 |cons a l ih=>
  intro k cs;simp only[List.zipIdx_cons,aU,List.foldl_cons,fO];rw[ih,W5,hl,hc,cM,cL];rfl
end
structure El (P:Program) (T e:TypeId) (sz:Nat) (ag:Bool) {α:Type} (ce:α->List Value) (ve:α->Value):Prop where
 und:P.underlying T=some (.slice e)
 has:r9 P e=true
 cel:P.cellsOf e=sz
 agg:p8 P e=ag
 pos:0<sz
 one1:ag=false->sz=1
 small:sz<=1000
 inf:∃i z,P.info? e=some i/\i.zero=some z/\i.size=sz/\z.cells.size=sz/\i.bytes<=1000
 len:∀x,(ce x).length=sz
 val:∀x,ve x=if ag then .agg (ce x).toArray else(ce x).headD undef
 cells:∀x,(ve x).cells.toList=ce x
 one:∀x,∀c∈ce x,n8 c=true
def SE (H:PH) (sz:Nat) {α:Type} (ce:α->List Value) (v:Value) (l:List α):Prop:=Sl H sz v l.length (l.flatMap ce)
def SO (H0 H:PH) (e:TypeId) (sz:Nat) {α:Type} (ce:α->List Value) (v:Value) (l:List α):Prop:=OwS H0 H e sz v l.length (l.flatMap ce)
def Pt (H:PH) (p:Value) (ws:List Value):Prop:=∃b q cs T fz,p= .pointer (some ⟨b,q,none⟩)/\H b=some (.cells cs T fz)/\q+ws.length<=cs.size/\(cs.toList.drop q).take ws.length=ws
section
variable {α:Type} {ce:α->List Value} {sz:Nat} {H H' H0:PH} {v:Value} {l:List α} {e:TypeId}
def SE.mono (h:SE H sz ce v l) (hl:Pl H H'):SE H' sz ce v l:=Sl.mono h hl
def SO.mono (h:SO H0 H e sz ce v l) (hl:Pl H H'):SO H0 H' e sz ce v l:=OwS.mono h hl
def SO.less {H1:PH} (h:SO H1 H e sz ce v l) (hl:Pl H0 H1):SO H0 H e sz ce v l:=OwS.less h hl
def SO.se (h:SO H0 H e sz ce v l):SE H sz ce v l:=OwS.sl h
def SO.nil (H0 H:PH) (e:TypeId) (sz:Nat) (ce:α->List Value):SO H0 H e sz ce (.slice none 0 0) []:=OwS.nil H0 H e sz
def SE.nil (H:PH) (sz:Nat) (ce:α->List Value):SE H sz ce (.slice none 0 0) []:=(SO.nil H H 0 sz ce).se
def SE.len (h:SE H sz ce v l):l.length<9223372036854775808:=by
 have:=Sl.len_le h;simp only[maxLen]at this;omega
def SE.cells (h:SE H sz ce v l):v.cells= #[v]:=by
 obtain⟨_,a,c,h2,_⟩:=h;rw[h2];rfl
def SE.one (h:SE H sz ce v l):v.cells.size=1/\i8 v.cells:=by
 rw[h.cells];obtain⟨_,a,c,h2,_⟩:=h;refine⟨rfl,fun c hc=> ?_⟩;simp at hc;rw[hc,h2];rfl
end
section
variable {P:Program} {T e:TypeId} {sz:Nat} {ag:Bool} {α:Type} {ce:α->List Value} {ve:α->Value} (E:El P T e sz ag ce ve)
variable {G Xp:Value->PH->Prop} {nx:List (List Value->PH->Prop)} {ρ:List Value} {H H0:PH} {o o1 o2:Oper} {x y x2 y2 lo hi:Operand} {id i id2 i2:Nat} {args args2:List SV} {t:Tree} {v p:Value} {l:List α} {a:α} {k:IntKind} {j:Nat} {pf pf2:Bool} {vs:List Value}
include E
def El.vcells (x:α):(ve x).cells.size=sz/\i8 (ve x).cells:=by
 refine⟨?_,fun c hc=> ?_⟩
 ·rw[<-bU,E.cells,E.len]
 ·rw[E.cells]at hc;exact E.one x c hc
def Gt (ho:o.op= .call ⟨.builtin .len,#[x],#[T]⟩) (hx:e8 [x] [v] x=v) (h:SE H sz ce v l) (ha:args.map (D P ρ)=[v]) (n:den P G Xp t nx (ρ++[.int .i64 (l.length:Nat)]) H):den P G Xp (.prim id i o args t) nx ρ H:=
 j6 ((qz ho hx E.und h).rds H) ha n
def W6 (ho:o.op= .indexAddr T x y) (hx:e8 [x,y] [v,.int k (j:Nat)] x=v) (hy:e8 [x,y] [v,.int k (j:Nat)] y= .int k (j:Nat)) (h:SE H sz ce v l) (hj:l[j]? =some a):∃p,Yld P o [v,.int k (j:Nat)] p/\Pt H p (ce a):=by
 obtain⟨oV,_⟩:=aH.1 hj;obtain⟨b,q,cs,T',fz,h1,h2,h3,h4⟩:=rh (P:=P) ho hx hy E.und E.has E.cel E.pos h oV;rw[vf E.len hj]at h4;exact⟨_,h1,b,q,cs,T',fz,rfl,h2,by rw[E.len];exact h3,by rw[E.len];exact h4⟩
def JE (ho:o.op= .indexAddr T x y) (hx:e8 [x,y] [v,.int k (j:Nat)] x=v) (hy:e8 [x,y] [v,.int k (j:Nat)] y= .int k (j:Nat)) (h:SE H sz ce v l) (hj:l[j]? =some a) (ha:args.map (D P ρ)=[v,.int k (j:Nat)])
  (n:∀p,Pt H p (ce a)->den P G Xp t nx (ρ++[p]) H):den P G Xp (.prim id i o args t) nx ρ H:=by
 obtain⟨p,h1,h2⟩:=W6 E ho hx hy h hj;exact j6 (h1.rds H) ha (n p h2)
def W7 (ho:o.op= .load e x) (hx:e8 [x] [p] x=p) (h:Pt H p (ce a)):Rds P o [p] H (ve a):=by
 obtain⟨b,q,cs,T',fz,rfl,h2,h3,h4⟩:=h;rw[E.len]at h3 h4;rw[E.val a];cases sD:ag with
 |true=>
  have:=FM ho hx h2 E.has (by rw[E.agg,sD]) E.cel h3 h4;simpa using this
 |false=>
  have h1:=E.one1 sD;subst h1;have e1:ce a=[(ce a).headD undef]:=by
   have:=E.len a
   match hc:ce a,this with
   |[c],_=>rfl
  rw[e1]at h4;have:=rj ho hx h2 E.has (by rw[E.agg,sD]) E.cel h3 h4;simpa using this
def W8 (ho:o.op= .load e x) (hx:e8 [x] [p] x=p) (h:Pt H p (ce a)) (ha:args.map (D P ρ)=[p]) (n:den P G Xp t nx (ρ++[ve a]) H):den P G Xp (.prim id i o args t) nx ρ H:=
 j6 (W7 E ho hx h) ha n
def By (sY:o1.op= .indexAddr T x y) (sZ:o2.op= .load e x2) (hx:e8 [x,y] [v,.int k (j:Nat)] x=v) (hy:e8 [x,y] [v,.int k (j:Nat)] y= .int k (j:Nat)) (rA:∀p,e8 [x2] [p] x2=p) (h:SE H sz ce v l) (hj:l[j]? =some a)
  (ha:args.map (D P ρ)=[v,.int k (j:Nat)]) (rY:∀p,args2.map (D P (ρ++[p]))=[p]) (n:∀p,den P G Xp t nx (ρ++[p]++[ve a]) H):den P G Xp (.prim id i o1 args (.prim id2 i2 o2 args2 t)) nx ρ H:=
 JE E sY hx hy h hj ha fun p hp=>W8 E sZ (rA p) hp (rY p) (n p)
def r6 (h:SE H sz ce v l) (hj:l[j]? =some a) (n:∀p,den P G Xp t nx (ρ++[p]++[ve a]) H) (sY:o1.op= .indexAddr T x y:=by exact rfl) (sZ:o2.op= .load e x2:=by exact rfl) (ha:args.map (D P ρ)=[v,.int k (j:Nat)]:=by exact rfl) (hx:e8 [x,y] [v,.int k (j:Nat)] x=v:=by exact rfl) (hy:e8 [x,y] [v,.int k (j:Nat)] y= .int k (j:Nat):=by exact rfl) (rA:∀p,e8 [x2] [p] x2=p:=by exact fun _=>rfl) (rY:∀p,args2.map (D P (ρ++[p]))=[p]:=by exact fun _=>rfl):den P G Xp (.prim id i o1 args (.prim id2 i2 o2 args2 t)) nx ρ H:=By E sY sZ hx hy rA h hj ha rY n
def r8 (h:SE H sz ce v l) (n:den P G Xp t nx (ρ++[.int .i64 (l.length:Nat)]) H) (ho:o.op= .call ⟨.builtin .len,#[x],#[T]⟩:=by exact rfl) (hx:e8 [x] [v] x=v:=by exact rfl) (ha:args.map (D P ρ)=[v]:=by exact rfl):den P G Xp (.prim id i o args t) nx ρ H:=Gt E ho hx h ha n
def Dl (sY:o1.op= .indexAddr T x y) (sZ:o2.op= .store e x2 y2) (hx:e8 [x,y] [v,.int k (j:Nat)] x=v) (hy:e8 [x,y] [v,.int k (j:Nat)] y= .int k (j:Nat)) (rA:∀p,e8 [x2,y2] [p,ve a] x2=p) (zX:∀p,e8 [x2,y2] [p,ve a] y2=ve a)
  (oW:Pl H0 H) (h:SO H0 H e sz ce v l) (hj:j<l.length) (ha:args.map (D P ρ)=[v,.int k (j:Nat)]) (rY:∀p,args2.map (D P (ρ++[p]))=[p,ve a]) (sF:pf=false)
  (n:∀p u H',Pl H0 H'->SO H0 H' e sz ce v (l.set j a)->(∃g ob,H0 g=none/\H'=H.put g ob)->den P G Xp t nx (ρ++[p]++[u]) H'):den P G Xp (.prim id i o1 args (.eff pf id2 i2 o2 args2 t)) nx ρ H:=by
 obtain⟨pB,hv⟩:=h;rcases hv with⟨_,h0⟩|⟨g,cap,cur,rfl,rI,hg,zU,yB,pM,wH⟩
 ·omega
 have qF:=E.pos;have hjs:(j+1)*sz<=l.length*sz:=bQ _ hj;have tA:l.length*sz<=cap*sz:=bQ _ zU;rw[cM,cL]at hjs;have wV:=de (P:=P) (m:=(j:Int)) (n:=l.length) (c:=cap) sY hx hy E.und E.has aA aA;rw[bO,E.cel,bP]at wV;refine j6 (wV.rds H) ha (j4 (Ta sZ (rA _) (zX _) hg E.has (by rw[E.cel];omega) (by rw[E.cel];exact(E.vcells a).1) (E.vcells a).2) (rY _) ?_);rintro u H' ⟨rfl,rfl⟩;subst sF;rw[E.cells];refine⟨fun h=>(nomatch h),n _ _ _ ?_ ⟨by rw[Hv E.len,cD],.inr ⟨g,cap,_,by rw[cD],rI,PH.put_self _ _ _,by rw[cD];exact zU,yB,by rw[Wx];exact pM,?_⟩⟩ ⟨g,_,rI,rfl⟩⟩
 ·intro k' ob hk;rw[PH.put_ne _ _ (fun e=>by rw[e,rI]at hk;cases hk)];exact oW _ _ hk
 ·have xO:l.length*sz<=cur.size:=by rw[pM];exact tA
  have hN:(cur.toList.take (l.length*sz)).length=l.length*sz:=by rw[bD,bU];exact cH xO
  clear pM tA;rw[cD,JC E.len hj,<-wH];apply bG;intro m;rw[dG,fL,bz,E.len,bL,jS,bD,hN,cH aA,jS,E.len,dG,dI,dG,dG,fL,fL];by_cases h1:m<l.length*sz
  ·rw[if_pos h1,if_pos aA];by_cases h2:m<j*sz
   ·rw[if_neg aA,if_pos h2,if_pos h2,if_pos h1]
   ·rw[if_neg h2];by_cases h3:m-j*sz<sz
    ·rw[if_pos aA,if_pos h3]
    ·rw[if_neg aA,if_neg h3,if_pos aA];rw[show j*sz+sz+(m-j*sz-sz)=m from aA,fL]
  ·rw[if_neg h1,if_neg aA,if_neg aA,if_neg aA]
def Ye {g n:Nat} {cs:Array Value} (hg:H g=none) (hl:l.length=n) (hn:n<=maxLen) (hc:cs.toList=l.flatMap ce):SO H (H.put g (.cells cs e (0,0))) e sz ce (.slice (some ⟨g,0,none⟩) n n) l:=by
 have hs:cs.size=n*sz:=by rw[<-bU,hc,Hv E.len,hl]
 refine⟨Hv E.len l,.inr ⟨g,n,cs,by rw[hl],hg,PH.put_self _ _ _,aA,hn,hs,?_⟩⟩;rw[hc,aI (by rw[Hv E.len];exact aS _)]
def Nz {kl kc:IntKind} {m:Nat} {z:α} (hz:j3 P e=ve z) (ho:o.op= .makeSlice T x y) (hx:e8 [x,y] [.int kl (m:Nat),.int kc (m:Nat)] x= .int kl (m:Nat)) (hy:e8 [x,y] [.int kl (m:Nat),.int kc (m:Nat)] y= .int kc (m:Nat)) (hm:m<=68719476736) (ha:args.map (D P ρ)=[.int kl (m:Nat),.int kc (m:Nat)])
  (n:∀v H',Pl H H'->SO H H' e sz ce v (eS m z)->(∃g ob,H g=none/\H'=H.put g ob)->den P G Xp t nx (ρ++[v]) H'):den P G Xp (.eff pf id i o args t) nx ρ H:=by
 obtain⟨ti,zv,h1,h2,h3,h4,h5⟩:=E.inf;refine j4 (rk ho hx hy E.und h1 h2 h3 (by have:=eC h5 hm;omega) (by simp only[maxLen];omega)) ha ?_;rintro v H' ⟨g,hg,rfl,rfl⟩;refine⟨fun _=>PH.le_put hg _,n _ _ (PH.le_put hg _) (Ye E hg aD (by simp only[maxLen];omega) ?_) ⟨g,_,hg,rfl⟩⟩;have hzv:zv=ve z:=by
  rw[<-hz];unfold j3;rw[h1];simp[h2]
 subst hzv;have qF:=E.pos;have hcz:=E.cells z;have hlz:=E.len z;show(madeCells (ve z).cells (m*sz)).toList=_;have hr:∀m,(eS m z).flatMap ce=(eT (m*sz)).map fun c=>(ce z)[c%sz]?.getD undef:=by
  intro m;induction m with
  |zero=>simp
  |succ m ih=>
   rw[List.replicate_succ',jR,ih,cM,cL,List.range_add,bI];congr 1;simp only[fO,List.flatMap_nil,dM];apply bG;intro c;simp only[aY,cC];by_cases hc:c<sz
   ·rw[cC hc];simp only[cJ];rw[iF,eK,eH hc,aG aA];rfl
   ·rw[aP aA,aP (by simp;omega)];rfl
 rw[hr];apply bG;intro c;simp only[madeCells,dO,aY,Array.toList_range];by_cases hc:c<m*sz
 ·rw[cC hc];simp only[cJ];congr 1;have zA:c%sz<sz:=cO _ qF;rw[h4,<-hcz];have:c%sz<(ve z).cells.size:=aA;simp[this]
 ·rw[aP (by simp;omega)];simp
def Ba {N:Nat} {parts:Array (Nat×Operand)} (hl:l.length=N) (h0:0<N) (hN:N<=1000) (ho:o.op= .buildSlice T N parts) (hp:parts.toList.map (fun p=>(p.1,e8 (parts.toList.map (·.2)) vs p.2))=(l.zipIdx 0).map fun p=>(p.2,ve p.1)) (ha:args.map (D P ρ)=vs)
  (n:∀v H',Pl H H'->SO H H' e sz ce v l->(∃g ob,H g=none/\H'=H.put g ob)->den P G Xp t nx (ρ++[v]) H'):den P G Xp (.eff pf id i o args t) nx ρ H:=by
 obtain⟨ti,zv,h1,h2,h3,h4,h5⟩:=E.inf;have qF:=E.pos;have hsm:=E.small;have hb:N*sz<=1000*1000:=eC hN hsm;have hNp:0<N*sz:=Nat.mul_pos h0 qF;refine j4 (rl (cells:=(l.flatMap ce).toArray) ho E.und h1 h2 (by rw[h3];omega) (by rw[h3];omega) ?_) ha ?_
 ·rw[h3,hp,cj _ _ _ fun p hp=> ?_]
  ·rw[JD E.len E.cells,bY,ci (by rw[Hv E.len,hl];simp)]
  ·simp only[bK,Prod.exists]at hp;obtain⟨a,k,hk,rfl⟩:=hp;have pW:=List.mem_zipIdx hk;refine⟨k*sz,sz,rfl,(E.vcells a).1,?_⟩;have:(k+1)*sz<=N*sz:=bQ _ aA;rw[cM,cL]at this;simpa using this
 ·rintro v H' ⟨g,hg,rfl,rfl⟩;exact⟨fun _=>PH.le_put hg _,n _ _ (PH.le_put hg _) (Ye E hg hl (by simp only[maxLen];omega) aD) ⟨g,_,hg,rfl⟩⟩
def vg (ho:o.op= .buildSlice T 1 #[(0,x)]) (hx:e8 [x] [ve a] x=ve a) (ha:args.map (D P ρ)=[ve a])
  (n:∀v H',Pl H H'->SO H H' e sz ce v [a]->(∃g ob,H g=none/\H'=H.put g ob)->den P G Xp t nx (ρ++[v]) H'):den P G Xp (.eff pf id i o args t) nx ρ H:=
 Ba E (l:=[a]) (N:=1) rfl aC aC ho (by simp[hx]) ha n
def JF (ho:o.op= .buildSlice T 0 #[]) (ha:args.map (D P ρ)=[])
  (n:∀v H',Pl H H'->SO H H' e sz ce v []->(∃g ob,H g=none/\H'=H.put g ob)->den P G Xp t nx (ρ++[v]) H'):den P G Xp (.eff pf id i o args t) nx ρ H:=by
 obtain⟨ti,zv,h1,h2,h3,h4,h5⟩:=E.inf;refine j4 (FN ho E.und h1) ha ?_;rintro v H' ⟨g,hg,rfl,rfl⟩;exact⟨fun _=>PH.le_put hg _,n _ _ (PH.le_put hg _) (Ye E hg rfl (by simp only[maxLen];omega) rfl) ⟨g,_,hg,rfl⟩⟩
def W9 {l2:List α} {u:Value} (ho:o.op= .call ⟨.builtin .append,#[x,y],#[T,T]⟩) (hx:e8 [x,y] [v,u] x=v) (hy:e8 [x,y] [v,u] y=u) (oW:Pl H0 H) (h:SO H0 H e sz ce v l) (h2:SE H sz ce u l2) (hb:l.length+l2.length<=68719476736)
  (ha:args.map (D P ρ)=[v,u]) (sF:pf=false) (n:∀v' H',Pl H0 H'->SO H0 H' e sz ce v' (l++l2)->(H'=H\/∃g ob,H0 g=none/\H'=H.put g ob/\(H g=none\/∃cs,H g=some (.cells cs e (0,0))))->den P G Xp t nx (ρ++[v']) H'):den P G Xp (.eff pf id i o args t) nx ρ H:=by
 obtain⟨ti,zv,h1,h3,h4,h5,h6⟩:=E.inf;subst sF;by_cases hm:0<l2.length
 ·refine j4 (ZQ ho hx hy E.und h1 h3 h4 h5 oW h h2 hm (fun c hc=> ?_) (by simp only[maxLen];omega) (by have:=eC hb h6;omega)) ha ?_
  ·rw[List.mem_flatMap]at hc;obtain⟨a,_,ha⟩:=hc;rw[qc];exact E.one a c ha
  ·rintro v' H' ⟨h6,h7,g,ob,h8,h9,tP⟩;refine⟨fun h=>(nomatch h),n v' H' h6 ?_ (.inr ⟨g,ob,h9,h8,tP⟩)⟩;unfold SO;rw[aL,jR];exact h7
 ·have sH:l2=[]:=aV aA;subst sH;refine j4 (ZR ho hx hy E.und h1 h.se h2) ha ?_;rintro v' H' ⟨rfl,rfl⟩;exact⟨fun h=>(nomatch h),n _ _ oW (by rw[dM];exact h) (.inl rfl)⟩
def vh {l2:List α} {u:Value} (ho:o.op= .call ⟨.builtin .append,#[x,y],#[T,T]⟩) (hx:e8 [x,y] [v,u] x=v) (hy:e8 [x,y] [v,u] y=u) (oW:Pl H0 H) (h:SO H0 H e sz ce v l) (h2:SE H sz ce u l2) (hb:l.length+l2.length<=68719476736)
  (ha:args.map (D P ρ)=[v,u]) (sF:pf=false) (n:∀v' H',Pl H0 H'->SO H0 H' e sz ce v' (l++l2)->(H'=H\/∃g ob,H0 g=none/\H'=H.put g ob)->den P G Xp t nx (ρ++[v']) H'):den P G Xp (.eff pf id i o args t) nx ρ H:=
 W9 E ho hx hy oW h h2 hb ha sF fun v' H' a b c=>n v' H' a b (c.imp (fun h=>h) fun⟨g,ob,d,e,_⟩=>⟨g,ob,d,e⟩)
def Hy (sY:o1.op= .buildSlice T 1 #[(0,x)]) (sZ:o2.op= .call ⟨.builtin .append,#[x2,y2],#[T,T]⟩) (hx:e8 [x] [ve a] x=ve a) (rA:∀p,e8 [x2,y2] [v,p] x2=v) (zX:∀p,e8 [x2,y2] [v,p] y2=p) (oW:Pl H0 H) (h:SO H0 H e sz ce v l) (hb:l.length+1<=68719476736)
  (ha:args.map (D P ρ)=[ve a]) (rY:∀p,args2.map (D P (ρ++[p]))=[v,p]) (sF:pf2=false) (n:∀p v' H',Pl H0 H'->SO H0 H' e sz ce v' (l++[a])->den P G Xp t nx (ρ++[p]++[v']) H'):den P G Xp (.eff pf id i o1 args (.eff pf2 id2 i2 o2 args2 t)) nx ρ H:=by
 refine vg E sY hx ha fun u H1 qD h1 _=> ?_;exact vh E sZ (rA _) (zX _) (oW.trans qD) (h.mono qD) h1.se hb (rY _) sF fun v' H' sH h3 _=>n u v' H' sH h3
def X9 {vs:List Value} (ho:o.op= .slice T x (some lo) none none) (hx:e8 [x,lo] vs x=v) (hl:e8 [x,lo] vs lo= .int k (j:Nat)) (h:SE H sz ce v l) (h1:j<=l.length):∃u,Yld P o vs u/\SE H sz ce u (l.drop j):=by
 obtain⟨pB,a,c,h2,h3,h4,h5⟩:=h;obtain⟨⟨ie,hie⟩,_⟩:=Ez E.has;have pD:o.op.operands.toList=[x,lo]:=by simp[ho,Op.operands]
 have qI:P.cellsOf e=sz:=E.cel;by_cases vN:c-j=0
 ·have hn:l.length=j:=aA;refine⟨.slice a (l.length-j) (c-j),fun w=> ?_,by rw[Hv E.len,fR],a,0,by rw[vN,fR],by rw[fR];omega,by simp[maxLen],.inl (by rw[fR];omega)⟩;rw[pD];simp only[execOp,ho,hx,h2,cJ,kC,hl,Instr.sliceAt,Instr.slice,eM,run_underlying E.und,eL,eO,Instr.sliceBounds];rw[run_sliceBound w k (j:Int) l.length _ aA aA];have hcj:c=j:=aA;simp[eL,Gl hie,bO,hcj]
 ·refine⟨.slice (a.map (·.add (j*sz))) (l.length-j) (c-j),fun w=> ?_,?_⟩
  ·rw[pD];simp only[execOp,ho,hx,h2,cJ,kC,hl,Instr.sliceAt,Instr.slice,eM,run_underlying E.und,eL,eO,Instr.sliceBounds];rw[run_sliceBound w k (j:Int) l.length _ aA aA];have hcj:¬c=j:=aA;simp[eL,Gl hie,bO,hcj,qI]
  ·refine⟨by rw[Hv E.len,fR],_,c-j,by rw[fR],by rw[fR];omega,aA,?_⟩;rcases h5 with h5|⟨b,q,cs,T',fz,h5,h6,h7⟩
   ·left;rw[fR];omega
   ·right;refine⟨b,q+j*sz,cs,T',fz,by rw[h5];simp[Addr.add],h6,?_⟩;rw[<-vd E.len,<-h7,fR,<-nI,List.drop_take,Nat.sub_mul]
end
def PH.put_or {X:PH} {b:Nat} {ob:Obj} (h:X b=none):X.put b ob=X.or (PH.nil.put b ob):=by
 funext k;unfold PH.put PH.or PH.nil;by_cases e:k=b
 ·subst e;simp[h]
 ·simp only[if_neg e];cases X k<;>rfl
def PH.or_put {X K:PH} {b:Nat} {ob:Obj} (h:X b=none):(X.or K).put b ob=X.or (K.put b ob):=by
 funext k;unfold PH.put PH.or;by_cases e:k=b
 ·subst e;simp[h]
 ·simp only[if_neg e]
def fl {X K:PH} {b:Nat} {ob:Obj} (h:Disj X K) (hb:X b=none):Disj X (K.put b ob):=fun k hk=>by
 unfold PH.put;rw[if_neg (fun e=>by rw[e]at hk;exact hk hb)];exact h k hk
def Ue (X:PH):Disj X PH.nil:=fun _ _=>rfl
def Disj.none {X K:PH} (h:Disj X K) {b:Nat} (hb:K b≠none):X b=none:=by
 cases e:X b with
 |none=>rfl
 |some o=>exact absurd (h b (by simp[e])) hb
def PH.or_right {X K:PH} {b:Nat} {ob:Obj} (h:Disj X K) (hb:K b=some ob):X.or K b=some ob:=PH.or_r h b ob hb
def Hz {P:Program} {G Xp:Value->PH->Prop} {nx:List (List Value->PH->Prop)} {ρ:List Value} {g:SV} {np:Nat} {ini:List SV} {tb ta te:Tree} {f:FuncId} {caps:List Value} {X K Ro:PH} {E:List (List Value)->List Value->Prop} {S Sp:List (List Value)->PH->Prop} (I Ix:List (List Value)->List Value->PH->Prop)
  (yT:ItC P f caps Ro K E S Sp) (qZ:q8 P f=true) (hd:Disj X K) (hg:D P ρ g= .func (.func f) #[] caps.toArray) (uH:∀pre vals X',I pre vals X'->Pl Ro X') (h0:I [] (ini.map (D P ρ)) X)
  (hr:∀pre xs vals X',E pre xs->vals.length=ini.length->I pre vals X'->xs.length=np/\den P G noP tb (nx++[fun v h=>I (pre++[xs]) v h,fun v h=>Ix (pre++[xs]) v h]) (ρ++(xs++vals)) X')
  (ha:∀xs vals X' K',S xs K'->Disj X' K'->vals.length=ini.length->I xs vals X'->den P G Xp ta nx (ρ++vals) (X'.or K'))
  (hx:∀pre vals X' K',Sp pre K'->Disj X' K'->vals.length=ini.length->Ix pre vals X'->den P G Xp te nx (ρ++vals) (X'.or K')):den P G Xp (.rf g np ini tb ta te) nx ρ (X.or K):=
 ⟨f,caps,X,K,Ro,E,S,Sp,I,Ix,hg,qZ,rfl,hd,yT,uH,h0,hr,ha,hx⟩
def Uf {P:Program} {G Xp:Value->PH->Prop} {nx:List (List Value->PH->Prop)} {ρ:List Value} {pf:Bool} {id i:Nat} {o:Oper} {x:Operand} {az:Array Operand} {tys:Array TypeId} {args:List SV} {t:Tree} {l:Nat} {xs:List Value} {X K:PH} {V:Value->PH->Prop}
  (hy:qi P l xs X K V) (ho:o.op= .call ⟨.value x,az,tys⟩) (hx:e8 (x::az.toList) (.func (.yield l) #[] #[]::xs) x= .func (.yield l) #[] #[]) (sV:az.toList.map (e8 (x::az.toList) (.func (.yield l) #[] #[]::xs))=xs) (ha:args.map (D P ρ)= .func (.yield l) #[] #[]::xs) (sF:pf=false)
  (n:∀v X',Disj X' K->V v X'->den P G Xp t nx (ρ++[v]) (X'.or K)):den P G Xp (.eff pf id i o args t) nx ρ (X.or K):=by
 intro w hw;rw[ha];have hA:az.map (e8 (x::az.toList) (.func (.yield l) #[] #[]::xs))=xs.toArray:=by rw[<-cF,dO];exact sV
 have pD:o.op.operands.toList=x::az.toList:=by simp[ho,Op.operands,Call.operands]
 obtain⟨fn,tmps,asg,body,h1,h2⟩:=hy w hw;have hr:(execOp (e8 (x::az.toList) (.func (.yield l) #[] #[]::xs)) o).run P w= .ok (.round l fn tmps asg body) w:=by
  simp only[execOp,ho,resolve,hx,hA,Deferred.ofValue,eM,eO,eL,invoke];simpa using h1
 unfold StpX;rw[pD,hr];refine h2.mono fun e w' ⟨v,X',he,hs,hd,hV⟩=>⟨v,he,X'.or K,hs,(fun h=>by rw[sF]at h;cases h),n v X' hd hV⟩
end Go.RX
namespace Go.Z
open Proofs.Tryz RowKit RX
set_option maxRecDepth 100000
def Y0:g6 prog [] [] [] [] 142=some (.ru V0
(.br (.uo .eql V0 (kU 0)) (.ret [(.ki 64)])
(.pm f142 3 6 [(.k (.pointer (some ⟨0,0,none⟩))),(.uo .shr (.uo .mul (.uo .and V0 (.op1 .neg .u64 V0)) (kU 285870213051353865)) (kU 58))]
(.pm f142 3 7 [V1]
(.rq (.int .u8 V2) (.ret [(.cv .i64 V2)])))))):=aB
def Y5:(opr f142 3 7).op= .load 5 (.tmp 11):=aB
def Y6:g6 prog [] [] [⟨0,2,[],[]⟩] [] 88=some (.pm f88 1 1 [V0]
(.loop [(.ki 0),(.ki 0)]
(.ri V4
(.ri V2
(.br (.io .lss V4 V2)
(.pm f88 3 1 [V0,V4]
(.pm f88 3 2 [V5]
(.pm f88 4 2 [V1]
(.ri V7
(.br (.io .geq V4 V7) (.ret [(.ki 1)])
(.pm f88 6 2 [V1,V4]
(.pm f88 6 3 [V8]
(.call false 136 [V6,V9]
(.ri V10
(.br (.io .neq V10 (.ki 0)) (.ret [V10]) (.next 0 [V3,(.io .add V4 (.ki 1))])))))))))))
(.pm f88 11 1 [V0]
(.pm f88 11 3 [V1]
(.ri V5
(.ri V6
(.br (.io .lss V5 V6) (.ret [(kI (-1))]) (.ret [(.ki 0)]))))))))))):=aB
def Y7:g6 prog [] [] [] [] 136=some (.call false 204 [V0]
(.call false 204 [V1]
(.rq (.bool V2) (.br V2
(.rq (.bool V3) (.br V3
(.ret [(.ki 0)]) (.ret [(kI (-1))]))) (.rq (.bool V3) (.br V3
(.ret [(.ki 1)])
(.ri V0
(.ri V1
(.br (.io .lss V0 V1) (.ret [(kI (-1))]) (.br (.io .gtr V0 V1) (.ret [(.ki 1)]) (.ret [(.ki 0)]))))))))))):=aB
def Y8:g6 prog [] [] [] [] 204=some (.ri V0
(.ret [(.io .neq V0 V0)])):=aB
def Y9:g6 prog [] [] [⟨0,4,[],[]⟩] [⟨6,[0,0,3,7,0,0,48,112,255],rDx 9 11001100,rPx 9 0,rAx 0 9,[]⟩] 16=some (.pm f16 1 1 [V0]
(.pm f16 1 3 [V1]
(.ri V2
(.ri V3
(.br (.io .neq V2 V3) (.ret [(.k (.bool false))])
(.pm f16 3 1 [V0]
(.loop [(.k (.bool false)),(.ki 0)]
(.ri V6
(.ri V4
(.br (.io .lss V6 V4)
(.pm f16 6 2 [V0,V6]
(.pm f16 6 3 [V7]
(.pm f16 6 6 [V1,V6]
(.pm f16 6 7 [V9]
(.ri V8
(.ri V10
(.br (.io .neq V8 V10) (.ret [(.k (.bool false))]) (.next 0 [V5,(.io .add V6 (.ki 1))])))))))) (.ret [(.k (.bool true))]))))))))))):=aB
def Z0:g6 prog [] [] [] [] 91=some (.call false 140 [V0,V1]
(.ri V2
(.ret [(.io .geq V2 (.ki 0))]))):=aB
def Z1:g6 prog [] [] [] [] 104=some (.call false 165 [V0,V1]
(.ri V2
(.ret [(.io .geq V2 (.ki 0))]))):=aB
def Z2:g6 prog [] [] [⟨0,2,[],[]⟩] [] 140=some (.pm f140 1 1 [V0]
(.loop [(.ki 0),(.ki 0)]
(.ri V4
(.ri V2
(.br (.io .lss V4 V2)
(.pm f140 4 3 [V0,V4]
(.pm f140 4 4 [V5]
(.ef false f140 4 5 [V1,V6]
(.rq (.bool V7) (.br V7
(.ret [V4]) (.next 0 [V3,(.io .add V4 (.ki 1))])))))) (.ret [(kI (-1))])))))):=aB
def Z3:g6 prog [] [] [⟨0,2,[],[]⟩] [] 165=some (.pm f165 1 1 [V0]
(.loop [(.ki 0),(.ki 0)]
(.ri V4
(.ri V2
(.br (.io .lss V4 V2)
(.pm f165 4 3 [V0,V4]
(.pm f165 4 4 [V5]
(.ef false f165 4 5 [V1,V6]
(.rq (.bool V7) (.br V7
(.ret [V4]) (.next 0 [V3,(.io .add V4 (.ki 1))])))))) (.ret [(kI (-1))])))))):=aB
def JG:g6 prog [3,5] [] [⟨0,5,[],[]⟩] [⟨7,[0,1,3,7,15,31,15,79,255,511,1023,2047,4095,2047,10239,32767,65535,131071,262143,262143,1048575,2097151,4194303],rDx 23 211000501100011110011,rPx 23 0,rAx 0 23,[]⟩] 52=some (.rq (.cells 2 V0) (.rq (.int .i64 (.cell V0 0 0 noI)) (.br (.io .lss (.cell V0 0 0 noI) (.ki 1)) (.ret [(.ki 180)]) (.br (.io .gtr (.cell V0 0 0 noI) (.ki 64)) (.ret [(.ki 180)])
(.pm f52 1 11 [(.cell V0 1 0 noI)]
(.ri V1
(.br (.io .gtr V1 (.ki 200)) (.ret [(.ki 180)]) (.pub 54 (.z 54)
(.ef false f52 3 2 [V2,(.put (.put (.z 54) 0 1 (kI (-1)) 0 noI) 1 1 (kI (-1)) 0 noI)]
(.pm f52 4 2 [(.cell V0 1 0 noI)]
(.loop [(.ki 0),(.ki 0)]
(.ri V6
(.ri V4
(.br (.io .lss V6 V4)
(.pm f52 6 0 [(.cell V0 1 0 noI),V6]
(.pm f52 6 1 [V7]
(.pub 54 (.z 54)
(.ef false f52 6 3 [V9,V8]
(.pm f52 7 0 [V9,(.ki 0)]
(.pm f52 7 1 [V11]
(.ri V12
(.br (.io .lss V12 (.ki 0)) (.ret [(.ki 180)])
(.pm f52 7 4 [V9,(.ki 0)]
(.pm f52 7 5 [V13]
(.pm f52 7 6 [V9,(.ki 1)]
(.pm f52 7 7 [V15]
(.ri V14
(.ri V16
(.br (.io .geq V14 V16) (.ret [(.ki 180)])
(.pm f52 7 11 [V9,(.ki 1)]
(.pm f52 7 12 [V17]
(.ri V18
(.br (.io .geq V18 (.cell V0 0 0 noI)) (.ret [(.ki 180)])
(.pm f52 7 18 [V2]
(.pm f52 7 19 [V9]
(.call true 88 [V19,V20]
(.ri V21
(.br (.io .geq V21 (.ki 0)) (.ret [(.ki 180)])
(.pm f52 9 0 [V9]
(.ef false f52 9 1 [V2,V22]
(.next 0 [V5,(.io .add V6 (.ki 1))]))))))))))))))))))))))))))) (.ret [(.ki 0)]))))))))))))))):=aB
def Z4:g6 prog [] [] [] [⟨4,[0,1,0,4,15],[0,2,0,5,0],[0,0,0,0,0],[0,2,3,1,4],[]⟩] 183=some (.rq (.cells 2 V0) (.call false 52 [(.ag V0)]
(.ri V2
(.br (.io .neq V2 (.ki 0)) (.ret [V2]) (.call true 164 [V1]
(.ri V3
(.rq (.int .i64 (.cell V0 0 0 noI)) (.br (.io .gtr V3 (.cell V0 0 0 noI)) (.ret [(.ki 2)]) (.ret [(.ki 0)]))))))))):=aB
def Z5:g6 prog [] [] [] [] 123=some (.rq (.cells 2 V0) (.call false 183 [(.ag V0),V1]
(.ri V2
(.br (.io .neq V2 (.ki 0)) (.ret [(.k (.bool false)),V2]) (.call false 184 [(.ag V0),V1]
(.pm f123 4 3 [V3]
(.ri V4
(.ret [(.io .eql V4 (.ki 1)),(.ki 0)])))))))):=aB
def Z6:g6 prog [] [] [⟨0,3,[],[]⟩] [⟨5,[0,0,2,7,15,0,32,96,255,511,1023],rDx 11 81005011500,rDx 11 1000100,rAx 0 10,[10]⟩,⟨6,[0,0,2,7,15,0,32,96,255,511,1023],rDx 11 81005011500,rDx 11 1000100,rAx 0 10,[10]⟩] 242=some (.rq (.cells 2 V0)
(.ef false f242 1 2 [(.cell V0 0 0 noI),(.cell V0 0 0 noI)]
(.pm f242 2 2 [(.cell V0 1 0 noI)]
(.loop [(.ki 0)]
(.ri V3
(.ri V2
(.br (.io .lss V3 V2)
(.pm f242 4 0 [(.cell V0 1 0 noI),V3]
(.pm f242 4 1 [V4]
(.rq (.cells 2 V5)
(.pm f242 5 3 [V1,(.cell V5 0 0 noI)]
(.pm f242 5 4 [V6]
(.rq (.num (.cell V5 1 0 noI)) (.rq (.nn (.cell V5 1 0 noI))
(.ru V7
(.pm f242 5 9 [V1,(.cell V5 0 0 noI)]
(.ef false f242 5 10 [V8,(.uo .or V7 (.uo .shl (kU 1) (.cell V5 1 0 noI)))]
(.pm f242 6 3 [V1,(.cell V5 1 0 noI)]
(.pm f242 6 4 [V10]
(.rq (.num (.cell V5 0 0 noI)) (.rq (.nn (.cell V5 0 0 noI))
(.ru V11
(.pm f242 6 9 [V1,(.cell V5 1 0 noI)]
(.ef false f242 6 10 [V12,(.uo .or V11 (.uo .shl (kU 1) (.cell V5 0 0 noI)))]
(.next 0 [(.io .add V3 (.ki 1))])))))))))))))))))) (.ret [V1])))))))):=aB
def Z7:g6 prog [] [] [⟨0,4,[],[0,1,2]⟩,⟨0,6,[],[0,1,2]⟩,⟨4,9,[],[3]⟩] [⟨9,[0,0,0,6,14,0,62,127,255],rDx 9 600511055,rDx 9 300100023,rAx 0 8,[8]⟩] 184=some (.rq (.cells 2 V0) (.rq (.cells 1 V1) (.call false 242 [(.ag V0)]
(.rq (.cells 1 V2) (.loop [(.k (.slice none 0 0)),(.cell V1 0 0 noI),V0,V1,V2]
(.ru V4
(.br (.uo .neq V4 (kU 0)) (.loop [(.uo .and V4 (.op1 .neg .u64 V4)),V5,V6,V7]
(.rq (.cells 1 V8) (.call false 243 [V8]
(.rf V12 1 [V8]
(.pm f184 9 3 [(.cell V11 0 0 noI),V13]
(.pm f184 9 4 [V15]
(.ru V16
(.rq (.int .u64 (.cell V10 0 0 noI)) (.rq (.int .u64 (.cell V14 0 0 noI)) (.next 2 [(.uo .or (.cell V14 0 0 noI) (.uo .and V16 (.cell V10 0 0 noI)))])))))) (.rq (.int .u64 (.cell V13 0 0 noI))
(.ru V8
(.br (.uo .eql (.cell V13 0 0 noI) V8)
(.ef false f184 12 2 [V8]
(.ef false f184 12 3 [V3,V14]
(.next 0 [V15,(.uo .andNot V4 V8),V9,V10,V11]))) (.next 1 [(.cell V13 0 0 noI),V9,V10,V11])))) (.dead 818))))) (.ret [V3])))))))):=aB
def Z8:g6 prog [1] [] [] [] 243=some (.rq (.cells 1 V0) (.pub 42 V0
(.ef false f243 1 0 [V1]
(.ret [V2])))):=aB
def Z9:g6 prog [] [] [⟨0,0,[],[]⟩] [] 283=some (.loop []
(.pm f283 0 0 [V1]
(.ru V2
(.br (.uo .neq V2 (kU 0))
(.pm f283 2 1 [V1]
(.call false 142 [V3]
(.ef false f283 2 3 [V0,V4]
(.rq (.bool V5) (.br (.nt V5) (.ret [])
(.pm f283 1 0 [V1]
(.pm f283 1 1 [V1]
(.ru V7
(.ru V6
(.ef false f283 1 4 [V1,(.uo .and V6 (.uo .sub V7 (kU 1)))]
(.next 0 []))))))))))) (.ret []))))):=aB
def d2n:g6 prog [] [] [⟨0,2,[],[]⟩] [] 120=some (.pm f120 1 1 [V0]
(.loop [(.k (.bool false)),(.ki 0)]
(.ri V4
(.ri V2
(.br (.io .lss V4 V2)
(.pm f120 3 0 [V0,V4]
(.pm f120 3 1 [V5]
(.ri V6
(.br (.io .lss V6 (.ki 0)) (.ret [(.k (.bool false))])
(.ri V1
(.br (.io .geq V6 V1) (.ret [(.k (.bool false))]) (.next 0 [V3,(.io .add V4 (.ki 1))])))))))
(.pm f120 7 1 [V0]
(.ri V5
(.br (.io .gtr V5 (.ki 0))
(.pm f120 7 5 [V0]
(.ri V6
(.ret [(.io .leq V6 (.ki 64))]))) (.ret [(.k (.bool false))]))))))))):=aB
def d2o:g6 prog [] [] [⟨0,3,[],[]⟩,⟨0,8,[],[]⟩] [⟨5,[0,0,3,7,0,16,63,127,255],rDx 9 810001100,rPx 9 0,rAx 0 8,[8]⟩] 130=some (.ef false f130 1 1 [V1,V1]
(.pm f130 2 1 [V0]
(.loop [(.ki 0)]
(.ri V4
(.ri V3
(.br (.io .lss V4 V3)
(.pm f130 4 1 [V0,V4]
(.pm f130 4 2 [V5]
(.pm f130 5 2 [V2,V6]
(.pm f130 5 3 [V7]
(.rq (.num V4) (.rq (.nn V4)
(.ru V8
(.pm f130 5 7 [V2,V6]
(.ef false f130 5 8 [V9,(.uo .or V8 (.uo .shl (kU 1) V4))]
(.next 0 [(.io .add V4 (.ki 1))])))))))))) (.loop [(.k (.slice none 0 0)),(.k (.bool false)),(.ki 0)]
(.ri V7
(.ri V1
(.br (.io .lss V7 V1)
(.pm f130 10 2 [V2,V7]
(.pm f130 10 3 [V8]
(.ru V9
(.br (.uo .eql V9 (kU 0)) (.ret [(.k (.slice none 0 0)),(.k (.bool false))]) (.next 1 [V5,V6,(.io .add V7 (.ki 1))]))))) (.ret [V2,(.k (.bool true))]))))))))))):=aB
def JH:g6 prog [45] [] [] [] 129=some (.rq (.cells 2 V0) (.call false 52 [(.ag V0)]
(.ri V3
(.br (.io .neq V3 (.ki 0)) (.ret [(.k (.pointer none)),V3])
(.ri V2
(.br (.io .lss V2 (.ki 1)) (.ret [(.k (.pointer none)),(.ki 2)]) (.br (.io .gtr V2 (.ki 8)) (.ret [(.k (.pointer none)),(.ki 2)])
(.pm f129 6 1 [V1]
(.ri V4
(.rq (.int .i64 (.cell V0 0 0 noI)) (.br (.io .neq V4 (.cell V0 0 0 noI)) (.ret [(.k (.pointer none)),(.ki 210)]) (.call false 120 [V1,V2]
(.rq (.bool V5) (.br (.nt V5) (.ret [(.k (.pointer none)),(.ki 210)]) (.call false 130 [V1,V2]
(.rq (.tup 0 V6) (.rq (.tup 1 V6) (.rq (.bool (.pj V6 1)) (.br (.nt (.pj V6 1)) (.ret [(.k (.pointer none)),(.ki 210)]) (.rq (.cells 1 V1) (.rq (.cells 1 (.pj V6 0)) (.pub 296 (.cat (.ag V0) 2 (.put (.cat V1 1 (.z 140)) 1 1 (.pj V6 0) 0 noI)) (.ret [V7,(.ki 0)]))))))))))))))))))))))):=aB
def d2p:g6 prog [] [] [] [] 79=some (.rq (.cells 2 V0) (.call false 129 [(.ag V0),V1,V2]
(.rq (.tup 0 V3) (.rq (.tup 1 V3) (.ret [(.pj V3 1)]))))):=aB
def d2q:g6 prog [] [] [⟨0,6,[],[]⟩] [] 77=some (.call false 120 [V0,(.ki 8)]
(.rq (.bool V1) (.br (.nt V1) (.ret [(.k (.slice none 0 0)),(.ki 210)])
(.ef false f77 3 0 []
(.pm f77 4 1 [V0]
(.ef false f77 4 2 [V3,V3]
(.pm f77 5 1 [V0]
(.loop [(.ki 0)]
(.ri V6
(.ri V5
(.br (.io .lss V6 V5)
(.pm f77 7 1 [V0,V6]
(.pm f77 7 2 [V7]
(.pm f77 8 2 [V2,V8]
(.rq (.tup 0 V9) (.rq (.tup 1 V9) (.rq (.bool (.pj V9 1)) (.br (.nt (.pj V9 1))
(.pm f77 10 1 [V2]
(.ef false f77 11 3 [V2,V8,V10]
(.pm f77 12 3 [V4,V6]
(.ef false f77 12 4 [V12,V10]
(.next 0 [(.io .add V6 (.ki 1))])))))
(.pm f77 12 3 [V4,V6]
(.ef false f77 12 4 [V10,(.pj V9 0)]
(.next 0 [(.io .add V6 (.ki 1))])))))))))) (.ret [V4,(.ki 0)])))))))))))):=aB
def d2r:g6 prog [] [] [] [] 80=some (.ri V1
(.br (.io .lss V1 (.ki 1)) (.ret [(.k (.slice none 0 0)),(.ki 2)]) (.br (.io .gtr V1 (.ki 8)) (.ret [(.k (.slice none 0 0)),(.ki 2)]) (.call false 120 [V0,V1]
(.rq (.bool V2) (.br (.nt V2) (.ret [(.k (.slice none 0 0)),(.ki 210)]) (.call false 130 [V0,V1]
(.rq (.tup 0 V3) (.rq (.tup 1 V3) (.rq (.bool (.pj V3 1)) (.br (.nt (.pj V3 1)) (.ret [(.k (.slice none 0 0)),(.ki 210)]) (.ret [(.pj V3 0),(.ki 0)])))))))))))):=aB
end Go.Z
namespace Go.GS
open RX
def uv (s:Nat):Value:= .int .u64 (s:Nat)
def ii (z:Int):Value:= .int .i64 z
abbrev M64:Nat:=18446744073709551616
def Je {a:Nat} (h:a<M64):(BitVec.ofInt 64 (a:Int)).toNat=a:=by
 have h:a<18446744073709551616:=h;rw[BitVec.toNat_ofInt];simp;omega
def u64_and {a b:Nat} (ha:a<M64) (hb:b<M64):wQ .u64 ((BitVec.ofInt (IntKind.bits .u64) (a:Int)&&&BitVec.ofInt (IntKind.bits .u64) (b:Int)).toNat:Int)=((a&&&b:Nat):Int):=by
 have e:(BitVec.ofInt 64 (a:Int)&&&BitVec.ofInt 64 (b:Int)).toNat=a&&&b:=by rw[BitVec.toNat_and,Je ha,Je hb]
 show wQ .u64 ((BitVec.ofInt 64 (a:Int)&&&BitVec.ofInt 64 (b:Int)).toNat:Int)=_;rw[e,IntKind.wrap_u64];have:=Nat.and_lt_two_pow a (n:=64) (y:=b) (by simpa using hb);exact jC aA aA
def u64_or {a b:Nat} (ha:a<M64) (hb:b<M64):wQ .u64 ((BitVec.ofInt (IntKind.bits .u64) (a:Int)|||BitVec.ofInt (IntKind.bits .u64) (b:Int)).toNat:Int)=((a|||b:Nat):Int):=by
 have e:(BitVec.ofInt 64 (a:Int)|||BitVec.ofInt 64 (b:Int)).toNat=a|||b:=by rw[BitVec.toNat_or,Je ha,Je hb]
 show wQ .u64 ((BitVec.ofInt 64 (a:Int)|||BitVec.ofInt 64 (b:Int)).toNat:Int)=_;rw[e,IntKind.wrap_u64];have:=dH (n:=64) (x:=a) (y:=b) (by simpa using ha) (by simpa using hb);exact jC aA aA
def sdf (a b:Nat):Nat:=a^^^(a&&&b)
def Kv (a b i:Nat):(sdf a b).testBit i=(a.testBit i&& !b.testBit i):=by
 unfold sdf;rw[Nat.testBit_xor,iR];cases a.testBit i<;>cases b.testBit i<;>rfl
def Qk {a b:Nat} (ha:a<M64):sdf a b<M64:=by
 have h1:a&&&b<2^64:=aR iS (by simpa using ha);exact Nat.xor_lt_two_pow (n:=64) (by simpa using ha) h1
def u64_andn {a b:Nat} (ha:a<M64) (hb:b<M64):wQ .u64 ((BitVec.ofInt (IntKind.bits .u64) (a:Int)&&& ~~~BitVec.ofInt (IntKind.bits .u64) (b:Int)).toNat:Int)=((sdf a b:Nat):Int):=by
 have e:(BitVec.ofInt 64 (a:Int)&&& ~~~BitVec.ofInt 64 (b:Int)).toNat=sdf a b:=by
  apply fE;intro i;rw[BitVec.toNat_and,Kv,iR,Je ha,<-BitVec.getLsbD,BitVec.getLsbD_not,BitVec.getLsbD,Je hb];by_cases hi:i<64
  ·simp[hi]
  ·have:a.testBit i=false:=jO (aM (by simpa using ha:a<2^64) (bB aA aA));simp[this]
 show wQ .u64 ((BitVec.ofInt 64 (a:Int)&&& ~~~BitVec.ofInt 64 (b:Int)).toNat:Int)=_;rw[e,IntKind.wrap_u64];have:=Qk (b:=b) ha;exact jC aA (by simp only[M64]at this;omega)
def u64_shl {a k:Nat} (hk:k<64):wQ .u64 ((a:Int)*2^(min ((k:Nat):Int).toNat (IntKind.bits .u64)))=((a*2^k%M64:Nat):Int):=by
 have e:min ((k:Nat):Int).toNat (IntKind.bits .u64)=k:=by show min ((k:Nat):Int).toNat 64=k;rw[bO];omega
 rw[e,IntKind.wrap_u64];simp[M64]
def u64_shr {a k:Nat}:(a:Int).fdiv (2^(min ((k:Nat):Int).toNat (IntKind.bits .u64)))=((a/2^(min k 64):Nat):Int):=by
 show(a:Int).fdiv (2^(min ((k:Nat):Int).toNat 64))=_;rw[bO,show(2:Int)^(min k 64)=((2^(min k 64):Nat):Int)from aD,iZ _ (Int.natCast_nonneg _)];simp
def u64_neg {a:Nat} (ha:a<M64):wQ .u64 (0-(a:Int))=(((M64-a)%M64:Nat):Int):=by
 rw[IntKind.wrap_u64];simp only[M64]at*;omega
def u64_sub {a b:Nat} (ha:a<M64) (hb:b<=a):wQ .u64 ((a:Int)-(b:Int))=((a-b:Nat):Int):=by
 rw[IntKind.wrap_u64];simp only[M64]at*;omega
def bit (s x:Nat):Bool:=s.testBit x
def vi {s x:Nat} (hs:s<M64) (hx:64<=x):bit s x=false:=
 jO (aM (by simpa using hs:s<2^64) (bB aA hx))
def Ug {s x:Nat} (hs:s<M64) (h:bit s x=true):x<64:=by
 rcases eB x 64 with h1|h1
 ·exact h1
 ·rw[vi hs h1]at h;cases h
def Ia (a b x:Nat):bit (a&&&b) x=(bit a x&&bit b x):=iR ..
def Ap (a b x:Nat):bit (a|||b) x=(bit a x||bit b x):=Nat.testBit_or ..
def Jf (a b x:Nat):bit (sdf a b) x=(bit a x&& !bit b x):=Kv ..
def Bj (k x:Nat):bit (2^k) x=decide (k=x):=eU ..
def Ej (x:Nat):bit 0 x=false:=Nat.zero_testBit x
def Gu {a b:Nat} (h:∀x,bit a x=bit b x):a=b:=fE h
def c0H {a b:Nat} (ha:a<M64) (hb:b<M64) (h:∀x,x<64->bit a x=bit b x):a=b:=Gu fun x=>by
 rcases eB x 64 with h1|h1
 ·exact h x h1
 ·rw[vi ha h1,vi hb h1]
def Df {k:Nat} (h:k<64):2^k<M64:=by
 have:=cR (a:=2) aA h;exact this
def d2s {k:Nat} (h:k<64):1*2^k%M64=2^k:=by rw[cL,eH (Df h)]
def Ql {a b:Nat} (ha:a<M64) (hb:b<M64):a|||b<M64:=dH (n:=64) (by simpa using ha) (by simpa using hb)
def Qm {a b:Nat} (ha:a<M64):a&&&b<M64:=aR iS ha
def Uh {a b:Nat} (hb:b<M64):a&&&b<M64:=aR Nat.and_le_right hb
def d2t {s x:Nat}:((s/2^x)&&&1:Nat)=if bit s x then 1 else 0:=by
 have h1:bit s x=((s/2^x)&&&1 !=0):=by
  unfold bit Nat.testBit;rw[Nat.shiftRight_eq_div_pow,Nat.and_comm]
 rw[h1,Nat.and_one_is_mod];rcases Nat.mod_two_eq_zero_or_one (s/2^x)with h|h<;>simp[h]
def d2u {s x:Nat} (h:s<M64):s/2^x<M64:=aR (Nat.div_le_self _ _) h
def els (s:Nat):List Nat:=(eT 64).filter (bit s)
def Kw {s x:Nat} (hs:s<M64):x∈els s↔bit s x=true:=by
 unfold els;rw[dJ,bH];exact⟨fun h=>h.2,fun h=>⟨Ug hs h,h⟩⟩
def c6z {s x:Nat} (h:x∈els s):x<64/\bit s x=true:=by
 unfold els at h;rw[dJ,bH]at h;exact h
def fm:els 0=[]:=by
 unfold els;rw[List.filter_eq_nil_iff];intro x _;simp[Ej]
def Oa {s:Nat} (hs:s<M64) (h:els s=[]):s=0:=c0H hs aC fun x hx=>by
 rw[Ej];cases e:bit s x with
 |false=>rfl
 |true=>have:=(Kw hs).2 e;rw[h]at this;cases this
def JI {s k:Nat} (hk:bit s k=true) (hl:∀j,j<k->bit s j=false):s=2^(k+1)*(s/2^(k+1))+2^k:=by
 have h:=Nat.div_add_mod s (2^(k+1));have e:s%2^(k+1)=2^k:=by
  apply fE;intro i;rw[Nat.testBit_mod_two_pow,eU];by_cases h1:i<k
  ·have:=hl i h1;unfold bit at this;simp[this,show ¬k=i from aA]
  ·by_cases h2:i=k
   ·subst h2;unfold bit at hk;simp[hk]
   ·simp[show ¬i<k+1 from aA,show ¬k=i from fun e=>h2 e.symm]
 rw[e]at h;exact h.symm
def Yf {s k:Nat} (hk:bit s k=true) (hl:∀j,j<k->bit s j=false) (i:Nat):bit (s-1) i=if i<k then true else if i=k then false else bit s i:=by
 have h:=JI hk hl;have h2:=Nat.two_pow_pos k;generalize s/2^(k+1)=q at h;have e1:s-1=2^(k+1)*q+(2^k-1):=aA;have oV:2^k-1<2^(k+1):=by rw[kJ];omega
 have a0g:2^k<2^(k+1):=by rw[kJ];omega
 unfold bit;rw[e1,kN _ oV];rw[h,kN _ a0g,Nat.testBit_two_pow_sub_one,eU];by_cases c1:i<k
 ·simp[c1,show i<k+1 from aA]
 ·by_cases c2:i=k
  ·subst c2;simp
  ·simp[c1,c2,show ¬i<k+1 from aA]
def Ib {s x:Nat} {r:List Nat} (h:els s=x::r):bit s x=true/\x<64/\∀j,j<x->bit s j=false:=by
 have hm:=c6z (s:=s) (x:=x) (by rw[h];simp);refine⟨hm.2,hm.1,fun j hj=> ?_⟩;cases e:bit s j with
 |false=>rfl
 |true=>
  have hp:(els s).Pairwise (· < ·):=lH.filter _;have xP:j∈els s:=by unfold els;rw[dJ,bH];exact⟨aA,e⟩
  rw[h]at xP hp;rcases aX.1 xP with rfl|xP
  ·omega
  ·have:=(iY.1 hp).1 j xP;omega
def JJ (s:Nat):(els s).Pairwise (· < ·):=lH.filter _
def b8a:∀{a b:List Nat},a.Pairwise (· < ·)->b.Pairwise (· < ·)->(∀x,x∈a↔x∈b)->a=b:=by
 intro a;induction a with
 |nil=>intro b _ _ h;cases b with
  |nil=>rfl
  |cons y b=>exact absurd ((h y).2 aD) aD
 |cons x a ih=>
  intro b ha hb h;cases b with
  |nil=>exact absurd ((h x).1 aD) aD
  |cons y b=>
   rw[iY]at ha hb;have e:x=y:=by
    rcases aX.1 ((h x).1 aD)with h1|h1
    ·exact h1
    ·rcases aX.1 ((h y).2 aD)with h2|h2
     ·exact h2.symm
     ·have:=ha.1 y h2;have:=hb.1 x h1;omega
   subst e;rw[ih ha.2 hb.2 fun z=> ?_];constructor
   ·intro hz;rcases aX.1 ((h z).1 (by simp[hz]))with h1|h1
    ·have:=ha.1 z hz;omega
    ·exact h1
   ·intro hz;rcases aX.1 ((h z).2 (by simp[hz]))with h1|h1
    ·have:=hb.1 z hz;omega
    ·exact h1
def vj {s x:Nat} {r:List Nat} (hs:s<M64) (h:els s=x::r):els (s&&&(s-1))=r:=by
 obtain⟨h1,h2,h3⟩:=Ib h;have hp:=JJ s;rw[h,iY]at hp;refine b8a (JJ _) hp.2 fun y=> ?_;rw[Kw (Qm hs),Ia,Yf h1 h3];have hy:=Kw (x:=y) hs;rw[h]at hy;constructor
 ·intro hh;rw[aT]at hh;rcases aX.1 (hy.2 hh.1)with rfl|h4
  ·simp at hh
  ·exact h4
 ·intro hh;have h4:=hp.1 y hh;rw[hy.1 (by simp[hh])];simp[show ¬y<x from aA,show ¬y=x from aA]
def fq {s x:Nat} {r:List Nat} (hs:s<M64) (h:els s=x::r):s&&&((M64-s)%M64)=2^x:=by
 obtain⟨h1,h2,h3⟩:=Ib h;have h0:s≠0:=fun e=>by rw[e,Ej]at h1;cases h1
 apply Gu;intro i;have e1:(M64-s)%M64=2^64-((s-1)+1):=by
  rw[eH aA];show 2^64-s=_;congr 1;omega
 have e2:bit (2^64-((s-1)+1)) i=(decide (i<64)&& !bit (s-1) i):=Nat.testBit_two_pow_sub_succ (by simp only[M64]at hs;omega) i;rw[Ia,e1,e2,Yf h1 h3,Bj];by_cases c1:i<x
 ·simp[c1,show ¬x=i from aA]
 ·by_cases c2:i=x
  ·subst c2;simp[h1,h2]
  ·simp[c1,c2,show ¬x=i from fun e=>c2 e.symm];intro h5 _;exact h5
def card (s:Nat):Nat:=(els s).length
end Go.GS
namespace Go.Z
open Proofs.Tryz RowKit RX WD GS
def el_int:El prog 33 3 1 false (fun z:Int=>[ii z]) ii where
 und:=aB
 has:=aB
 cel:=aB
 agg:=aB
 pos:=aC
 one1:=fun _=>rfl
 small:=aC
 inf:=⟨(prog.info? 3).getD default,ii 0,aB,aB,aB,rfl,oDt aB⟩
 len:=fun _=>rfl
 val:=fun _=>rfl
 cells:=fun _=>rfl
 one:=fun x c hc=>by simp at hc;subst hc;rfl
def y6:El prog 49 3 1 false (fun z:Int=>[ii z]) ii where
 und:=aB
 has:=aB
 cel:=aB
 agg:=aB
 pos:=aC
 one1:=fun _=>rfl
 small:=aC
 inf:=⟨(prog.info? 3).getD default,ii 0,aB,aB,aB,rfl,oDt aB⟩
 len:=fun _=>rfl
 val:=fun _=>rfl
 cells:=fun _=>rfl
 one:=fun x c hc=>by simp at hc;subst hc;rfl
def el_u64:El prog 140 42 1 false (fun s:Nat=>[uv s]) uv where
 und:=aB
 has:=aB
 cel:=aB
 agg:=aB
 pos:=aC
 one1:=fun _=>rfl
 small:=aC
 inf:=⟨(prog.info? 42).getD default,uv 0,aB,aB,aB,rfl,oDt aB⟩
 len:=fun _=>rfl
 val:=fun _=>rfl
 cells:=fun _=>rfl
 one:=fun x c hc=>by simp at hc;subst hc;rfl
def ec (e:Nat×Nat):List Value:=[ii e.1,ii e.2]
def ev2 (e:Nat×Nat):Value:= .agg #[ii e.1,ii e.2]
def el_edge:El prog 23 54 2 true ec ev2 where
 und:=aB
 has:=aB
 cel:=aB
 agg:=aB
 pos:=aC
 one1:=fun h=>by cases h
 small:=aC
 inf:=⟨(prog.info? 54).getD default,.agg #[ii 0,ii 0],aB,aB,aB,rfl,oDt aB⟩
 len:=fun _=>rfl
 val:=fun _=>rfl
 cells:=fun _=>rfl
 one:=fun x c hc=>by simp[ec]at hc;rcases hc with rfl|rfl<;>rfl
def JK {n:Nat} (h:n<9223372036854775808):wQ .i64 (n:Int)=n:=by rw[IntKind.wrap_i64];omega
def d2v (k:IntKind) (a:Int):unV .neg k a= .int k (k.wrap (0-a)):=rfl
def c0I (k:IntKind) (a:Int):intOf (.int k a)=a:=rfl
def tabL:List Nat:=[0,1,56,2,57,49,28,3,61,58,42,50,38,29,17,4,62,47,59,36,45,43,51,22,53,39,33,30,24,18,12,5,63,55,48,27,60,41,37,16,46,35,44,21,52,32,23,11,54,26,40,15,34,20,31,10,25,14,19,9,13,8,7,6]
def Tb (H:PH):Prop:=∃T fz,H 0=some (.cells (tabL.map fun n=>Value.int .u8 (n:Nat)).toArray T fz)
def Tb.mono {H H':PH} (h:Tb H) (hl:Pl H H'):Tb H':=by
 obtain⟨T,fz,h⟩:=h;exact⟨T,fz,hl _ _ h⟩
def tz (s:Nat):Nat:=(els s).headD 64
def d7f:∀k,k<64->tabL[(2^k*285870213051353865%18446744073709551616)/288230376151711744]? =some k:=aC
section
variable {H:PH} {s:Nat}
def Yg (hT:Tb H) (hs:s<M64):Con prog 142 [uv s] H fun u H'=>H'=H/\u=ii (tz s):=by
 obtain⟨T,fz,hT⟩:=hT;refine t8 mixed Y0 aB rfl (b4 ⟨_,rfl⟩ (g8 (b:=decide (s=0)) ?_ (fun h=> ?_) (fun h=> ?_)))
 ·simp only[rxs,uv];congr 1;rw[bS];simp
 ·have h:=oDt h;subst h;refine c9 rfl ⟨rfl,?_⟩;simp only[rxs,y9,tz,fm];rfl
 ·have h:=oDf h;cases he:els s with
  |nil=>exact absurd (Oa hs he) h
  |cons x r=>
   have hn:=fq hs he;have hx:=(Ib he).2.1;have htz:tz s=x:=by simp[tz,he]
   have a0q:=d7f x hx;have oV:=(aH.1 a0q).1;obtain⟨m,hm⟩:∃m,m=(2^x*285870213051353865%18446744073709551616)/288230376151711744:=⟨_,rfl⟩;rw[<-hm]at a0q oV;have oV:m<64:=oV;have e1:((M64-s)%M64:Nat)<M64:=cO _ aC;have ea:[SV.k (Value.pointer (some ⟨0,0,none⟩)),SV.op2 .shr .u64 (.op2 .mul .u64 (.op2 .and .u64 (.v 0) (.op1 .neg .u64 (.v 0))) (.k (.int .u64 285870213051353865))) (.k (.int .u64 58))].map (D prog [uv s])=[.pointer (some ⟨0,0,none⟩),.int .u64 ((m:Nat):Int)]:=by
    simp only[rxs,uv];congr 2;rw[IntKind.wrap_u64];have e58:(2:Int)^min (Int.toNat 58) (IntKind.bits .u64)=288230376151711744:=aC;have e2:∀n:Nat,(n:Int)*285870213051353865%18446744073709551616/288230376151711744=((n*285870213051353865%18446744073709551616/288230376151711744:Nat):Int):=fun n=>by omega
    rw[e58,d2v,c0I,Go.GS.u64_neg hs,Go.GS.u64_and hs e1,hn,iZ _ aC,e2,<-hm]
   refine j6 ((FG (P:=prog) (len:=64) (e:=5) rfl rfl rfl aB aB aA aA).rds H) ea ?_;have qL:prog.cellsOf 5=1:=aB;have sD:p8 prog 5=false:=aB;rw[bO,qL,bP,gB];have hl:=Sz (P:=prog) (o:=opr f142 3 7) (H:=H) (T:=5) Y5 rfl hT aB (q:=m) (by rw[qL];simp only[kD,aW];show _<=64;omega) (fun _=>by simp only[kD,aW];show _<64;omega);rw[sD]at hl;have hv:((tabL.map fun n=>Value.int .u8 (n:Nat)).toArray).getD m undef= .int .u8 (x:Nat):=by
    rw[bX,List.getElem?_toArray,aY,a0q];rfl
   simp only[aZ,if_false,hv]at hl;simp only[cA,nA];refine j6 hl rfl ?_;simp only[cA,nA];refine b4 ⟨_,rfl⟩ (c9 rfl ⟨rfl,?_⟩);simp only[rxs,y9,htz,ii];rw[JK aA]
end
def Ob {P:Program} {ρ:List Value} {a:SV} {n:Nat} {k:IntKind} (ha:D P ρ a= .int k (n:Nat)) (h:n<M64):D P ρ (.cv .u64 a)= .int .u64 (n:Nat):=by
 show Value.int .u64 (wQ .u64 (intOf (D P ρ a)))=_;rw[ha];show Value.int .u64 (wQ .u64 (n:Int))= .int .u64 _;congr 1;rw[IntKind.wrap_u64];simp only[M64]at h;omega
end Go.Z
namespace Go.RX
open RowKit
def Asks (P:Program) (f:FuncId) (args:List Value) (H:PH) (v:Value):Prop:=Con P f args H fun u H'=>H'=H/\u=v
section
variable {P:Program} {G Xp:Value->PH->Prop} {nx:List (List Value->PH->Prop)} {ρ:List Value} {H:PH}
def s7 {pf:Bool} {f:FuncId} {args:List SV} {t:Tree} {vs:List Value} {v:Value} (hd:Asks P f vs H v) (ha:args.map (D P ρ)=vs) (n:den P G Xp t nx (ρ++[v]) H):den P G Xp (.call pf f args t) nx ρ H:=
 g5 hd ha fun u H' ⟨h1,h2⟩=>by subst h1;subst h2;exact⟨fun _=>Pl.refl _,n⟩
def Yh {F:List Value->PH->Prop} {nx nx':List (List Value->PH->Prop)} {a b:List Value->PH->Prop} (hl:nx.length=nx'.length) (h:∀d l h,nx.getD d F l h->nx'.getD d F l h) (tY:∀l h,a l h->b l h):
  (nx++[a]).length=(nx'++[b]).length/\∀d l h,(nx++[a]).getD d F l h->(nx'++[b]).getD d F l h:=by
 refine⟨by simp[hl],fun d l h' hx=> ?_⟩;rw[aK]at hx⊢;by_cases hd:d<nx.length
 ·rw[aQ hd]at hx;rw[aQ aA];have:=h d l h';rw[aK,aK]at this;exact this hx
 ·rw[aN aA]at hx;rw[aN aA];rw[<-hl];cases e:d-nx.length with
  |zero=>rw[e]at hx;exact tY l h' hx
  |succ n=>rw[e]at hx;exact hx
def c0J:∀(t:Tree) (Xp:Value->PH->Prop) (nx nx':List (List Value->PH->Prop)) (ρ:List Value) (H:PH),nx.length=nx'.length->(∀d l h,nx.getD d (fun _ _=>False) l h->nx'.getD d (fun _ _=>False) l h)->den P G Xp t nx ρ H->den P G Xp t nx' ρ H:=by
 intro t;induction t with
 |ret l=>intro Xp nx nx' ρ H _ _ h;exact h
 |rq r t ih=>intro Xp nx nx' ρ H hl hn h;exact⟨h.1,ih _ _ _ _ _ hl hn h.2⟩
 |br c t e ih1 ih2=>intro Xp nx nx' ρ H hl hn h;exact⟨fun hc=>ih1 _ _ _ _ _ hl hn (h.1 hc),fun hc=>ih2 _ _ _ _ _ hl hn (h.2 hc)⟩
 |call pf f args t ih=>
  intro Xp nx nx' ρ H hl hn h w hw;exact(h w hw).mono fun e w' hh=>hh.imp (fun⟨v,H',he,hs,hp,hd⟩=>⟨v,H',he,hs,hp,ih _ _ _ _ _ hl hn hd⟩) fun h=>h
 |prim id i o args t ih=>
  intro Xp nx nx' ρ H hl hn h;obtain⟨v,hd,h⟩:=h;exact⟨v,hd,ih _ _ _ _ _ hl hn h⟩
 |eff pf id i o args t ih=>
  intro Xp nx nx' ρ H hl hn h w hw;exact(h w hw).mono fun u w' ⟨H',hs,hp,hd⟩=>⟨H',hs,hp,ih _ _ _ _ _ hl hn hd⟩
 |ext f args t ih=>
  intro Xp nx nx' ρ H hl hn h;obtain⟨v,hd,h⟩:=h;exact⟨v,hd,ih _ _ _ _ _ hl hn h⟩
 |pub T c t ih=>intro Xp nx nx' ρ H hl hn h b hb;exact ih _ _ _ _ _ hl hn (h b hb)
 |dead n=>intro Xp nx nx' ρ H _ _ h;exact h
 |both t u ih1 ih2=>intro Xp nx nx' ρ H hl hn h;exact⟨ih1 _ _ _ _ _ hl hn h.1,ih2 _ _ _ _ _ hl hn h.2⟩
 |rf g np ini tb ta te ih1 ih2 ih3=>
  intro Xp nx nx' ρ H hl hn h;obtain⟨f,caps,X,K,Ro,E,S,Sp,I,Ix,h1,h2,h3,h4,h5,h6,h7,h8,h9,tP⟩:=h;refine⟨f,caps,X,K,Ro,E,S,Sp,I,Ix,h1,h2,h3,h4,h5,h6,h7,fun pre xs vals X' a b c=>⟨(h8 pre xs vals X' a b c).1,?_⟩,fun xs vals X' K' a b c d=>ih2 _ _ _ _ _ hl hn (h9 xs vals X' K' a b c d),fun pre vals X' K' a b c d=>ih3 _ _ _ _ _ hl hn (tP pre vals X' K' a b c d)⟩;have e1:=Yh (F:=fun _ _=>False) hl hn (a:=fun v h=>I (pre++[xs]) v h) (b:=fun v h=>I (pre++[xs]) v h) (fun _ _ h=>h);have e2:=Yh (F:=fun _ _=>False) e1.1 e1.2 (a:=fun v h=>Ix (pre++[xs]) v h) (b:=fun v h=>Ix (pre++[xs]) v h) (fun _ _ h=>h);simp only[bL,dE,cU]at e2;exact ih1 _ _ _ _ _ e2.1 e2.2 (h8 pre xs vals X' a b c).2
 |mk id i o args t ih=>
  intro Xp nx nx' ρ H hl hn h;obtain⟨mk,ob,h1,h2⟩:=h;exact⟨mk,ob,h1,fun b hb=>ih _ _ _ _ _ hl hn (h2 b hb)⟩
 |loop ini t ih=>
  intro Xp nx nx' ρ H hl hn h;obtain⟨I,μ,h0,h1⟩:=h;refine⟨I,μ,h0,fun vals H' hv hI=> ?_⟩;have e:=Yh (F:=fun _ _=>False) hl hn (a:=fun l h=>I l h/\μ l h<μ vals H') (b:=fun l h=>I l h/\μ l h<μ vals H') (fun _ _ h=>h);exact ih _ _ _ _ _ e.1 e.2 (h1 vals H' hv hI)
 |next d l=>intro Xp nx nx' ρ H hl hn h;exact hn d _ _ h
 |join n t u ih1 ih2=>
  intro Xp nx nx' ρ H hl hn h;obtain⟨J,h1,h2⟩:=h;have e:=Yh (F:=fun _ _=>False) hl hn (a:=J) (b:=J) (fun _ _ h=>h);exact⟨J,ih1 _ _ _ _ _ e.1 e.2 h1,fun vals H' hv hJ=>ih2 _ _ _ _ _ hl hn (h2 vals H' hv hJ)⟩
def c6A (t:Tree) (nx nx':List (List Value->PH->Prop)) (ρ:List Value) (H:PH) (hl:nx.length=nx'.length) (hn:∀d l h,nx.getD d (fun _ _=>False) l h->nx'.getD d (fun _ _=>False) l h) (h:den P G Xp t nx ρ H):den P G Xp t nx' ρ H:=c0J t Xp nx nx' ρ H hl hn h
def c0K {p:Nat->Prop}:∀n,p n->∃m,p m/\∀k,p k->m<=k:=by
 intro n;induction n using Nat.strongRecOn with
 |_ n ih=>
  intro hp;by_cases h:∃k,k<n/\p k
  ·obtain⟨k,h1,h2⟩:=h;exact ih k h1 h2
  ·exact⟨n,hp,fun k hk=>Nat.le_of_not_lt fun oV=>h ⟨k,oV,hk⟩⟩
def t6 {ini:List SV} {t:Tree} {α:Type} (f:α->List Value) (Q:α->PH->Prop) (m:α->Nat) (a0:α) (h0:ini.map (D P ρ)=f a0) (hQ:Q a0 H)
  (hs:∀a H',Q a H'->den P G Xp t (nx++[fun l h=>∃b,m b<m a/\l=f b/\Q b h]) (ρ++f a) H'):den P G Xp (.loop ini t) nx ρ H:=by
 classical
 have key:∀(l:List Value) (h:PH),(∃a,l=f a/\Q a h)->∃a,(l=f a/\Q a h)/\∀b,(l=f b/\Q b h)->m a<=m b:=by
  intro l h ⟨a,ha⟩;obtain⟨n,⟨a',e1,e2⟩,e3⟩:=c0K (p:=fun n=>∃a,m a=n/\l=f a/\Q a h) (m a) ⟨a,rfl,ha⟩;exact⟨a',e2,fun b hb=>by rw[e1];exact e3 _ ⟨b,rfl,hb⟩⟩
 refine⟨fun l h=>∃a,l=f a/\Q a h,fun l h=>if hx:∃a,l=f a/\Q a h then m (key l h hx).choose else 0,⟨a0,h0,hQ⟩,?_⟩;intro vals H' _ hI;obtain⟨⟨e1,e2⟩,e3⟩:=(key vals H' hI).choose_spec;have hm:(if hx:∃a,vals=f a/\Q a H' then m (key vals H' hx).choose else 0)=m (key vals H' hI).choose:=dif_pos hI;have h:=hs _ H' e2;rw[<-e1]at h;have e:=Yh (F:=fun _ _=>False) (nx:=nx) (nx':=nx) rfl (fun _ _ _ h=>h) (a:=fun l h=>∃b,m b<m (key vals H' hI).choose/\l=f b/\Q b h)
  (b:=fun l h=>(∃a,l=f a/\Q a h)/\(if hx:∃a,l=f a/\Q a h then m (key l h hx).choose else 0)<(if hx:∃a,vals=f a/\Q a H' then m (key vals H' hx).choose else 0)) (by
   rintro l h' ⟨b,pV,pS,tR⟩;have hx:∃a,l=f a/\Q a h':=⟨b,pS,tR⟩;refine⟨hx,?_⟩;rw[hm,dif_pos hx];exact aR ((key l h' hx).choose_spec.2 b ⟨pS,tR⟩) pV)
 exact c6A _ _ _ _ _ e.1 e.2 h
def Jg {ini:List SV} {t:Tree} {α:Type} (f:α->List Value) (Q:α->Prop) (m:α->Nat) (a0:α) (h0:ini.map (D P ρ)=f a0) (hQ:Q a0)
  (hs:∀a,Q a->den P G Xp t (nx++[fun l h=>∃b,m b<m a/\l=f b/\Q b/\h=H]) (ρ++f a) H):den P G Xp (.loop ini t) nx ρ H:=
 t6 f (fun a h=>Q a/\h=H) m a0 h0 ⟨hQ,rfl⟩ fun a H' ⟨h1,h2⟩=>by subst h2;exact hs a h1
def PH.le_put_of {H H':PH} {b:Nat} {o:Obj} (h:Pl H H') (hb:H b=none):Pl H (H'.put b o):=fun k ob hk=>by
 unfold PH.put;split
 ·rename_i e;subst e;rw[hb]at hk;cases hk
 ·exact h k ob hk
def PH.le_put2 {H:PH} {b:Nat} (hb:H b=none) (o o2:Obj):Pl H ((H.put b o).put b o2):=PH.le_put_of (PH.le_put hb _) hb
structure Sc (P:Program) (T:TypeId):Prop where
 has:r9 P T=true
 agg:p8 P T=false
 cel:P.cellsOf T=1
structure Ag (P:Program) (T:TypeId) (n:Nat):Prop where
 has:r9 P T=true
 agg:p8 P T=true
 cel:P.cellsOf T=n
structure Ar (P:Program) (T e:TypeId) (n:Nat):Prop where
 und:P.underlying T=some (.array n e)
 has:r9 P T=true
 agg:p8 P T=true
 cel:P.cellsOf T=n
 sc:Sc P e
section
variable {o o1 o2:Oper} {x y x2:Operand} {id i id2 i2:Nat} {args args2:List SV} {t:Tree} {pf:Bool} {b q:Nat} {T T' e:TypeId} {fz:Nat×Nat} {cs:Array Value} {u:Value} {n:Nat}
def i7 (hT:Sc P T) (ho:o.op= .load T x) (hx:e8 [x] [.pointer (some ⟨b,q,none⟩)] x= .pointer (some ⟨b,q,none⟩)) (hH:H b=some (.cells cs T' fz)) (hv:cs[q]? =some u) (ha:args.map (D P ρ)=[.pointer (some ⟨b,q,none⟩)]) (n:den P G Xp t nx (ρ++[u]) H):den P G Xp (.prim id i o args t) nx ρ H:=by
 have hq:=(Array.getElem?_eq_some_iff.1 hv).1;have h:=Sz ho hx hH hT.has (by rw[hT.cel];omega) (fun _=>hq);rw[hT.agg]at h;simp only[aZ,if_false,bX,hv,Option.getD_some]at h;exact j6 h ha n
def s5 {vs:List Value} (hT:Ag P T vs.length) (ho:o.op= .load T x) (hx:e8 [x] [.pointer (some ⟨b,q,none⟩)] x= .pointer (some ⟨b,q,none⟩)) (hH:H b=some (.cells cs T' fz)) (hv:(cs.toList.drop q).take vs.length=vs) (hq:q+vs.length<=cs.size) (ha:args.map (D P ρ)=[.pointer (some ⟨b,q,none⟩)]) (n:den P G Xp t nx (ρ++[.agg vs.toArray]) H):den P G Xp (.prim id i o args t) nx ρ H:=by
 have h:=Sz ho hx hH hT.has (by rw[hT.cel];exact hq) (fun h=>by rw[hT.agg]at h;cases h);rw[hT.agg,hT.cel]at h;simp only[if_true]at h;have:cs.extract q (q+vs.length)=vs.toArray:=by rw[<-cF,Array.toList_extract,List.extract_eq_take_drop,Nat.add_sub_cancel_left,hv]
 rw[this]at h;exact j6 h ha n
def Ek (hT:Sc P T) (ho:o.op= .store T x y) (hx:e8 [x,y] [.pointer (some ⟨b,q,none⟩),u] x= .pointer (some ⟨b,q,none⟩)) (hy:e8 [x,y] [.pointer (some ⟨b,q,none⟩),u] y=u) (hH:H b=some (.cells cs T' (0,0))) (hq:q<cs.size) (hu:u.cells= #[u]) (h1:n8 u=true) (ha:args.map (D P ρ)=[.pointer (some ⟨b,q,none⟩),u]) (sF:pf=true->Pl H (H.put b (.cells (cs.setIfInBounds q u) T' (0,0))))
  (n:den P G Xp t nx (ρ++[undef]) (H.put b (.cells (cs.setIfInBounds q u) T' (0,0)))):den P G Xp (.eff pf id i o args t) nx ρ H:=by
 refine j4 (Ta ho hx hy hH hT.has (by rw[hT.cel];omega) (by rw[hu,hT.cel];rfl) (fun c hc=> ?_)) ha ?_
 ·rw[hu]at hc;simp at hc;subst hc;exact h1
 ·rintro v H' ⟨rfl,rfl⟩;rw[hu];exact⟨sF,n⟩
def c6B:∀(vs cs:List Value) (q:Nat) (a:Array Value),a.size=q+vs.length->(spl a q vs).toList=a.toList.take q++vs:=by
 intro vs;induction vs with
 |nil=>intro cs q a h;simp only[spl];rw[aI (by simp at h⊢;omega),dM]
 |cons v vs ih=>
  intro cs q a h;simp only[spl];simp only[aO]at h;rw[ih cs (q+1) _ (by simp;omega),Array.toList_setIfInBounds];rw[cK,List.take_set_of_le (aS _),bL];congr 1;rw[List.getElem?_set_self (by simp;omega)];rfl
def Yi {vs:List Value} (hT:Ag P T vs.length) (ho:o.op= .store T x y) (hx:e8 [x,y] [.pointer (some ⟨b,0,none⟩),.agg vs.toArray] x= .pointer (some ⟨b,0,none⟩)) (hy:e8 [x,y] [.pointer (some ⟨b,0,none⟩),.agg vs.toArray] y= .agg vs.toArray) (hH:H b=some (.cells cs T' (0,0))) (hq:cs.size=vs.length) (h1:∀c∈vs,n8 c=true) (ha:args.map (D P ρ)=[.pointer (some ⟨b,0,none⟩),.agg vs.toArray]) (sF:pf=true->Pl H (H.put b (.cells vs.toArray T' (0,0))))
  (n:den P G Xp t nx (ρ++[undef]) (H.put b (.cells vs.toArray T' (0,0)))):den P G Xp (.eff pf id i o args t) nx ρ H:=by
 refine j4 (Ta ho hx hy hH hT.has (by rw[hT.cel];omega) (by rw[hT.cel];rfl) (fun c hc=>h1 c (by simpa[Iw]using hc))) ha ?_;rintro v H' ⟨rfl,rfl⟩;have:spl cs 0 (Value.agg vs.toArray).cells.toList=vs.toArray:=by
  rw[<-cF,Iw];have:=c6B vs [] 0 cs aA;simpa using this
 rw[this];exact⟨sF,n⟩
def fu {len m:Nat} {k:IntKind} (hT:Ar P T e len) (sY:o1.op= .indexAddr T x y) (sZ:o2.op= .load e x2) (hx:e8 [x,y] [.pointer (some ⟨b,0,none⟩),.int k (m:Nat)] x= .pointer (some ⟨b,0,none⟩)) (hy:e8 [x,y] [.pointer (some ⟨b,0,none⟩),.int k (m:Nat)] y= .int k (m:Nat)) (rA:e8 [x2] [.pointer (some ⟨b,m,none⟩)] x2= .pointer (some ⟨b,m,none⟩))
  (hH:H b=some (.cells cs T' fz)) (hm:m<len) (hv:cs[m]? =some u) (ha:args.map (D P ρ)=[.pointer (some ⟨b,0,none⟩),.int k (m:Nat)]) (rY:args2.map (D P (ρ++[.pointer (some ⟨b,m,none⟩)]))=[.pointer (some ⟨b,m,none⟩)]) (n:den P G Xp t nx (ρ++[.pointer (some ⟨b,m,none⟩)]++[u]) H):den P G Xp (.prim id i o1 args (.prim id2 i2 o2 args2 t)) nx ρ H:=by
 have h:=(FG (len:=len) (q:=0) sY hx hy hT.und hT.sc.has aA aA).rds H;rw[hT.sc.cel,bO,bP,gB]at h;exact j6 h ha (i7 hT.sc sZ rA hH hv rY n)
structure FA (P:Program) (S:TypeId) (i off:Nat):Prop where
 und:P.underlying S=some (.struct (fieldsOf P S))
 lt:i<(fieldsOf P S).size
 off:(fieldAt P S i).offset=off
 has:r9 P (fieldAt P S i).type=true
 ne:P.cellsOf (fieldAt P S i).type≠0
def vo {S i' off:Nat} (hF:FA P S i' off) (ho:o.op= .fieldAddr S x i') (hx:e8 [x] [.pointer (some ⟨b,q,none⟩)] x= .pointer (some ⟨b,q,none⟩)) (ha:args.map (D P ρ)=[.pointer (some ⟨b,q,none⟩)]) (n:den P G Xp t nx (ρ++[.pointer (some ⟨b,q+off,none⟩)]) H):den P G Xp (.prim id i o args t) nx ρ H:=
 j6 ((ua ho hx hF.und hF.lt rfl hF.off hF.has hF.ne).rds H) ha n
def i0 {S i' off:Nat} (hF:FA P S i' off) (n:den P G Xp t nx (ρ++[.pointer (some ⟨b,q+off,none⟩)]) H) (ho:o.op= .fieldAddr S x i':=by exact rfl) (ha:args.map (D P ρ)=[.pointer (some ⟨b,q,none⟩)]:=by exact rfl) (hx:e8 [x] [.pointer (some ⟨b,q,none⟩)] x= .pointer (some ⟨b,q,none⟩):=by exact rfl):den P G Xp (.prim id i o args t) nx ρ H:=vo hF ho hx ha n
def JL {α:Type} {ce:α->List Value} {sz:Nat} {l:List α} (hH:H b=some (.cells cs T' fz)) (hl:cs.toList=l.flatMap ce) (hs:cs.size=l.length*sz) (hm:l.length<=maxLen):SE H sz ce (.slice (some ⟨b,0,none⟩) l.length l.length) l:=by
 refine⟨by rw[<-hl,bU,hs],_,_,rfl,aS _,hm,.inr ⟨b,0,cs,T',fz,rfl,hH,?_⟩⟩;rw[<-hl,dS];exact aI (by simp[hs])
end
def x5 {pf:Bool} {id i:Nat} {o:Oper} {args:List SV} {t:Tree} {vs:List Value} {v:Value} (hd:Run P o vs v) (ha:args.map (D P ρ)=vs) (n:den P G Xp t nx (ρ++[v]) H):den P G Xp (.eff pf id i o args t) nx ρ H:=
 j4 (hd.opn H) ha fun u H' ⟨h1,h2⟩=>by subst h1;subst h2;exact⟨fun _=>Pl.refl _,n⟩
def o0 {T:TypeId} {c:SV} {t:Tree} {cs:Array Value} (hz:(D P ρ c).cells=cs) (n:∀b,H b=none->den P G Xp t nx (ρ++[.pointer (some ⟨b,0,none⟩)]) (H.put b (.cells cs T (0,0)))):den P G Xp (.pub T c t) nx ρ H:=by
 subst hz;exact n
def j5 (P:Program) (f:FuncId) (args:List Value) (H:PH) (v:Value):Prop:=Con P f args H fun u H'=>Pl H H'/\u=v
def Asks.give {f:FuncId} {args:List Value} {v:Value} (h:Asks P f args H v):j5 P f args H v:=h.mono fun u H' ⟨h1,h2⟩=>by subst h1;exact⟨Pl.refl _,h2⟩
def i9 {pf:Bool} {f:FuncId} {args:List SV} {t:Tree} {vs:List Value} {v:Value} (hd:j5 P f vs H v) (ha:args.map (D P ρ)=vs) (n:∀H',Pl H H'->den P G Xp t nx (ρ++[v]) H'):den P G Xp (.call pf f args t) nx ρ H:=
 g5 hd ha fun u H' ⟨h1,h2⟩=>by subst h2;exact⟨fun _=>h1,n H' h1⟩
end
def d7g {P:Program} {H:PH} {G Xp:Value->PH->Prop} {nx:List (List Value->PH->Prop)} {ρ:List Value} {t:Tree} {id i:Nat} {o:Oper} {x:Operand} {args:List SV} {ad:Addr} (ho:o.op= .nilCheck x) (hx:e8 [x] [.pointer (some ad)] x= .pointer (some ad)) (ha:args.map (D P ρ)=[.pointer (some ad)]) (n:den P G Xp t nx (ρ++[.pointer (some ad)]) H):den P G Xp (.prim id i o args t) nx ρ H:=
 j6 ((K9 ho hx).rds H) ha n
def j9 {P:Program} {H:PH} {G Xp:Value->PH->Prop} {nx:List (List Value->PH->Prop)} {ρ:List Value} {t:Tree} {id i:Nat} {o:Oper} {x:Operand} {args:List SV} {ad:Addr} (n:den P G Xp t nx (ρ++[.pointer (some ad)]) H) (ho:o.op= .nilCheck x:=by exact rfl) (ha:args.map (D P ρ)=[.pointer (some ad)]:=by exact rfl) (hx:e8 [x] [.pointer (some ad)] x= .pointer (some ad):=by exact rfl):den P G Xp (.prim id i o args t) nx ρ H:=d7g ho hx ha n
open Go.GS
section
variable {P:Program} {ρ:List Value} {a b:SV} {A B:Nat}
def Fq (ha:D P ρ a=uv A) (hb:D P ρ b=uv B) (hA:A<M64) (hB:B<M64):D P ρ (.op2 .or .u64 a b)=uv (A|||B):=by
 show w9 .or .u64 (intOf (D P ρ a)) (intOf (D P ρ b))=_;rw[ha,hb];show Value.int .u64 _= .int .u64 _;congr 1;exact Go.GS.u64_or hA hB
def Ic (ha:D P ρ a=uv A) (hb:D P ρ b=uv B) (hA:A<M64) (hB:B<M64):D P ρ (.op2 .and .u64 a b)=uv (A&&&B):=by
 show w9 .and .u64 (intOf (D P ρ a)) (intOf (D P ρ b))=_;rw[ha,hb];show Value.int .u64 _= .int .u64 _;congr 1;exact Go.GS.u64_and hA hB
def Qn (ha:D P ρ a=uv A) (hb:D P ρ b=uv B) (hA:A<M64) (hB:B<M64):D P ρ (.op2 .andNot .u64 a b)=uv (sdf A B):=by
 show w9 .andNot .u64 (intOf (D P ρ a)) (intOf (D P ρ b))=_;rw[ha,hb];show Value.int .u64 _= .int .u64 _;congr 1;exact Go.GS.u64_andn hA hB
def fw {n:Nat} {k:IntKind} (ha:D P ρ a=uv A) (hb:D P ρ b= .int k (n:Nat)) (hn:n<=64):D P ρ (.op2 .shr .u64 a b)=uv (A/2^n):=by
 show w9 .shr .u64 (intOf (D P ρ a)) (intOf (D P ρ b))=_;rw[ha,hb];show Value.int .u64 _= .int .u64 _;congr 1;have:=Go.GS.u64_shr (a:=A) (k:=n);rw[cH hn]at this;exact this
def d7h {n:Nat} {k:IntKind} (ha:D P ρ a=uv A) (hb:D P ρ b= .int k (n:Nat)) (hn:n<64):D P ρ (.op2 .shl .u64 a b)=uv (A*2^n%M64):=by
 show w9 .shl .u64 (intOf (D P ρ a)) (intOf (D P ρ b))=_;rw[ha,hb];show Value.int .u64 _= .int .u64 _;congr 1;exact Go.GS.u64_shl hn
def Gv {n:Nat} {k:IntKind} (hb:D P ρ b= .int k (n:Nat)) (hn:n<64):D P ρ (.op2 .shl .u64 (.k (.int .u64 1)) b)=uv (2^n):=by
 rw[d7h (A:=1) rfl hb hn,d2s hn]
def Ui (ha:D P ρ a=uv A) (hb:D P ρ b=uv B) (hA:A<M64) (h:B<=A):D P ρ (.op2 .sub .u64 a b)=uv (A-B):=by
 show w9 .sub .u64 (intOf (D P ρ a)) (intOf (D P ρ b))=_;rw[ha,hb];show Value.int .u64 _= .int .u64 _;congr 1;exact Go.GS.u64_sub hA h
def Yj (ha:D P ρ a=uv A) (hA:A<M64):D P ρ (.op1 .neg .u64 a)=uv ((M64-A)%M64):=by
 show unV .neg .u64 (intOf (D P ρ a))=_;rw[ha];show Value.int .u64 _= .int .u64 _;congr 1;exact Go.GS.u64_neg hA
def vu {n:Nat} {k:IntKind} (ha:D P ρ a=uv A) (hA:A<M64) (hb:D P ρ b= .int k (n:Nat)) (hn:n<=64):D P ρ (.op2 .eql .u64 (.op2 .and .u64 (.op2 .shr .u64 a b) (.k (.int .u64 1))) (.k (.int .u64 1)))= .bool (Go.GS.bit A n):=by
 show w9 .eql .u64 (intOf (D P ρ (.op2 .and .u64 (.op2 .shr .u64 a b) (.k (.int .u64 1))))) 1=_;rw[Ic (B:=1) (fw ha hb hn) rfl (d2u hA) aC,d2t];cases Go.GS.bit A n<;>rfl
def Qo {x y:Int} (ha:D P ρ a=ii x) (hb:D P ρ b=ii y) (h1: -9223372036854775808<=x+y) (h2:x+y<9223372036854775808):D P ρ (.op2 .add .i64 a b)=ii (x+y):=by
 show w9 .add .i64 (intOf (D P ρ a)) (intOf (D P ρ b))=_;rw[ha,hb];show Value.int .i64 (wQ .i64 (x+y))= .int .i64 _;congr 1;rw[IntKind.wrap_i64];omega
def ga {x y:Int} (ha:D P ρ a=ii x) (hb:D P ρ b=ii y) (h1: -9223372036854775808<=x-y) (h2:x-y<9223372036854775808):D P ρ (.op2 .sub .i64 a b)=ii (x-y):=by
 show w9 .sub .i64 (intOf (D P ρ a)) (intOf (D P ρ b))=_;rw[ha,hb];show Value.int .i64 (wQ .i64 (x-y))= .int .i64 _;congr 1;rw[IntKind.wrap_i64];omega
def p6 {n:Nat} (ha:D P ρ a=ii (n:Nat)) (h:n+1<9223372036854775808):D P ρ (.op2 .add .i64 a (.k (.int .i64 1)))=ii ((n+1:Nat):Int):=by
 rw[Qo ha (y:=1) rfl aA aA];rfl
end
def j7 {P:Program} {ρ:List Value} {a:SV} {x:Value} (h:D P ρ a=x):[a].map (D P ρ)=[x]:=by rw[aU,h];rfl
def j0 {P:Program} {ρ:List Value} {a b:SV} {x y:Value} (h:D P ρ a=x) (h2:D P ρ b=y):[a,b].map (D P ρ)=[x,y]:=by rw[aU,h,j7 h2]
def Dp {P:Program} {ρ:List Value} {a b c:SV} {x y z:Value} (h:D P ρ a=x) (h2:D P ρ b=y) (h3:D P ρ c=z):[a,b,c].map (D P ρ)=[x,y,z]:=by rw[aU,h,j0 h2 h3]
def Ie {P:Program} {ρ:List Value} {a b c d:SV} {x y z u:Value} (h:D P ρ a=x) (h2:D P ρ b=y) (h3:D P ρ c=z) (h4:D P ρ d=u):[a,b,c,d].map (D P ρ)=[x,y,z,u]:=by rw[aU,h,Dp h2 h3 h4]
end Go.RX

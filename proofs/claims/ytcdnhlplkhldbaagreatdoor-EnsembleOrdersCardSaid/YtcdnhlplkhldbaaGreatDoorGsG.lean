/- Lemmas of the proof. -/
import Derived.Test.YtcdnhlplkhldbaaGreatDoorGaA
import Derived.Test.YtcdnhlplkhldbaaGreatDoorLgT
import Derived.DeepKeys3
open Array renaming all_eq_true_iff_forall_mem->kO
open Classical renaming propDecidable->kX
open Go.Result renaming andThen_ok->eJ
open Go.Sem renaming run_bind->eK,run_pure->eL
open List renaming drop_eq_nil_of_le->iN,ext_getElem->nT,filter_cons->gJ,foldl_append->jL,getElem?_set_ne->iT,getElem?_set_self->iL,map_toArray->fR,range->eO,replicate->eS
open Nat renaming beq->gW,blt->mK,blt_eq->pV,le_of_not_lt->jW,lt_of_not_le->nY,mul_one->fY

set_option linter.all false
namespace Go.RX
open RowKit
def Asks (P:Program) (f:FuncId) (args:List Value) (H:PH) (v:Value):Prop:=Con P f args H fun u H'=>H'=H/\u=v
section
variable {P:Program} {G Xp:Value->PH->Prop} {nx:List (List Value->PH->Prop)} {ρ:List Value} {H:PH}
def j9 {pf:Bool} {f:FuncId} {args:List SV} {t:Tree} {vs:List Value} {v:Value} (hd:Asks P f vs H v) (ha:args.map (D P ρ)=vs) (n:den P G Xp t nx (ρ++[v]) H):den P G Xp (.call pf f args t) nx ρ H:=
 f0 hd ha fun u H' ⟨h1,h2⟩=>by subst h1;subst h2;exact⟨fun _=>Pl.refl _,n⟩
def Zx {F:List Value->PH->Prop} {nx nx':List (List Value->PH->Prop)} {a b:List Value->PH->Prop} (hl:nx.length=nx'.length) (h:∀d l h,nx.getD d F l h->nx'.getD d F l h) (tP:∀l h,a l h->b l h):
  (nx++[a]).length=(nx'++[b]).length/\∀d l h,(nx++[a]).getD d F l h->(nx'++[b]).getD d F l h:=by
 refine⟨by simp[hl],fun d l h' hx=> ?_⟩;rw[aJ]at hx⊢;by_cases hd:d<nx.length
 ·rw[aM hd]at hx;rw[aM aA];have:=h d l h';rw[aJ,aJ]at this;exact this hx
 ·rw[aN aA]at hx;rw[aN aA];rw[<-hl];cases e:d-nx.length with
  |zero=>rw[e]at hx;exact tP l h' hx
  |succ n=>rw[e]at hx;exact hx
def c1N:∀(t:Tree) (Xp:Value->PH->Prop) (nx nx':List (List Value->PH->Prop)) (ρ:List Value) (H:PH),nx.length=nx'.length->(∀d l h,nx.getD d (fun _ _=>False) l h->nx'.getD d (fun _ _=>False) l h)->den P G Xp t nx ρ H->den P G Xp t nx' ρ H:=by
 intro t;induction t with
 |ret l=>intro Xp nx nx' ρ H _ _ h;exact h
 |rq r t ih=>intro Xp nx nx' ρ H hl hn h;exact⟨h.1,ih _ _ _ _ _ hl hn h.2⟩
 |br c t e ih1 ih2=>intro Xp nx nx' ρ H hl hn h;exact⟨fun hc=>ih1 _ _ _ _ _ hl hn (h.1 hc),fun hc=>ih2 _ _ _ _ _ hl hn (h.2 hc)⟩
 |call pf f args t ih=>
  intro Xp nx nx' ρ H hl hn h w hw;exact(h w hw).mono fun e w' hh=>hh.imp (fun⟨v,H',he,hs,hp,hd⟩=>⟨v,H',he,hs,hp,ih _ _ _ _ _ hl hn hd⟩) fun h=>h
 |prim id i o args t ih=>
  intro Xp nx nx' ρ H hl hn h;obtain⟨v,hd,h⟩:=h;exact⟨v,hd,ih _ _ _ _ _ hl hn h⟩
 |eff pf id i o args t ih=>
  intro Xp nx nx' ρ H hl hn h w hw;exact(h w hw).mono fun u w' ⟨H',hs,hp,hd⟩=>⟨H',hs,hp,ih _ _ _ _ _ hl hn hd⟩
 |ext f args t ih=>
  intro Xp nx nx' ρ H hl hn h;obtain⟨v,hd,h⟩:=h;exact⟨v,hd,ih _ _ _ _ _ hl hn h⟩
 |pub T c t ih=>intro Xp nx nx' ρ H hl hn h b hb;exact ih _ _ _ _ _ hl hn (h b hb)
 |dead n=>intro Xp nx nx' ρ H _ _ h;exact h
 |both t u ih1 ih2=>intro Xp nx nx' ρ H hl hn h;exact⟨ih1 _ _ _ _ _ hl hn h.1,ih2 _ _ _ _ _ hl hn h.2⟩
 |rf g np ini tb ta te ih1 ih2 ih3=>
  intro Xp nx nx' ρ H hl hn h;obtain⟨f,caps,X,K,Ro,E,S,Sp,I,Ix,h1,h2,h3,h4,h5,h6,h7,h8,h9,vJ⟩:=h;refine⟨f,caps,X,K,Ro,E,S,Sp,I,Ix,h1,h2,h3,h4,h5,h6,h7,fun pre xs vals X' a b c=>⟨(h8 pre xs vals X' a b c).1,?_⟩,fun xs vals X' K' a b c d=>ih2 _ _ _ _ _ hl hn (h9 xs vals X' K' a b c d),fun pre vals X' K' a b c d=>ih3 _ _ _ _ _ hl hn (vJ pre vals X' K' a b c d)⟩;have e1:=Zx (F:=fun _ _=>False) hl hn (a:=fun v h=>I (pre++[xs]) v h) (b:=fun v h=>I (pre++[xs]) v h) (fun _ _ h=>h);have e2:=Zx (F:=fun _ _=>False) e1.1 e1.2 (a:=fun v h=>Ix (pre++[xs]) v h) (b:=fun v h=>Ix (pre++[xs]) v h) (fun _ _ h=>h);simp only[bL,dM,dA]at e2;exact ih1 _ _ _ _ _ e2.1 e2.2 (h8 pre xs vals X' a b c).2
 |mk id i o args t ih=>
  intro Xp nx nx' ρ H hl hn h;obtain⟨mk,ob,h1,h2⟩:=h;exact⟨mk,ob,h1,fun b hb=>ih _ _ _ _ _ hl hn (h2 b hb)⟩
 |loop ini t ih=>
  intro Xp nx nx' ρ H hl hn h;obtain⟨I,μ,h0,h1⟩:=h;refine⟨I,μ,h0,fun vals H' hv hI=> ?_⟩;have e:=Zx (F:=fun _ _=>False) hl hn (a:=fun l h=>I l h/\μ l h<μ vals H') (b:=fun l h=>I l h/\μ l h<μ vals H') (fun _ _ h=>h);exact ih _ _ _ _ _ e.1 e.2 (h1 vals H' hv hI)
 |next d l=>intro Xp nx nx' ρ H hl hn h;exact hn d _ _ h
 |join n t u ih1 ih2=>
  intro Xp nx nx' ρ H hl hn h;obtain⟨J,h1,h2⟩:=h;have e:=Zx (F:=fun _ _=>False) hl hn (a:=J) (b:=J) (fun _ _ h=>h);exact⟨J,ih1 _ _ _ _ _ e.1 e.2 h1,fun vals H' hv hJ=>ih2 _ _ _ _ _ hl hn (h2 vals H' hv hJ)⟩
def c8t (t:Tree) (nx nx':List (List Value->PH->Prop)) (ρ:List Value) (H:PH) (hl:nx.length=nx'.length) (hn:∀d l h,nx.getD d (fun _ _=>False) l h->nx'.getD d (fun _ _=>False) l h) (h:den P G Xp t nx ρ H):den P G Xp t nx' ρ H:=c1N t Xp nx nx' ρ H hl hn h
def c1O {p:Nat->Prop}:∀n,p n->∃m,p m/\∀k,p k->m<=k:=by
 intro n;induction n using Nat.strongRecOn with
 |_ n ih=>
  intro hp;by_cases h:∃k,k<n/\p k
  ·obtain⟨k,h1,h2⟩:=h;exact ih k h1 h2
  ·exact⟨n,hp,fun k hk=>jW fun qB=>h ⟨k,qB,hk⟩⟩
def r7 {ini:List SV} {t:Tree} {α:Type} (f:α->List Value) (Q:α->PH->Prop) (m:α->Nat) (a0:α) (h0:ini.map (D P ρ)=f a0) (hQ:Q a0 H)
  (hs:∀a H',Q a H'->den P G Xp t (nx++[fun l h=>∃b,m b<m a/\l=f b/\Q b h]) (ρ++f a) H'):den P G Xp (.loop ini t) nx ρ H:=by
 classical
 have key:∀(l:List Value) (h:PH),(∃a,l=f a/\Q a h)->∃a,(l=f a/\Q a h)/\∀b,(l=f b/\Q b h)->m a<=m b:=by
  intro l h ⟨a,ha⟩;obtain⟨n,⟨a',e1,e2⟩,e3⟩:=c1O (p:=fun n=>∃a,m a=n/\l=f a/\Q a h) (m a) ⟨a,rfl,ha⟩;exact⟨a',e2,fun b hb=>by rw[e1];exact e3 _ ⟨b,rfl,hb⟩⟩
 refine⟨fun l h=>∃a,l=f a/\Q a h,fun l h=>if hx:∃a,l=f a/\Q a h then m (key l h hx).choose else 0,⟨a0,h0,hQ⟩,?_⟩;intro vals H' _ hI;obtain⟨⟨e1,e2⟩,e3⟩:=(key vals H' hI).choose_spec;have hm:(if hx:∃a,vals=f a/\Q a H' then m (key vals H' hx).choose else 0)=m (key vals H' hI).choose:=dif_pos hI;have h:=hs _ H' e2;rw[<-e1]at h;have e:=Zx (F:=fun _ _=>False) (nx:=nx) (nx':=nx) rfl (fun _ _ _ h=>h) (a:=fun l h=>∃b,m b<m (key vals H' hI).choose/\l=f b/\Q b h)
  (b:=fun l h=>(∃a,l=f a/\Q a h)/\(if hx:∃a,l=f a/\Q a h then m (key l h hx).choose else 0)<(if hx:∃a,vals=f a/\Q a H' then m (key vals H' hx).choose else 0)) (by
   rintro l h' ⟨b,qU,qZ,wN⟩;have hx:∃a,l=f a/\Q a h':=⟨b,qZ,wN⟩;refine⟨hx,?_⟩;rw[hm,dif_pos hx];exact bO ((key l h' hx).choose_spec.2 b ⟨qZ,wN⟩) qU)
 exact c8t _ _ _ _ _ e.1 e.2 h
def Df {ini:List SV} {t:Tree} {α:Type} (f:α->List Value) (Q:α->Prop) (m:α->Nat) (a0:α) (h0:ini.map (D P ρ)=f a0) (hQ:Q a0)
  (hs:∀a,Q a->den P G Xp t (nx++[fun l h=>∃b,m b<m a/\l=f b/\Q b/\h=H]) (ρ++f a) H):den P G Xp (.loop ini t) nx ρ H:=
 r7 f (fun a h=>Q a/\h=H) m a0 h0 ⟨hQ,rfl⟩ fun a H' ⟨h1,h2⟩=>by subst h2;exact hs a h1
def PH.le_put_of {H H':PH} {b:Nat} {o:Obj} (h:Pl H H') (hb:H b=none):Pl H (H'.put b o):=fun k ob hk=>by
 unfold PH.put;split
 ·rename_i e;subst e;rw[hb]at hk;cases hk
 ·exact h k ob hk
def PH.le_put2 {H:PH} {b:Nat} (hb:H b=none) (o o2:Obj):Pl H ((H.put b o).put b o2):=PH.le_put_of (PH.le_put hb _) hb
structure Sc (P:Program) (T:TypeId):Prop where
 has:r9 P T=true
 agg:r8 P T=false
 cel:P.cellsOf T=1
structure Ag (P:Program) (T:TypeId) (n:Nat):Prop where
 has:r9 P T=true
 agg:r8 P T=true
 cel:P.cellsOf T=n
structure Ar (P:Program) (T e:TypeId) (n:Nat):Prop where
 und:P.underlying T=some (.array n e)
 has:r9 P T=true
 agg:r8 P T=true
 cel:P.cellsOf T=n
 sc:Sc P e
section
variable {o o1 o2:Oper} {x y x2:Operand} {id i id2 i2:Nat} {args args2:List SV} {t:Tree} {pf:Bool} {b q:Nat} {T T' e:TypeId} {fz:Nat×Nat} {cs:Array Value} {u:Value} {n:Nat}
def g9 (hT:Sc P T) (ho:o.op= .load T x) (hx:e8 [x] [.pointer (some ⟨b,q,none⟩)] x= .pointer (some ⟨b,q,none⟩)) (hH:H b=some (.cells cs T' fz)) (hv:cs[q]? =some u) (ha:args.map (D P ρ)=[.pointer (some ⟨b,q,none⟩)]) (n:den P G Xp t nx (ρ++[u]) H):den P G Xp (.prim id i o args t) nx ρ H:=by
 have hq:=(dX.1 hv).1;have h:=Vb ho hx hH hT.has (by rw[hT.cel];omega) (fun _=>hq);rw[hT.agg]at h;simp only[aY,if_false,bD,hv,Option.getD_some]at h;exact j8 h ha n
def x5 {vs:List Value} (hT:Ag P T vs.length) (ho:o.op= .load T x) (hx:e8 [x] [.pointer (some ⟨b,q,none⟩)] x= .pointer (some ⟨b,q,none⟩)) (hH:H b=some (.cells cs T' fz)) (hv:(cs.toList.drop q).take vs.length=vs) (hq:q+vs.length<=cs.size) (ha:args.map (D P ρ)=[.pointer (some ⟨b,q,none⟩)]) (n:den P G Xp t nx (ρ++[.agg vs.toArray]) H):den P G Xp (.prim id i o args t) nx ρ H:=by
 have h:=Vb ho hx hH hT.has (by rw[hT.cel];exact hq) (fun h=>by rw[hT.agg]at h;cases h);rw[hT.agg,hT.cel]at h;simp only[if_true]at h;have:cs.extract q (q+vs.length)=vs.toArray:=by rw[<-bS,Array.toList_extract,List.extract_eq_take_drop,Nat.add_sub_cancel_left,hv]
 rw[this]at h;exact j8 h ha n
def Bq (hT:Sc P T) (ho:o.op= .store T x y) (hx:e8 [x,y] [.pointer (some ⟨b,q,none⟩),u] x= .pointer (some ⟨b,q,none⟩)) (hy:e8 [x,y] [.pointer (some ⟨b,q,none⟩),u] y=u) (hH:H b=some (.cells cs T' (0,0))) (hq:q<cs.size) (hu:u.cells= #[u]) (h1:y6 u=true) (ha:args.map (D P ρ)=[.pointer (some ⟨b,q,none⟩),u]) (vC:pf=true->Pl H (H.put b (.cells (cs.setIfInBounds q u) T' (0,0))))
  (n:den P G Xp t nx (ρ++[undef]) (H.put b (.cells (cs.setIfInBounds q u) T' (0,0)))):den P G Xp (.eff pf id i o args t) nx ρ H:=by
 refine j1 (Yy ho hx hy hH hT.has (by rw[hT.cel];omega) (by rw[hu,hT.cel];rfl) (fun c hc=> ?_)) ha ?_
 ·rw[hu]at hc;simp at hc;subst hc;exact h1
 ·rintro v H' ⟨rfl,rfl⟩;rw[hu];exact⟨vC,n⟩
def c8u:∀(vs cs:List Value) (q:Nat) (a:Array Value),a.size=q+vs.length->(spl a q vs).toList=a.toList.take q++vs:=by
 intro vs;induction vs with
 |nil=>intro cs q a h;simp only[spl];rw[aI (by simp at h⊢;omega),cC]
 |cons v vs ih=>
  intro cs q a h;simp only[spl];simp only[aP]at h;rw[ih cs (q+1) _ (by simp;omega),Array.toList_setIfInBounds];rw[dE,List.take_set_of_le (aS _),bL];congr 1;rw[iL (by simp;omega)];rfl
def Sz {vs:List Value} (hT:Ag P T vs.length) (ho:o.op= .store T x y) (hx:e8 [x,y] [.pointer (some ⟨b,0,none⟩),.agg vs.toArray] x= .pointer (some ⟨b,0,none⟩)) (hy:e8 [x,y] [.pointer (some ⟨b,0,none⟩),.agg vs.toArray] y= .agg vs.toArray) (hH:H b=some (.cells cs T' (0,0))) (hq:cs.size=vs.length) (h1:∀c∈vs,y6 c=true) (ha:args.map (D P ρ)=[.pointer (some ⟨b,0,none⟩),.agg vs.toArray]) (vC:pf=true->Pl H (H.put b (.cells vs.toArray T' (0,0))))
  (n:den P G Xp t nx (ρ++[undef]) (H.put b (.cells vs.toArray T' (0,0)))):den P G Xp (.eff pf id i o args t) nx ρ H:=by
 refine j1 (Yy ho hx hy hH hT.has (by rw[hT.cel];omega) (by rw[hT.cel];rfl) (fun c hc=>h1 c (by simpa[Gh]using hc))) ha ?_;rintro v H' ⟨rfl,rfl⟩;have:spl cs 0 (Value.agg vs.toArray).cells.toList=vs.toArray:=by
  rw[<-bS,Gh];have:=c8u vs [] 0 cs aA;simpa using this
 rw[this];exact⟨vC,n⟩
def jt {len m:Nat} {k:IntKind} (hT:Ar P T e len) (tU:o1.op= .indexAddr T x y) (tV:o2.op= .load e x2) (hx:e8 [x,y] [.pointer (some ⟨b,0,none⟩),.int k (m:Nat)] x= .pointer (some ⟨b,0,none⟩)) (hy:e8 [x,y] [.pointer (some ⟨b,0,none⟩),.int k (m:Nat)] y= .int k (m:Nat)) (sD:e8 [x2] [.pointer (some ⟨b,m,none⟩)] x2= .pointer (some ⟨b,m,none⟩))
  (hH:H b=some (.cells cs T' fz)) (hm:m<len) (hv:cs[m]? =some u) (ha:args.map (D P ρ)=[.pointer (some ⟨b,0,none⟩),.int k (m:Nat)]) (sV:args2.map (D P (ρ++[.pointer (some ⟨b,m,none⟩)]))=[.pointer (some ⟨b,m,none⟩)]) (n:den P G Xp t nx (ρ++[.pointer (some ⟨b,m,none⟩)]++[u]) H):den P G Xp (.prim id i o1 args (.prim id2 i2 o2 args2 t)) nx ρ H:=by
 have h:=(uz (len:=len) (q:=0) tU hx hy hT.und hT.sc.has aA aA).rds H;rw[hT.sc.cel,bU,bJ,fY]at h;exact j8 h ha (g9 hT.sc tV sD hH hv sV n)
structure FA (P:Program) (S:TypeId) (i off:Nat):Prop where
 und:P.underlying S=some (.struct (fieldsOf P S))
 lt:i<(fieldsOf P S).size
 off:(fieldAt P S i).offset=off
 has:r9 P (fieldAt P S i).type=true
 ne:P.cellsOf (fieldAt P S i).type≠0
def yz {S i' off:Nat} (hF:FA P S i' off) (ho:o.op= .fieldAddr S x i') (hx:e8 [x] [.pointer (some ⟨b,q,none⟩)] x= .pointer (some ⟨b,q,none⟩)) (ha:args.map (D P ρ)=[.pointer (some ⟨b,q,none⟩)]) (n:den P G Xp t nx (ρ++[.pointer (some ⟨b,q+off,none⟩)]) H):den P G Xp (.prim id i o args t) nx ρ H:=
 j8 ((we ho hx hF.und hF.lt rfl hF.off hF.has hF.ne).rds H) ha n
def g8 {S i' off:Nat} (hF:FA P S i' off) (n:den P G Xp t nx (ρ++[.pointer (some ⟨b,q+off,none⟩)]) H) (ho:o.op= .fieldAddr S x i':=by exact rfl) (ha:args.map (D P ρ)=[.pointer (some ⟨b,q,none⟩)]:=by exact rfl) (hx:e8 [x] [.pointer (some ⟨b,q,none⟩)] x= .pointer (some ⟨b,q,none⟩):=by exact rfl):den P G Xp (.prim id i o args t) nx ρ H:=yz hF ho hx ha n
def MA {α:Type} {ce:α->List Value} {sz:Nat} {l:List α} (hH:H b=some (.cells cs T' fz)) (hl:cs.toList=l.flatMap ce) (hs:cs.size=l.length*sz) (hm:l.length<=maxLen):SE H sz ce (.slice (some ⟨b,0,none⟩) l.length l.length) l:=by
 refine⟨by rw[<-hl,bA,hs],_,_,rfl,aS _,hm,.inr ⟨b,0,cs,T',fz,rfl,hH,?_⟩⟩;rw[<-hl,cS];exact aI (by simp[hs])
end
def y8 {pf:Bool} {id i:Nat} {o:Oper} {args:List SV} {t:Tree} {vs:List Value} {v:Value} (hd:Run P o vs v) (ha:args.map (D P ρ)=vs) (n:den P G Xp t nx (ρ++[v]) H):den P G Xp (.eff pf id i o args t) nx ρ H:=
 j1 (hd.opn H) ha fun u H' ⟨h1,h2⟩=>by subst h1;subst h2;exact⟨fun _=>Pl.refl _,n⟩
def o0 {T:TypeId} {c:SV} {t:Tree} {cs:Array Value} (hz:(D P ρ c).cells=cs) (n:∀b,H b=none->den P G Xp t nx (ρ++[.pointer (some ⟨b,0,none⟩)]) (H.put b (.cells cs T (0,0)))):den P G Xp (.pub T c t) nx ρ H:=by
 subst hz;exact n
def j4 (P:Program) (f:FuncId) (args:List Value) (H:PH) (v:Value):Prop:=Con P f args H fun u H'=>Pl H H'/\u=v
def Asks.give {f:FuncId} {args:List Value} {v:Value} (h:Asks P f args H v):j4 P f args H v:=h.mono fun u H' ⟨h1,h2⟩=>by subst h1;exact⟨Pl.refl _,h2⟩
def i8 {pf:Bool} {f:FuncId} {args:List SV} {t:Tree} {vs:List Value} {v:Value} (hd:j4 P f vs H v) (ha:args.map (D P ρ)=vs) (n:∀H',Pl H H'->den P G Xp t nx (ρ++[v]) H'):den P G Xp (.call pf f args t) nx ρ H:=
 f0 hd ha fun u H' ⟨h1,h2⟩=>by subst h2;exact⟨fun _=>h1,n H' h1⟩
end
def MC {P:Program} {H:PH} {G Xp:Value->PH->Prop} {nx:List (List Value->PH->Prop)} {ρ:List Value} {t:Tree} {id i:Nat} {o:Oper} {x:Operand} {args:List SV} {ad:Addr} (ho:o.op= .nilCheck x) (hx:e8 [x] [.pointer (some ad)] x= .pointer (some ad)) (ha:args.map (D P ρ)=[.pointer (some ad)]) (n:den P G Xp t nx (ρ++[.pointer (some ad)]) H):den P G Xp (.prim id i o args t) nx ρ H:=
 j8 ((F5 ho hx).rds H) ha n
def j6 {P:Program} {H:PH} {G Xp:Value->PH->Prop} {nx:List (List Value->PH->Prop)} {ρ:List Value} {t:Tree} {id i:Nat} {o:Oper} {x:Operand} {args:List SV} {ad:Addr} (n:den P G Xp t nx (ρ++[.pointer (some ad)]) H) (ho:o.op= .nilCheck x:=by exact rfl) (ha:args.map (D P ρ)=[.pointer (some ad)]:=by exact rfl) (hx:e8 [x] [.pointer (some ad)] x= .pointer (some ad):=by exact rfl):den P G Xp (.prim id i o args t) nx ρ H:=MC ho hx ha n
open Go.GS
section
variable {P:Program} {ρ:List Value} {a b:SV} {A B:Nat}
def Hk (ha:D P ρ a=uv A) (hb:D P ρ b=uv B) (hA:A<M64) (hB:B<M64):D P ρ (.op2 .or .u64 a b)=uv (A|||B):=by
 show w9 .or .u64 (intOf (D P ρ a)) (intOf (D P ρ b))=_;rw[ha,hb];show Value.int .u64 _= .int .u64 _;congr 1;exact Go.GS.u64_or hA hB
def Io (ha:D P ρ a=uv A) (hb:D P ρ b=uv B) (hA:A<M64) (hB:B<M64):D P ρ (.op2 .and .u64 a b)=uv (A&&&B):=by
 show w9 .and .u64 (intOf (D P ρ a)) (intOf (D P ρ b))=_;rw[ha,hb];show Value.int .u64 _= .int .u64 _;congr 1;exact Go.GS.u64_and hA hB
def Ta (ha:D P ρ a=uv A) (hb:D P ρ b=uv B) (hA:A<M64) (hB:B<M64):D P ρ (.op2 .andNot .u64 a b)=uv (sdf A B):=by
 show w9 .andNot .u64 (intOf (D P ρ a)) (intOf (D P ρ b))=_;rw[ha,hb];show Value.int .u64 _= .int .u64 _;congr 1;exact Go.GS.u64_andn hA hB
def d9K {n:Nat} {k:IntKind} (ha:D P ρ a=uv A) (hb:D P ρ b= .int k (n:Nat)) (hn:n<=64):D P ρ (.op2 .shr .u64 a b)=uv (A/2^n):=by
 show w9 .shr .u64 (intOf (D P ρ a)) (intOf (D P ρ b))=_;rw[ha,hb];show Value.int .u64 _= .int .u64 _;congr 1;have:=Go.GS.u64_shr (a:=A) (k:=n);rw[cD hn]at this;exact this
def d9L {n:Nat} {k:IntKind} (ha:D P ρ a=uv A) (hb:D P ρ b= .int k (n:Nat)) (hn:n<64):D P ρ (.op2 .shl .u64 a b)=uv (A*2^n%M64):=by
 show w9 .shl .u64 (intOf (D P ρ a)) (intOf (D P ρ b))=_;rw[ha,hb];show Value.int .u64 _= .int .u64 _;congr 1;exact Go.GS.u64_shl hn
def Hl {n:Nat} {k:IntKind} (hb:D P ρ b= .int k (n:Nat)) (hn:n<64):D P ρ (.op2 .shl .u64 (.k (.int .u64 1)) b)=uv (2^n):=by
 rw[d9L (A:=1) rfl hb hn,d4F hn]
def Vx (ha:D P ρ a=uv A) (hb:D P ρ b=uv B) (hA:A<M64) (h:B<=A):D P ρ (.op2 .sub .u64 a b)=uv (A-B):=by
 show w9 .sub .u64 (intOf (D P ρ a)) (intOf (D P ρ b))=_;rw[ha,hb];show Value.int .u64 _= .int .u64 _;congr 1;exact Go.GS.u64_sub hA h
def za (ha:D P ρ a=uv A) (hA:A<M64):D P ρ (.op1 .neg .u64 a)=uv ((M64-A)%M64):=by
 show unV .neg .u64 (intOf (D P ρ a))=_;rw[ha];show Value.int .u64 _= .int .u64 _;congr 1;exact Go.GS.u64_neg hA
def zc {n:Nat} {k:IntKind} (ha:D P ρ a=uv A) (hA:A<M64) (hb:D P ρ b= .int k (n:Nat)) (hn:n<=64):D P ρ (.op2 .eql .u64 (.op2 .and .u64 (.op2 .shr .u64 a b) (.k (.int .u64 1))) (.k (.int .u64 1)))= .bool (Go.GS.bit A n):=by
 show w9 .eql .u64 (intOf (D P ρ (.op2 .and .u64 (.op2 .shr .u64 a b) (.k (.int .u64 1))))) 1=_;rw[Io (B:=1) (d9K ha hb hn) rfl (d4H hA) aC,d4G];cases Go.GS.bit A n<;>rfl
def Hm {x y:Int} (ha:D P ρ a=ii x) (hb:D P ρ b=ii y) (h1: -9223372036854775808<=x+y) (h2:x+y<9223372036854775808):D P ρ (.op2 .add .i64 a b)=ii (x+y):=by
 show w9 .add .i64 (intOf (D P ρ a)) (intOf (D P ρ b))=_;rw[ha,hb];show Value.int .i64 (IntKind.i64.wrap (x+y))= .int .i64 _;congr 1;rw[IntKind.wrap_i64];omega
def Tc {x y:Int} (ha:D P ρ a=ii x) (hb:D P ρ b=ii y) (h1: -9223372036854775808<=x-y) (h2:x-y<9223372036854775808):D P ρ (.op2 .sub .i64 a b)=ii (x-y):=by
 show w9 .sub .i64 (intOf (D P ρ a)) (intOf (D P ρ b))=_;rw[ha,hb];show Value.int .i64 (IntKind.i64.wrap (x-y))= .int .i64 _;congr 1;rw[IntKind.wrap_i64];omega
def j5 {n:Nat} (ha:D P ρ a=ii (n:Nat)) (h:n+1<9223372036854775808):D P ρ (.op2 .add .i64 a (.k (.int .i64 1)))=ii ((n+1:Nat):Int):=by
 rw[Hm ha (y:=1) rfl aA aA];rfl
end
def p6 {P:Program} {ρ:List Value} {a:SV} {x:Value} (h:D P ρ a=x):[a].map (D P ρ)=[x]:=by rw[bI,h];rfl
def i0 {P:Program} {ρ:List Value} {a b:SV} {x y:Value} (h:D P ρ a=x) (h2:D P ρ b=y):[a,b].map (D P ρ)=[x,y]:=by rw[bI,h,p6 h2]
def By {P:Program} {ρ:List Value} {a b c:SV} {x y z:Value} (h:D P ρ a=x) (h2:D P ρ b=y) (h3:D P ρ c=z):[a,b,c].map (D P ρ)=[x,y,z]:=by rw[bI,h,i0 h2 h3]
def Hn {P:Program} {ρ:List Value} {a b c d:SV} {x y z u:Value} (h:D P ρ a=x) (h2:D P ρ b=y) (h3:D P ρ c=z) (h4:D P ρ d=u):[a,b,c,d].map (D P ρ)=[x,y,z,u]:=by rw[bI,h,By h2 h3 h4]
end Go.RX
namespace Go.Z
open Proofs.Tryz RowKit RX GS
def MD (x:Int):Det prog 237 [ii x] (.bool false):=by
 refine Dk mixed d4s aB rfl (i6 ⟨_,rfl⟩ (Ah ?_ rfl));show Value.bool (x !=x)=_;simp
def Gl (x y:Int):Int:=if x<y then -1 else if x>y then 1 else 0
def c8v (x y:Int):Det prog 176 [ii x,ii y] (ii (Gl x y)):=by
 refine Dk mixed d4r aB rfl (Dl (MD x) rfl (Dl (MD y) rfl ?_));refine i6 ⟨_,rfl⟩ (uu rfl (i6 ⟨_,rfl⟩ (uu rfl (i6 ⟨_,rfl⟩ (i6 ⟨_,rfl⟩ ?_)))));refine Ap (b:=decide (x<y)) rfl (fun h=> ?_) (fun h=> ?_)
 ·have h:=oDt h;refine Ah ?_ rfl;unfold Gl;rw[if_pos h];rfl
 ·have h:=oDf h;refine Ap (b:=decide (x>y)) rfl (fun h'=>Ah ?_ rfl) (fun h'=>Ah ?_ rfl)
  ·have h':=oDt h';unfold Gl;rw[if_neg h,if_pos h'];rfl
  ·have h':=oDf h';unfold Gl;rw[if_neg h,if_neg h'];rfl
abbrev SI (H:PH) (v:Value) (l:List Int):Prop:=SE H 1 (fun z:Int=>[ii z]) v l
abbrev SU (H:PH) (v:Value) (l:List Nat):Prop:=SE H 1 (fun s:Nat=>[uv s]) v l
def Ip:List Int->List Int->Int
 |[],[]=>0
 |[],_::_=> -1
 |_::_,[]=>1
 |x::l,y::m=>if Gl x y≠0 then Gl x y else Ip l m
def q8 {α:Type} {l:List α} {i:Nat} (h:i<l.length):∃x,l[i]? =some x/\l.drop i=x::l.drop (i+1):=
 ⟨l[i],aG h,dY h⟩
section
variable {H:PH} {u v:Value} {l m:List Int}
def c8w (hu:SI H u l) (hv:SI H v m):Asks prog 127 [u,v] H (ii (Ip l m)):=by
 refine g5 mixed d4q ?_;have hl:=hu.len;have hm:=hv.len;refine m9 el_int hu ?_;refine Df (α:=Nat×Int) (fun⟨i,p⟩=>[ii p,ii (i:Nat)]) (fun⟨i,p⟩=>i<=l.length/\Ip (l.drop i) (m.drop i)=Ip l m) (fun⟨i,p⟩=>l.length-i) ((0,0)) rfl (⟨bK _,rfl⟩) fun⟨i,p⟩ hQ=> ?_;obtain⟨hi,hc⟩:=hQ;refine b9 (b9 ?_);refine g6 (b:=decide (((i:Nat):Int)<(l.length:Nat))) rfl (fun h=> ?_) (fun h=> ?_)
 ·replace h:=oDt h;have qG:i<l.length:=aA;obtain⟨x,hx,wW⟩:=q8 qG;refine n9 el_int hu hx fun _=> ?_;refine m9 el_int hv ?_;refine b9 ?_;refine g6 (b:=decide (((i:Nat):Int)≥(m.length:Nat))) rfl (fun h2=> ?_) (fun h2=> ?_)
  ·replace h2:=oDt h2;have:m.drop i=[]:=iN aA;rw[wW,this]at hc;exact d4 rfl ⟨rfl,by rw[<-hc];rfl⟩
  ·replace h2:=oDf h2;obtain⟨y,hy,hdy⟩:=q8 (l:=m) (i:=i) aA;refine n9 el_int hv hy fun _=> ?_;rw[wW,hdy]at hc;refine Db (c8v x y) rfl ?_;refine b9 ?_;refine y5 (p:=(Gl x y≠0)) (by show Value.bool (Gl x y !=0)=_;congr 1;by_cases e:Gl x y=0<;>simp[e]) (fun h3=> ?_) fun h3=> ?_
   ·exact d4 rfl ⟨rfl,by rw[<-hc];simp only[Ip];rw[if_pos h3];rfl⟩
   ·exact⟨(i+1,p),by show l.length-(i+1)<l.length-i;omega,(i0 rfl (j5 rfl aA)),⟨⟨by show i+1<=_;omega,by rw[<-hc];simp only[Ip];rw[if_neg h3]⟩,rfl⟩⟩
 ·replace h:=oDf h;have pY:i=l.length:=aA;subst pY;rw[List.drop_length]at hc;refine m9 el_int hu ?_;refine m9 el_int hv ?_;refine b9 (b9 ?_);refine g6 (b:=decide (((l.length:Nat):Int)<(m.length:Nat))) rfl (fun h2=> ?_) (fun h2=> ?_)
  ·replace h2:=oDt h2;obtain⟨y,hy,hdy⟩:=q8 (l:=m) (i:=l.length) aA;rw[hdy]at hc;exact d4 rfl ⟨rfl,by rw[<-hc];rfl⟩
  ·replace h2:=oDf h2;have:m.drop l.length=[]:=iN aA;rw[this]at hc;exact d4 rfl ⟨rfl,by rw[<-hc];rfl⟩
end
end Go.Z
namespace Go.GS
def elt (a b:Nat×Nat):Prop:=a.1<b.1\/(a.1=b.1/\a.2<b.2)
structure GV (n:Nat) (es:List (Nat×Nat)):Prop where
 n1:1<=n
 n64:n<=64
 len:es.length<=200
 ed:∀e∈es,e.1<e.2/\e.2<n
 ord:es.Pairwise elt
def GV.next {n:Nat} {es:List (Nat×Nat)} (h:GV n es) {i:Nat} {a b:Nat×Nat} (ha:es[i]? =some a) (hb:es[i+1]? =some b):elt a b:=by
 obtain⟨h1,rfl⟩:=aH.1 ha;obtain⟨h2,rfl⟩:=aH.1 hb;exact cV.1 h.ord i (i+1) h1 h2 aA
def GV.mem {n:Nat} {es:List (Nat×Nat)} (h:GV n es) {i:Nat} {a:Nat×Nat} (ha:es[i]? =some a):a.1<a.2/\a.2<n:=h.ed a (aK ha)
end Go.GS
namespace Go.Z
open Proofs.Tryz RowKit RX GS
def bT {p:Prop} [Decidable p] (h:p):Value.bool (decide p)= .bool true:=by rw[oDd h]
def bF {p:Prop} [Decidable p] (h:¬p):Value.bool (decide p)= .bool false:=by rw[decide_eq_false h]
def gv (n:Nat) (w:Value):Value:= .agg #[ii n,w]
abbrev SG (H:PH) (w:Value) (es:List (Nat×Nat)):Prop:=SE H 2 ec w es
def Ci {H:PH} {n:Nat} {w:Value} {es:List (Nat×Nat)} (h:SG H w es):(gv n w).cells.size=2/\j0 (gv n w).cells:=by
 refine⟨rfl,fun c hc=> ?_⟩;rw[gv,Gh]at hc;simp only[bG,cF,or_false]at hc;rcases hc with rfl|rfl
 ·rfl
 ·exact h.one.2 _ (by rw[h.cells];simp)
def sc_int:Sc prog 3:=⟨aB,aB,aB⟩
def Ox:Sc prog 49:=⟨aB,aB,aB⟩
def ar_2:Ar prog 156 3 2:=⟨aB,aB,aB,aB,sc_int⟩
def ju:Ag prog 156 2:=⟨aB,aB,aB⟩
def z_2:j3 prog 156= .agg #[ii 0,ii 0]:=aB
def ME:(j3 prog 156).cells= #[ii 0,ii 0]:=by rw[z_2];rfl
def bef (es:List (Nat×Nat)):Nat->Int×Int
 |0=>(-1,-1)
 |i+1=>match es[i]? with|some e=>(e.1,e.2)|none=>(-1,-1)
def e4E {a b c d:Int} (h:a<c\/a=c/\b<d):Ip [a,b] [c,d]<0:=by
 rcases h with h|⟨rfl,h⟩
 ·have e:Gl a c= -1:=if_pos h;simp only[Ip,e];rw[if_pos aC];decide
 ·have e:Gl a a=0:=by unfold Gl;rw[if_neg aA,if_neg aA]
  have e2:Gl b d= -1:=if_pos h;simp only[Ip,e,e2];rw[if_neg aC,if_pos aC];decide
def d9M {n:Nat} {es:List (Nat×Nat)} (h:GV n es) {i:Nat} {a:Nat×Nat} (ha:es[i]? =some a):Ip [(bef es i).1,(bef es i).2] [(a.1:Int),(a.2:Int)]<0:=by
 apply e4E;cases i with
 |zero=>exact .inl (by simp only[bef];omega)
 |succ i=>
  obtain⟨hi,_⟩:=aH.1 ha;have hb:es[i]? =some es[i]:=aG aA;have:=h.next hb ha;simp only[bef,hb];rcases this with h1|⟨h1,h2⟩
  ·exact .inl aA
  ·exact .inr ⟨aA,aA⟩
def e4F (ρ:List Value):D prog ρ (.put (.put (.z 156) 0 1 (kI (-1)) 0 noI) 1 1 (kI (-1)) 0 noI)= .agg #[ii (-1),ii (-1)]:=by
 show Value.agg (spl (Value.agg (spl (j3 prog 156).cells 0 [ii (-1)])).cells 1 [ii (-1)])=_;rw[z_2];rfl
section
variable {H:PH} {n:Nat} {w:Value} {es:List (Nat×Nat)}
def Lu (hw:SG H w es) (hg:GV n es):j4 prog 79 [gv n w] H (ii 0):=by
 refine g5 mixed d4y ?_;have h1:=hg.n1;have h2:=hg.n64;have h3:=hg.len;refine b4 (Ci hw) ?_;refine b9 ?_;refine i7 (bF (p:=((n:Nat):Int)<1) aA) ?_;refine i7 (bF (p:=((n:Nat):Int)>64) aA) ?_;refine m9 el_edge hw ?_;refine b9 ?_;refine i7 (bF (p:=((es.length:Nat):Int)>200) aA) ?_;refine o0 (cs:= #[ii 0,ii 0]) ME fun b hb=> ?_;simp only[cA,nA];refine Sz (vs:=[ii (-1),ii (-1)]) ju rfl rfl rfl (PH.put_self _ _ _) rfl (by intro c hc;simp at hc;rcases hc with rfl|rfl<;>rfl) (i0 rfl (e4F _)) (fun h=>(nomatch h)) ?_;simp only[cA,nA];have l1:=PH.le_put2 hb (.cells #[ii 0,ii 0] 156 (0,0)) (.cells #[ii (-1),ii (-1)] 156 (0,0));have b1:=PH.put_self (H.put b (.cells #[ii 0,ii 0] 156 (0,0))) b (.cells #[ii (-1),ii (-1)] 156 (0,0));generalize (H.put b (.cells #[ii 0,ii 0] 156 (0,0))).put b (.cells #[ii (-1),ii (-1)] 156 (0,0))=H1 at l1 b1;refine m9 el_edge (hw.mono l1) ?_;refine r7 (α:=Nat×Int) (fun⟨i,p⟩=>[ii p,ii (i:Nat)]) (fun⟨i,p⟩=>fun H'=>i<=es.length/\Pl H H'/\H' b=some (.cells #[ii (bef es i).1,ii (bef es i).2] 156 (0,0))) (fun⟨i,p⟩=>es.length-i) ((0,0)) rfl (⟨bK _,l1,b1⟩) fun⟨i,p⟩ H' hQ=> ?_;simp only[cA,nA];obtain⟨hi,l2,b2⟩:=hQ;refine b9 (b9 ?_);refine g6 (b:=decide (((i:Nat):Int)<(es.length:Nat))) rfl (fun h=> ?_) (fun h=> ?_)
 ·replace h:=oDt h;have qG:i<es.length:=aA;obtain⟨x,hx,wW⟩:=q8 qG;obtain⟨sN,sD⟩:=hg.mem hx;refine n9 el_edge (hw.mono l2) hx fun _=> ?_;simp only[cA,nA];refine o0 (cs:= #[ii 0,ii 0]) ME fun c hc=> ?_;simp only[cA,nA];refine Sz (vs:=(ec x)) ju rfl rfl rfl (PH.put_self _ _ _) rfl (el_edge.one x) rfl (fun h=>(nomatch h)) ?_;simp only[cA,nA];have l3:=PH.le_put2 hc (.cells #[ii 0,ii 0] 156 (0,0)) (.cells (ec x).toArray 156 (0,0));have b3:=PH.put_self (H'.put c (.cells #[ii 0,ii 0] 156 (0,0))) c (.cells (ec x).toArray 156 (0,0));have qZ:=l3 _ _ b2;generalize (H'.put c (.cells #[ii 0,ii 0] 156 (0,0))).put c (.cells (ec x).toArray 156 (0,0))=H2 at l3 b3 qZ;refine jt (m:=0) ar_2 rfl rfl rfl rfl rfl b3 aC rfl rfl rfl ?_;simp only[cA,nA];refine b9 ?_;refine i7 (bF (p:=((x.1:Nat):Int)<0) aA) ?_;refine jt (m:=0) ar_2 rfl rfl rfl rfl rfl b3 aC rfl rfl rfl ?_;simp only[cA,nA];refine jt (m:=1) ar_2 rfl rfl rfl rfl rfl b3 aC rfl rfl rfl ?_;simp only[cA,nA];refine b9 (b9 ?_);refine i7 (bF (p:=((x.1:Nat):Int)≥(x.2:Nat)) aA) ?_;refine jt (m:=1) ar_2 rfl rfl rfl rfl rfl b3 aC rfl rfl rfl ?_;simp only[cA,nA];refine b9 ?_;refine i7 (bF (p:=((x.2:Nat):Int)≥(n:Nat)) aA) ?_;refine j8 ((ig rfl rfl ar_2.und sc_int.has).rds _) rfl ?_;simp only[cA,nA];refine j8 ((ig rfl rfl ar_2.und sc_int.has).rds _) rfl ?_;simp only[cA,nA];refine j9 (c8w (l:=[(bef es i).1,(bef es i).2]) (m:=[(x.1:Int),(x.2:Int)]) (MA qZ rfl rfl (show 2<=maxLen by decide)) (MA b3 rfl rfl (show 2<=maxLen by decide))) rfl ?_;simp only[cA,nA];have qB:=d9M hg hx;refine b9 ?_;refine i7 (bF (p:=Ip [(bef es i).1,(bef es i).2] [(x.1:Int),(x.2:Int)]≥0) aA) ?_;refine x5 (vs:=ec x) ju rfl rfl b3 rfl aD rfl ?_;simp only[cA,nA];refine Sz (vs:=(ec x)) ju rfl rfl rfl qZ rfl (el_edge.one x) rfl (fun h=>(nomatch h)) ?_;simp only[cA,nA];exact⟨(i+1,p),by show es.length-(i+1)<es.length-i;omega,(i0 rfl (j5 rfl aA)),⟨by show i+1<=_;omega,PH.le_put_of (l2.trans l3) hb,by simp only[bef,hx];exact PH.put_self _ _ _⟩⟩
 ·replace h:=oDf h;exact d4 rfl ⟨l2,rfl⟩
end
end Go.Z
namespace Go.GS
def jv {α:Type} {p:List α->Prop} (nil:p []) (snoc:∀l a,p l->p (l++[a])) (l:List α):p l:=by
 have:∀l:List α,p l.reverse:=by
  intro l;induction l with
  |nil=>exact nil
  |cons a l ih=>rw[List.reverse_cons];exact snoc _ _ ih
 have h:=this l.reverse
 rwa[List.reverse_reverse]at h
def nb (es:List (Nat×Nat)) (x:Nat):Nat:=es.foldl (fun s e=>if e.1=x then s|||2^e.2 else if e.2=x then s|||2^e.1 else s) 0
def zd (es:List (Nat×Nat)) (e:Nat×Nat) (x:Nat):nb (es++[e]) x=if e.1=x then nb es x|||2^e.2 else if e.2=x then nb es x|||2^e.1 else nb es x:=by
 unfold nb;rw[jL];rfl
def nbs (n:Nat) (es:List (Nat×Nat)):List Nat:=(eO n).map (nb es)
def MF (n:Nat):nbs n []=eS n 0:=by
 unfold nbs;apply nT
 ·simp
 ·intro i h1 h2;simp[nb]
def Oy (n:Nat) (es:List (Nat×Nat)):(nbs n es).length=n:=by simp[nbs]
def Oz {n x:Nat} (es:List (Nat×Nat)) (h:x<n):(nbs n es)[x]? =some (nb es x):=by simp[nbs,h]
def MG (n:Nat) (es:List (Nat×Nat)) (e:Nat×Nat) (h:e.1<e.2):((nbs n es).set e.1 (nb es e.1|||2^e.2)).set e.2 (nb es e.2|||2^e.1)=nbs n (es++[e]):=by
 apply bP;intro i;by_cases hi:i<n
 ·rw[Oz _ hi,zd];by_cases h2:e.2=i
  ·subst h2;rw[iL (by simp[Oy,hi]),if_neg aA,if_pos rfl]
  ·rw[iT h2];by_cases h1:e.1=i
   ·subst h1;rw[iL (by simp[Oy,hi]),if_pos rfl]
   ·rw[iT h1,Oz _ hi,if_neg h1,if_neg h2]
 ·rw[aO (by simp[Oy];omega),aO (by simp[Oy];omega)]
def d9N (es:List (Nat×Nat)) (x y:Nat):bit (nb es x) y=true↔∃e∈es,(e.1=x/\e.2=y)\/(e.1≠x/\e.2=x/\e.1=y):=by
 induction es using jv with
 |nil=>simp[nb,bit]
 |snoc es e ih=>
  rw[zd];simp only[aV,bB];constructor
  ·intro h;split at h
   ·rename_i h1;rw[Ba,Bw,cO]at h;rcases h with h|h
    ·obtain⟨a,h2,h3⟩:=ih.1 h;exact⟨a,.inl h2,h3⟩
    ·exact⟨e,.inr rfl,.inl ⟨h1,by simpa using h⟩⟩
   ·split at h
    ·rename_i h1 h2;rw[Ba,Bw,cO]at h;rcases h with h|h
     ·obtain⟨a,h3,h4⟩:=ih.1 h;exact⟨a,.inl h3,h4⟩
     ·exact⟨e,.inr rfl,.inr ⟨h1,h2,by simpa using h⟩⟩
    ·obtain⟨a,h2,h3⟩:=ih.1 h;exact⟨a,.inl h2,h3⟩
  ·rintro⟨a,h2|rfl,h3⟩
   ·have:=ih.2 ⟨a,h2,h3⟩;split
    ·rw[Ba,this];rfl
    ·split
     ·rw[Ba,this];rfl
     ·exact this
   ·rcases h3 with⟨h3,h4⟩|⟨h3,h4,h5⟩
    ·rw[if_pos h3,Ba,Bw];simp[h4]
    ·rw[if_neg h3,if_pos h4,Ba,Bw];simp[h5]
def ze {n:Nat} {es:List (Nat×Nat)} (h:∀e∈es,e.1<e.2/\e.2<n) (hn:n<=64) (x:Nat):nb es x<M64:=by
 induction es using jv with
 |nil=>exact(aC:0<M64)
 |snoc es e ih=>
  have ih:=ih fun a ha=>h a (List.mem_append_left _ ha);have he:=h e (List.mem_append_right _ (bB.2 rfl));rw[zd];split
  ·exact Ss ih (Dp aA)
  ·split
   ·exact Ss ih (Dp aA)
   ·exact ih
end Go.GS
namespace Go.Z
open Proofs.Tryz RowKit RX GS
def zf:j3 prog 49=uv 0:=aB
def MH:j3 prog 3=ii 0:=aB
def take_snoc {α:Type} {l:List α} {i:Nat} {x:α} (h:l[i]? =some x):l.take (i+1)=l.take i++[x]:=by rw[dE,h];rfl
section
variable {H:PH} {n:Nat} {w:Value} {es:List (Nat×Nat)}
def d4M (hw:SG H w es) (hg:GV n es):Con prog 279 [gv n w] H fun u H'=>Pl H H'/\SO H H' 49 1 (fun s:Nat=>[uv s]) u (nbs n es):=by
 refine g5 mixed d9H ?_;have h1:=hg.n1;have h2:=hg.n64;have h3:=hg.len;have qB:∀i x,nb (es.take i) x<M64:=fun i x=>ze (fun e he=>hg.ed e (cM he)) h2 x;refine b4 (Ci hw) ?_;refine Ot el_u64 (z:=(0:Nat)) zf rfl rfl rfl aA rfl fun v H1 l1 o1 _=> ?_;simp only[cA,nA];rw[<-MF]at o1;refine m9 el_edge (hw.mono l1) ?_;refine r7 (α:=Nat) (fun i=>[ii (i:Nat)]) (fun i=>fun H'=>i<=es.length/\Pl H H'/\SO H H' 49 1 (fun s:Nat=>[uv s]) v (nbs n (es.take i))) (fun i=>es.length-i) (0) rfl (⟨bK _,l1,o1⟩) fun i H' hQ=> ?_;simp only[cA,nA];obtain⟨hi,l2,o2⟩:=hQ;refine b9 (b9 ?_);refine g6 (b:=decide (((i:Nat):Int)<(es.length:Nat))) rfl (fun h=> ?_) (fun h=> ?_)
 ·replace h:=oDt h;have qG:i<es.length:=aA;obtain⟨x,hx,wW⟩:=q8 qG;obtain⟨sN,sD⟩:=hg.mem hx;refine n9 el_edge (hw.mono l2) hx fun _=> ?_;simp only[cA,nA];refine b4 (el_edge.vcells x) ?_;refine Ac el_u64 rfl rfl rfl rfl aF o2.se (Oz _ (show x.1<n by omega)) rfl aF fun _=> ?_;simp only[cA,nA];refine b4 ⟨_,_,rfl⟩ ?_;refine b4 (by show(0:Int)<=((x.2:Nat):Int);omega) ?_;refine b9 ?_;refine Ee el_u64 (a:=nb (es.take i) x.1|||2^x.2) rfl rfl rfl rfl aF aF l2 o2 (by rw[Oy];omega) rfl (fun _=>i0 rfl (Hk rfl (Hl rfl aA) (qB _ _) (Dp aA))) rfl fun p u H2 l3 o3 _=> ?_;simp only[cA,nA];refine Ac el_u64 rfl rfl rfl rfl aF o3.se (show _=some (nb (es.take i) x.2) by rw[iT aA,Oz _ aA]) rfl aF fun _=> ?_;simp only[cA,nA];refine b4 ⟨_,_,rfl⟩ ?_;refine b4 (by show(0:Int)<=((x.1:Nat):Int);omega) ?_;refine b9 ?_;refine Ee el_u64 (a:=nb (es.take i) x.2|||2^x.1) rfl rfl rfl rfl aF aF l3 o3 (by rw[cX,Oy];omega) rfl (fun _=>i0 rfl (Hk rfl (Hl rfl aA) (qB _ _) (Dp aA))) rfl fun p2 u2 H3 l4 o4 _=> ?_;simp only[cA,nA];rw[MG n _ x sN,<-take_snoc hx]at o4;exact⟨i+1,aA,(p6 (j5 rfl aA)),⟨aA,l4,o4⟩⟩
 ·replace h:=oDf h;rw[aI aA]at o2;exact d4 rfl ⟨l2,o2⟩
def c1T:n8 prog 313=true:=aB
def Bj (b s:Nat):PH:=PH.nil.put b (.cells #[uv s] 49 (0,0))
def c8x {s:Nat}:Con prog 280 [uv s] H fun u H'=>∃b,H b=none/\H'=H.or (Bj b s)/\u= .func (.func 313) #[] #[.pointer (some ⟨b,0,none⟩)]:=by
 refine g5 mixed d4A ?_;refine b4 (el_u64.vcells s) ?_;refine o0 (cs:= #[uv s]) rfl fun b hb=> ?_;refine y8 (Ai (vs:=[.pointer (some ⟨b,0,none⟩)]) rfl rfl) rfl ?_;exact d4 rfl ⟨b,hb,PH.put_or hb,rfl⟩
def bN (a b:Int):Value.bool (a !=b)= .bool (decide (a≠b)):=by
 by_cases h:a=b<;>simp[h]
def bE (a b:Int):Value.bool (a==b)= .bool (decide (a=b)):=by
 by_cases h:a=b<;>simp[h]
def bN0 (s:Nat):Value.bool (((s:Nat):Int) !=0)= .bool (decide (s≠0)):=by
 rw[bN];congr 1;apply decide_eq_decide.2;omega
def bE0 (s:Nat):Value.bool (((s:Nat):Int)==0)= .bool (decide (s=0)):=by
 rw[bE];congr 1;apply decide_eq_decide.2;omega
def Zy (b s:Nat):Bj b s b=some (.cells #[uv s] 49 (0,0)):=PH.put_self _ _ _
def c8y {X:PH} {b s t:Nat} (h:X b=none):(X.or (Bj b s)).put b (.cells #[uv t] 49 (0,0))=X.or (Bj b t):=by
 rw[PH.or_put h];unfold Bj;rw[PH.put_put]
def jw {X:PH} {b:Nat} (s:Nat) (h:X b=none):Disj X (Bj b s):=Zu (Sm X) h
def c1U {X:PH} {b s:Nat} (h:Disj X (Bj b s)):X b=none:=Disj.none h (b:=b) (by rw[Zy];exact fun h=>nomatch h)
abbrev nxs (s:Nat):List (List Value):=(els s).map fun x:Nat=>[ii (x:Int)]
def c1V {b s:Nat} {Ro:PH} (hs:s<M64) (hT:Tb Ro):ItC prog 313 [.pointer (some ⟨b,0,none⟩)] Ro (Bj b s) (fun pre xs=>∃x,(els s)[pre.length]? =some x/\xs=[ii (x:Nat)]/\pre=((els s).take pre.length).map fun x:Nat=>[ii (x:Int)]) (fun xs _=>xs=nxs s) (fun _ _=>True):=by
 intro l J Jx uV hr X hX hd w hw;refine(s7 (H:=X.or (Bj b s)) (V:=fun _ H'=>∃X' K',Pl (X'.or K') H'/\Disj X' K'/\((∃xs,xs=nxs s/\J xs X')\/(∃pre,True/\Jx pre X'))) mixed c8r aB rfl ?_ w hw).mono fun e w' ⟨v,H',he,rB,hV⟩=>⟨v,H',he,rB,hV⟩;refine r7 (α:=Nat×Nat×PH) (fun⟨k,s',X'⟩=>[]) (fun⟨k,s',X'⟩=>fun H'=>k<=(els s).length/\s'<M64/\els s'=(els s).drop k/\H'=X'.or (Bj b s')/\J (((els s).take k).map fun x:Nat=>[ii (x:Int)]) X'/\Disj X' (Bj b s')) (fun⟨k,s',X'⟩=>(els s).length-k) ((0,s,X)) rfl (⟨bK _,hs,rfl,rfl,hX,hd⟩) fun⟨k,s',X'⟩ H' hQ=> ?_;obtain⟨hk,rD,he,rfl,hJ,qS⟩:=hQ;have hb:=PH.or_right qS (Zy b s');refine g9 Ox rfl rfl hb rfl rfl ?_;refine b9 ?_;refine y5 (p:=(s'≠0)) (bN0 s') (fun h=> ?_) fun h=> ?_
 ·refine g9 Ox rfl rfl hb rfl rfl ?_;obtain⟨x,r,rY⟩:∃x r,els s'=x::r:=by
   cases rY:els s' with
   |nil=>exact absurd (Ov rD rY) h
   |cons x r=>exact⟨x,r,rfl⟩
  have htz:tz s'=x:=by simp[tz,rY]
  have rA:k<(els s).length:=by
   apply nY;intro hh;rw[iN hh,rY]at he;cases he
  obtain⟨y,hy,hdy⟩:=q8 rA;rw[<-he,rY]at hdy;obtain⟨rfl,hr'⟩:=List.cons.inj hdy;refine j9 (Zw ((hT.mono (uV _ _ hJ)).mono (PH.le_or _ _)) rD) rfl ?_;rw[htz];refine Vu (hr _ [ii (x:Nat)] X' (Bj b s') ⟨x,by simp[cD hk,hy],rfl,by simp[cD hk]⟩ hJ qS) rfl rfl rfl rfl rfl fun v X2 qH hV=> ?_;obtain⟨bb,rfl,qU,qZ⟩:∃bb,v= .bool bb/\(bb=true->J ((((els s).take k).map fun x:Nat=>[ii (x:Int)])++[[ii (x:Nat)]]) X2)/\(bb=false->Jx ((((els s).take k).map fun x:Nat=>[ii (x:Int)])++[[ii (x:Nat)]]) X2):=by
   rcases hV with⟨rfl,h⟩|⟨rfl,h⟩
   ·exact⟨true,rfl,fun _=>h,(fun h=>nomatch h)⟩
   ·exact⟨false,rfl,(fun h=>nomatch h),fun _=>h⟩
  refine b9 ?_;refine g6 (b:= !bb) rfl (fun qM=> ?_) (fun qM=> ?_)
  ·skip
   exact d4 rfl ⟨X2,Bj b s',Pl.refl _,qH,.inr ⟨_,trivial,qZ (by simpa using qM)⟩⟩
  ·skip
   have vT:=c1U qH;have qZ:=PH.or_right qH (Zy b s');refine g9 Ox rfl rfl qZ rfl rfl ?_;refine g9 Ox rfl rfl qZ rfl rfl ?_;refine b9 (b9 ?_);refine Bq Ox rfl rfl rfl qZ aD rfl rfl (i0 rfl (Io rfl (Vx (B:=1) rfl rfl rD aA) rD (bO (Nat.sub_le _ _) rD))) (fun h=>(nomatch h)) ?_;exact⟨(k+1,s'&&&(s'-1),X2),by show(els s).length-(k+1)<(els s).length-k;omega,rfl,⟨rA,Su rD,by rw[yy rD rY,hr'],c8y vT,by rw[take_snoc hy,bM];exact qU (by simpa using qM),jw _ vT⟩⟩
 ·have h0:s'=0:=aA;rw[h0,jq]at he;have tL:(els s).length<=k:=by
   apply jW;intro hh;rw[dY hh]at he;cases he
  rw[aI tL]at hJ;exact d4 rfl ⟨X',Bj b s',Pl.refl _,qS,.inl ⟨_,rfl,hJ⟩⟩
end
end Go.Z
namespace Go.RX
open RowKit
section
variable {P:Program} {T e:TypeId} {sz:Nat} {ag:Bool} {α:Type} {ce:α->List Value} {ve:α->Value} (E:El P T e sz ag ce ve)
variable {G Xp:Value->PH->Prop} {nx:List (List Value->PH->Prop)} {ρ:List Value} {H:PH} {o:Oper} {x y:Operand} {id i:Nat} {args:List SV} {t:Tree} {v u:Value} {l l2:List α} {a:α} {pf:Bool} {b:Nat} {fz:Nat×Nat} {T':TypeId}
include E
def MJ {o1 o2 o3:Oper} {x y x2 x3:Operand} {id1 i1 id2 i2 id3 i3:Nat} {args1 args2 args3:List SV} {k:IntKind} {j m n:Nat} {e2:TypeId} {c:Value} (hT:Ar P e e2 n) (hm:m<n) (hc:(ce a)[m]? =some c) (tU:o1.op= .indexAddr T x y) (tV:o2.op= .indexAddr e x2 (.const (.int .i64 (m:Nat)))) (ho3:o3.op= .load e2 x3) (hx:e8 [x,y] [v,.int k (j:Nat)] x=v) (hy:e8 [x,y] [v,.int k (j:Nat)] y= .int k (j:Nat))
  (sD:∀p,e8 [x2,.const (.int .i64 (m:Nat))] [p,.int .i64 (m:Nat)] x2=p) (a4s:∀p,e8 [x2,.const (.int .i64 (m:Nat))] [p,.int .i64 (m:Nat)] (.const (.int .i64 (m:Nat)))= .int .i64 (m:Nat)) (hx3:∀p,e8 [x3] [p] x3=p) (h:SE H sz ce v l) (hj:l[j]? =some a) (ha:args1.map (D P ρ)=[v,.int k (j:Nat)]) (sV:∀p,args2.map (D P (ρ++[p]))=[p,.int .i64 (m:Nat)]) (ha3:∀p p',args3.map (D P (ρ++[p]++[p']))=[p'])
  (nn:∀p p',den P G Xp t nx (ρ++[p]++[p']++[c]) H):den P G Xp (.prim id1 i1 o1 args1 (.prim id2 i2 o2 args2 (.prim id3 i3 o3 args3 t))) nx ρ H:=by
 refine jm E tU hx hy h hj ha fun p hp=> ?_;obtain⟨b,q,cs,T',fz,rfl,h2,h3,h4⟩:=hp;have qB:=(aH.1 hc).1;have hi:=(uz (P:=P) (len:=n) (e:=e2) (b:=b) (q:=q) tV (sD _) (a4s _) hT.und hT.sc.has aA aA).rds H;rw[hT.sc.cel,bU,fY]at hi;refine j8 hi (sV _) ?_;refine g9 hT.sc ho3 (hx3 _) h2 ?_ (ha3 _ _) (nn _ _);rw[<-cY];rw[<-h4,dD qB,dP]at hc;exact hc
end
def c8z {P:Program} {o:Oper} {x y:Operand} {vs:List Value} {t t' e:TypeId} {p:Option Addr} {n c:Nat} (ho:o.op= .binOp .eql t x y t') (hx:e8 [x,y] vs x= .slice p n c) (hy:e8 [x,y] vs y= .slice none 0 0) (hu:P.underlying t=some (.slice e)):Yld P o vs (.bool p.isNone):=fun w=>by
 have qE:o.op.operands.toList=[x,y]:=by simp[ho,Op.operands]
 rw[qE];have h:∀d:Nat,(Op.equalIn (d+1) t (.slice p n c) (.slice none 0 0)).run P w= .ok p.isNone w:=fun d=>by
  cases p<;>simp[Op.equalIn,run_underlying hu]
 have hb:(binOp .eql t (.slice p n c) (.slice none 0 0)).run P w= .ok (.bool p.isNone) w:=by
  simp only[binOp];simp[Op.equal,Op.maxDepth,h 9999]
 simp only[execOp,ho,hx,hy,eK,eqGuard];simp[hb]
end Go.RX
namespace Go.RZ
open RowKit RX
noncomputable section
inductive AV where
 |int (k:IntKind) (n:Int)
 |bool (b:Bool)
 |ptr (k q:Nat)
 |nptr
 |sl (k q n c:Nat)
 |sg (k q n d:Nat)
 |nsl
 |mp (k:Nat)
 |nmp
 |fn (f:FuncId) (b c:List AV)
 |nfn
 |agg (l:List AV)
 |tup (l:List AV)
 deriving Inhabited
def len {α:Type} (l:List α):Nat:=List.rec (motive:=fun _=>Nat) 0 (fun _ _ n=>Nat.succ n) l
def okI:IntKind->Int->Bool
 | .i64,.ofNat m=>mK m 9223372036854775808
 | .u64,.ofNat m=>mK m 18446744073709551616
 | .i64,.negSucc m=>mK m 9223372036854775808
 |_,_=>false
def isK (k l:IntKind):Bool:=k==l
def Dh (P:Program):Nat->TypeId->List AV->Bool
 |0,_,_=>false
 |d+1,t,l=>match P.underlying t with
  |some .bool=>match l with
   |[.bool _]=>true
   |_=>false
  |some (.int q)=>match l with
   |[.int k n]=>isK k q&&(okI k n||(Lit.int k n).wf)
   |_=>false
  |some (.array n e)=>gW (len l) (P.cellsOf t)&&(eO n).all fun i=>Dh P d e ((l.drop (Nat.mul i (P.cellsOf e))).take (P.cellsOf e))
  |some (.struct fs)=>gW (len l) (P.cellsOf t)&&fs.toList.all fun f=>Dh P d f.type ((l.drop f.offset).take (P.cellsOf f.type))
  |_=>false
def Ef (P:Program) (kty:TypeId->Bool) (kt:TypeId) (v:AV):Bool:=match v with
 | .agg l=>kty kt&&Dh P 6 kt l
 | .int k _=>match P.underlying kt with
  |some (.int q)=>isK k q
  |_=>false
 |_=>false
def zh {α:Type}:∀l:List α,len l=l.length
 |[]=>rfl
 |x::r=>by rw[aP,<-zh r];rfl
end
open Go.GS
abbrev Rl:=Nat->Nat×Nat
mutual
def rz (σ:Rl):AV->Value
 | .int k n=> .int k n
 | .bool b=> .bool b
 | .ptr k q=> .pointer (some ⟨(σ k).1,q,none⟩)
 | .nptr=> .pointer none
 | .sl k q n c=> .slice (some ⟨(σ k).1,q,none⟩) n c
 | .sg k q n d=> .slice (some ⟨(σ k).1,q,none⟩) n ((σ k).2-d)
 | .nsl=> .slice none 0 0
 | .mp k=> .map (some (σ k).1)
 | .nmp=> .map none
 | .fn f b c=> .func (.func f) (rzs σ b).toArray (rzs σ c).toArray
 | .nfn=> .nilFunc
 | .agg l=> .agg (rzs σ l).toArray
 | .tup l=> .tuple (rzs σ l).toArray
def rzs (σ:Rl):List AV->List Value
 |[]=>[]
 |x::r=>rz σ x::rzs σ r
end
def jx (σ:Rl):∀l,rzs σ l=l.map (rz σ)
 |[]=>by simp[rzs]
 |x::r=>by simp[rzs,jx σ r]
def zi (σ:Rl) (l:List AV):(rzs σ l).length=l.length:=by rw[jx,aR]
def MM (σ:Rl) (l:List AV) (j:Nat):rzs σ (l.take j)=(rzs σ l).take j:=by simp[jx,List.map_take]
def MN (σ:Rl) (l:List AV) (j:Nat):rzs σ (l.drop j)=(rzs σ l).drop j:=by simp[jx,List.map_drop]
def zj {a b:Nat} (h:mK a b=true):a<b:=by simpa[pV]using h
def Ti {a b:Nat} (h:gW a b=true):a=b:=Nat.eq_of_beq_eq_true h
open Go.WideMaps
structure Eh (P:Program) (t:TypeId):Prop where
 at6:P.keyTypeAt 6 t=true
 tiled:P.tiled 6 t=true
 wide:(match P.underlying t with|some (.array _ _)|some (.struct _)=>true|_=>false)=true
 noguard:P.eqGuardType P.depth t=false
 key:P.keyType t=true
 big:6<=P.types.size+1
def zk {α β:Type} {f:α->Option β}:∀{l:List α},(∀x∈l,∃y,f x=some y)->∃ys,l.mapM f=some ys
 |[],_=>⟨[],rfl⟩
 |x::r,h=>by
  obtain⟨y,hy⟩:=h x aD;obtain⟨ys,hys⟩:=zk (l:=r) (f:=f) fun z hz=>h z (by simp[hz]);exact⟨y::ys,by simp[List.mapM_cons,hy,hys]⟩
def d9P {q:IntKind} {n:Int} (h:okI q n=true):(Lit.int q n).wf=true:=by
 unfold okI at h;split at h
 ·have:=zj h;simp[Lit.wf,IntKind.min,IntKind.max,IntKind.signed,IntKind.bits];omega
 ·have:=zj h;simp[Lit.wf,IntKind.min,IntKind.max,IntKind.signed,IntKind.bits];omega
 ·have:=zj h;simp[Lit.wf,IntKind.min,IntKind.max,IntKind.signed,IntKind.bits];omega
 ·cases h
def zl {P:Program} {σ:Rl}:∀(d:Nat) (t:TypeId) (l:List AV),P.keyTypeAt d t=true->Dh P d t l=true->∀D,d<=D->∃L,P.keyLits D t (rzs σ l)=some L
 |0,_,_,h,_,_,_=>by simp[Program.keyTypeAt]at h
 |d+1,t,l,hk,hf,D,hD=>by
  obtain⟨D,rfl⟩:∃E,D=E+1:=⟨D-1,aA⟩;unfold Program.keyTypeAt at hk;unfold Dh at hf;simp only[zh]at hf;unfold Program.keyLits;cases hu:P.underlying t with
  |none=>simp[hu]at hf
  |some kd=>
   rw[hu]at hk hf;cases kd<;>simp only[aY]at hk hf
   case some.bool=>
    split at hf
    ·exact⟨_,rfl⟩
    ·cases hf
   case some.int q=>
    split at hf
    ·rename_i k n;simp only[aQ,cO]at hf;have hk:k=q:=by simpa[isK]using hf.1
     subst hk;have hw:(Lit.int k n).wf=true:=hf.2.elim d9P id;exact⟨_,by simp only[rzs,rz];exact if_pos ⟨trivial,hw⟩⟩
    ·cases hf
   case some.array n e=>
    rw[aQ]at hf;obtain⟨h1,h2⟩:=hf;have h1:=Ti h1;rw[cH]at h2;have:∃ys,(eO n).mapM (fun i=>P.keyLits D e (((rzs σ l).drop (i*P.cellsOf e)).take (P.cellsOf e)))=some ys:=by
     refine zk fun i hi=> ?_;obtain⟨L,hL⟩:=zl d e _ hk (h2 i hi) D aA;exact⟨L,by rw[<-hL,MM,MN];rfl⟩
    obtain⟨ys,hys⟩:=this;exact⟨_,by simp only[zi,h1,if_true];rw[hys];rfl⟩
   case some.struct fs=>
    rw[aQ]at hf;obtain⟨h1,h2⟩:=hf;have h1:=Ti h1;rw[cH]at h2;simp only[aQ]at hk;have hn:=kO.1 hk.1.1;have:∃ys,fs.toList.mapM (fun f=>P.keyLits D f.type (((rzs σ l).drop f.offset).take (P.cellsOf f.type)))=some ys:=by
     refine zk fun f hi=> ?_;have hf:=hn f (Array.mem_toList_iff.1 hi);rw[aQ]at hf;obtain⟨L,hL⟩:=zl d f.type _ hf.2 (h2 f hi) D aA;exact⟨L,by rw[<-hL,MM,MN]⟩
    obtain⟨ys,hys⟩:=this;have rK:fs.all (·.name != "_")=true:=kO.2 fun f hf=>by
     have:=hn f hf;rw[aQ]at this;exact this.1
    exact⟨_,by simp only[zi,h1];rw[if_pos ⟨trivial,rK⟩,hys];rfl⟩
def c8A {P:Program} {t:TypeId} {l:List AV} {d:Nat} (h:Dh P (d+1) t l=true) (hw:(match P.underlying t with|some (.array _ _)|some (.struct _)=>true|_=>false)=true):l.length=P.cellsOf t:=by
 unfold Dh at h;simp only[zh]at h;split at h
 ·rename_i hu;rw[hu]at hw;cases hw
 ·rename_i hu;rw[hu]at hw;cases hw
 ·rw[aQ]at h;exact Ti h.1
 ·rw[aQ]at h;exact Ti h.1
 ·cases h
section
variable {P:Program} {kty:TypeId->Bool}
def zm {σ:Rl} {kt:TypeId} {l:List AV} (hK:∀t,kty t=true->Eh P t) (h:Ef P kty kt (.agg l)=true):Eh P kt/\(rz σ (.agg l)).formed P kt=true/\∀D,6<=D->∃L,P.keyLits D kt (rz σ (.agg l)).cells.toList=some L:=by
 simp only[Ef]at h;rw[aQ]at h;have K:=hK _ h.1;refine⟨K,?_,fun D hD=> ?_⟩
 ·have hl:=c8A h.2 K.wide;have hw:=K.wide;simp only[rz,Value.formed];split<;>simp_all[zi]
 ·obtain⟨L,hL⟩:=zl (σ:=σ) 6 kt l K.at6 h.2 D hD;exact⟨L,by simp only[rz,Value.cells];simpa using hL⟩
def Zz {kt:TypeId} {v:AV} (hK:∀t,kty t=true->Eh P t) (h:Ef P kty kt v=true):(∃l,v= .agg l)\/∃q n,v= .int q n/\P.underlying kt=some (.int q):=by
 unfold Ef at h;split at h
 ·exact .inl ⟨_,rfl⟩
 ·split at h
  ·rename_i k n _ q hu;obtain rfl:k=q:=by simpa[isK]using h
   exact .inr ⟨_,_,rfl,hu⟩
  ·cases h
 ·cases h
variable {σ:Rl} {wm:Nat} {H0 H:PH} {o:Oper} {vs:List AV} {x y:Operand} {v:AV}
def MP {t u:TypeId} {a b:Int} {vs:List Value} (ho:o.op= .call ⟨.builtin .max,#[x,y],#[t,u]⟩) (hx:e8 [x,y] vs x= .int .i64 a) (hy:e8 [x,y] vs y= .int .i64 b):Yld P o vs (.int .i64 (if b>a then b else a)):=fun w=>by
 have qE:o.op.operands.toList=[x,y]:=by simp[ho,Op.operands,Call.operands]
 rw[qE];simp only[execOp,ho,resolve,invoke,eK,eL,eJ,fR,bI,bR,hx,hy];simp only[builtin,eK,run_max_int2,eJ];rfl
def MQ {t a e r clock:TypeId} {es:Array MapEntry} {vs:List Value} (ho:o.op= .call ⟨.builtin .len,#[x],#[t]⟩) (hx:e8 [x] vs x= .map (some r)) (hu:P.underlying t=some (.map a e)) (hH:H r=some (.map es clock)):Rds P o vs H (.int .i64 es.size):=fun w hw=>by
 have qE:o.op.operands.toList=[x]:=by simp[ho,Op.operands,Call.operands]
 have hg:=Ih (P:=P) (hw _ _ hH);rw[qE];simp only[execOp,ho,resolve,invoke,eK,eL,eJ,fR,bI,bR,hx,builtin];have hr:(Builtin.len_ #[t] o.type #[.map (some r)]).run P w= .ok (goInt es.size) w:=by
  simp[Builtin.len_,run_underlying hu,hg]
 rw[hr];rfl
end
section
variable {P:Program} {kty:TypeId->Bool} {σ:Rl} {wm:Nat} {H0 H:PH} {o:Oper} {vs:List AV} {x y:Operand} {v:AV}
def jy {kt:TypeId} {l:List AV} (hK:∀t,kty t=true->Eh P t) (h:Ef P kty kt (.agg l)=true):∃lx,keyOf P kt (rz σ (.agg l))=some lx:=by
 obtain⟨K,fa,la⟩:=zm (σ:=σ) hK h;obtain⟨L,hL⟩:=la _ K.big;have hw:=K.wide;refine⟨.string (keyBytes L),?_⟩;unfold keyOf;split
 ·rw[if_pos (by rw[K.key,fa];rfl),hL];rfl
 ·rw[if_pos (by rw[K.key,fa];rfl),hL];rfl
 ·rename_i h1 h2;split at hw
  ·rename_i hu;exact absurd hu (h1 _ _)
  ·rename_i hu;exact absurd hu (h2 _)
  ·cases hw
def zn {kt:TypeId} {l:List AV} (hK:∀t,kty t=true->Eh P t) (h:Ef P kty kt (.agg l)=true):KeyLaw P kt:=by
 obtain⟨K,_⟩:=zm (σ:=fun _=>(0,0)) hK h;exact deep_law aA K.at6 K.tiled K.wide
def MR {kt:TypeId} {l:List AV} {q:IntKind} (hK:∀t,kty t=true->Eh P t) (h:Ef P kty kt (.agg l)=true) (hu:P.underlying kt=some (.int q)):False:=by
 obtain⟨K,_⟩:=zm (σ:=fun _=>(0,0)) hK h;have:=K.wide;rw[hu]at this;cases this
def MS {kt:TypeId} (hK:∀t,kty t=true->Eh P t) (h:Ef P kty kt v=true) (b:Bool) (w:World):(Instr.checkKey b 10000 kt (rz σ v)).run P w= .ok () w:=by
 rcases Zz hK h with⟨l,rfl⟩|⟨q,n,rfl,hu⟩
 ·obtain⟨lx,hlx⟩:=jy (σ:=σ) hK h;exact(zn hK h).check w b hlx
 ·rw[rz];exact Ld hu b w
def MU {kt:TypeId} (hK:∀t,kty t=true->Eh P t) (h:Ef P kty kt v=true) (w:World):(Instr.keyThatStays (rz σ v) (rz σ v)).run P w= .ok (rz σ v) w:=by
 rcases Zz hK h with⟨l,rfl⟩|⟨q,n,rfl,hu⟩
 ·obtain⟨lx,hlx⟩:=jy (σ:=σ) hK h;exact(zn hK h).stays w hlx
 ·simp[rz,Instr.keyThatStays,Instr.sameBits]
def jz {q:IntKind} {n:Int}:∀(E:List MapEntry) (i:Nat),(∀e∈E,∃b,e.key= .int q b)->(Instr.findNow (.int q) (.int q n) E i=some none/\∀e∈E,e.key≠ .int q n)\/∃j e,Instr.findNow (.int q) (.int q n) E i=some (some (i+j,e.val))/\E[j]? =some e/\e.key= .int q n
 |[],i,_=> .inl ⟨rfl,fun e he=>absurd he aD⟩
 |e::r,i,h=>by
  obtain⟨b,hb⟩:=h e aD;by_cases hn:n=b
  ·subst hn;exact .inr ⟨0,e,by simp[Instr.findNow,Instr.sameNow,hb],rfl,hb⟩
  ·have yP:(n==b)=false:=by simp[hn]
   rcases jz (n:=n) r (i+1) (fun e he=>h e (by simp[he]))with⟨h1,h2⟩|⟨j,e',h1,h2,h3⟩
   ·refine .inl ⟨by simp[Instr.findNow,Instr.sameNow,hb,yP,h1],fun e' he=> ?_⟩;rcases bG.1 he with rfl|he
    ·rw[hb];intro h;injection h with _ h;exact hn h.symm
    ·exact h2 e' he
   ·exact .inr ⟨j+1,e',by simp[Instr.findNow,Instr.sameNow,hb,yP,h1];omega,by simpa using h2,h3⟩
def MV {kt:TypeId} {key:AV} (hK:∀t,kty t=true->Eh P t) (hk:Ef P kty kt key=true) (E:List MapEntry) (hE:∀e∈E,∃a,e.key=rz σ a/\Ef P kty kt a=true) (w:World):
  ((Instr.findKey kt (rz σ key) E).run P w= .ok none w/\∀e∈E,e.key≠rz σ key)\/∃j e,(Instr.findKey kt (rz σ key) E).run P w= .ok (some (j,e.val)) w/\E[j]? =some e/\e.key=rz σ key:=by
 rcases Zz hK hk with⟨l,rfl⟩|⟨q,n,rfl,hu⟩
 ·obtain⟨lx,hlx⟩:=jy (σ:=σ) hK hk;refine(zn hK hk).find w hlx E fun e he=> ?_;obtain⟨a,ha,hb⟩:=hE e he;rcases Zz hK hb with⟨m,rfl⟩|⟨q,n,rfl,hu⟩
  ·rw[ha];exact jy hK hb
  ·exact(MR hK hk hu).elim
 ·rw[rz];have run:∀r,Instr.findNow (.int q) (.int q n) E 0=some r->(Instr.findKey kt (.int q n) E).run P w= .ok r w:=fun r hr=>by
   simp only[Instr.findKey,eK,run_underlying hu,eJ,hr,eL]
  rcases jz (q:=q) (n:=n) E 0 (fun e he=>by
   obtain⟨a,ha,hb⟩:=hE e he;rcases Zz hK hb with⟨m,rfl⟩|⟨q',n',rfl,hu'⟩
   ·exact(MR hK hb hu).elim
   ·rw[hu]at hu';cases hu';exact⟨n',by rw[ha,rz]⟩)with⟨h1,h2⟩|⟨j,e,h1,h2,h3⟩
  ·exact .inl ⟨run _ h1,h2⟩
  ·exact .inr ⟨j,e,by rw[run _ h1,bJ],h2,h3⟩
end
section
variable {P:Program} {kty:TypeId->Bool} {σ:Rl} {wm:Nat} {H0 H:PH} {o:Oper} {vs:List AV} {x y:Operand} {v:AV}
def c8B (seen:List Nat) (b:Nat):seen.toArray.contains b=seen.any (gW b):=by
 rw[bY,List.any_eq_true];simp
def c1Y {w:World} {r m since last clock:Nat} {seen:List Nat} {E:List MapEntry} {ty:TypeId} (hr:w.heap[r]? =some (.mapIter (some m) since seen.toArray last)) (hm:w.heap[m]? =some (.map E.toArray clock))
  (a1h:∀e∈E.filter (fun e=> !seen.any (gW e.born)),e.born<since) (a1i:seen=[]\/E=[]\/∃e∈E,e.born<last):
  (E.filter (fun e=> !seen.any (gW e.born))=[]/\(Instr.next (.pointer (some ⟨r,0,none⟩)) false ty).run P w= .ok (.tuple #[.bool false]) w)\/
  ∃e∈E.filter (fun e=> !seen.any (gW e.born)),∃w1:World,Ext w w1/\w1.heap=w.heap/\(Instr.next (.pointer (some ⟨r,0,none⟩)) false ty).run P w= .ok (.tuple #[.bool true,e.key,e.val]) {w1 with heap:=w1.heap.setIfInBounds r (.mapIter (some m) since (seen++[e.born]).toArray clock)}:=by
 have hgr:(getObj r).run P w= .ok (.mapIter (some m) since seen.toArray last) w:=by simp[getObj,Sem.run,hr]
 have rB:(!seen.toArray.isEmpty&& !E.toArray.isEmpty&&E.toArray.all fun e=>decide (e.born≥last))=false:=by
  rcases a1i with rfl|rfl|⟨e,he,qB⟩
  ·simp
  ·simp
  ·have:(E.toArray.all fun e=>decide (e.born≥last))=false:=by
    rw[Bool.eq_false_iff];intro h;rw[List.all_toArray,cH]at h;have:=h e he;simp only[decide_eq_true_eq]at this;omega
   rw[this];simp
 have a4t:E.toArray.filter (fun e=> !seen.toArray.contains e.born)=(E.filter (fun e=> !seen.any (gW e.born))).toArray:=by
  rw[<-bS,Array.toList_filter];simp only[c8B]
 unfold Instr.next;simp only[eK,hgr,eJ,Ih hm,rB,aY,if_false];rw[a4t];generalize hL:E.filter (fun e=> !seen.any (gW e.born))=L at a1h⊢;have e1:L.toArray.filter (fun x=>decide (x.born<since))=L.toArray:=Array.filter_eq_self.2 (fun x hx=>by simpa using a1h x (by simpa using hx));have e2:L.toArray.filter (fun x=>decide (x.born≥since))= #[]:=by
  rw[Array.filter_eq_empty_iff];intro x hx;have:=a1h x (by simpa using hx);simp;omega
 simp only[e1,e2,Array.append_empty];cases L with
 |nil=>
  left;refine⟨rfl,?_⟩;simp[choose,Sem.run,Question.forced]
 |cons a L=>
  right;have hch:∃(j:Nat) (w1:World),j<(a::L).toArray.size/\Ext w w1/\w1.heap=w.heap/\(choose (Question.mapNext (a::L).toArray.size)).run P w= .ok j w1:=by
   by_cases hf:(a::L).toArray.size<=1
   ·exact⟨0,w,aD,Ext.refl _,rfl,by
     have:L=[]:=by cases L with|nil=>rfl|cons _ _=>simp at hf
     subst this;simp[choose,Sem.run,Question.forced]⟩
   ·refine⟨w.tape w.drawn (Question.mapNext (a::L).toArray.size)%(a::L).toArray.size,w.drew,cI _ aD,⟨rfl,rfl,rfl,aS _,fun _ _=>rfl,Nat.le_succ _⟩,rfl,?_⟩
    ·simp only[choose,Sem.run,Question.forced,decide_eq_true_eq,hf,if_false,Question.cut];rfl
  obtain⟨j,w1,hj,hx,hh,pZ⟩:=hch;have xN:j<(a::L).length:=by simpa using hj
  refine⟨(a::L)[j],dL xN,w1,hx,hh,?_⟩;have a0d:∀ob':Obj,(setObj r ob').run P w1= .ok () {w1 with heap:=w1.heap.setIfInBounds r ob'}:=fun ob'=>by
   simp[setObj,Sem.run,hh,hr]
  simp only[List.isEmpty_toArray,List.isEmpty_cons,aY,if_false,Array.empty_append,Array.size_map,pZ,eJ,Array.getElem?_map,cG hj,cR,eK,a0d,eL];simp
end
def opn_callw {P:Program} {H:PH} {o:Oper} {x:Operand} {f:FuncId} {az:Array Operand} {tys:Array TypeId} {bs caps:Array Value} {vs ws:List Value} {V:Value->PH->Prop} (ho:o.op= .call ⟨.value x,az,tys⟩) (hx:e8 (x::az.toList) vs x= .func (.func f) bs caps) (vD:az.toList.map (e8 (x::az.toList) vs)=ws) (hf:n8 P f=true)
  (hc:Con P f (bs.toList++(ws++caps.toList)) H V):Opn P o vs H V:=fun w hw=>by
 have ha:az.map (e8 (x::az.toList) vs)=ws.toArray:=by rw[<-bS,dR];exact vD
 have qE:o.op.operands.toList=x::az.toList:=by simp[ho,Op.operands,Call.operands]
 have hr:(execOp (e8 (x::az.toList) vs) o).run P w= .ok (.enter f (bs.toList++(ws++caps.toList)).toArray) w:=by
  simp only[execOp,ho,resolve,hx,ha,Deferred.ofValue,eK,eL,eJ,invoke];rw[La hf];congr 2;simp
 unfold Stp;rw[qE,hr];exact(hc w hw).mono fun e w' ⟨v,H',he,hs,hV⟩=>⟨v,he,H',hs,hV⟩
end Go.RZ
namespace Go.Z
open Proofs.Tryz RowKit RX GS
def Bm (H:PH) (b:Nat):PH:=fun k=>if k=b then none else H k
set_option maxRecDepth 100000
def c8C:d9 prog [] [] [] [] 137=some (.call false 195 [V0]
(.ret [V1])):=aB
end Go.Z
namespace Go.GS
open RowKit RX
def zp {P:Program} {ρ:List Value} {a:SV} {k:Nat} (ha:D P ρ a=ii ((k+1:Nat):Int)) (h:k<9223372036854775807):D P ρ (.op2 .sub .i64 a (.k (.int .i64 1)))=ii (k:Nat):=by
 have:=Tc (P:=P) (ρ:=ρ) (a:=a) (b:= .k (.int .i64 1)) ha (y:=1) rfl aA aA;rw[this];show ii _=ii _;congr 1;omega
end Go.GS
namespace Go.Z
open Proofs.Tryz RowKit RX GS RZ
def zq {n:Nat} (h:n<M64) (d:Nat):Dh prog (d+1) 49 [.int .u64 (.ofNat n)]=true:=by
 have hu:prog.underlying 49=some (.int .u64):=aB;simp only[Dh,hu,okI];rw[show mK n 18446744073709551616=true from by rw[pV];exact h];rfl
def c2a {s:Nat} (hs:s<M64):Det prog 137 [uv s] (ii (Go.WD.blen s)):=Dk mixed c8C aB rfl (Dl (ja s hs) rfl (Ah rfl rfl))
end Go.Z
namespace Go.GS
def adj (es:List (Nat×Nat)) (y z:Nat):Prop:=∃e∈es,(e.1=y/\e.2=z)\/(e.2=y/\e.1=z)
def adj.symm {es:List (Nat×Nat)} {y z:Nat} (h:adj es y z):adj es z y:=by
 obtain⟨e,he,h|h⟩:=h
 ·exact⟨e,he,.inr ⟨h.2,h.1⟩⟩
 ·exact⟨e,he,.inl ⟨h.2,h.1⟩⟩
inductive Rch (es:List (Nat×Nat)) (set x:Nat):Nat->Prop
 |base:Rch es set x x
 |step {y z:Nat}:Rch es set x y->adj es y z->bit set z=true->Rch es set x z
def Rch.trans {es:List (Nat×Nat)} {set x y z:Nat} (h1:Rch es set x y) (h2:Rch es set y z):Rch es set x z:=by
 induction h2 with
 |base=>exact h1
 |step _ ha hz ih=>exact ih.step ha hz
def Rch.mem {es:List (Nat×Nat)} {set x y:Nat} (h:Rch es set x y) (hx:bit set x=true):bit set y=true:=by
 cases h with
 |base=>exact hx
 |step _ _ hz=>exact hz
def Rch.symm {es:List (Nat×Nat)} {set x y:Nat} (h:Rch es set x y) (hx:bit set x=true):Rch es set y x:=by
 induction h with
 |base=>exact .base
 |step h1 ha hz ih=>exact((Rch.base.step ha.symm (h1.mem hx)).trans ih)
def CL (es:List (Nat×Nat)) (set x c:Nat):Prop:=c<M64/\∀y,bit c y=true↔Rch es set x y
def Cn (es:List (Nat×Nat)) (set:Nat):Prop:=∃x,bit set x=true/\∀y,bit set y=true->Rch es set x y
def Cn.all {es:List (Nat×Nat)} {set x y:Nat} (h:Cn es set) (hx:bit set x=true) (hy:bit set y=true):Rch es set x y:=by
 obtain⟨z,hz,h⟩:=h;exact((h x hx).symm hz).trans (h y hy)
def ka {n:Nat} {es:List (Nat×Nat)} (h:∀e∈es,e.1<e.2/\e.2<n) {x y:Nat}:bit (nb es x) y=true↔adj es x y:=by
 rw[d9N];constructor
 ·rintro⟨e,he,h1|h1⟩
  ·exact⟨e,he,.inl h1⟩
  ·exact⟨e,he,.inr h1.2⟩
 ·rintro⟨e,he,h1|h1⟩
  ·exact⟨e,he,.inl h1⟩
  ·exact⟨e,he,.inr ⟨by have:=h e he;omega,h1⟩⟩
def grow (es:List (Nat×Nat)) (set part:Nat) (l:List Nat):Nat:=l.foldl (fun s n=>s|||(nb es n&&&set)) part
def zt (es:List (Nat×Nat)) (set part:Nat) (l:List Nat) (x:Nat):grow es set part (l++[x])=grow es set part l|||(nb es x&&&set):=by
 unfold grow;rw[jL];rfl
def aa {es:List (Nat×Nat)} {set part:Nat} (l:List Nat) (y:Nat):bit (grow es set part l) y=true↔bit part y=true\/∃x∈l,bit (nb es x) y=true/\bit set y=true:=by
 induction l using jv with
 |nil=>simp[grow]
 |snoc l x ih=>
  rw[zt,Ba,Il,cO,ih,aQ];simp only[aV,bB];constructor
  ·rintro((h|⟨a,h1,h2⟩)|h)
   ·exact .inl h
   ·exact .inr ⟨a,.inl h1,h2⟩
   ·exact .inr ⟨x,.inr rfl,h⟩
  ·rintro(h|⟨a,h1|rfl,h2⟩)
   ·exact .inl (.inl h)
   ·exact .inl (.inr ⟨a,h1,h2⟩)
   ·exact .inr h2
def MW {es:List (Nat×Nat)} {set part:Nat} (hs:set<M64) (hp:part<M64) (l:List Nat):grow es set part l<M64:=by
 induction l using jv with
 |nil=>exact hp
 |snoc l x ih=>rw[zt];exact Ss ih (Vw hs)
def c8D {n:Nat} {es:List (Nat×Nat)} (h:∀e∈es,e.1<e.2/\e.2<n) {set part x:Nat} (hp:part<M64) (hx:bit part x=true) (hr:∀y,bit part y=true->Rch es set x y) (he:grow es set part (els part)=part):CL es set x part:=by
 refine⟨hp,fun y=>⟨hr y,fun hy=> ?_⟩⟩;induction hy with
 |base=>exact hx
 | @step u v _ ha hz ih=>
  rw[<-he,aa];exact .inr ⟨u,(Ju hp).2 ih,(ka h).2 ha,hz⟩
def c8E {n:Nat} {es:List (Nat×Nat)} (h:∀e∈es,e.1<e.2/\e.2<n) {set part x:Nat} (hp:part<M64) (hr:∀y,bit part y=true->Rch es set x y):∀y,bit (grow es set part (els part)) y=true->Rch es set x y:=by
 intro y hy;rw[aa]at hy;rcases hy with hy|⟨z,h1,h2,h3⟩
 ·exact hr y hy
 ·exact(hr z ((Ju hp).1 h1)).step ((ka h).1 h2) h3
def c2c {p q:Nat->Bool} (hpq:∀y,p y=true->q y=true) {x:Nat} (hq:q x=true) (hp:p x=false):∀l:List Nat,x∈l->(l.filter p).length<(l.filter q).length:=by
 have pY:∀l:List Nat,(l.filter p).length<=(l.filter q).length:=by
  intro l;induction l with
  |nil=>exact aS _
  |cons a l ih=>
   rw[gJ,gJ];split
   ·rename_i h;rw[if_pos (hpq a h)];simp;exact ih
   ·split
    ·simp;omega
    ·exact ih
 intro l;induction l with
 |nil=>intro h;cases h
 |cons a l ih=>
  intro h;rw[gJ,gJ];rcases bG.1 h with rfl|h
  ·rw[if_neg (by simp[hp]),if_pos hq];have:=pY l;simp;omega
  ·have:=ih h;split
   ·rename_i h;rw[if_pos (hpq a h)];simp;exact this
   ·split
    ·simp;omega
    ·exact this
def ab {a b x:Nat} (h:∀y,bit a y=true->bit b y=true) (hb:bit b x=true) (ha:bit a x=false) (hx:x<64):card a<card b:=
 c2c h hb ha _ (aW.2 hx)
def Vy (a:Nat):card a<=64:=by
 have:=List.length_filter_le (bit a) (eO 64);simpa[card,els]using this
def MY {a b:Nat} (h:a≠b) (tP:∀y,bit a y=true->bit b y=true):∃x,bit b x=true/\bit a x=false:=by
 apply cL;intro hn;apply h;apply Hj;intro y;cases hy:bit a y with
 |true=>rw[tP y hy]
 |false=>
  cases hb:bit b y with
  |false=>rfl
  |true=>exact absurd ⟨y,hb,hy⟩ hn
def CS (es:List (Nat×Nat)) (set rest k:Nat):Prop:=(k=0/\rest=set)\/(k=1/\∃x c,bit set x=true/\CL es set x c/\rest=sdf set c)\/(2<=k/\¬Cn es set)
def CS.end {es:List (Nat×Nat)} {set k:Nat} (h:CS es set 0 k):k=1↔Cn es set:=by
 rcases h with⟨rfl,h⟩|⟨rfl,x,c,hx,hc,h⟩|⟨h1,h2⟩
 ·subst h;constructor
  ·intro h;cases h
  ·rintro⟨x,hx,_⟩;rw[Gk]at hx;cases hx
 ·refine⟨fun _=>⟨x,hx,fun y hy=> ?_⟩,fun _=>rfl⟩;have:bit (sdf set c) y=false:=by rw[<-h,Gk]
  rw[Lt,hy]at this;exact(hc.2 y).1 (by simpa using this)
 ·exact⟨fun h=>aA,fun h=>absurd h h2⟩
def CS.next {es:List (Nat×Nat)} {set rest k x c:Nat} (h:CS es set rest k) (hx:bit rest x=true) (hxs:bit set x=true) (hc:CL es set x c):CS es set (sdf rest c) (k+1):=by
 rcases h with⟨rfl,rfl⟩|⟨rfl,y,d,hy,hd,rfl⟩|⟨h1,h2⟩
 ·exact .inr (.inl ⟨rfl,x,c,hxs,hc,rfl⟩)
 ·refine .inr (.inr ⟨aA,fun hn=> ?_⟩);rw[Lt,(hd.2 x).2 (hn.all hy hxs)]at hx;simp at hx
 ·exact .inr (.inr ⟨aA,h2⟩)
end Go.GS
namespace Go.RX
open RowKit
def Bc {P:Program} {ρ:List Value} {x:SV} {v:Value} (h:D P ρ x=v) (hc:v.cells= #[v]):D P ρ (.cell x 0 0 noI)=v:=by
 show(D P ρ x).cells.getD (0+0*t6 (D P ρ noI)) undef=v;rw[h,hc,bV];rfl
end Go.RX
namespace Go.Z
open Proofs.Tryz RowKit RX GS
section
variable {H:PH} {n:Nat} {w:Value} {es:List (Nat×Nat)} {set:Nat}
def MZ {n:Nat} (h:n<=64) {s:Nat} (hs:s<2^n):s<M64:=aU hs (bQ (n:=2) aC h)
def Vz {n s x:Nat} (hs:s<2^n) (h:bit s x=true):x<n:=by
 apply nY;intro hn;have:=Nat.testBit_lt_two_pow (aU hs (bQ (n:=2) aC hn));rw[bit,this]at h;cases h
set_option maxHeartbeats 1000000 in
def c2e (hT:Tb H) (hw:SG H w es) (hg:GV n es) (hs:set<2^n):Con prog 227 [gv n w,uv set] H fun u H'=>Pl H H'/\∃l,SU H' u l/\(l.length=1↔Cn es set):=by
 refine g5 mixed c8q ?_;have hn:=hg.n64;have rD:=MZ hn hs;refine b4 (Ci hw) ?_;refine b4 (el_u64.vcells set) ?_;refine f0 (d4M hw hg) rfl ?_;rintro u H1 ⟨l1,o1⟩;refine nmI ?_;have hu:=o1.se;refine b4 hu.one ?_;refine r7 (α:=Value×Nat×List Nat) (fun⟨v,rest,l⟩=>[v,uv rest,gv n w,uv set,u]) (fun⟨v,rest,l⟩=>fun H'=>Pl H1 H'/\SO H1 H' 49 1 (fun s:Nat=>[uv s]) v l/\rest<M64/\(∀y,bit rest y=true->bit set y=true)/\CS es set rest l.length/\l.length+card rest<=64) (fun⟨v,rest,l⟩=>card rest) ((.slice none 0 0,set,[])) rfl (⟨Pl.refl _,SO.nil _ _ _ _ _,rD,fun _ h=>h,.inl ⟨rfl,rfl⟩,by simpa using Vy set⟩) fun⟨v,rest,l⟩ H' hQ=> ?_;obtain⟨l2,o2,hr,hrs,hC,sR⟩:=hQ;refine b9 ?_;refine y5 (p:=(rest≠0)) (bN0 rest) (fun h=> ?_) fun h=> ?_
 ·obtain⟨x,r,rY⟩:∃x r,els rest=x::r:=by
   cases rY:els rest with
   |nil=>exact absurd (Ov hr rY) h
   |cons x r=>exact⟨x,r,rfl⟩
  obtain⟨hx,vH,_⟩:=Im rY;have hxs:=hrs x hx;refine r7 (α:=Nat) (fun part=>[uv part,gv n w,uv set,u]) (fun part=>fun H''=>Pl H' H''/\part<M64/\bit part x=true/\∀y,bit part y=true->Rch es set x y) (fun part=>64-card part) (2^x) (Hn (by rw[Io (B:=(M64-rest)%M64) rfl (za rfl hr) hr (cI _ aC),jr hr rY]) rfl rfl rfl) (⟨Pl.refl _,Dp vH,by rw[Bw];simp,fun y hy=>by rw[Bw]at hy;simp at hy;subst hy;exact .base⟩) fun part H2 wX=> ?_;obtain⟨l3,hp,hpx,hpr⟩:=wX;refine b4 (el_u64.vcells part) ?_;refine f0 (c8x (H:=H2) (s:=part)) rfl ?_;rintro _ _ ⟨b,hb,rfl,rfl⟩;refine nmI ?_;have l4:Pl H1 H2:=l2.trans l3;have sB:SU H2 u (nbs n es):=hu.mono l4;have uB:∀y,bit part y=true->y<n:=fun y hy=>Vz hs ((hpr y hy).mem hxs);refine Hi (X:=H2) (K:=Bj b part) (Ro:=H2) (fun pre vals X'=>X'=H2/\vals=[uv (grow es set part ((els part).take pre.length))]) (fun _ _ _=>False) (c1V hp ((hT.mono l1).mono l4)) c1T (jw _ hb) rfl (fun _ _ _ h=>by rw[h.1];exact Pl.refl _) ⟨rfl,rfl⟩ ?_ ?_ ?_
  ·rintro pre xs vals X' ⟨y,hy,rfl,qD⟩ _ ⟨rfl,rfl⟩;refine⟨rfl,?_⟩;have hyp:bit part y=true:=(Ju hp).1 (aK hy);refine Ac el_u64 rfl rfl rfl rfl aF sB (Oz es (uB y hyp)) (i0 (Bc rfl sB.cells) rfl) aF fun _=> ?_;have hgl:=MW (es:=es) rD hp ((els part).take pre.length);have rQ:=ze hg.ed hn y;refine b9 (b9 (b9 ?_));exact⟨rfl,by rw[aL];simp only[aP,bX];rw[take_snoc hy,zt];exact p6 (Hk rfl (Io rfl rfl rQ rD) hgl (Su rQ))⟩
  ·rintro xs vals X' K' rfl hd _ ⟨rfl,rfl⟩;rw[aR,eB];simp only[cA,nA];have hgl:=MW (es:=es) rD hp (els part);have l5:Pl X' (X'.or K'):=PH.le_or _ _;refine b9 (b9 ?_);refine y5 (p:=(grow es set part (els part)=part)) (by show Value.bool (((grow es set part (els part):Nat):Int)==((part:Nat):Int))=_;rw[bE];congr 1;apply decide_eq_decide.2;omega) (fun h2=> ?_) fun h2=> ?_
   ·have a2q:=c8D hg.ed hp hpx hpr h2;refine Cf el_u64 rfl rfl rfl aF aF (l4.trans l5) (o2.mono (l3.trans l5)) aA rfl aF rfl fun p v2 H3 l6 o3=> ?_;have qB:card (sdf rest part)<card rest:=ab (fun y hy=>by rw[Lt]at hy;exact(aQ _ _ ▸ hy).1) hx (by rw[Lt,hpx];simp) vH;exact⟨(v2,sdf rest part,l++[part]),qB,(by simp only[bI,bR];rw[Ta rfl rfl hr hp];rfl),⟨l6,o3,Sr hr,fun y hy=>hrs y (by rw[Lt]at hy;exact(aQ _ _ ▸ hy).1),by rw[aL];exact hC.next hx hxs a2q,by rw[aL];simp only[aP,bX];omega⟩⟩
   ·obtain⟨z,hz1,yF⟩:=MY (fun e=>h2 e.symm) (fun y hy=>by rw[aa];exact .inl hy);have qB:card part<card (grow es set part (els part)):=ab (fun y hy=>by rw[aa];exact .inl hy) hz1 yF (Vv hgl hz1);have a1b:=Vy (grow es set part (els part));exact⟨grow es set part (els part),aA,rfl,⟨l3.trans l5,hgl,by rw[aa];exact .inl hpx,c8E hg.ed hp hpr⟩⟩
  ·exact fun _ _ _ _ _ _ _ h=>h.elim
 ·have h0:rest=0:=aA;subst h0;exact d4 rfl ⟨l1.trans l2,l,o2.se,hC.end⟩
end
end Go.Z
namespace Go.GS
def LabOk (p:List Int) (k:Int):Prop:=(∀x∈p,0<=x/\x<k)/\0<p.length/\p.length<=64
instance (p:List Int) (k:Int):Decidable (LabOk p k):=inferInstanceAs (Decidable (_/\_/\_))
def mkN (p:List Int) (d:Int) (m:Nat):Nat:=(eO m).foldl (fun s i=>if p[i]? =some d then s|||2^i else s) 0
def zu (p:List Int) (d:Int) (m:Nat):mkN p d (m+1)=if p[m]? =some d then mkN p d m|||2^m else mkN p d m:=by
 unfold mkN;rw[List.range_succ,jL];rfl
def Wa (p:List Int) (d:Int) (m i:Nat):bit (mkN p d m) i=(decide (i<m)&&decide (p[i]? =some d)):=by
 induction m with
 |zero=>simp[mkN,bit]
 |succ m ih=>
  rw[zu];split
  ·rename_i h;rw[Ba,Bw,ih];by_cases e:m=i
   ·subst e;simp[h]
   ·simp[e,show(i<m+1)=(i<m)from by apply propext;omega]
  ·rename_i h;rw[ih];by_cases e:i=m
   ·subst e;simp[h]
   ·simp[show(i<m+1)=(i<m)from by apply propext;omega]
def NA (p:List Int) (d:Int) {m:Nat} (h:m<=64):mkN p d m<2^m:=by
 apply Nat.lt_pow_two_of_testBit;intro i hi;have:=Wa p d m i;unfold bit at this;rw[this];simp[show ¬i<m by omega]
def NB (p:List Int) (d:Int) {m:Nat} (h:m<=64):mkN p d m<M64:=aU (NA p d h) (bQ (n:=2) aC h)
def Dq (p:List Int) (d:Int):Nat:=mkN p d p.length
def Ho (p:List Int) (k m:Nat):List Nat:=(eO k).map fun d:Nat=>mkN p d m
def kf (p:List Int) (k m:Nat):(Ho p k m).length=k:=by simp[Ho]
def kg (p:List Int) (m:Nat) {k d:Nat} (h:d<k):(Ho p k m)[d]? =some (mkN p d m):=by simp[Ho,h]
def c2f (p:List Int) (k:Nat):Ho p k 0=eS k 0:=by
 apply nT
 ·simp[Ho]
 ·intro i h1 h2;simp[Ho,mkN]
def c2g (p:List Int) (k:Nat) {m d:Nat} (h:p[m]? =some (d:Int)):(Ho p k m).set d (mkN p d m|||2^m)=Ho p k (m+1):=by
 apply bP;intro i;by_cases hi:i<k
 ·rw[kg _ _ hi,zu];by_cases e:d=i
  ·subst e;rw[iL (by simp[kf,hi]),if_pos h]
  ·rw[iT e,kg _ _ hi,if_neg (by rw[h];simp;omega)]
 ·rw[aO (by simp[kf];omega),aO (by simp[kf];omega)]
def Ey (p:List Int) (k:Nat):List Nat:=Ho p k p.length
def Ez (p:List Int) (k:Nat):Prop:=∀d,d<k->Dq p (d:Nat)≠0
instance (p:List Int) (k:Nat):Decidable (Ez p k):=inferInstanceAs (Decidable (∀d,d<k->_))
def plE (n:Nat) (p:List Int) (k:Int):Int:=if k<1\/k>8 then 2 else if p.length=n/\LabOk p k/\Ez p k.toNat then 0 else 210
def LabOk.at {p:List Int} {k:Int} (h:LabOk p k) {i:Nat} {x:Int} (hx:p[i]? =some x):0<=x/\x<k:=h.1 x (aK hx)
noncomputable def cnB (es:List (Nat×Nat)) (set:Nat):Bool:= @decide (Cn es set) (kX _)
def cnB_iff {es:List (Nat×Nat)} {set:Nat}:cnB es set=true↔Cn es set:= @decide_eq_true_iff _ (kX _)
def d9Q {n:Nat} {p:List Int} {k:Int} (h:plE n p k=0):1<=k/\k<=8/\p.length=n/\LabOk p k/\Ez p k.toNat:=by
 unfold plE at h;split at h
 ·cases h
 ·split at h
  ·rename_i h1 h2;exact⟨aA,aA,h2⟩
  ·cases h
def c8F {p:List Int} {k s:Nat} (h:s∈Ey p k) (hp:p.length<=64):s<2^p.length:=by
 simp only[Ey,Ho,aZ]at h;obtain⟨d,_,rfl⟩:=h;exact NA p d hp
end Go.GS

/- Loops by states; calls that only read. -/
import Derived.Test.YtmannekkmdockaaGreatDoorRxW
import Derived.Test.YtmannekkmdockaaGreatDoorGsB
import Derived.Test.YtmannekkmdockaaGreatDoorWdK

namespace Go.RX
open Go.RowKit
def Asks (P:Program) (f:FuncId) (args:List Value) (H:PH) (v:Value):Prop:=Con P f args H fun u H'=>H'=H/\u=v
section
variable {P:Program} {G:Value->PH->Prop} {nx:List (List Value->PH->Prop)} {ρ:List Value} {H:PH}
theorem a0P {pf:Bool} {f:FuncId} {args:List SV} {t:Tree} {vs:List Value} {v:Value} (hd:Asks P f vs H v) (ha:args.map (D P ρ)=vs) (n:den P G t nx (ρ++[v]) H):den P G (.call pf f args t) nx ρ H:=
 a0d hd ha fun u H' ⟨h1,h2⟩=>by subst h1;subst h2;exact⟨fun _=>PH.le.refl _,n⟩
theorem b2D {F:List Value->PH->Prop} {nx nx':List (List Value->PH->Prop)} {a b:List Value->PH->Prop} (hl:nx.length=nx'.length) (h:∀d l h,nx.getD d F l h->nx'.getD d F l h) (hab:∀l h,a l h->b l h):
  (nx++[a]).length=(nx'++[b]).length/\∀d l h,(nx++[a]).getD d F l h->(nx'++[b]).getD d F l h:=by
 refine⟨by simp[hl],fun d l h' hx=> ?_⟩
 rw[List.getD_eq_getElem?_getD]at hx⊢
 by_cases hd:d<nx.length
 ·rw[List.getElem?_append_left hd]at hx
  rw[List.getElem?_append_left (by omega)]
  have:=h d l h'
  rw[List.getD_eq_getElem?_getD,List.getD_eq_getElem?_getD]at this
  exact this hx
 ·rw[List.getElem?_append_right (by omega)]at hx
  rw[List.getElem?_append_right (by omega)]
  rw[<-hl]
  cases e:d-nx.length with
  |zero=>rw[e]at hx;exact hab l h' hx
  |succ n=>rw[e]at hx;exact hx
theorem c5u:∀(t:Tree) (nx nx':List (List Value->PH->Prop)) (ρ:List Value) (H:PH),nx.length=nx'.length->(∀d l h,nx.getD d (fun _ _=>False) l h->nx'.getD d (fun _ _=>False) l h)->den P G t nx ρ H->den P G t nx' ρ H:=by
 intro t
 induction t with
 |ret l=>intro nx nx' ρ H _ _ h;exact h
 |rq r t ih=>intro nx nx' ρ H hl hn h;exact⟨h.1,ih _ _ _ _ hl hn h.2⟩
 |br c t e ih1 ih2=>intro nx nx' ρ H hl hn h;exact⟨fun hc=>ih1 _ _ _ _ hl hn (h.1 hc),fun hc=>ih2 _ _ _ _ hl hn (h.2 hc)⟩
 |call pf f args t ih=>
  intro nx nx' ρ H hl hn h w hw
  exact(h w hw).mono fun e w' ⟨v,H',he,hs,hp,hd⟩=>⟨v,H',he,hs,hp,ih _ _ _ _ hl hn hd⟩
 |prim id i o args t ih=>
  intro nx nx' ρ H hl hn h
  obtain⟨v,hd,h⟩:=h
  exact⟨v,hd,ih _ _ _ _ hl hn h⟩
 |eff pf id i o args t ih=>
  intro nx nx' ρ H hl hn h w hw
  exact(h w hw).mono fun u w' ⟨H',hs,hp,hd⟩=>⟨H',hs,hp,ih _ _ _ _ hl hn hd⟩
 |ext f args t ih=>
  intro nx nx' ρ H hl hn h
  obtain⟨v,hd,h⟩:=h
  exact⟨v,hd,ih _ _ _ _ hl hn h⟩
 |pub T c t ih=>intro nx nx' ρ H hl hn h b hb;exact ih _ _ _ _ hl hn (h b hb)
 |dead n=>intro nx nx' ρ H _ _ h;exact h
 |rf g np ini tb ta te ih1 ih2 ih3=>
  intro nx nx' ρ H hl hn h
  obtain⟨f,caps,X,K,Ro,E,S,Sp,I,Ix,h1,h2,h3,h4,h5,h6,h7,h8,h9,h10⟩:=h
  refine⟨f,caps,X,K,Ro,E,S,Sp,I,Ix,h1,h2,h3,h4,h5,h6,h7,fun pre xs vals X' a b c=>⟨(h8 pre xs vals X' a b c).1,?_⟩,fun xs vals X' K' a b c d=>ih2 _ _ _ _ hl hn (h9 xs vals X' K' a b c d),fun pre vals X' K' a b c d=>ih3 _ _ _ _ hl hn (h10 pre vals X' K' a b c d)⟩
  have e1:=b2D (F:=fun _ _=>False) hl hn (a:=fun v h=>I (pre++[xs]) v h) (b:=fun v h=>I (pre++[xs]) v h) (fun _ _ h=>h)
  have e2:=b2D (F:=fun _ _=>False) e1.1 e1.2 (a:=fun v h=>Ix (pre++[xs]) v h) (b:=fun v h=>Ix (pre++[xs]) v h) (fun _ _ h=>h)
  simp only[List.append_assoc,List.cons_append,List.nil_append]at e2
  exact ih1 _ _ _ _ e2.1 e2.2 (h8 pre xs vals X' a b c).2
 |mk id i o args t ih=>
  intro nx nx' ρ H hl hn h
  obtain⟨mk,ob,h1,h2⟩:=h
  exact⟨mk,ob,h1,fun b hb=>ih _ _ _ _ hl hn (h2 b hb)⟩
 |loop ini t ih=>
  intro nx nx' ρ H hl hn h
  obtain⟨I,μ,h0,h1⟩:=h
  refine⟨I,μ,h0,fun vals H' hv hI=> ?_⟩
  have e:=b2D (F:=fun _ _=>False) hl hn (a:=fun l h=>I l h/\μ l h<μ vals H') (b:=fun l h=>I l h/\μ l h<μ vals H') (fun _ _ h=>h)
  exact ih _ _ _ _ e.1 e.2 (h1 vals H' hv hI)
 |next d l=>intro nx nx' ρ H hl hn h;exact hn d _ _ h
 |join n t u ih1 ih2=>
  intro nx nx' ρ H hl hn h
  obtain⟨J,h1,h2⟩:=h
  have e:=b2D (F:=fun _ _=>False) hl hn (a:=J) (b:=J) (fun _ _ h=>h)
  exact⟨J,ih1 _ _ _ _ e.1 e.2 h1,fun vals H' hv hJ=>ih2 _ _ _ _ hl hn (h2 vals H' hv hJ)⟩
theorem c0H {p:Nat->Prop}:∀n,p n->∃m,p m/\∀k,p k->m<=k:=by
 intro n
 induction n using Nat.strongRecOn with
 |_ n ih=>
  intro hp
  by_cases h:∃k,k<n/\p k
  ·obtain⟨k,h1,h2⟩:=h;exact ih k h1 h2
  ·exact⟨n,hp,fun k hk=>Nat.le_of_not_lt fun hlt=>h ⟨k,hlt,hk⟩⟩
theorem a0k {ini:List SV} {t:Tree} {α:Type} (f:α->List Value) (Q:α->PH->Prop) (m:α->Nat) (a0:α) (h0:ini.map (D P ρ)=f a0) (hQ:Q a0 H)
  (hs:∀a H',Q a H'->den P G t (nx++[fun l h=>∃b,m b<m a/\l=f b/\Q b h]) (ρ++f a) H'):den P G (.loop ini t) nx ρ H:=by
 classical
 have key:∀(l:List Value) (h:PH),(∃a,l=f a/\Q a h)->∃a,(l=f a/\Q a h)/\∀b,(l=f b/\Q b h)->m a<=m b:=by
  intro l h ⟨a,ha⟩
  obtain⟨n,⟨a',e1,e2⟩,e3⟩:=c0H (p:=fun n=>∃a,m a=n/\l=f a/\Q a h) (m a) ⟨a,rfl,ha⟩
  exact⟨a',e2,fun b hb=>by rw[e1];exact e3 _ ⟨b,rfl,hb⟩⟩
 refine⟨fun l h=>∃a,l=f a/\Q a h,fun l h=>if hx:∃a,l=f a/\Q a h then m (key l h hx).choose else 0,⟨a0,h0,hQ⟩,?_⟩
 intro vals H' _ hI
 obtain⟨⟨e1,e2⟩,e3⟩:=(key vals H' hI).choose_spec
 have hm:(if hx:∃a,vals=f a/\Q a H' then m (key vals H' hx).choose else 0)=m (key vals H' hI).choose:=dif_pos hI
 have h:=hs _ H' e2
 rw[<-e1]at h
 have e:=b2D (F:=fun _ _=>False) (nx:=nx) (nx':=nx) rfl (fun _ _ _ h=>h) (a:=fun l h=>∃b,m b<m (key vals H' hI).choose/\l=f b/\Q b h)
  (b:=fun l h=>(∃a,l=f a/\Q a h)/\(if hx:∃a,l=f a/\Q a h then m (key l h hx).choose else 0)<(if hx:∃a,vals=f a/\Q a H' then m (key vals H' hx).choose else 0)) (by
   rintro l h' ⟨b,hb1,hb2,hb3⟩
   have hx:∃a,l=f a/\Q a h':=⟨b,hb2,hb3⟩
   refine⟨hx,?_⟩
   rw[hm,dif_pos hx]
   exact Nat.lt_of_le_of_lt ((key l h' hx).choose_spec.2 b ⟨hb2,hb3⟩) hb1)
 exact c5u _ _ _ _ _ e.1 e.2 h
theorem a0K {ini:List SV} {t:Tree} {α:Type} (f:α->List Value) (Q:α->Prop) (m:α->Nat) (a0:α) (h0:ini.map (D P ρ)=f a0) (hQ:Q a0)
  (hs:∀a,Q a->den P G t (nx++[fun l h=>∃b,m b<m a/\l=f b/\Q b/\h=H]) (ρ++f a) H):den P G (.loop ini t) nx ρ H:=
 a0k f (fun a h=>Q a/\h=H) m a0 h0 ⟨hQ,rfl⟩ fun a H' ⟨h1,h2⟩=>by subst h2;exact hs a h1
theorem PH.le_put_of {H H':PH} {b:Nat} {o:Obj} (h:PH.le H H') (hb:H b=none):PH.le H (H'.put b o):=fun k ob hk=>by
 unfold PH.put
 split
 ·rename_i e;subst e;rw[hb]at hk;cases hk
 ·exact h k ob hk
theorem PH.le_put2 {H:PH} {b:Nat} (hb:H b=none) (o o2:Obj):PH.le H ((H.put b o).put b o2):=PH.le_put_of (PH.le_put hb _) hb
structure Sc (P:Program) (T:TypeId):Prop where
 has:a2s P T=true
 agg:a0N P T=false
 cel:P.cellsOf T=1
structure Ag (P:Program) (T:TypeId) (n:Nat):Prop where
 has:a2s P T=true
 agg:a0N P T=true
 cel:P.cellsOf T=n
structure Ar (P:Program) (T e:TypeId) (n:Nat):Prop where
 und:P.underlying T=some (.array n e)
 has:a2s P T=true
 agg:a0N P T=true
 cel:P.cellsOf T=n
 sc:Sc P e
section
variable {o o1 o2:Oper} {x y x2:Operand} {id i id2 i2:Nat} {args args2:List SV} {t:Tree} {pf:Bool} {b q:Nat} {T T' e:TypeId} {fz:Nat×Nat} {cs:Array Value} {u:Value} {n:Nat}
theorem a0L (hT:Sc P T) (ho:o.op= .load T x) (hx:a0f [x] [.pointer (some ⟨b,q,none⟩)] x= .pointer (some ⟨b,q,none⟩)) (hH:H b=some (.cells cs T' fz)) (hv:cs[q]? =some u) (ha:args.map (D P ρ)=[.pointer (some ⟨b,q,none⟩)]) (n:den P G t nx (ρ++[u]) H):den P G (.prim id i o args t) nx ρ H:=by
 have hq:=(Array.getElem?_eq_some_iff.1 hv).1
 have h:=a2k ho hx hH hT.has (by rw[hT.cel];omega) (fun _=>hq)
 rw[hT.agg]at h
 simp only[Bool.false_eq_true,if_false,Array.getD_eq_getD_getElem?,hv,Option.getD_some]at h
 exact a0g h ha n
theorem a8i {vs:List Value} (hT:Ag P T vs.length) (ho:o.op= .load T x) (hx:a0f [x] [.pointer (some ⟨b,q,none⟩)] x= .pointer (some ⟨b,q,none⟩)) (hH:H b=some (.cells cs T' fz)) (hv:(cs.toList.drop q).take vs.length=vs) (hq:q+vs.length<=cs.size) (ha:args.map (D P ρ)=[.pointer (some ⟨b,q,none⟩)]) (n:den P G t nx (ρ++[.agg vs.toArray]) H):den P G (.prim id i o args t) nx ρ H:=by
 have h:=a2k ho hx hH hT.has (by rw[hT.cel];exact hq) (fun h=>by rw[hT.agg]at h;cases h)
 rw[hT.agg,hT.cel]at h
 simp only[if_true]at h
 have:cs.extract q (q+vs.length)=vs.toArray:=by rw[<-Array.toList_inj,Array.toList_extract,List.extract_eq_take_drop,Nat.add_sub_cancel_left,hv]
 rw[this]at h
 exact a0g h ha n
theorem b0W (hT:Sc P T) (ho:o.op= .store T x y) (hx:a0f [x,y] [.pointer (some ⟨b,q,none⟩),u] x= .pointer (some ⟨b,q,none⟩)) (hy:a0f [x,y] [.pointer (some ⟨b,q,none⟩),u] y=u) (hH:H b=some (.cells cs T' (0,0))) (hq:q<cs.size) (hu:u.cells= #[u]) (h1:a8V u=true) (ha:args.map (D P ρ)=[.pointer (some ⟨b,q,none⟩),u]) (hpf:pf=true->PH.le H (H.put b (.cells (cs.setIfInBounds q u) T' (0,0))))
  (n:den P G t nx (ρ++[undef]) (H.put b (.cells (cs.setIfInBounds q u) T' (0,0)))):den P G (.eff pf id i o args t) nx ρ H:=by
 refine a0l (a3a ho hx hy hH hT.has (by rw[hT.cel];omega) (by rw[hu,hT.cel];rfl) (fun c hc=> ?_)) ha ?_
 ·rw[hu]at hc;simp at hc;subst hc;exact h1
 ·rintro v H' ⟨rfl,rfl⟩
  rw[hu]
  exact⟨hpf,n⟩
theorem c5v:∀(vs cs:List Value) (q:Nat) (a:Array Value),a.size=q+vs.length->(spl a q vs).toList=a.toList.take q++vs:=by
 intro vs
 induction vs with
 |nil=>intro cs q a h;simp only[spl];rw[List.take_of_length_le (by simp at h⊢;omega),List.append_nil]
 |cons v vs ih=>
  intro cs q a h
  simp only[spl]
  simp only[List.length_cons]at h
  rw[ih cs (q+1) _ (by simp;omega),Array.toList_setIfInBounds]
  rw[List.take_add_one,List.take_set_of_le (Nat.le_refl _),List.append_assoc]
  congr 1
  rw[List.getElem?_set_self (by simp;omega)];rfl
theorem b0X {vs:List Value} (hT:Ag P T vs.length) (ho:o.op= .store T x y) (hx:a0f [x,y] [.pointer (some ⟨b,0,none⟩),.agg vs.toArray] x= .pointer (some ⟨b,0,none⟩)) (hy:a0f [x,y] [.pointer (some ⟨b,0,none⟩),.agg vs.toArray] y= .agg vs.toArray) (hH:H b=some (.cells cs T' (0,0))) (hq:cs.size=vs.length) (h1:∀c∈vs,a8V c=true) (ha:args.map (D P ρ)=[.pointer (some ⟨b,0,none⟩),.agg vs.toArray]) (hpf:pf=true->PH.le H (H.put b (.cells vs.toArray T' (0,0))))
  (n:den P G t nx (ρ++[undef]) (H.put b (.cells vs.toArray T' (0,0)))):den P G (.eff pf id i o args t) nx ρ H:=by
 refine a0l (a3a ho hx hy hH hT.has (by rw[hT.cel];omega) (by rw[hT.cel];rfl) (fun c hc=>h1 c (by simpa[a1v]using hc))) ha ?_
 rintro v H' ⟨rfl,rfl⟩
 have:spl cs 0 (Value.agg vs.toArray).cells.toList=vs.toArray:=by
  rw[<-Array.toList_inj,a1v]
  have:=c5v vs [] 0 cs (by omega)
  simpa using this
 rw[this]
 exact⟨hpf,n⟩
theorem a5r {len m:Nat} {k:IntKind} (hT:Ar P T e len) (ho1:o1.op= .indexAddr T x y) (ho2:o2.op= .load e x2) (hx:a0f [x,y] [.pointer (some ⟨b,0,none⟩),.int k (m:Nat)] x= .pointer (some ⟨b,0,none⟩)) (hy:a0f [x,y] [.pointer (some ⟨b,0,none⟩),.int k (m:Nat)] y= .int k (m:Nat)) (hx2:a0f [x2] [.pointer (some ⟨b,m,none⟩)] x2= .pointer (some ⟨b,m,none⟩))
  (hH:H b=some (.cells cs T' fz)) (hm:m<len) (hv:cs[m]? =some u) (ha:args.map (D P ρ)=[.pointer (some ⟨b,0,none⟩),.int k (m:Nat)]) (ha2:args2.map (D P (ρ++[.pointer (some ⟨b,m,none⟩)]))=[.pointer (some ⟨b,m,none⟩)]) (n:den P G t nx (ρ++[.pointer (some ⟨b,m,none⟩)]++[u]) H):den P G (.prim id i o1 args (.prim id2 i2 o2 args2 t)) nx ρ H:=by
 have h:=(a3b (len:=len) (q:=0) ho1 hx hy hT.und hT.sc.has (by omega) (by omega)).rds H
 rw[hT.sc.cel,Int.toNat_natCast,Nat.zero_add,Nat.mul_one]at h
 exact a0g h ha (a0L hT.sc ho2 hx2 hH hv ha2 n)
structure FA (P:Program) (S:TypeId) (i off:Nat):Prop where
 und:P.underlying S=some (.struct (fieldsOf P S))
 lt:i<(fieldsOf P S).size
 off:(fieldAt P S i).offset=off
 has:a2s P (fieldAt P S i).type=true
 ne:P.cellsOf (fieldAt P S i).type≠0
theorem a2H {S i' off:Nat} (hF:FA P S i' off) (ho:o.op= .fieldAddr S x i') (hx:a0f [x] [.pointer (some ⟨b,q,none⟩)] x= .pointer (some ⟨b,q,none⟩)) (ha:args.map (D P ρ)=[.pointer (some ⟨b,q,none⟩)]) (n:den P G t nx (ρ++[.pointer (some ⟨b,q+off,none⟩)]) H):den P G (.prim id i o args t) nx ρ H:=
 a0g ((a2R ho hx hF.und hF.lt rfl hF.off hF.has hF.ne).rds H) ha n
theorem b5L {α:Type} {ce:α->List Value} {sz:Nat} {l:List α} (hH:H b=some (.cells cs T' fz)) (hl:cs.toList=l.flatMap ce) (hs:cs.size=l.length*sz) (hm:l.length<=maxLen):SE H sz ce (.slice (some ⟨b,0,none⟩) l.length l.length) l:=by
 refine⟨by rw[<-hl,Array.length_toList,hs],_,_,rfl,Nat.le_refl _,hm,.inr ⟨b,0,cs,T',fz,rfl,hH,?_⟩⟩
 rw[<-hl,List.drop_zero]
 exact List.take_of_length_le (by simp[hs])
end
theorem a3z {pf:Bool} {id i:Nat} {o:Oper} {args:List SV} {t:Tree} {vs:List Value} {v:Value} (hd:Run P o vs v) (ha:args.map (D P ρ)=vs) (n:den P G t nx (ρ++[v]) H):den P G (.eff pf id i o args t) nx ρ H:=
 a0l (hd.opn H) ha fun u H' ⟨h1,h2⟩=>by subst h1;subst h2;exact⟨fun _=>PH.le.refl _,n⟩
theorem a1G {T:TypeId} {c:SV} {t:Tree} {cs:Array Value} (hz:(D P ρ c).cells=cs) (n:∀b,H b=none->den P G t nx (ρ++[.pointer (some ⟨b,0,none⟩)]) (H.put b (.cells cs T (0,0)))):den P G (.pub T c t) nx ρ H:=by
 subst hz;exact n
def a3M (P:Program) (f:FuncId) (args:List Value) (H:PH) (v:Value):Prop:=Con P f args H fun u H'=>PH.le H H'/\u=v
theorem Asks.give {f:FuncId} {args:List Value} {v:Value} (h:Asks P f args H v):a3M P f args H v:=h.mono fun u H' ⟨h1,h2⟩=>by subst h1;exact⟨PH.le.refl _,h2⟩
theorem a0n {pf:Bool} {f:FuncId} {args:List SV} {t:Tree} {vs:List Value} {v:Value} (hd:a3M P f vs H v) (ha:args.map (D P ρ)=vs) (n:∀H',PH.le H H'->den P G t nx (ρ++[v]) H'):den P G (.call pf f args t) nx ρ H:=
 a0d hd ha fun u H' ⟨h1,h2⟩=>by subst h2;exact⟨fun _=>h1,n H' h1⟩
end
end Go.RX
/- Words as sets, part 3: how many; the terms of the code. -/
namespace Go.GS
theorem b7Z:∀(n:Nat) (l r:List Nat),l.length<=n->r.length<=n->a1F (a4E l r)=a4E (a1F l) (a1F r):=by
 intro n
 induction n using Nat.strongRecOn with
 |_ n ih=>
  intro l r hl hr
  match l,r with
  |[],[]=>simp[a4E,a1F]
  |[],[b]=>simp[a4E,a1F]
  |[],b::c::r=>simp[a4E,a1F]
  |[a],[]=>simp[a4E,a1F]
  |a::c::l,[]=>simp[a4E,a1F]
  |[a],[b]=>simp[a4E,a1F]
  |[a],b::c::r=>cases hh:a1F r<;>simp[a4E,a1F,hh]
  |a::c::l,[b]=>cases hh:a1F l<;>simp[a4E,a1F,hh]
  |a::c::l,b::d::r=>
   simp only[List.length_cons]at hl hr
   simp only[a4E,a1F]
   rw[ih (n-2) (by omega) l r (by omega) (by omega)]
def c5w (x:Nat):Nat:=(x/2&&&6148914691236517205)+(x&&&6148914691236517205)
def d0t (x:Nat):Nat:=(x/4&&&3689348814741910323)+(x&&&3689348814741910323)
def d6K (x:Nat):Nat:=(x/16+x)&&&1085102592571150095
theorem d6L {x:Nat} (hx:x<M64):∃l,l.length=8/\(∀d∈l,d<=8)/\d6K (d0t (c5w x))=Fd 8 l/\l.sum=card x/\c5w x<M64/\d0t (c5w x)<M64/\d0t (c5w x)/16+d0t (c5w x)<M64:=by
 have b1:=d0s x 64
 have h1:=d4n (s:=1) (n:=32) (B:=1) (l:=a2i x 64) (by rw[b5K]) b1 (by decide) (by rw[c0E 64 x hx];exact hx)
 rw[c0E 64 x hx]at h1
 have l1:=b0V 32 (a2i x 64) (b5K x 64)
 have c1:∀d∈a3Z (a2i x 64),d<=2:=b4j (a5q b1) (a5q (b4k 1 b1))
 have e1:c5w x=Fd 2 (a3Z (a2i x 64)):=h1
 have m1:Fd 2 (a3Z (a2i x 64))<M64:=c0G (m:=0) (by rw[l1.2];decide) fun d hd=>Nat.lt_of_le_of_lt (c1 d hd) (by decide)
 generalize a3Z (a2i x 64)=q1 at*
 have h2:=d4n (s:=2) (n:=16) (B:=2) (l:=q1) l1.2 c1 (by decide) m1
 have l2:=b0V 16 q1 l1.2
 have c2:∀d∈a3Z q1,d<=4:=b4j (a5q c1) (a5q (b4k 1 c1))
 have e2:d0t (Fd 2 q1)=Fd 4 (a3Z q1):=h2
 have m2:Fd 4 (a3Z q1)<M64:=c0G (m:=0) (by rw[l2.2];decide) fun d hd=>Nat.lt_of_le_of_lt (c2 d hd) (by decide)
 generalize a3Z q1=q2 at*
 have h3:Fd 4 q2/16=Fd 4 (q2.drop 1):=a8h 1 q2 fun d hd=>Nat.lt_of_le_of_lt (c2 d hd) (by decide)
 have l3:=b0V 8 q2 l2.2
 have c3:∀d∈a4E q2 (q2.drop 1),d<=8:=b4j c2 (b4k 1 c2)
 have n3:(a4E q2 (q2.drop 1)).length=16:=by rw[c5t _ _ (by simp),l2.2]
 have e3:Fd 4 q2/16+Fd 4 q2=Fd 4 (a4E q2 (q2.drop 1)):=by rw[h3,b2C,Nat.add_comm]
 have m3:Fd 4 (a4E q2 (q2.drop 1))<M64:=c0G (m:=0) (by rw[n3];decide) fun d hd=>Nat.lt_of_le_of_lt (c3 d hd) (by decide)
 have h4:=c0B (s:=4) 8 (a4E q2 (q2.drop 1)) (fun d hd=>Nat.lt_of_le_of_lt (c3 d hd) (by decide)) (by rw[n3];decide)
 have e4:a1F (a4E q2 (q2.drop 1))=a3Z q2:=b7Z 16 _ _ (by rw[l2.2];decide) (by simp[l2.2])
 refine⟨a3Z q2,l3.2,by rw[<-e4];exact a5q c3,?_,?_,by rw[e1];exact m1,by rw[e1,e2];exact m2,by rw[e1,e2,e3];exact m3⟩
 ·rw[e1,e2]
  unfold d6K
  rw[e3,<-e4];exact h4
 ·rw[l3.1,l2.1,l1.1,c0F]
def a7c (k x:Nat):Nat:=x+x/2^k
theorem d6M {l:List Nat} (hl:l.length=8) (hd:∀d∈l,d<=8):a7c 8 (Fd 8 l)<M64/\a7c 16 (a7c 8 (Fd 8 l))<M64/\a7c 32 (a7c 16 (a7c 8 (Fd 8 l)))<M64/\a7c 32 (a7c 16 (a7c 8 (Fd 8 l)))%128=l.sum:=by
 match l,hl with
 |[a,b,c,d,e,f,g,h],_=>
  simp only[List.mem_cons,List.not_mem_nil,or_false,forall_eq_or_imp,forall_eq]at hd
  obtain⟨h1,h2,h3,h4,h5,h6,h7,h8⟩:=hd
  have q1:a7c 8 (Fd 8 [a,b,c,d,e,f,g,h])=Fd 8 [a+b,b+c,c+d,d+e,e+f,f+g,g+h,h]:=by
   unfold a7c
   rw[a8h 1 (s:=8) _ (by simp only[List.mem_cons,List.not_mem_nil,or_false,forall_eq_or_imp,forall_eq];omega),<-b2C];rfl
  have q2:a7c 16 (Fd 8 [a+b,b+c,c+d,d+e,e+f,f+g,g+h,h])=Fd 8 [a+b+(c+d),b+c+(d+e),c+d+(e+f),d+e+(f+g),e+f+(g+h),f+g+h,g+h,h]:=by
   unfold a7c
   rw[a8h 2 (s:=8) _ (by simp only[List.mem_cons,List.not_mem_nil,or_false,forall_eq_or_imp,forall_eq];omega),<-b2C];rfl
  have q3:a7c 32 (Fd 8 [a+b+(c+d),b+c+(d+e),c+d+(e+f),d+e+(f+g),e+f+(g+h),f+g+h,g+h,h])=Fd 8 [a+b+(c+d)+(e+f+(g+h)),b+c+(d+e)+(f+g+h),c+d+(e+f)+(g+h),d+e+(f+g)+h,e+f+(g+h),f+g+h,g+h,h]:=by
   unfold a7c
   rw[a8h 4 (s:=8) _ (by simp only[List.mem_cons,List.not_mem_nil,or_false,forall_eq_or_imp,forall_eq];omega),<-b2C];rfl
  rw[q1,q2,q3]
  simp only[Fd,M64,List.sum_cons,List.sum_nil,show(2:Nat)^8=256 from by decide]
  refine⟨by omega,by omega,by omega,by omega⟩
end Go.GS
namespace Go.RX
open Go.RowKit Go.GS
section
variable {P:Program} {ρ:List Value} {a b:SV} {A B:Nat}
theorem a9G (ha:D P ρ a=uv A) (hb:D P ρ b=uv B) (hA:A<M64) (hB:B<M64):D P ρ (.op2 .or .u64 a b)=uv (A|||B):=by
 show a2O .or .u64 (intOf (D P ρ a)) (intOf (D P ρ b))=_
 rw[ha,hb]
 show Value.int .u64 _= .int .u64 _
 congr 1
 exact Go.GS.u64_or hA hB
theorem a4X (ha:D P ρ a=uv A) (hb:D P ρ b=uv B) (hA:A<M64) (hB:B<M64):D P ρ (.op2 .and .u64 a b)=uv (A&&&B):=by
 show a2O .and .u64 (intOf (D P ρ a)) (intOf (D P ρ b))=_
 rw[ha,hb]
 show Value.int .u64 _= .int .u64 _
 congr 1
 exact Go.GS.u64_and hA hB
theorem a9H (ha:D P ρ a=uv A) (hb:D P ρ b=uv B) (hA:A<M64) (hB:B<M64):D P ρ (.op2 .andNot .u64 a b)=uv (sdf A B):=by
 show a2O .andNot .u64 (intOf (D P ρ a)) (intOf (D P ρ b))=_
 rw[ha,hb]
 show Value.int .u64 _= .int .u64 _
 congr 1
 exact Go.GS.u64_andn hA hB
theorem a8j {n:Nat} {k:IntKind} (ha:D P ρ a=uv A) (hb:D P ρ b= .int k (n:Nat)) (hn:n<=64):D P ρ (.op2 .shr .u64 a b)=uv (A/2^n):=by
 show a2O .shr .u64 (intOf (D P ρ a)) (intOf (D P ρ b))=_
 rw[ha,hb]
 show Value.int .u64 _= .int .u64 _
 congr 1
 have:=Go.GS.u64_shr (a:=A) (k:=n)
 rw[Nat.min_eq_left hn]at this
 exact this
theorem d4o {n:Nat} {k:IntKind} (ha:D P ρ a=uv A) (hb:D P ρ b= .int k (n:Nat)) (hn:n<64):D P ρ (.op2 .shl .u64 a b)=uv (A*2^n%M64):=by
 show a2O .shl .u64 (intOf (D P ρ a)) (intOf (D P ρ b))=_
 rw[ha,hb]
 show Value.int .u64 _= .int .u64 _
 congr 1
 exact Go.GS.u64_shl hn
theorem a6e {n:Nat} {k:IntKind} (hb:D P ρ b= .int k (n:Nat)) (hn:n<64):D P ρ (.op2 .shl .u64 (.k (.int .u64 1)) b)=uv (2^n):=by
 rw[d4o (A:=1) rfl hb hn,d0o hn]
theorem a9I (ha:D P ρ a=uv A) (hb:D P ρ b=uv B) (h:A+B<M64):D P ρ (.op2 .add .u64 a b)=uv (A+B):=by
 show a2O .add .u64 (intOf (D P ρ a)) (intOf (D P ρ b))=_
 rw[ha,hb]
 show Value.int .u64 (IntKind.u64.wrap ((A:Int)+(B:Int)))= .int .u64 _
 congr 1
 rw[IntKind.wrap_u64]
 simp only[M64]at h
 omega
theorem b5M (ha:D P ρ a=uv A) (hb:D P ρ b=uv B) (hA:A<M64) (h:B<=A):D P ρ (.op2 .sub .u64 a b)=uv (A-B):=by
 show a2O .sub .u64 (intOf (D P ρ a)) (intOf (D P ρ b))=_
 rw[ha,hb]
 show Value.int .u64 _= .int .u64 _
 congr 1
 exact Go.GS.u64_sub hA h
theorem c0I (ha:D P ρ a=uv A) (hA:A<M64):D P ρ (.op1 .neg .u64 a)=uv ((M64-A)%M64):=by
 show unV .neg .u64 (intOf (D P ρ a))=_
 rw[ha]
 show Value.int .u64 _= .int .u64 _
 congr 1
 exact Go.GS.u64_neg hA
theorem b8a {n:Nat} {k:IntKind} (ha:D P ρ a=uv A) (hA:A<M64) (hb:D P ρ b= .int k (n:Nat)) (hn:n<=64):D P ρ (.op2 .eql .u64 (.op2 .and .u64 (.op2 .shr .u64 a b) (.k (.int .u64 1))) (.k (.int .u64 1)))= .bool (Go.GS.bit A n):=by
 show a2O .eql .u64 (intOf (D P ρ (.op2 .and .u64 (.op2 .shr .u64 a b) (.k (.int .u64 1))))) 1=_
 rw[a4X (B:=1) (a8j ha hb hn) rfl (b4i hA) (by decide),d0q]
 cases Go.GS.bit A n<;>rfl
theorem c0J {x y:Int} (ha:D P ρ a=ii x) (hb:D P ρ b=ii y) (h1: -9223372036854775808<=x+y) (h2:x+y<9223372036854775808):D P ρ (.op2 .add .i64 a b)=ii (x+y):=by
 show a2O .add .i64 (intOf (D P ρ a)) (intOf (D P ρ b))=_
 rw[ha,hb]
 show Value.int .i64 (IntKind.i64.wrap (x+y))= .int .i64 _
 congr 1
 rw[IntKind.wrap_i64];omega
theorem b5N {x y:Int} (ha:D P ρ a=ii x) (hb:D P ρ b=ii y) (h1: -9223372036854775808<=x-y) (h2:x-y<9223372036854775808):D P ρ (.op2 .sub .i64 a b)=ii (x-y):=by
 show a2O .sub .i64 (intOf (D P ρ a)) (intOf (D P ρ b))=_
 rw[ha,hb]
 show Value.int .i64 (IntKind.i64.wrap (x-y))= .int .i64 _
 congr 1
 rw[IntKind.wrap_i64];omega
theorem d4p {m:Nat} (hm:m<M64):IntKind.i64.wrap ((BitVec.ofInt 64 (IntKind.i64.wrap (m:Int))&&&BitVec.ofInt 64 127).toNat:Nat)=((m%128:Nat):Int):=by
 have e:BitVec.ofInt 64 (IntKind.i64.wrap (m:Int))=BitVec.ofNat 64 m:=by
  apply BitVec.eq_of_toNat_eq
  simp only[M64]at hm
  rw[IntKind.wrap_i64,BitVec.toNat_ofInt,BitVec.toNat_ofNat,Nat.mod_eq_of_lt (show m<2^64 by omega)]
  omega
 have e2:BitVec.ofInt 64 127=BitVec.ofNat 64 127:=by decide
 rw[e,e2]
 have e3:(BitVec.ofNat 64 m&&&BitVec.ofNat 64 127).toNat=m%128:=by
  rw[BitVec.toNat_and,BitVec.toNat_ofNat,BitVec.toNat_ofNat,Nat.mod_eq_of_lt (show m<2^64 by simp only[M64]at hm;omega)]
  exact Nat.and_two_pow_sub_one_eq_mod m 7
 have e4:∀n:Nat,n<128->IntKind.i64.wrap (n:Int)=n:=fun n h=>by rw[IntKind.wrap_i64];omega
 rw[e3,e4 _ (Nat.mod_lt _ (by decide))]
theorem d6N {m:Nat} {P:Program} {ρ:List Value} {y:SV} (hy:D P ρ y=uv m) (hm:m<M64):D P ρ (.op2 .and .i64 (.cv .i64 y) (.k (.int .i64 127)))=ii ((m%128:Nat):Int):=by
 show a2O .and .i64 (IntKind.i64.wrap (intOf (D P ρ y))) 127=_
 rw[hy]
 have:=d4p hm
 show Value.int .i64 _=Value.int .i64 _
 exact congrArg (Value.int .i64) this
theorem a0w {n:Nat} (ha:D P ρ a=ii (n:Nat)) (h:n+1<9223372036854775808):D P ρ (.op2 .add .i64 a (.k (.int .i64 1)))=ii ((n+1:Nat):Int):=by
 rw[c0J ha (y:=1) rfl (by omega) (by omega)];rfl
end
theorem a3K {P:Program} {ρ:List Value} {a:SV} {x:Value} (h:D P ρ a=x):[a].map (D P ρ)=[x]:=by rw[List.map_cons,h];rfl
theorem a1s {P:Program} {ρ:List Value} {a b:SV} {x y:Value} (h:D P ρ a=x) (h2:D P ρ b=y):[a,b].map (D P ρ)=[x,y]:=by rw[List.map_cons,h,a3K h2]
theorem a8T {P:Program} {ρ:List Value} {a b c:SV} {x y z:Value} (h:D P ρ a=x) (h2:D P ρ b=y) (h3:D P ρ c=z):[a,b,c].map (D P ρ)=[x,y,z]:=by rw[List.map_cons,h,a1s h2 h3]
theorem d3a {P:Program} {ρ:List Value} {a b c d:SV} {x y z u:Value} (h:D P ρ a=x) (h2:D P ρ b=y) (h3:D P ρ c=z) (h4:D P ρ d=u):[a,b,c,d].map (D P ρ)=[x,y,z,u]:=by rw[List.map_cons,h,a8T h2 h3 h4]
end Go.RX
/- Chapter 32: contracts of the library, part 2. -/
namespace Go.Proofs.YtmannekkmdockaaGreatDoor
open Go.Proofs.Tryz
open Go.RowKit Go.RX Go.GS
def SV1 (x:SV):SV:= .op2 .add .u64 (.op2 .and .u64 (.op2 .shr .u64 x (.k (.int .u64 (1)))) (.k (.int .u64 (6148914691236517205)))) (.op2 .and .u64 x (.k (.int .u64 (6148914691236517205))))
def SV2 (x:SV):SV:= .op2 .add .u64 (.op2 .and .u64 (.op2 .shr .u64 x (.k (.int .u64 (2)))) (.k (.int .u64 (3689348814741910323)))) (.op2 .and .u64 x (.k (.int .u64 (3689348814741910323))))
def SV3 (x:SV):SV:= .op2 .and .u64 (.op2 .add .u64 (.op2 .shr .u64 x (.k (.int .u64 (4)))) x) (.k (.int .u64 (1085102592571150095)))
def SV4 (k:Int) (x:SV):SV:= .op2 .add .u64 x (.op2 .shr .u64 x (.k (.int .u64 (k))))
theorem c5x {s:Nat} (hs:s<M64):Det prog 138 [uv s] (ii (card s)):=by
 obtain⟨l,h1,h2,h3,h4,h5,h6,h7⟩:=d6L hs
 obtain⟨g1,g2,g3,g4⟩:=d6M h1 h2
 refine a0C mixed c9R (by kernel_rfl) rfl (a0m ⟨_,rfl⟩ (a1d ?_ rfl))
 have e1:D prog [uv s] (SV1 (.v 0))=uv (c5w s):=a9I (a4X (a8j (n:=1) rfl rfl (by decide)) (B:=6148914691236517205) rfl (b4i (x:=1) hs) (by decide)) (a4X (B:=6148914691236517205) rfl rfl hs (by decide)) h5
 generalize hx1:SV1 (.v 0)=x1 at e1
 have e2:D prog [uv s] (SV2 x1)=uv (d0t (c5w s)):=a9I (a4X (a8j (n:=2) e1 rfl (by decide)) (B:=3689348814741910323) rfl (b4i (x:=2) h5) (by decide)) (a4X (B:=3689348814741910323) e1 rfl h5 (by decide)) h6
 generalize hx2:SV2 x1=x2 at e2
 have e3:D prog [uv s] (SV3 x2)=uv (d6K (d0t (c5w s))):=a4X (a9I (a8j (n:=4) e2 rfl (by decide)) e2 h7) (B:=1085102592571150095) rfl h7 (by decide)
 generalize hx3:SV3 x2=x3 at e3
 rw[h3]at e3
 have hF:Go.GS.Fd 8 l<M64:=Nat.lt_of_le_of_lt (Nat.le_add_right _ _) g1
 have e4:D prog [uv s] (SV4 8 x3)=uv (a7c 8 (Go.GS.Fd 8 l)):=a9I e3 (a8j (n:=8) e3 rfl (by decide)) g1
 generalize hx4:SV4 8 x3=x4 at e4
 have e5:D prog [uv s] (SV4 16 x4)=uv (a7c 16 (a7c 8 (Go.GS.Fd 8 l))):=a9I e4 (a8j (n:=16) e4 rfl (by decide)) g2
 generalize hx5:SV4 16 x4=x5 at e5
 have e6:D prog [uv s] (SV4 32 x5)=uv (a7c 32 (a7c 16 (a7c 8 (Go.GS.Fd 8 l)))):=a9I e5 (a8j (n:=32) e5 rfl (by decide)) g3
 generalize hx6:SV4 32 x5=x6 at e6
 generalize a7c 32 (a7c 16 (a7c 8 (Go.GS.Fd 8 l)))=m at e6 g3 g4
 have e7:=d6N e6 g3
 rw[g4,h4]at e7
 rw[<-hx6,<-hx5,<-hx4,<-hx3,<-hx2,<-hx1]at e7
 exact e7
theorem b5O (x:Int):Det prog 158 [ii x] (.bool false):=by
 refine a0C mixed c9U (by kernel_rfl) rfl (a0m ⟨_,rfl⟩ (a1d ?_ rfl))
 show Value.bool (x !=x)=_
 simp
def b1K (x y:Int):Int:=if x<y then -1 else if x>y then 1 else 0
theorem b5P (x y:Int):Det prog 93 [ii x,ii y] (ii (b1K x y)):=by
 refine a0C mixed c9T (by kernel_rfl) rfl (a2f (b5O x) rfl (a2f (b5O y) rfl ?_))
 refine a0m ⟨_,rfl⟩ (b5c rfl (a0m ⟨_,rfl⟩ (b5c rfl (a0m ⟨_,rfl⟩ (a0m ⟨_,rfl⟩ ?_)))))
 refine a1V (b:=decide (x<y)) rfl (fun h=> ?_) (fun h=> ?_)
 ·have h:=of_decide_eq_true h
  refine a1d ?_ rfl
  unfold b1K;rw[if_pos h];rfl
 ·have h:=of_decide_eq_false h
  refine a1V (b:=decide (x>y)) rfl (fun h'=>a1d ?_ rfl) (fun h'=>a1d ?_ rfl)
  ·have h':=of_decide_eq_true h'
   unfold b1K;rw[if_neg h,if_pos h'];rfl
  ·have h':=of_decide_eq_false h'
   unfold b1K;rw[if_neg h,if_neg h'];rfl
abbrev SI (H:PH) (v:Value) (l:List Int):Prop:=SE H 1 (fun z:Int=>[ii z]) v l
abbrev SU (H:PH) (v:Value) (l:List Nat):Prop:=SE H 1 (fun s:Nat=>[uv s]) v l
def a2W:List Int->List Int->Int
 |[],[]=>0
 |[],_::_=> -1
 |_::_,[]=>1
 |x::l,y::m=>if b1K x y≠0 then b1K x y else a2W l m
theorem a0B {α:Type} {l:List α} {i:Nat} (h:i<l.length):∃x,l[i]? =some x/\l.drop i=x::l.drop (i+1):=
 ⟨l[i],List.getElem?_eq_getElem h,List.drop_eq_getElem_cons h⟩
section
variable {H:PH} {u v:Value} {l m:List Int}
theorem c5y (hu:SI H u l) (hv:SI H v m):Asks prog 174 [u,v] H (ii (a2W l m)):=by
 refine a0b mixed c9S (by kernel_rfl) rfl ?_
 have hl:=hu.len
 have hm:=hv.len
 refine a0h el_int rfl rfl hu rfl ?_
 refine a0K (α:=Nat×Int) (fun⟨i,p⟩=>[ii p,ii (i:Nat)]) (fun⟨i,p⟩=>i<=l.length/\a2W (l.drop i) (m.drop i)=a2W l m) (fun⟨i,p⟩=>l.length-i) ((0,0)) rfl (⟨Nat.zero_le _,rfl⟩) fun⟨i,p⟩ hQ=> ?_
 simp only[cA,nA]
 obtain⟨hi,hc⟩:=hQ
 refine a0a ⟨_,rfl⟩ ?_
 refine a0a ⟨_,rfl⟩ ?_
 refine a0e (b:=decide (((i:Nat):Int)<(l.length:Nat))) rfl (fun h=> ?_) (fun h=> ?_)
 ·replace h:=of_decide_eq_true h
  have hi':i<l.length:=by omega
  obtain⟨x,hx,hdx⟩:=a0B hi'
  refine a0i el_int rfl rfl rfl rfl (fun _=>rfl) hu hx rfl (fun _=>rfl) fun _=> ?_
  simp only[cA,nA]
  refine a0h el_int rfl rfl hv rfl ?_
  refine a0a ⟨_,rfl⟩ ?_
  refine a0e (b:=decide (((i:Nat):Int)≥(m.length:Nat))) rfl (fun h2=> ?_) (fun h2=> ?_)
  ·replace h2:=of_decide_eq_true h2
   have:m.drop i=[]:=List.drop_eq_nil_of_le (by omega)
   rw[hdx,this]at hc
   exact a0c rfl ⟨rfl,by rw[<-hc];rfl⟩
  ·replace h2:=of_decide_eq_false h2
   obtain⟨y,hy,hdy⟩:=a0B (l:=m) (i:=i) (by omega)
   refine a0i el_int rfl rfl rfl rfl (fun _=>rfl) hv hy rfl (fun _=>rfl) fun _=> ?_
   simp only[cA,nA]
   rw[hdx,hdy]at hc
   refine a0u (b5P x y) rfl ?_
   simp only[cA,nA]
   refine a0a ⟨_,rfl⟩ ?_
   refine a0e (b:=decide (b1K x y≠0)) (by show Value.bool (b1K x y !=0)=_;congr 1;by_cases e:b1K x y=0<;>simp[e]) (fun h3=> ?_) (fun h3=> ?_)
   ·replace h3:=of_decide_eq_true h3
    exact a0c rfl ⟨rfl,by rw[<-hc];simp only[a2W];rw[if_pos h3];rfl⟩
   ·replace h3:=of_decide_eq_false h3
    exact⟨(i+1,p),by show l.length-(i+1)<l.length-i;omega,(a1s rfl (a0w rfl (by omega))),⟨⟨by show i+1<=_;omega,by rw[<-hc];simp only[a2W];rw[if_neg h3]⟩,rfl⟩⟩
 ·replace h:=of_decide_eq_false h
  have hle:i=l.length:=by omega
  subst hle
  rw[List.drop_length]at hc
  refine a0h el_int rfl rfl hu rfl ?_
  refine a0h el_int rfl rfl hv rfl ?_
  refine a0a ⟨_,rfl⟩ ?_
  refine a0a ⟨_,rfl⟩ ?_
  refine a0e (b:=decide (((l.length:Nat):Int)<(m.length:Nat))) rfl (fun h2=> ?_) (fun h2=> ?_)
  ·replace h2:=of_decide_eq_true h2
   obtain⟨y,hy,hdy⟩:=a0B (l:=m) (i:=l.length) (by omega)
   rw[hdy]at hc
   exact a0c rfl ⟨rfl,by rw[<-hc];rfl⟩
  ·replace h2:=of_decide_eq_false h2
   have:m.drop l.length=[]:=List.drop_eq_nil_of_le (by omega)
   rw[this]at hc
   exact a0c rfl ⟨rfl,by rw[<-hc];rfl⟩
end
end Go.Proofs.YtmannekkmdockaaGreatDoor
/- Graphs. -/
namespace Go.GS
def elt (a b:Nat×Nat):Prop:=a.1<b.1\/(a.1=b.1/\a.2<b.2)
structure GV (n:Nat) (es:List (Nat×Nat)):Prop where
 n1:1<=n
 n64:n<=64
 len:es.length<=200
 ed:∀e∈es,e.1<e.2/\e.2<n
 ord:es.Pairwise elt
theorem GV.next {n:Nat} {es:List (Nat×Nat)} (h:GV n es) {i:Nat} {a b:Nat×Nat} (ha:es[i]? =some a) (hb:es[i+1]? =some b):elt a b:=by
 obtain⟨h1,rfl⟩:=List.getElem?_eq_some_iff.1 ha
 obtain⟨h2,rfl⟩:=List.getElem?_eq_some_iff.1 hb
 exact List.pairwise_iff_getElem.1 h.ord i (i+1) h1 h2 (by omega)
theorem GV.mem {n:Nat} {es:List (Nat×Nat)} (h:GV n es) {i:Nat} {a:Nat×Nat} (ha:es[i]? =some a):a.1<a.2/\a.2<n:=h.ed a (List.mem_of_getElem? ha)
end Go.GS

/- Determinants: expansion by rows and columns, steps without fractions. -/
import Derived.Test.YtmannekkmdockaaGreatDoorGsB
namespace Go.GS
section
variable {C:Type}
def dx (c:C) (d:List (C->Int)->Int):List (C->Int)->List (C->Int)->Int
 |_,[]=>0
 |pre,x::l=>x c*d (pre++l)-dx c d (pre++[x]) l
def dt:List C->List (C->Int)->Int
 |[],[]=>1
 |[],_::_=>0
 |c::cs,l=>dx c (dt cs) [] l
theorem d4J {l:List (C->Int)} (h:l≠[]):dt [] l=0:=by
 match l,h with
 |_::_,_=>rfl
theorem b1q (l1 l2:List (C->Int)) (x:C->Int):dt [] (l1++x::l2)=0:=d4J (by simp)
theorem d4K {c:C} {d:List (C->Int)->Int} {x r s:C->Int} {t:Int} (h:x c=r c+t*s c) (hd:∀l1 l2,d (l1++x::l2)=d (l1++r::l2)+t*d (l1++s::l2)):∀(l1 l2 pre:List (C->Int)),dx c d pre (l1++x::l2)=dx c d pre (l1++r::l2)+t*dx c d pre (l1++s::l2):=by
 have hb:∀(l p1 p2:List (C->Int)),dx c d (p1++x::p2) l=dx c d (p1++r::p2) l+t*dx c d (p1++s::p2) l:=fun l=>by
  induction l with
  |nil=>intro p1 p2;simp[dx]
  |cons y l ih=>
   intro p1 p2
   simp only[dx]
   have h1:=hd p1 (p2++l)
   have h2:=ih p1 (p2++[y])
   simp only[List.append_assoc,List.cons_append]at h1 h2⊢
   rw[h1,h2]
   grind
 intro l1
 induction l1 with
 |nil=>
  intro l2 pre
  have h2:=hb l2 pre []
  simp only[List.nil_append,dx]
  have h3:=h2
  rw[h2,h]
  have h4:=hd pre l2
  grind
 |cons y l1 ih=>
  intro l2 pre
  simp only[List.cons_append,dx]
  have h1:=hd (pre++l1) l2
  simp only[List.append_assoc]at h1
  rw[ih l2 (pre++[y]),h1]
  grind
theorem a4f {x r s:C->Int} {t:Int}:∀{cs:List C} (_:∀c∈cs,x c=r c+t*s c) (l1 l2:List (C->Int)),dt cs (l1++x::l2)=dt cs (l1++r::l2)+t*dt cs (l1++s::l2)
 |[],_,l1,l2=>by rw[b1q,b1q,b1q];simp
 |c::cs,h,l1,l2=>d4K (h c (by simp)) (fun a b=>a4f (fun e he=>h e (by simp[he])) a b) l1 l2 []
theorem c1U {x r:C->Int} {cs:List C} (h:∀c∈cs,x c=r c) (l1 l2:List (C->Int)):dt cs (l1++x::l2)=dt cs (l1++r::l2):=by
 have:=a4f (x:=x) (r:=r) (s:=r) (t:=0) (fun c hc=>by rw[h c hc];simp) l1 l2
 simpa using this
theorem d4L {c:C} {d:List (C->Int)->Int} {x y:C->Int} (h:x c=y c) (hd:∀l1 l2,d (l1++x::y::l2)=0) (he:∀l1 l2,d (l1++x::l2)=d (l1++y::l2)):∀(l1 l2 pre:List (C->Int)),dx c d pre (l1++x::y::l2)=0:=by
 have hb:∀(l p1 p2:List (C->Int)),dx c d (p1++x::y::p2) l=0:=fun l=>by
  induction l with
  |nil=>intro p1 p2;simp[dx]
  |cons z l ih=>
   intro p1 p2
   simp only[dx]
   have h1:=hd p1 (p2++l)
   have h2:=ih p1 (p2++[z])
   simp only[List.append_assoc,List.cons_append]at h1 h2⊢
   rw[h1,h2];simp
 intro l1
 induction l1 with
 |nil=>
  intro l2 pre
  have h2:=hb l2 pre []
  simp only[List.nil_append,dx,List.append_assoc,List.cons_append]at h2⊢
  rw[h2,h,he pre l2]
  grind
 |cons z l1 ih=>
  intro l2 pre
  simp only[List.cons_append,dx]
  have h1:=hd (pre++l1) l2
  simp only[List.append_assoc]at h1
  rw[ih l2 (pre++[z]),h1];simp
theorem b2U {x y:C->Int}:∀{cs:List C} (_:∀c∈cs,x c=y c) (l1 l2:List (C->Int)),dt cs (l1++x::y::l2)=0
 |[],_,l1,l2=>b1q _ _ _
 |c::cs,h,l1,l2=>d4L (h c (by simp)) (fun a b=>b2U (fun e he=>h e (by simp[he])) a b) (fun a b=>c1U (fun e he=>h e (by simp[he])) a b) l1 l2 []
theorem b4t (cs:List C) (x y:C->Int) (l1 l2:List (C->Int)):dt cs (l1++x::y::l2)= -dt cs (l1++y::x::l2):=by
 have hz:∀c∈cs,(fun c=>x c+y c) c=x c+1*y c:=fun c _=>by simp
 have h0:=b2U (x:=fun c=>x c+y c) (y:=fun c=>x c+y c) (cs:=cs) (fun _ _=>rfl) l1 l2
 rw[a4f hz]at h0
 have h1:=a4f hz (l1++[x]) l2
 have h2:=a4f hz (l1++[y]) l2
 simp only[List.append_assoc,List.cons_append,List.nil_append]at h1 h2
 rw[h1,h2,b2U (x:=x) (y:=x) (fun _ _=>rfl),b2U (x:=y) (y:=y) (fun _ _=>rfl)]at h0
 omega
theorem b6m {x y:C->Int} {cs:List C} (h:∀c∈cs,x c=y c) (l3:List (C->Int)):∀(l2 l1:List (C->Int)),dt cs (l1++x::(l2++y::l3))=0
 |[],l1=>b2U h l1 l3
 |w::l2,l1=>by
  rw[List.cons_append,b4t]
  have:=b6m h l3 l2 (l1++[w])
  simp only[List.append_assoc,List.cons_append,List.nil_append]at this
  rw[this];simp
theorem c1V {x y z:C->Int} {t:Int} {cs:List C} (h:∀c∈cs,z c=x c+t*y c) (l1 l2 l3:List (C->Int)):dt cs (l1++z::(l2++y::l3))=dt cs (l1++x::(l2++y::l3)):=by
 rw[a4f h,b6m (fun _ _=>rfl)];simp
theorem c1W {x y z:C->Int} {t:Int} {cs:List C} (h:∀c∈cs,z c=x c+t*y c) (l1 l2 l3:List (C->Int)):dt cs (l1++y::(l2++z::l3))=dt cs (l1++y::(l2++x::l3)):=by
 have h1:=a4f h (l1++y::l2) l3
 simp only[List.append_assoc,List.cons_append]at h1
 rw[h1,b6m (fun _ _=>rfl)];simp
def ex (r:C->Int) (l:List (C->Int)):List C->List C->Int
 |_,[]=>0
 |pre,c::cs=>r c*dt (pre++cs) l-ex r l (pre++[c]) cs
theorem c1X {c:C} {d e g:List (C->Int)->Int} {t:Int} (h:∀l,g l=t*d l-e l):∀(l pre:List (C->Int)),dx c g pre l=t*dx c d pre l-dx c e pre l
 |[],_=>by simp[dx]
 |x::l,pre=>by
  simp only[dx]
  rw[c1X h l (pre++[x]),h]
  grind
theorem c1Y {c:C}:∀(l pre:List (C->Int)),dx c (fun _=>0) pre l=0
 |[],_=>rfl
 |x::l,pre=>by simp only[dx];rw[c1Y l];simp
theorem b6n {c:C} {d:List (C->Int)->Int} (r:C->Int):∀(l pre:List (C->Int)),dx c d (r::pre) l=dx c (fun m=>d (r::m)) pre l
 |[],_=>rfl
 |x::l,pre=>by
  simp only[dx]
  rw[<-b6n r l (pre++[x])]
  rfl
theorem d4M {c:C} {r:C->Int} (l:List (C->Int)):∀(cs pre:List C),dx c (fun m=>ex r m pre cs) [] l=ex r l (c::pre) cs
 |[],pre=>by simp only[ex];exact c1Y l []
 |e::cs,pre=>by
  rw[c1X (g:=fun m=>ex r m pre (e::cs)) (d:=dt (pre++cs)) (e:=fun m=>ex r m (pre++[e]) cs) (t:=r e) (fun m=>rfl),d4M l cs (pre++[e])]
  rfl
theorem b6o (r:C->Int):∀(cs:List C) (l:List (C->Int)),dt cs (r::l)=ex r l [] cs
 |[],_=>rfl
 |c::cs,l=>by
  show dx c (dt cs) [] (r::l)=_
  simp only[dx,ex,List.nil_append]
  have h:=b6n (c:=c) (d:=dt cs) r l []
  rw[h,show(fun m=>dt cs (r::m))=fun m=>ex r m [] cs from funext fun m=>b6o r cs m,d4M]
end
theorem d4N {R C:Type} (f:R->C->Int) (r:R) (l:List R) (ih:∀cs:List C,dt cs (l.map f)=dt l (cs.map fun c s=>f s c)):∀(cs pre:List C),ex (f r) (l.map f) pre cs=dx r (dt l) (pre.map fun c s=>f s c) (cs.map fun c s=>f s c)
 |[],_=>rfl
 |c::cs,pre=>by
  simp only[ex,List.map_cons,dx]
  rw[ih,d4N f r l ih cs (pre++[c]),List.map_append,List.map_append]
  rfl
theorem d4O {R C:Type} (f:R->C->Int):∀(l:List R) (cs:List C),dt cs (l.map f)=dt l (cs.map fun c s=>f s c)
 |[],[]=>rfl
 |[],c::cs=>rfl
 |r::l,cs=>by
  rw[List.map_cons,b6o]
  exact d4N f r l (fun cs=>d4O f l cs) cs []
theorem b2V {C:Type} (l:List (C->Int)) (cs:List C):dt cs l=dt l (cs.map fun c s=>s c):=by
 have:=d4O (fun(x:C->Int) c=>x c) l cs
 simpa using this
section
variable {C:Type}
theorem d1p {l:List (C->Int)} {a b:C} (h:∀r∈l,r a=r b) (c1 c2 c3:List C):dt (c1++a::(c2++b::c3)) l=0:=by
 rw[b2V]
 simp only[List.map_append,List.map_cons]
 exact b6m (fun r hr=>h r hr) _ _ _
theorem d1q {l:List (C->Int)} {a b z:C} (h:∀r∈l,r z=r a+r b) (c1 c2 c3:List C):dt (c1++z::(c2++b::c3)) l=dt (c1++a::(c2++b::c3)) l:=by
 rw[b2V,b2V l]
 simp only[List.map_append,List.map_cons]
 exact c1V (t:=1) (fun r hr=>by simp[h r hr]) _ _ _
theorem c6f {l:List (C->Int)} {a b z:C} (h:∀r∈l,r z=r a+r b) (c1 c2 c3:List C):dt (c1++b::(c2++z::c3)) l=dt (c1++b::(c2++a::c3)) l:=by
 rw[b2V,b2V l]
 simp only[List.map_append,List.map_cons]
 exact c1W (t:=1) (fun r hr=>by simp[h r hr]) _ _ _
def sg:Nat->Int
 |0=>1
 |n+1=> -sg n
theorem d4P:∀n,sg n*sg n=1
 |0=>rfl
 |n+1=>by simp only[sg];have:=d4P n;grind
theorem b6p (cs:List C) (x:C->Int) (r2:List (C->Int)):∀(r1 p:List (C->Int)),dt cs (p++(r1++x::r2))=sg r1.length*dt cs (p++x::(r1++r2))
 |[],p=>by simp[sg]
 |y::r1,p=>by
  have h:=b6p cs x r2 r1 (p++[y])
  simp only[List.append_assoc,List.cons_append,List.nil_append]at h⊢
  rw[h,b4t]
  simp only[List.length_cons,sg]
  grind
theorem b4u {r:C->Int} {l:List (C->Int)}:∀{cs:List C} (_:∀c∈cs,r c=0) (pre:List C),ex r l pre cs=0
 |[],_,_=>rfl
 |c::cs,h,pre=>by
  simp only[ex]
  rw[h c (by simp),b4u (fun e he=>h e (by simp[he]))];simp
theorem c7Z {r:C->Int} {l:List (C->Int)} {w:C} {c2:List C} (h2:∀c∈c2,r c=0):∀{c1:List C} (_:∀c∈c1,r c=0) (pre:List C),ex r l pre (c1++w::c2)=sg c1.length*(r w*dt (pre++(c1++c2)) l)
 |[],_,pre=>by
  simp only[List.nil_append,ex,sg,List.length_nil]
  rw[b4u h2];simp
 |c::c1,h,pre=>by
  simp only[List.cons_append,ex,List.length_cons,sg]
  rw[h c (by simp),c7Z h2 (fun e he=>h e (by simp[he])) (pre++[c])]
  simp only[List.append_assoc,List.cons_append,List.nil_append]
  grind
theorem d1r {r:C->Int} {w:C} {c1 c2:List C} {r1 r2:List (C->Int)} (h1:∀c∈c1,r c=0) (h2:∀c∈c2,r c=0) (hl:r1.length=c1.length):dt (c1++w::c2) (r1++r::r2)=r w*dt (c1++c2) (r1++r2):=by
 have h:=b6p (c1++w::c2) r r2 r1 []
 simp only[List.nil_append]at h
 rw[h,b6o,c7Z h2 h1,hl]
 have:=d4P c1.length
 simp only[List.nil_append]
 grind
def b1L:List Int->List (C->Int)->C->Int
 |w::ws,x::l,c=>w*x c+b1L ws l c
 |_,_,_=>0
theorem c1Z (d:List (C->Int)->Int):∀(l pre:List (C->Int)),∃ws:List Int,ws.length=l.length/\∀c,dx c d pre l=b1L ws l c
 |[],_=>⟨[],rfl,fun _=>rfl⟩
 |x::l,pre=>by
  obtain⟨ws,hl,hw⟩:=c1Z d l (pre++[x])
  refine⟨d (pre++l)::ws.map (fun w=> -w),by simp[hl],fun c=> ?_⟩
  simp only[dx,b1L]
  rw[hw]
  have hn:∀(us:List Int) (m:List (C->Int)),b1L (us.map fun w=> -w) m c= -b1L us m c:=fun us=>by
   induction us with
   |nil=>intro m;simp[b1L]
   |cons u us ih=>
    intro m
    cases m with
    |nil=>simp[b1L]
    |cons y m=>simp only[List.map_cons,b1L];rw[ih];grind
  rw[hn]
  grind
theorem c2a {cs:List C} {t:Int}:∀(m p l1:List (C->Int)) (ws:List Int) (r z:C->Int) (_:ws.length=m.length) (_:∀c∈cs,z c=t*r c+b1L ws m c),dt cs (l1++z::(p++m))=t*dt cs (l1++r::(p++m))
 |[],p,l1,ws,r,z,hl,h=>by
  have h0:=a4f (x:=z) (r:=fun _=>0) (s:=r) (t:=t) (cs:=cs) (fun c hc=>by rw[h c hc];cases ws<;>simp[b1L]) l1 (p++[])
  have h1:=a4f (x:=fun _:C=>0) (r:=fun _=>0) (s:=fun _=>0) (t:=1) (cs:=cs) (fun c hc=>by simp) l1 (p++[])
  rw[h0];omega
 |a::m,p,l1,w::ws,r,z,hl,h=>by
  have h1:=c2a (cs:=cs) (t:=t) m (p++[a]) l1 ws r (fun c=>t*r c+b1L ws m c) (by simpa using hl) (fun _ _=>rfl)
  simp only[List.append_assoc,List.cons_append,List.nil_append]at h1
  rw[<-h1]
  refine c1V (t:=w) (fun c hc=> ?_) l1 p m
  rw[h c hc];simp only[b1L];grind
theorem d1s (B:List C) (A:List (C->Int)) (r s:C->Int) (c d:C):dt B A*dt (d::c::B) (s::r::A)=dt (c::B) (r::A)*dt (d::B) (s::A)-dt (d::B) (r::A)*dt (c::B) (s::A):=by
 obtain⟨ws,hl,hw⟩:=c1Z (dt B) A [r]
 have hg:∀e,dt (e::B) (r::A)=dt B A*r e+b1L (ws.map fun w=> -w) A e:=fun e=>by
  show dx e (dt B) [] (r::A)=_
  simp only[dx,List.nil_append]
  rw[hw]
  have hn:∀(us:List Int) (m:List (C->Int)),b1L (us.map fun w=> -w) m e= -b1L us m e:=fun us=>by
   induction us with
   |nil=>intro m;simp[b1L]
   |cons u us ih=>
    intro m
    cases m with
    |nil=>simp[b1L]
    |cons y m=>simp only[List.map_cons,b1L];rw[ih];grind
  rw[hn];grind
 have h1:=c2a (cs:=d::c::B) (t:=dt B A) A [] [s] (ws.map fun w=> -w) r (fun e=>dt (e::B) (r::A)) (by simpa using hl) (fun e _=>hg e)
 simp only[List.nil_append,List.cons_append]at h1
 rw[<-h1]
 have hz:∀e∈B,dt (e::B) (r::A)=0:=fun e he=>by
  obtain⟨b1,b2,rfl⟩:=List.append_of_mem he
  exact d1p (a:=e) (b:=e) (fun _ _=>rfl) [] b1 b2
 have h2:=b4t (d::c::B) s (fun e=>dt (e::B) (r::A)) [] A
 simp only[List.nil_append]at h2
 rw[h2,b6o]
 simp only[ex,List.nil_append,List.cons_append]
 rw[b4u hz]
 grind
end
end Go.GS
/- Laplacians of graphs: an edge is left out or contracted. -/
namespace Go.GS
def dl (e:Nat×Nat) (u:Nat->Int):Int:=u e.1-u e.2
def Fm:List (Nat×Nat)->(Nat->Int)->(Nat->Int)->Int
 |[],_,_=>0
 |e::E,u,v=>dl e u*dl e v+Fm E u v
def c2b (u v:Nat->Int):Nat->Int:=fun a=>u a+v a
theorem b6q (e:Nat×Nat) (u v:Nat->Int):dl e (c2b u v)=dl e u+dl e v:=by unfold dl c2b;omega
theorem c2c (E:List (Nat×Nat)) (u v w:Nat->Int):Fm E u (c2b v w)=Fm E u v+Fm E u w:=by
 induction E with
 |nil=>rfl
 |cons e E ih=>simp only[Fm];rw[ih,b6q];grind
theorem c2d (E:List (Nat×Nat)) (u v w:Nat->Int):Fm E (c2b v w) u=Fm E v u+Fm E w u:=by
 induction E with
 |nil=>rfl
 |cons e E ih=>simp only[Fm];rw[ih,b6q];grind
def Dv (E:List (Nat×Nat)) (V:List (Nat->Int)):Int:=dt V (V.map (Fm E))
theorem c2e {e:Nat×Nat} {E:List (Nat×Nat)} {u:Nat->Int} (h:dl e u=0):Fm (e::E) u=Fm E u:=funext fun v=>by simp only[Fm];rw[h];simp
theorem a7h {e:Nat×Nat} {E:List (Nat×Nat)}:∀{V:List (Nat->Int)} (_:∀u∈V,dl e u=0),V.map (Fm (e::E))=V.map (Fm E)
 |[],_=>rfl
 |u::V,h=>by rw[List.map_cons,List.map_cons,c2e (h u (by simp)),a7h fun x hx=>h x (by simp[hx])]
theorem c2f {e:Nat×Nat} {E:List (Nat×Nat)} {V:List (Nat->Int)} (h:∀u∈V,dl e u=0):Dv (e::E) V=Dv E V:=by
 unfold Dv;rw[a7h h]
theorem c2g {e:Nat×Nat} {E:List (Nat×Nat)} {l1 l2:List (Nat->Int)} {w:Nat->Int} (hw:dl e w*dl e w=1) (h1:∀u∈l1,dl e u=0) (h2:∀u∈l2,dl e u=0):Dv (e::E) (l1++w::l2)=Dv E (l1++w::l2)+Dv E (l1++l2):=by
 unfold Dv
 simp only[List.map_append,List.map_cons]
 rw[a7h h1,a7h h2,a4f (x:=Fm (e::E) w) (r:=Fm E w) (s:=dl e) (t:=dl e w) (fun c _=>by simp only[Fm];grind),d1r h1 h2 (by simp)]
 grind
theorem d4Q {e:Nat×Nat} {E:List (Nat×Nat)} {l1 l2 l3:List (Nat->Int)} {u w:Nat->Int} (hw:dl e w*dl e w=1) (hu:dl e u+dl e w=0) (h1:∀u∈l1,dl e u=0) (h2:∀u∈l2,dl e u=0) (h3:∀u∈l3,dl e u=0):
  Dv (e::E) (l1++u::(l2++w::l3))=Dv E (l1++u::(l2++w::l3))+Dv E (l1++c2b u w::(l2++l3)):=by
 have hm:∀E',Dv E' (l1++c2b u w::(l2++w::l3))=Dv E' (l1++u::(l2++w::l3)):=fun E'=>by
  unfold Dv
  rw[d1q (fun r hr=>by obtain⟨v,_,rfl⟩:=List.mem_map.1 hr;exact c2c E' v u w)]
  simp only[List.map_append,List.map_cons]
  exact c1V (t:=1) (fun c _=>by rw[c2d];omega) _ _ _
 rw[<-hm,<-hm]
 have h:=c2g (E:=E) (l1:=l1++c2b u w::l2) (l2:=l3) hw (fun v hv=>by
  rcases List.mem_append.1 hv with hv|hv
  ·exact h1 v hv
  ·rcases List.mem_cons.1 hv with rfl|hv
   ·rw[b6q];exact hu
   ·exact h2 v hv) h3
 simpa using h
theorem d1t {e:Nat×Nat} {E:List (Nat×Nat)} {l1 l2 l3:List (Nat->Int)} {u w:Nat->Int} (hw:dl e w*dl e w=1) (hu:dl e u+dl e w=0) (h1:∀u∈l1,dl e u=0) (h2:∀u∈l2,dl e u=0) (h3:∀u∈l3,dl e u=0):
  Dv (e::E) (l1++w::(l2++u::l3))=Dv E (l1++w::(l2++u::l3))+Dv E (l1++(l2++c2b u w::l3)):=by
 have hm:∀E',Dv E' (l1++w::(l2++c2b u w::l3))=Dv E' (l1++w::(l2++u::l3)):=fun E'=>by
  unfold Dv
  rw[c6f (fun r hr=>by obtain⟨v,_,rfl⟩:=List.mem_map.1 hr;exact c2c E' v u w)]
  simp only[List.map_append,List.map_cons]
  exact c1W (t:=1) (fun c _=>by rw[c2d];omega) _ _ _
 rw[<-hm,<-hm]
 exact c2g (E:=E) (l1:=l1) (l2:=l2++c2b u w::l3) hw h1 (fun v hv=>by
  rcases List.mem_append.1 hv with hv|hv
  ·exact h2 v hv
  ·rcases List.mem_cons.1 hv with rfl|hv
   ·rw[b6q];exact hu
   ·exact h3 v hv)
def cv (lab:Nat->Nat) (x:Nat):Nat->Int:=fun a=>if lab a=x then 1 else 0
def mg (lab:Nat->Nat) (q p:Nat):Nat->Nat:=fun a=>if lab a=q then p else lab a
def Dg (E:List (Nat×Nat)) (lab:Nat->Nat) (V:List Nat):Int:=Dv E (V.map (cv lab))
theorem b2W (e:Nat×Nat) (lab:Nat->Nat) (x:Nat):dl e (cv lab x)=(if lab e.1=x then 1 else 0)-(if lab e.2=x then 1 else 0):=rfl
theorem d4R {e:Nat×Nat} {lab:Nat->Nat} {x:Nat} (h1:lab e.1≠x) (h2:lab e.2≠x):dl e (cv lab x)=0:=by rw[b2W,if_neg h1,if_neg h2];rfl
theorem c6g {lab:Nat->Nat} {q p x:Nat} (h1:x≠p) (h2:x≠q):cv (mg lab q p) x=cv lab x:=funext fun a=>by
 unfold cv mg
 by_cases h:lab a=q
 ·rw[if_pos h,if_neg (fun hh=>h1 hh.symm),if_neg (by rw[h];exact fun hh=>h2 hh.symm)]
 ·rw[if_neg h]
theorem d4S {lab:Nat->Nat} {q p:Nat} (h:p≠q):cv (mg lab q p) p=c2b (cv lab p) (cv lab q):=funext fun a=>by
 show(if mg lab q p a=p then(1:Int)else 0)=(if lab a=p then 1 else 0)+(if lab a=q then 1 else 0)
 unfold mg
 by_cases h1:lab a=q
 ·rw[if_pos h1,if_pos rfl,if_neg (by rw[h1];exact fun hh=>h hh.symm),if_pos h1];rfl
 ·rw[if_neg h1,if_neg h1];omega
theorem a5A {lab:Nat->Nat} {q p:Nat} {l:List Nat} (h1:p∉l) (h2:q∉l):l.map (cv (mg lab q p))=l.map (cv lab):=List.map_congr_left fun x hx=>c6g (fun hh=>h1 (hh ▸ hx)) (fun hh=>h2 (hh ▸ hx))
theorem b4v {e:Nat×Nat} {lab:Nat->Nat} {l:List Nat} (h1:lab e.1∉l) (h2:lab e.2∉l):∀u∈l.map (cv lab),dl e u=0:=fun u hu=>by
 obtain⟨x,hx,rfl⟩:=List.mem_map.1 hu
 exact d4R (fun hh=>h1 (hh ▸ hx)) (fun hh=>h2 (hh ▸ hx))
section
variable {e:Nat×Nat} {E:List (Nat×Nat)} {lab:Nat->Nat} {V l1 l2 l3:List Nat} {p q:Nat}
theorem b4w (h:lab e.1=lab e.2):Dg (e::E) lab V=Dg E lab V:=c2f fun u hu=>by
 obtain⟨x,hx,rfl⟩:=List.mem_map.1 hu
 rw[b2W,h];omega
theorem c2h (h1:lab e.1∉V) (h2:lab e.2∉V):Dg (e::E) lab V=Dg E lab V:=c2f (b4v h1 h2)
def Ends (lab:Nat->Nat) (e:Nat×Nat) (p q:Nat):Prop:=p≠q/\(lab e.1=p/\lab e.2=q\/lab e.1=q/\lab e.2=p)
theorem Ends.sym (h:Ends lab e p q):Ends lab e q p:=⟨fun hh=>h.1 hh.symm,h.2.symm⟩
theorem Ends.off (h:Ends lab e p q) {l:List Nat} (h1:p∉l) (h2:q∉l):∀u∈l.map (cv lab),dl e u=0:=by
 rcases h.2 with⟨a,b⟩|⟨a,b⟩
 ·exact b4v (by rw[a];exact h1) (by rw[b];exact h2)
 ·exact b4v (by rw[a];exact h2) (by rw[b];exact h1)
theorem Ends.sq (h:Ends lab e p q):dl e (cv lab p)*dl e (cv lab p)=1/\dl e (cv lab q)+dl e (cv lab p)=0:=by
 rw[b2W,b2W]
 rcases h.2 with⟨a,b⟩|⟨a,b⟩
 ·rw[a,b,if_pos rfl,if_neg fun hh=>h.1 hh.symm,if_neg h.1,if_pos rfl];decide
 ·rw[a,b,if_pos rfl,if_neg fun hh=>h.1 hh.symm,if_neg h.1,if_pos rfl];decide
theorem d4T (h:Ends lab e p q) (hp1:p∉l1) (hp2:p∉l2) (hq1:q∉l1) (hq2:q∉l2):Dg (e::E) lab (l1++p::l2)=Dg E lab (l1++p::l2)+Dg E (mg lab p q) (l1++l2):=by
 unfold Dg
 simp only[List.map_append,List.map_cons]
 rw[c2g h.sq.1 (h.off hp1 hq1) (h.off hp2 hq2),a5A hq1 hp1,a5A hq2 hp2]
theorem d4U (h:Ends lab e p q) (hp1:p∉l1) (hp2:p∉l2) (hp3:p∉l3) (hq1:q∉l1) (hq2:q∉l2) (hq3:q∉l3):Dg (e::E) lab (l1++p::(l2++q::l3))=Dg E lab (l1++p::(l2++q::l3))+Dg E (mg lab q p) (l1++p::(l2++l3)):=by
 unfold Dg
 simp only[List.map_append,List.map_cons]
 rw[d4Q h.sym.sq.1 (by have:=h.sq.2;omega) (h.off hp1 hq1) (h.off hp2 hq2) (h.off hp3 hq3),a5A hp1 hq1,a5A hp2 hq2,a5A hp3 hq3,d4S h.1]
theorem d1u (h:Ends lab e p q) (hp1:p∉l1) (hp2:p∉l2) (hp3:p∉l3) (hq1:q∉l1) (hq2:q∉l2) (hq3:q∉l3):Dg (e::E) lab (l1++q::(l2++p::l3))=Dg E lab (l1++q::(l2++p::l3))+Dg E (mg lab q p) (l1++(l2++p::l3)):=by
 unfold Dg
 simp only[List.map_append,List.map_cons]
 rw[d1t h.sym.sq.1 (by have:=h.sq.2;omega) (h.off hp1 hq1) (h.off hp2 hq2) (h.off hp3 hq3),a5A hp1 hq1,a5A hp2 hq2,a5A hp3 hq3,d4S h.1]
end
end Go.GS
/- Laplacians of graphs: an edge's two ways, no negative corner, a corner that is 0, bounds. -/
namespace Go.GS
def a0V (V:List Nat) (q:Nat):List Nat:=V.filter (fun x=>x !=q)
theorem b6r {V:List Nat} {q:Nat} (h:q∉V):a0V V q=V:=List.filter_eq_self.2 fun x hx=>by simp;exact fun hh=>h (hh ▸ hx)
theorem c2i (l m:List Nat) (q:Nat):a0V (l++m) q=a0V l q++a0V m q:=List.filter_append ..
theorem d1v (l:List Nat) (q:Nat):a0V (q::l) q=a0V l q:=by unfold a0V;simp
theorem d4V (V:List Nat) (q:Nat):a0V V.reverse q=(a0V V q).reverse:=by unfold a0V;rw[List.filter_reverse]
theorem c2j {V:List Nat} {q:Nat} (h:V.Nodup):(a0V V q).Nodup:=h.filter _
section
variable {e:Nat×Nat} {E:List (Nat×Nat)} {lab:Nat->Nat} {V l:List Nat} {p q:Nat}
theorem a9P (h:Ends lab e p q) (hq:q∈V) (hn:V.Nodup):Dg (e::E) lab V=Dg E lab V+Dg E (mg lab q p) (a0V V q):=by
 obtain⟨l1,l2,rfl⟩:=List.append_of_mem hq
 rw[List.nodup_append]at hn
 obtain⟨n1,n2,n3⟩:=hn
 rw[List.nodup_cons]at n2
 have hq1:q∉l1:=fun hh=>n3 q hh q (by simp) rfl
 have hw:a0V (l1++q::l2) q=l1++l2:=by rw[c2i,d1v,b6r hq1,b6r n2.1]
 rw[hw]
 by_cases hp1:p∈l1
 ·obtain⟨m1,m2,rfl⟩:=List.append_of_mem hp1
  rw[List.nodup_append,List.nodup_cons]at n1
  obtain⟨_,⟨a2,_⟩,a3⟩:=n1
  have:=d4U (E:=E) (l1:=m1) (l2:=m2) (l3:=l2) h (fun hh=>a3 p hh p (by simp) rfl) a2 (fun hh=>n3 p (by simp) p (by simp[hh]) rfl) (fun hh=>hq1 (by simp[hh])) (fun hh=>hq1 (by simp[hh])) n2.1
  simpa using this
 ·by_cases hp2:p∈l2
  ·obtain⟨m1,m2,rfl⟩:=List.append_of_mem hp2
   have n4:=n2.2
   rw[List.nodup_append,List.nodup_cons]at n4
   obtain⟨_,⟨a2,_⟩,a3⟩:=n4
   have:=d1u (E:=E) (l1:=l1) (l2:=m1) (l3:=m2) h hp1 (fun hh=>a3 p hh p (by simp) rfl) a2 hq1 (fun hh=>n2.1 (by simp[hh])) (fun hh=>n2.1 (by simp[hh]))
   simpa using this
  ·exact d4T h.sym hq1 n2.1 hp1 hp2
theorem a6m (h:lab e.1≠lab e.2):Ends lab e (lab e.1) (lab e.2):=⟨h,.inl ⟨rfl,rfl⟩⟩
theorem d1w {C:Type} {cs:List C} {x:C->Int} (h:∀c∈cs,x c=0) (l1 l2:List (C->Int)):dt cs (l1++x::l2)=0:=by
 have h0:=a4f (x:=x) (r:=x) (s:=x) (t:=1) (cs:=cs) (fun c hc=>by rw[h c hc];rfl) l1 l2
 omega
theorem c2k (lab:Nat->Nat) (V:List Nat):Dg [] lab V=if V=[]then 1 else 0:=by
 cases V with
 |nil=>rfl
 |cons x V=>
  rw[if_neg (by simp)]
  exact d1w (x:=Fm [] (cv lab x)) (fun _ _=>rfl) [] _
theorem b1r:∀(E:List (Nat×Nat)) (lab:Nat->Nat) (V:List Nat),V.Nodup->0<=Dg E lab V
 |[],lab,V,_=>by rw[c2k];split<;>omega
 |e::E,lab,V,h=>by
  by_cases h1:lab e.1=lab e.2
  ·rw[b4w h1];exact b1r E lab V h
  ·by_cases h2:lab e.2∈V
   ·rw[a9P (a6m h1) h2 h]
    have a:=b1r E lab V h;have b:=b1r E (mg lab (lab e.2) (lab e.1)) _ (c2j (q:=lab e.2) h);omega
   ·by_cases h3:lab e.1∈V
    ·rw[a9P (a6m h1).sym h3 h]
     have a:=b1r E lab V h;have b:=b1r E (mg lab (lab e.1) (lab e.2)) _ (c2j (q:=lab e.1) h);omega
    ·rw[c2h h3 h2];exact b1r E lab V h
theorem d4W (hp:p∉V) (hq:q∉V):Dg E (mg lab q p) V=Dg E lab V:=by unfold Dg;rw[a5A hp hq]
theorem c6h {l V:List Nat} (h:(l++V).Nodup):V.Nodup:=(List.nodup_append.1 h).2.1
theorem a3n:∀(E:List (Nat×Nat)) (lab:Nat->Nat) (l V:List Nat),(l++V).Nodup->Dg E lab V=0->Dg E lab (l++V)=0
 |[],lab,l,V,_,h=>by
  rw[c2k]at h⊢
  rw[if_neg]
  intro hh
  rw[if_pos (by simpa using(List.append_eq_nil_iff.1 hh).2)]at h
  omega
 |e::E,lab,l,V,hn,h=>by
  have hv:=c6h hn
  by_cases h1:lab e.1=lab e.2
  ·rw[b4w h1]at h⊢;exact a3n E lab l V hn h
  ·--q in V
   have key:∀p q,Ends lab e p q->q∈V->Dg (e::E) lab (l++V)=0:=fun p q he hq=>by
    rw[a9P he hq hv]at h
    have a:=b1r E lab V hv;have b:=b1r E (mg lab q p) _ (c2j (q:=q) hv)
    have hql:q∉l:=fun hh=>(List.nodup_append.1 hn).2.2 q hh q hq rfl
    have hw:a0V (l++V) q=l++a0V V q:=by rw[c2i,b6r hql]
    rw[a9P he (by simp[hq]) hn,a3n E lab l V hn (by omega),hw,a3n E _ l _ (by rw[<-hw];exact c2j hn) (by omega)]
    rfl
   by_cases h2:lab e.2∈V
   ·exact key _ _ (a6m h1) h2
   ·by_cases h3:lab e.1∈V
    ·exact key _ _ (a6m h1).sym h3
    ·rw[c2h h3 h2]at h
     have i1:=a3n E lab l V hn h
     have key2:∀p q,Ends lab e p q->q∈l->q∉V->p∉V->Dg (e::E) lab (l++V)=0:=fun p q he hq hqV hpV=>by
      have hw:a0V (l++V) q=a0V l q++V:=by rw[c2i,b6r hqV]
      rw[a9P he (by simp[hq]) hn,i1,hw,a3n E _ _ V (by rw[<-hw];exact c2j hn) (by rw[d4W hpV hqV];exact h)]
      rfl
     by_cases h4:lab e.2∈l
     ·exact key2 _ _ (a6m h1) h4 h2 h3
     ·by_cases h5:lab e.1∈l
      ·exact key2 _ _ (a6m h1).sym h5 h3 h2
      ·rw[c2h (by simp[h3,h5]) (by simp[h2,h4])];exact i1
theorem a8w (lab:Nat->Nat) (x:Nat):∀E:List (Nat×Nat),Fm (E.filter fun e=>lab e.1 !=lab e.2) (cv lab x)=Fm E (cv lab x)
 |[]=>rfl
 |e::E=>by
  by_cases h:lab e.1=lab e.2
  ·rw[List.filter_cons_of_neg (by simp[h]),a8w lab x E]
   refine(c2e ?_).symm
   rw[b2W,h];omega
  ·rw[List.filter_cons_of_pos (by simp[h])]
   funext v
   simp only[Fm]
   rw[a8w lab x E]
theorem c2l (E:List (Nat×Nat)) (lab:Nat->Nat) (V:List Nat):Dg (E.filter fun e=>lab e.1 !=lab e.2) lab V=Dg E lab V:=by
 unfold Dg Dv
 rw[List.map_map,List.map_map]
 congr 1
 exact List.map_congr_left fun x _=>a8w lab x E
end
theorem b6s {C:Type} {c:C} {d:List (C->Int)->Int} {B K:Nat}:∀(l pre:List (C->Int)),(∀r∈l,(r c).natAbs<=B)->(∀p s:List (C->Int),∀x,pre++l=p++x::s->(d (p++s)).natAbs<=K)->(dx c d pre l).natAbs<=l.length*(B*K)
 |[],pre,_,_=>by simp[dx]
 |x::l,pre,h,hd=>by
  simp only[dx,List.length_cons]
  have h1:=b6s l (pre++[x]) (fun r hr=>h r (by simp[hr])) (fun p s y hy=>hd p s y (by simpa using hy))
  have h2:=hd pre l x rfl
  have h3:(x c*d (pre++l)).natAbs<=B*K:=by rw[Int.natAbs_mul];exact Nat.mul_le_mul (h x (by simp)) h2
  rw[Nat.succ_mul]
  omega
theorem b1s {C:Type} {B:Nat}:∀(cs:List C) (l:List (C->Int)) (m:Nat),l.length<=m->(∀r∈l,∀c∈cs,(r c).natAbs<=B)->(dt cs l).natAbs<=(m*B)^cs.length
 |[],[],_,_,_=>by simp[dt]
 |[],_::_,_,_,_=>by simp[dt]
 |c::cs,l,m,hl,h=>by
  have h1:=b6s (c:=c) (d:=dt cs) (B:=B) (K:=(m*B)^cs.length) l [] (fun r hr=>h r hr c (by simp)) fun p s x hx=>by
   simp only[List.nil_append]at hx
   refine b1s cs (p++s) m ?_ fun r hr e he=>h r ?_ e (by simp[he])
   ·rw[hx]at hl;simp at hl⊢;omega
   ·rw[hx];simp at hr⊢;rcases hr with hr|hr<;>simp[hr]
  refine Nat.le_trans h1 ?_
  rw[List.length_cons,Nat.pow_succ,<-Nat.mul_assoc,Nat.mul_comm ((m*B)^cs.length)]
  exact Nat.mul_le_mul_right _ (Nat.mul_le_mul_right _ hl)
theorem b6t (e:Nat×Nat) (lab:Nat->Nat) (x:Nat):(dl e (cv lab x)).natAbs<=1:=by
 rw[b2W]
 split<;>split<;>decide
theorem b6u (lab:Nat->Nat) (x y:Nat):∀E:List (Nat×Nat),(Fm E (cv lab x) (cv lab y)).natAbs<=E.length
 |[]=>by simp[Fm]
 |e::E=>by
  simp only[Fm,List.length_cons]
  have h1:=b6u lab x y E
  have h2:(dl e (cv lab x)*dl e (cv lab y)).natAbs<=1:=by rw[Int.natAbs_mul];exact Nat.le_trans (Nat.mul_le_mul (b6t e lab x) (b6t e lab y)) (by decide)
  omega
end Go.GS

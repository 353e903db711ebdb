/- Determinants: expansion by rows and columns, steps without fractions. -/
import Derived.Test.YtkcjbfoejpfbbaaGreatDoorGsC
import Derived.Test.YtkcjbfoejpfbbaaGreatDoorGsO
namespace Go.GS
section
variable {C:Type}
def dx (c:C) (d:List (C->Int)->Int):List (C->Int)->List (C->Int)->Int
 |_,[]=>0
 |pre,x::l=>x c*d (pre++l)-dx c d (pre++[x]) l
def dt:List C->List (C->Int)->Int
 |[],[]=>1
 |[],_::_=>0
 |c::cs,l=>dx c (dt cs) [] l
theorem d3Y {l:List (C->Int)} (h:l≠[]):dt [] l=0:=by
 match l,h with
 |_::_,_=>rfl
theorem a9o (l1 l2:List (C->Int)) (x:C->Int):dt [] (l1++x::l2)=0:=d3Y (by simp)
theorem d3Z {c:C} {d:List (C->Int)->Int} {x r s:C->Int} {t:Int} (h:x c=r c+t*s c) (hd:∀l1 l2,d (l1++x::l2)=d (l1++r::l2)+t*d (l1++s::l2)):∀(l1 l2 pre:List (C->Int)),dx c d pre (l1++x::l2)=dx c d pre (l1++r::l2)+t*dx c d pre (l1++s::l2):=by
 have hb:∀(l p1 p2:List (C->Int)),dx c d (p1++x::p2) l=dx c d (p1++r::p2) l+t*dx c d (p1++s::p2) l:=fun l=>by
  induction l with
  |nil=>intro p1 p2;simp[dx]
  |cons y l ih=>
   intro p1 p2
   simp only[dx]
   have h1:=hd p1 (p2++l)
   have h2:=ih p1 (p2++[y])
   simp only[List.append_assoc,List.cons_append]at h1 h2⊢
   rw[h1,h2]
   grind
 intro l1
 induction l1 with
 |nil=>
  intro l2 pre
  have h2:=hb l2 pre []
  simp only[List.nil_append,dx]
  have h3:=h2
  rw[h2,h]
  have h4:=hd pre l2
  grind
 |cons y l1 ih=>
  intro l2 pre
  simp only[List.cons_append,dx]
  have h1:=hd (pre++l1) l2
  simp only[List.append_assoc]at h1
  rw[ih l2 (pre++[y]),h1]
  grind
theorem a3k {x r s:C->Int} {t:Int}:∀{cs:List C} (_:∀c∈cs,x c=r c+t*s c) (l1 l2:List (C->Int)),dt cs (l1++x::l2)=dt cs (l1++r::l2)+t*dt cs (l1++s::l2)
 |[],_,l1,l2=>by rw[a9o,a9o,a9o];simp
 |c::cs,h,l1,l2=>d3Z (h c (by simp)) (fun a b=>a3k (fun e he=>h e (by simp[he])) a b) l1 l2 []
theorem c1Q {x r:C->Int} {cs:List C} (h:∀c∈cs,x c=r c) (l1 l2:List (C->Int)):dt cs (l1++x::l2)=dt cs (l1++r::l2):=by
 have:=a3k (x:=x) (r:=r) (s:=r) (t:=0) (fun c hc=>by rw[h c hc];simp) l1 l2
 simpa using this
theorem d4a {c:C} {d:List (C->Int)->Int} {x y:C->Int} (h:x c=y c) (hd:∀l1 l2,d (l1++x::y::l2)=0) (he:∀l1 l2,d (l1++x::l2)=d (l1++y::l2)):∀(l1 l2 pre:List (C->Int)),dx c d pre (l1++x::y::l2)=0:=by
 have hb:∀(l p1 p2:List (C->Int)),dx c d (p1++x::y::p2) l=0:=fun l=>by
  induction l with
  |nil=>intro p1 p2;simp[dx]
  |cons z l ih=>
   intro p1 p2
   simp only[dx]
   have h1:=hd p1 (p2++l)
   have h2:=ih p1 (p2++[z])
   simp only[List.append_assoc,List.cons_append]at h1 h2⊢
   rw[h1,h2];simp
 intro l1
 induction l1 with
 |nil=>
  intro l2 pre
  have h2:=hb l2 pre []
  simp only[List.nil_append,dx,List.append_assoc,List.cons_append]at h2⊢
  rw[h2,h,he pre l2]
  grind
 |cons z l1 ih=>
  intro l2 pre
  simp only[List.cons_append,dx]
  have h1:=hd (pre++l1) l2
  simp only[List.append_assoc]at h1
  rw[ih l2 (pre++[z]),h1];simp
theorem b1o {x y:C->Int}:∀{cs:List C} (_:∀c∈cs,x c=y c) (l1 l2:List (C->Int)),dt cs (l1++x::y::l2)=0
 |[],_,l1,l2=>a9o _ _ _
 |c::cs,h,l1,l2=>d4a (h c (by simp)) (fun a b=>b1o (fun e he=>h e (by simp[he])) a b) (fun a b=>c1Q (fun e he=>h e (by simp[he])) a b) l1 l2 []
theorem b2C (cs:List C) (x y:C->Int) (l1 l2:List (C->Int)):dt cs (l1++x::y::l2)= -dt cs (l1++y::x::l2):=by
 have hz:∀c∈cs,(fun c=>x c+y c) c=x c+1*y c:=fun c _=>by simp
 have h0:=b1o (x:=fun c=>x c+y c) (y:=fun c=>x c+y c) (cs:=cs) (fun _ _=>rfl) l1 l2
 rw[a3k hz]at h0
 have h1:=a3k hz (l1++[x]) l2
 have h2:=a3k hz (l1++[y]) l2
 simp only[List.append_assoc,List.cons_append,List.nil_append]at h1 h2
 rw[h1,h2,b1o (x:=x) (y:=x) (fun _ _=>rfl),b1o (x:=y) (y:=y) (fun _ _=>rfl)]at h0
 omega
theorem b4Y {x y:C->Int} {cs:List C} (h:∀c∈cs,x c=y c) (l3:List (C->Int)):∀(l2 l1:List (C->Int)),dt cs (l1++x::(l2++y::l3))=0
 |[],l1=>b1o h l1 l3
 |w::l2,l1=>by
  rw[List.cons_append,b2C]
  have:=b4Y h l3 l2 (l1++[w])
  simp only[List.append_assoc,List.cons_append,List.nil_append]at this
  rw[this];simp
theorem c1R {x y z:C->Int} {t:Int} {cs:List C} (h:∀c∈cs,z c=x c+t*y c) (l1 l2 l3:List (C->Int)):dt cs (l1++z::(l2++y::l3))=dt cs (l1++x::(l2++y::l3)):=by
 rw[a3k h,b4Y (fun _ _=>rfl)];simp
theorem c1S {x y z:C->Int} {t:Int} {cs:List C} (h:∀c∈cs,z c=x c+t*y c) (l1 l2 l3:List (C->Int)):dt cs (l1++y::(l2++z::l3))=dt cs (l1++y::(l2++x::l3)):=by
 have h1:=a3k h (l1++y::l2) l3
 simp only[List.append_assoc,List.cons_append]at h1
 rw[h1,b4Y (fun _ _=>rfl)];simp
def ex (r:C->Int) (l:List (C->Int)):List C->List C->Int
 |_,[]=>0
 |pre,c::cs=>r c*dt (pre++cs) l-ex r l (pre++[c]) cs
theorem c1T {c:C} {d e g:List (C->Int)->Int} {t:Int} (h:∀l,g l=t*d l-e l):∀(l pre:List (C->Int)),dx c g pre l=t*dx c d pre l-dx c e pre l
 |[],_=>by simp[dx]
 |x::l,pre=>by
  simp only[dx]
  rw[c1T h l (pre++[x]),h]
  grind
theorem c1U {c:C}:∀(l pre:List (C->Int)),dx c (fun _=>0) pre l=0
 |[],_=>rfl
 |x::l,pre=>by simp only[dx];rw[c1U l];simp
theorem b4Z {c:C} {d:List (C->Int)->Int} (r:C->Int):∀(l pre:List (C->Int)),dx c d (r::pre) l=dx c (fun m=>d (r::m)) pre l
 |[],_=>rfl
 |x::l,pre=>by
  simp only[dx]
  rw[<-b4Z r l (pre++[x])]
  rfl
theorem d4b {c:C} {r:C->Int} (l:List (C->Int)):∀(cs pre:List C),dx c (fun m=>ex r m pre cs) [] l=ex r l (c::pre) cs
 |[],pre=>by simp only[ex];exact c1U l []
 |e::cs,pre=>by
  rw[c1T (g:=fun m=>ex r m pre (e::cs)) (d:=dt (pre++cs)) (e:=fun m=>ex r m (pre++[e]) cs) (t:=r e) (fun m=>rfl),d4b l cs (pre++[e])]
  rfl
theorem b5a (r:C->Int):∀(cs:List C) (l:List (C->Int)),dt cs (r::l)=ex r l [] cs
 |[],_=>rfl
 |c::cs,l=>by
  show dx c (dt cs) [] (r::l)=_
  simp only[dx,ex,List.nil_append]
  have h:=b4Z (c:=c) (d:=dt cs) r l []
  rw[h,show(fun m=>dt cs (r::m))=fun m=>ex r m [] cs from funext fun m=>b5a r cs m,d4b]
end
theorem d4c {R C:Type} (f:R->C->Int) (r:R) (l:List R) (ih:∀cs:List C,dt cs (l.map f)=dt l (cs.map fun c s=>f s c)):∀(cs pre:List C),ex (f r) (l.map f) pre cs=dx r (dt l) (pre.map fun c s=>f s c) (cs.map fun c s=>f s c)
 |[],_=>rfl
 |c::cs,pre=>by
  simp only[ex,List.map_cons,dx]
  rw[ih,d4c f r l ih cs (pre++[c]),List.map_append,List.map_append]
  rfl
theorem d4d {R C:Type} (f:R->C->Int):∀(l:List R) (cs:List C),dt cs (l.map f)=dt l (cs.map fun c s=>f s c)
 |[],[]=>rfl
 |[],c::cs=>rfl
 |r::l,cs=>by
  rw[List.map_cons,b5a]
  exact d4c f r l (fun cs=>d4d f l cs) cs []
theorem b1p {C:Type} (l:List (C->Int)) (cs:List C):dt cs l=dt l (cs.map fun c s=>s c):=by
 have:=d4d (fun(x:C->Int) c=>x c) l cs
 simpa using this
section
variable {C:Type}
theorem d0E {l:List (C->Int)} {a b:C} (h:∀r∈l,r a=r b) (c1 c2 c3:List C):dt (c1++a::(c2++b::c3)) l=0:=by
 rw[b1p]
 simp only[List.map_append,List.map_cons]
 exact b4Y (fun r hr=>h r hr) _ _ _
theorem d0F {l:List (C->Int)} {a b z:C} (h:∀r∈l,r z=r a+r b) (c1 c2 c3:List C):dt (c1++z::(c2++b::c3)) l=dt (c1++a::(c2++b::c3)) l:=by
 rw[b1p,b1p l]
 simp only[List.map_append,List.map_cons]
 exact c1R (t:=1) (fun r hr=>by simp[h r hr]) _ _ _
theorem c5p {l:List (C->Int)} {a b z:C} (h:∀r∈l,r z=r a+r b) (c1 c2 c3:List C):dt (c1++b::(c2++z::c3)) l=dt (c1++b::(c2++a::c3)) l:=by
 rw[b1p,b1p l]
 simp only[List.map_append,List.map_cons]
 exact c1S (t:=1) (fun r hr=>by simp[h r hr]) _ _ _
def sg:Nat->Int
 |0=>1
 |n+1=> -sg n
theorem d4e:∀n,sg n*sg n=1
 |0=>rfl
 |n+1=>by simp only[sg];have:=d4e n;grind
theorem b5b (cs:List C) (x:C->Int) (r2:List (C->Int)):∀(r1 p:List (C->Int)),dt cs (p++(r1++x::r2))=sg r1.length*dt cs (p++x::(r1++r2))
 |[],p=>by simp[sg]
 |y::r1,p=>by
  have h:=b5b cs x r2 r1 (p++[y])
  simp only[List.append_assoc,List.cons_append,List.nil_append]at h⊢
  rw[h,b2C]
  simp only[List.length_cons,sg]
  grind
theorem b2D {r:C->Int} {l:List (C->Int)}:∀{cs:List C} (_:∀c∈cs,r c=0) (pre:List C),ex r l pre cs=0
 |[],_,_=>rfl
 |c::cs,h,pre=>by
  simp only[ex]
  rw[h c (by simp),b2D (fun e he=>h e (by simp[he]))];simp
theorem c7e {r:C->Int} {l:List (C->Int)} {w:C} {c2:List C} (h2:∀c∈c2,r c=0):∀{c1:List C} (_:∀c∈c1,r c=0) (pre:List C),ex r l pre (c1++w::c2)=sg c1.length*(r w*dt (pre++(c1++c2)) l)
 |[],_,pre=>by
  simp only[List.nil_append,ex,sg,List.length_nil]
  rw[b2D h2];simp
 |c::c1,h,pre=>by
  simp only[List.cons_append,ex,List.length_cons,sg]
  rw[h c (by simp),c7e h2 (fun e he=>h e (by simp[he])) (pre++[c])]
  simp only[List.append_assoc,List.cons_append,List.nil_append]
  grind
theorem d0G {r:C->Int} {w:C} {c1 c2:List C} {r1 r2:List (C->Int)} (h1:∀c∈c1,r c=0) (h2:∀c∈c2,r c=0) (hl:r1.length=c1.length):dt (c1++w::c2) (r1++r::r2)=r w*dt (c1++c2) (r1++r2):=by
 have h:=b5b (c1++w::c2) r r2 r1 []
 simp only[List.nil_append]at h
 rw[h,b5a,c7e h2 h1,hl]
 have:=d4e c1.length
 simp only[List.nil_append]
 grind
def a9A:List Int->List (C->Int)->C->Int
 |w::ws,x::l,c=>w*x c+a9A ws l c
 |_,_,_=>0
theorem c1V (d:List (C->Int)->Int):∀(l pre:List (C->Int)),∃ws:List Int,ws.length=l.length/\∀c,dx c d pre l=a9A ws l c
 |[],_=>⟨[],rfl,fun _=>rfl⟩
 |x::l,pre=>by
  obtain⟨ws,hl,hw⟩:=c1V d l (pre++[x])
  refine⟨d (pre++l)::ws.map (fun w=> -w),by simp[hl],fun c=> ?_⟩
  simp only[dx,a9A]
  rw[hw]
  have hn:∀(us:List Int) (m:List (C->Int)),a9A (us.map fun w=> -w) m c= -a9A us m c:=fun us=>by
   induction us with
   |nil=>intro m;simp[a9A]
   |cons u us ih=>
    intro m
    cases m with
    |nil=>simp[a9A]
    |cons y m=>simp only[List.map_cons,a9A];rw[ih];grind
  rw[hn]
  grind
theorem c1W {cs:List C} {t:Int}:∀(m p l1:List (C->Int)) (ws:List Int) (r z:C->Int) (_:ws.length=m.length) (_:∀c∈cs,z c=t*r c+a9A ws m c),dt cs (l1++z::(p++m))=t*dt cs (l1++r::(p++m))
 |[],p,l1,ws,r,z,hl,h=>by
  have h0:=a3k (x:=z) (r:=fun _=>0) (s:=r) (t:=t) (cs:=cs) (fun c hc=>by rw[h c hc];cases ws<;>simp[a9A]) l1 (p++[])
  have h1:=a3k (x:=fun _:C=>0) (r:=fun _=>0) (s:=fun _=>0) (t:=1) (cs:=cs) (fun c hc=>by simp) l1 (p++[])
  rw[h0];omega
 |a::m,p,l1,w::ws,r,z,hl,h=>by
  have h1:=c1W (cs:=cs) (t:=t) m (p++[a]) l1 ws r (fun c=>t*r c+a9A ws m c) (by simpa using hl) (fun _ _=>rfl)
  simp only[List.append_assoc,List.cons_append,List.nil_append]at h1
  rw[<-h1]
  refine c1R (t:=w) (fun c hc=> ?_) l1 p m
  rw[h c hc];simp only[a9A];grind
theorem d0H (B:List C) (A:List (C->Int)) (r s:C->Int) (c d:C):dt B A*dt (d::c::B) (s::r::A)=dt (c::B) (r::A)*dt (d::B) (s::A)-dt (d::B) (r::A)*dt (c::B) (s::A):=by
 obtain⟨ws,hl,hw⟩:=c1V (dt B) A [r]
 have hg:∀e,dt (e::B) (r::A)=dt B A*r e+a9A (ws.map fun w=> -w) A e:=fun e=>by
  show dx e (dt B) [] (r::A)=_
  simp only[dx,List.nil_append]
  rw[hw]
  have hn:∀(us:List Int) (m:List (C->Int)),a9A (us.map fun w=> -w) m e= -a9A us m e:=fun us=>by
   induction us with
   |nil=>intro m;simp[a9A]
   |cons u us ih=>
    intro m
    cases m with
    |nil=>simp[a9A]
    |cons y m=>simp only[List.map_cons,a9A];rw[ih];grind
  rw[hn];grind
 have h1:=c1W (cs:=d::c::B) (t:=dt B A) A [] [s] (ws.map fun w=> -w) r (fun e=>dt (e::B) (r::A)) (by simpa using hl) (fun e _=>hg e)
 simp only[List.nil_append,List.cons_append]at h1
 rw[<-h1]
 have hz:∀e∈B,dt (e::B) (r::A)=0:=fun e he=>by
  obtain⟨b1,b2,rfl⟩:=List.append_of_mem he
  exact d0E (a:=e) (b:=e) (fun _ _=>rfl) [] b1 b2
 have h2:=b2C (d::c::B) s (fun e=>dt (e::B) (r::A)) [] A
 simp only[List.nil_append]at h2
 rw[h2,b5a]
 simp only[ex,List.nil_append,List.cons_append]
 rw[b2D hz]
 grind
end
end Go.GS
/- Laplacians of graphs: an edge is left out or contracted. -/
namespace Go.GS
def dl (e:Nat×Nat) (u:Nat->Int):Int:=u e.1-u e.2
def Fm:List (Nat×Nat)->(Nat->Int)->(Nat->Int)->Int
 |[],_,_=>0
 |e::E,u,v=>dl e u*dl e v+Fm E u v
def c1X (u v:Nat->Int):Nat->Int:=fun a=>u a+v a
theorem b5c (e:Nat×Nat) (u v:Nat->Int):dl e (c1X u v)=dl e u+dl e v:=by unfold dl c1X;omega
theorem c1Y (E:List (Nat×Nat)) (u v w:Nat->Int):Fm E u (c1X v w)=Fm E u v+Fm E u w:=by
 induction E with
 |nil=>rfl
 |cons e E ih=>simp only[Fm];rw[ih,b5c];grind
theorem c1Z (E:List (Nat×Nat)) (u v w:Nat->Int):Fm E (c1X v w) u=Fm E v u+Fm E w u:=by
 induction E with
 |nil=>rfl
 |cons e E ih=>simp only[Fm];rw[ih,b5c];grind
def Dv (E:List (Nat×Nat)) (V:List (Nat->Int)):Int:=dt V (V.map (Fm E))
theorem c2a {e:Nat×Nat} {E:List (Nat×Nat)} {u:Nat->Int} (h:dl e u=0):Fm (e::E) u=Fm E u:=funext fun v=>by simp only[Fm];rw[h];simp
theorem a5O {e:Nat×Nat} {E:List (Nat×Nat)}:∀{V:List (Nat->Int)} (_:∀u∈V,dl e u=0),V.map (Fm (e::E))=V.map (Fm E)
 |[],_=>rfl
 |u::V,h=>by rw[List.map_cons,List.map_cons,c2a (h u (by simp)),a5O fun x hx=>h x (by simp[hx])]
theorem c2b {e:Nat×Nat} {E:List (Nat×Nat)} {V:List (Nat->Int)} (h:∀u∈V,dl e u=0):Dv (e::E) V=Dv E V:=by
 unfold Dv;rw[a5O h]
theorem c2c {e:Nat×Nat} {E:List (Nat×Nat)} {l1 l2:List (Nat->Int)} {w:Nat->Int} (hw:dl e w*dl e w=1) (h1:∀u∈l1,dl e u=0) (h2:∀u∈l2,dl e u=0):Dv (e::E) (l1++w::l2)=Dv E (l1++w::l2)+Dv E (l1++l2):=by
 unfold Dv
 simp only[List.map_append,List.map_cons]
 rw[a5O h1,a5O h2,a3k (x:=Fm (e::E) w) (r:=Fm E w) (s:=dl e) (t:=dl e w) (fun c _=>by simp only[Fm];grind),d0G h1 h2 (by simp)]
 grind
theorem d4f {e:Nat×Nat} {E:List (Nat×Nat)} {l1 l2 l3:List (Nat->Int)} {u w:Nat->Int} (hw:dl e w*dl e w=1) (hu:dl e u+dl e w=0) (h1:∀u∈l1,dl e u=0) (h2:∀u∈l2,dl e u=0) (h3:∀u∈l3,dl e u=0):
  Dv (e::E) (l1++u::(l2++w::l3))=Dv E (l1++u::(l2++w::l3))+Dv E (l1++c1X u w::(l2++l3)):=by
 have hm:∀E',Dv E' (l1++c1X u w::(l2++w::l3))=Dv E' (l1++u::(l2++w::l3)):=fun E'=>by
  unfold Dv
  rw[d0F (fun r hr=>by obtain⟨v,_,rfl⟩:=List.mem_map.1 hr;exact c1Y E' v u w)]
  simp only[List.map_append,List.map_cons]
  exact c1R (t:=1) (fun c _=>by rw[c1Z];omega) _ _ _
 rw[<-hm,<-hm]
 have h:=c2c (E:=E) (l1:=l1++c1X u w::l2) (l2:=l3) hw (fun v hv=>by
  rcases List.mem_append.1 hv with hv|hv
  ·exact h1 v hv
  ·rcases List.mem_cons.1 hv with rfl|hv
   ·rw[b5c];exact hu
   ·exact h2 v hv) h3
 simpa using h
theorem d0I {e:Nat×Nat} {E:List (Nat×Nat)} {l1 l2 l3:List (Nat->Int)} {u w:Nat->Int} (hw:dl e w*dl e w=1) (hu:dl e u+dl e w=0) (h1:∀u∈l1,dl e u=0) (h2:∀u∈l2,dl e u=0) (h3:∀u∈l3,dl e u=0):
  Dv (e::E) (l1++w::(l2++u::l3))=Dv E (l1++w::(l2++u::l3))+Dv E (l1++(l2++c1X u w::l3)):=by
 have hm:∀E',Dv E' (l1++w::(l2++c1X u w::l3))=Dv E' (l1++w::(l2++u::l3)):=fun E'=>by
  unfold Dv
  rw[c5p (fun r hr=>by obtain⟨v,_,rfl⟩:=List.mem_map.1 hr;exact c1Y E' v u w)]
  simp only[List.map_append,List.map_cons]
  exact c1S (t:=1) (fun c _=>by rw[c1Z];omega) _ _ _
 rw[<-hm,<-hm]
 exact c2c (E:=E) (l1:=l1) (l2:=l2++c1X u w::l3) hw h1 (fun v hv=>by
  rcases List.mem_append.1 hv with hv|hv
  ·exact h2 v hv
  ·rcases List.mem_cons.1 hv with rfl|hv
   ·rw[b5c];exact hu
   ·exact h3 v hv)
def cv (lab:Nat->Nat) (x:Nat):Nat->Int:=fun a=>if lab a=x then 1 else 0
def mg (lab:Nat->Nat) (q p:Nat):Nat->Nat:=fun a=>if lab a=q then p else lab a
def Dg (E:List (Nat×Nat)) (lab:Nat->Nat) (V:List Nat):Int:=Dv E (V.map (cv lab))
theorem b1q (e:Nat×Nat) (lab:Nat->Nat) (x:Nat):dl e (cv lab x)=(if lab e.1=x then 1 else 0)-(if lab e.2=x then 1 else 0):=rfl
theorem d4g {e:Nat×Nat} {lab:Nat->Nat} {x:Nat} (h1:lab e.1≠x) (h2:lab e.2≠x):dl e (cv lab x)=0:=by rw[b1q,if_neg h1,if_neg h2];rfl
theorem c5q {lab:Nat->Nat} {q p x:Nat} (h1:x≠p) (h2:x≠q):cv (mg lab q p) x=cv lab x:=funext fun a=>by
 unfold cv mg
 by_cases h:lab a=q
 ·rw[if_pos h,if_neg (fun hh=>h1 hh.symm),if_neg (by rw[h];exact fun hh=>h2 hh.symm)]
 ·rw[if_neg h]
theorem d4h {lab:Nat->Nat} {q p:Nat} (h:p≠q):cv (mg lab q p) p=c1X (cv lab p) (cv lab q):=funext fun a=>by
 show(if mg lab q p a=p then(1:Int)else 0)=(if lab a=p then 1 else 0)+(if lab a=q then 1 else 0)
 unfold mg
 by_cases h1:lab a=q
 ·rw[if_pos h1,if_pos rfl,if_neg (by rw[h1];exact fun hh=>h hh.symm),if_pos h1];rfl
 ·rw[if_neg h1,if_neg h1];omega
theorem a4A {lab:Nat->Nat} {q p:Nat} {l:List Nat} (h1:p∉l) (h2:q∉l):l.map (cv (mg lab q p))=l.map (cv lab):=List.map_congr_left fun x hx=>c5q (fun hh=>h1 (hh ▸ hx)) (fun hh=>h2 (hh ▸ hx))
theorem b2E {e:Nat×Nat} {lab:Nat->Nat} {l:List Nat} (h1:lab e.1∉l) (h2:lab e.2∉l):∀u∈l.map (cv lab),dl e u=0:=fun u hu=>by
 obtain⟨x,hx,rfl⟩:=List.mem_map.1 hu
 exact d4g (fun hh=>h1 (hh ▸ hx)) (fun hh=>h2 (hh ▸ hx))
section
variable {e:Nat×Nat} {E:List (Nat×Nat)} {lab:Nat->Nat} {V l1 l2 l3:List Nat} {p q:Nat}
theorem b2F (h:lab e.1=lab e.2):Dg (e::E) lab V=Dg E lab V:=c2b fun u hu=>by
 obtain⟨x,hx,rfl⟩:=List.mem_map.1 hu
 rw[b1q,h];omega
theorem c2d (h1:lab e.1∉V) (h2:lab e.2∉V):Dg (e::E) lab V=Dg E lab V:=c2b (b2E h1 h2)
def Ends (lab:Nat->Nat) (e:Nat×Nat) (p q:Nat):Prop:=p≠q/\(lab e.1=p/\lab e.2=q\/lab e.1=q/\lab e.2=p)
theorem Ends.sym (h:Ends lab e p q):Ends lab e q p:=⟨fun hh=>h.1 hh.symm,h.2.symm⟩
theorem Ends.off (h:Ends lab e p q) {l:List Nat} (h1:p∉l) (h2:q∉l):∀u∈l.map (cv lab),dl e u=0:=by
 rcases h.2 with⟨a,b⟩|⟨a,b⟩
 ·exact b2E (by rw[a];exact h1) (by rw[b];exact h2)
 ·exact b2E (by rw[a];exact h2) (by rw[b];exact h1)
theorem Ends.sq (h:Ends lab e p q):dl e (cv lab p)*dl e (cv lab p)=1/\dl e (cv lab q)+dl e (cv lab p)=0:=by
 rw[b1q,b1q]
 rcases h.2 with⟨a,b⟩|⟨a,b⟩
 ·rw[a,b,if_pos rfl,if_neg fun hh=>h.1 hh.symm,if_neg h.1,if_pos rfl];decide
 ·rw[a,b,if_pos rfl,if_neg fun hh=>h.1 hh.symm,if_neg h.1,if_pos rfl];decide
theorem d4i (h:Ends lab e p q) (hp1:p∉l1) (hp2:p∉l2) (hq1:q∉l1) (hq2:q∉l2):Dg (e::E) lab (l1++p::l2)=Dg E lab (l1++p::l2)+Dg E (mg lab p q) (l1++l2):=by
 unfold Dg
 simp only[List.map_append,List.map_cons]
 rw[c2c h.sq.1 (h.off hp1 hq1) (h.off hp2 hq2),a4A hq1 hp1,a4A hq2 hp2]
theorem d4j (h:Ends lab e p q) (hp1:p∉l1) (hp2:p∉l2) (hp3:p∉l3) (hq1:q∉l1) (hq2:q∉l2) (hq3:q∉l3):Dg (e::E) lab (l1++p::(l2++q::l3))=Dg E lab (l1++p::(l2++q::l3))+Dg E (mg lab q p) (l1++p::(l2++l3)):=by
 unfold Dg
 simp only[List.map_append,List.map_cons]
 rw[d4f h.sym.sq.1 (by have:=h.sq.2;omega) (h.off hp1 hq1) (h.off hp2 hq2) (h.off hp3 hq3),a4A hp1 hq1,a4A hp2 hq2,a4A hp3 hq3,d4h h.1]
theorem d0J (h:Ends lab e p q) (hp1:p∉l1) (hp2:p∉l2) (hp3:p∉l3) (hq1:q∉l1) (hq2:q∉l2) (hq3:q∉l3):Dg (e::E) lab (l1++q::(l2++p::l3))=Dg E lab (l1++q::(l2++p::l3))+Dg E (mg lab q p) (l1++(l2++p::l3)):=by
 unfold Dg
 simp only[List.map_append,List.map_cons]
 rw[d0I h.sym.sq.1 (by have:=h.sq.2;omega) (h.off hp1 hq1) (h.off hp2 hq2) (h.off hp3 hq3),a4A hp1 hq1,a4A hp2 hq2,a4A hp3 hq3,d4h h.1]
end
end Go.GS
/- Laplacians of graphs: an edge's two ways, no negative corner, a corner that is 0, bounds. -/
namespace Go.GS
def a0M (V:List Nat) (q:Nat):List Nat:=V.filter (fun x=>x !=q)
theorem b5d {V:List Nat} {q:Nat} (h:q∉V):a0M V q=V:=List.filter_eq_self.2 fun x hx=>by simp;exact fun hh=>h (hh ▸ hx)
theorem c2e (l m:List Nat) (q:Nat):a0M (l++m) q=a0M l q++a0M m q:=List.filter_append ..
theorem d0K (l:List Nat) (q:Nat):a0M (q::l) q=a0M l q:=by unfold a0M;simp
theorem d4k (V:List Nat) (q:Nat):a0M V.reverse q=(a0M V q).reverse:=by unfold a0M;rw[List.filter_reverse]
theorem c2f {V:List Nat} {q:Nat} (h:V.Nodup):(a0M V q).Nodup:=h.filter _
section
variable {e:Nat×Nat} {E:List (Nat×Nat)} {lab:Nat->Nat} {V l:List Nat} {p q:Nat}
theorem a8j (h:Ends lab e p q) (hq:q∈V) (hn:V.Nodup):Dg (e::E) lab V=Dg E lab V+Dg E (mg lab q p) (a0M V q):=by
 obtain⟨l1,l2,rfl⟩:=List.append_of_mem hq
 rw[List.nodup_append]at hn
 obtain⟨n1,n2,n3⟩:=hn
 rw[List.nodup_cons]at n2
 have hq1:q∉l1:=fun hh=>n3 q hh q (by simp) rfl
 have hw:a0M (l1++q::l2) q=l1++l2:=by rw[c2e,d0K,b5d hq1,b5d n2.1]
 rw[hw]
 by_cases hp1:p∈l1
 ·obtain⟨m1,m2,rfl⟩:=List.append_of_mem hp1
  rw[List.nodup_append,List.nodup_cons]at n1
  obtain⟨_,⟨a2,_⟩,a3⟩:=n1
  have:=d4j (E:=E) (l1:=m1) (l2:=m2) (l3:=l2) h (fun hh=>a3 p hh p (by simp) rfl) a2 (fun hh=>n3 p (by simp) p (by simp[hh]) rfl) (fun hh=>hq1 (by simp[hh])) (fun hh=>hq1 (by simp[hh])) n2.1
  simpa using this
 ·by_cases hp2:p∈l2
  ·obtain⟨m1,m2,rfl⟩:=List.append_of_mem hp2
   have n4:=n2.2
   rw[List.nodup_append,List.nodup_cons]at n4
   obtain⟨_,⟨a2,_⟩,a3⟩:=n4
   have:=d0J (E:=E) (l1:=l1) (l2:=m1) (l3:=m2) h hp1 (fun hh=>a3 p hh p (by simp) rfl) a2 hq1 (fun hh=>n2.1 (by simp[hh])) (fun hh=>n2.1 (by simp[hh]))
   simpa using this
  ·exact d4i h.sym hq1 n2.1 hp1 hp2
theorem a5a (h:lab e.1≠lab e.2):Ends lab e (lab e.1) (lab e.2):=⟨h,.inl ⟨rfl,rfl⟩⟩
theorem d0L {C:Type} {cs:List C} {x:C->Int} (h:∀c∈cs,x c=0) (l1 l2:List (C->Int)):dt cs (l1++x::l2)=0:=by
 have h0:=a3k (x:=x) (r:=x) (s:=x) (t:=1) (cs:=cs) (fun c hc=>by rw[h c hc];rfl) l1 l2
 omega
theorem c2g (lab:Nat->Nat) (V:List Nat):Dg [] lab V=if V=[]then 1 else 0:=by
 cases V with
 |nil=>rfl
 |cons x V=>
  rw[if_neg (by simp)]
  exact d0L (x:=Fm [] (cv lab x)) (fun _ _=>rfl) [] _
theorem a9p:∀(E:List (Nat×Nat)) (lab:Nat->Nat) (V:List Nat),V.Nodup->0<=Dg E lab V
 |[],lab,V,_=>by rw[c2g];split<;>omega
 |e::E,lab,V,h=>by
  by_cases h1:lab e.1=lab e.2
  ·rw[b2F h1];exact a9p E lab V h
  ·by_cases h2:lab e.2∈V
   ·rw[a8j (a5a h1) h2 h]
    have a:=a9p E lab V h;have b:=a9p E (mg lab (lab e.2) (lab e.1)) _ (c2f (q:=lab e.2) h);omega
   ·by_cases h3:lab e.1∈V
    ·rw[a8j (a5a h1).sym h3 h]
     have a:=a9p E lab V h;have b:=a9p E (mg lab (lab e.1) (lab e.2)) _ (c2f (q:=lab e.1) h);omega
    ·rw[c2d h3 h2];exact a9p E lab V h
theorem d4l (hp:p∉V) (hq:q∉V):Dg E (mg lab q p) V=Dg E lab V:=by unfold Dg;rw[a4A hp hq]
theorem c5r {l V:List Nat} (h:(l++V).Nodup):V.Nodup:=(List.nodup_append.1 h).2.1
theorem a2D:∀(E:List (Nat×Nat)) (lab:Nat->Nat) (l V:List Nat),(l++V).Nodup->Dg E lab V=0->Dg E lab (l++V)=0
 |[],lab,l,V,_,h=>by
  rw[c2g]at h⊢
  rw[if_neg]
  intro hh
  rw[if_pos (by simpa using(List.append_eq_nil_iff.1 hh).2)]at h
  omega
 |e::E,lab,l,V,hn,h=>by
  have hv:=c5r hn
  by_cases h1:lab e.1=lab e.2
  ·rw[b2F h1]at h⊢;exact a2D E lab l V hn h
  ·--q in V
   have key:∀p q,Ends lab e p q->q∈V->Dg (e::E) lab (l++V)=0:=fun p q he hq=>by
    rw[a8j he hq hv]at h
    have a:=a9p E lab V hv;have b:=a9p E (mg lab q p) _ (c2f (q:=q) hv)
    have hql:q∉l:=fun hh=>(List.nodup_append.1 hn).2.2 q hh q hq rfl
    have hw:a0M (l++V) q=l++a0M V q:=by rw[c2e,b5d hql]
    rw[a8j he (by simp[hq]) hn,a2D E lab l V hn (by omega),hw,a2D E _ l _ (by rw[<-hw];exact c2f hn) (by omega)]
    rfl
   by_cases h2:lab e.2∈V
   ·exact key _ _ (a5a h1) h2
   ·by_cases h3:lab e.1∈V
    ·exact key _ _ (a5a h1).sym h3
    ·rw[c2d h3 h2]at h
     have i1:=a2D E lab l V hn h
     have key2:∀p q,Ends lab e p q->q∈l->q∉V->p∉V->Dg (e::E) lab (l++V)=0:=fun p q he hq hqV hpV=>by
      have hw:a0M (l++V) q=a0M l q++V:=by rw[c2e,b5d hqV]
      rw[a8j he (by simp[hq]) hn,i1,hw,a2D E _ _ V (by rw[<-hw];exact c2f hn) (by rw[d4l hpV hqV];exact h)]
      rfl
     by_cases h4:lab e.2∈l
     ·exact key2 _ _ (a5a h1) h4 h2 h3
     ·by_cases h5:lab e.1∈l
      ·exact key2 _ _ (a5a h1).sym h5 h3 h2
      ·rw[c2d (by simp[h3,h5]) (by simp[h2,h4])];exact i1
theorem a6X (lab:Nat->Nat) (x:Nat):∀E:List (Nat×Nat),Fm (E.filter fun e=>lab e.1 !=lab e.2) (cv lab x)=Fm E (cv lab x)
 |[]=>rfl
 |e::E=>by
  by_cases h:lab e.1=lab e.2
  ·rw[List.filter_cons_of_neg (by simp[h]),a6X lab x E]
   refine(c2a ?_).symm
   rw[b1q,h];omega
  ·rw[List.filter_cons_of_pos (by simp[h])]
   funext v
   simp only[Fm]
   rw[a6X lab x E]
theorem c2h (E:List (Nat×Nat)) (lab:Nat->Nat) (V:List Nat):Dg (E.filter fun e=>lab e.1 !=lab e.2) lab V=Dg E lab V:=by
 unfold Dg Dv
 rw[List.map_map,List.map_map]
 congr 1
 exact List.map_congr_left fun x _=>a6X lab x E
end
theorem b5e {C:Type} {c:C} {d:List (C->Int)->Int} {B K:Nat}:∀(l pre:List (C->Int)),(∀r∈l,(r c).natAbs<=B)->(∀p s:List (C->Int),∀x,pre++l=p++x::s->(d (p++s)).natAbs<=K)->(dx c d pre l).natAbs<=l.length*(B*K)
 |[],pre,_,_=>by simp[dx]
 |x::l,pre,h,hd=>by
  simp only[dx,List.length_cons]
  have h1:=b5e l (pre++[x]) (fun r hr=>h r (by simp[hr])) (fun p s y hy=>hd p s y (by simpa using hy))
  have h2:=hd pre l x rfl
  have h3:(x c*d (pre++l)).natAbs<=B*K:=by rw[Int.natAbs_mul];exact Nat.mul_le_mul (h x (by simp)) h2
  rw[Nat.succ_mul]
  omega
theorem b5f {C:Type} {B:Nat}:∀(cs:List C) (l:List (C->Int)) (m:Nat),l.length<=m->(∀r∈l,∀c∈cs,(r c).natAbs<=B)->(dt cs l).natAbs<=(m*B)^cs.length
 |[],[],_,_,_=>by simp[dt]
 |[],_::_,_,_,_=>by simp[dt]
 |c::cs,l,m,hl,h=>by
  have h1:=b5e (c:=c) (d:=dt cs) (B:=B) (K:=(m*B)^cs.length) l [] (fun r hr=>h r hr c (by simp)) fun p s x hx=>by
   simp only[List.nil_append]at hx
   refine b5f cs (p++s) m ?_ fun r hr e he=>h r ?_ e (by simp[he])
   ·rw[hx]at hl;simp at hl⊢;omega
   ·rw[hx];simp at hr⊢;rcases hr with hr|hr<;>simp[hr]
  refine Nat.le_trans h1 ?_
  rw[List.length_cons,Nat.pow_succ,<-Nat.mul_assoc,Nat.mul_comm ((m*B)^cs.length)]
  exact Nat.mul_le_mul_right _ (Nat.mul_le_mul_right _ hl)
theorem b5g (e:Nat×Nat) (lab:Nat->Nat) (x:Nat):(dl e (cv lab x)).natAbs<=1:=by
 rw[b1q]
 split<;>split<;>decide
theorem b5h (lab:Nat->Nat) (x y:Nat):∀E:List (Nat×Nat),(Fm E (cv lab x) (cv lab y)).natAbs<=E.length
 |[]=>by simp[Fm]
 |e::E=>by
  simp only[Fm,List.length_cons]
  have h1:=b5h lab x y E
  have h2:(dl e (cv lab x)*dl e (cv lab y)).natAbs<=1:=by rw[Int.natAbs_mul];exact Nat.le_trans (Nat.mul_le_mul (b5g e lab x) (b5g e lab y)) (by decide)
  omega
end Go.GS
/- Spanning trees by determinants: each edge's two ways, and the tree of a number. -/
namespace Go.GS
def lst (set:Nat):Nat:=(els set).headD 64
def b2G (set:Nat) (f:Nat->Nat):List Nat:=(List.range 64).filter fun x=>bit set x&&decide (f x=x)&&decide (x≠f (lst set))
def KK (E:List (Nat×Nat)) (set:Nat) (f:Nat->Nat):Int:=Dg E f (b2G set f).reverse
theorem c7f (set:Nat) (f:Nat->Nat):(b2G set f).Nodup:=List.nodup_range.filter _
theorem c2i (set:Nat) (f:Nat->Nat):(b2G set f).reverse.Nodup:=by unfold List.Nodup;rw[List.pairwise_reverse];exact(c7f set f).imp fun h hh=>h hh.symm
theorem d0M {set x:Nat} {f:Nat->Nat} (hs:set<M64):x∈b2G set f↔bit set x=true/\f x=x/\x≠f (lst set):=by
 unfold b2G
 rw[List.mem_filter,List.mem_range]
 simp only[Bool.and_eq_true,decide_eq_true_eq]
 exact⟨fun h=>⟨h.2.1.1,h.2.1.2,h.2.2⟩,fun h=>⟨a1D hs h.1,⟨h.1,h.2.1⟩,h.2.2⟩⟩
theorem d6r (E:List (Nat×Nat)) (set:Nat) (f:Nat->Nat):0<=KK E set f:=a9p E f _ (c2i set f)
theorem b5i {set x:Nat} (hs:set<M64) (hx:bit set x=true):lst set<=x:=by
 have h0:set≠0:=fun h=>by rw[h]at hx;simp[bit]at hx
 obtain⟨y,r,he,hy,_,hl⟩:=b5W hs h0
 unfold lst
 rw[he]
 show y<=x
 rcases Nat.lt_or_ge x y with h|h
 ·rw[hl x h]at hx;cases hx
 ·exact h
theorem b6s {f:Nat->Nat} (h:Lb f) {e:Nat×Nat} (hne:f e.1≠f e.2) (y:Nat):a1r f e y=y↔f y=y/\y≠max (f e.1) (f e.2):=by
 unfold a1r
 have ha:=h.idm e.1
 have hb:=h.idm e.2
 generalize f e.1=a at*
 generalize f e.2=b at*
 constructor
 ·intro hj
  split at hj
  ·rename_i hfy
   exfalso
   rcases Nat.le_total a b with hh|hh
   ·rw[Nat.min_eq_left hh]at hj
    rw[Nat.max_eq_right hh,<-hj,ha]at hfy
    exact hne hfy
   ·rw[Nat.min_eq_right hh]at hj
    rw[Nat.max_eq_left hh,<-hj,hb]at hfy
    exact hne hfy.symm
  ·rename_i hfy
   exact⟨hj,fun e2=>hfy (by rw[hj,e2])⟩
 ·rintro⟨h3,h4⟩
  rw[if_neg (by rw[h3];exact h4)];exact h3
section
variable {set:Nat} {f:Nat->Nat} {e:Nat×Nat} {E:List (Nat×Nat)}
theorem d0N (h:Lb f) (hs:set<M64) (h1:bit set (f e.1)=true) (h2:bit set (f e.2)=true) (hl:bit set (lst set)=true) (hne:f e.1≠f e.2):max (f e.1) (f e.2)∈b2G set f:=by
 rw[d0M hs]
 have ha:=h.idm e.1
 have hb:=h.idm e.2
 have l0:=h.le (lst set)
 have l1:=b5i hs h1
 have l2:=b5i hs h2
 generalize f e.1=a at*
 generalize f e.2=b at*
 rcases Nat.le_total a b with hh|hh
 ·rw[Nat.max_eq_right hh];exact⟨h2,hb,by omega⟩
 ·rw[Nat.max_eq_left hh];exact⟨h1,ha,by omega⟩
theorem c5s (h:Lb f) (hs:set<M64) (h1:bit set (f e.1)=true) (h2:bit set (f e.2)=true) (hne:f e.1≠f e.2):b2G set (a1r f e)=a0M (b2G set f) (max (f e.1) (f e.2)):=by
 unfold b2G a0M
 rw[List.filter_filter]
 refine List.filter_congr fun x _=> ?_
 have hm:a1r f e (lst set)=f (lst set):=by
  unfold a1r
  rw[if_neg]
  intro hh
  have l0:=h.le (lst set)
  have l1:=b5i hs h1
  have l2:=b5i hs h2
  omega
 rw[hm]
 have:=b6s h hne x
 rw[Bool.eq_iff_iff]
 simp only[Bool.and_eq_true,decide_eq_true_eq,bne_iff_ne,this]
 exact⟨fun h=>⟨h.1.2.2,⟨h.1.1,h.1.2.1⟩,h.2⟩,fun h=>⟨⟨h.2.1.1,h.2.1.2,h.1⟩,h.2.2⟩⟩
theorem c7g (h:Lb f) (hs:set<M64) (h1:bit set (f e.1)=true) (h2:bit set (f e.2)=true) (hl:bit set (lst set)=true) (hne:f e.1≠f e.2):KK (e::E) set f=KK E set f+KK E set (a1r f e):=by
 have he:Ends f e (min (f e.1) (f e.2)) (max (f e.1) (f e.2)):=by
  refine⟨by omega,?_⟩
  rcases Nat.le_total (f e.1) (f e.2)with hh|hh
  ·rw[Nat.max_eq_right hh,Nat.min_eq_left hh];exact .inl ⟨rfl,rfl⟩
  ·rw[Nat.max_eq_left hh,Nat.min_eq_right hh];exact .inr ⟨rfl,rfl⟩
 have:=a8j (E:=E) he (List.mem_reverse.2 (d0N h hs h1 h2 hl hne)) (c2i set f)
 unfold KK
 rw[this,d4k,<-c5s h hs h1 h2 hne]
 rfl
theorem c2j (h:f e.1=f e.2):KK (e::E) set f=KK E set f:=b2F h
theorem b1r (E:List (Nat×Nat)) (set:Nat) (f:Nat->Nat):KK (E.filter fun e=>f e.1 !=f e.2) set f=KK E set f:=c2h ..
end
theorem d0O {set:Nat} {f:Nat->Nat} (h:Lb f) (hs:set<M64) (h0:set≠0) (hin:∀x,bit set x=true->bit set (f x)=true):cnt f set=(b2G set f).length+1:=by
 obtain⟨x,r,he,hx,_,_⟩:=b5W hs h0
 have hl:lst set=x:=by unfold lst;rw[he];rfl
 have hr:=hin x hx
 have:=b7K (p:=fun x=>bit set x&&decide (f x=x)) (q:=fun x=>bit set x&&decide (f x=x)&&decide (x≠f (lst set))) (x:=f x) (by simp[hr,h.idm]) (fun y=>by rw[hl]) (List.range 64) (List.mem_range.2 (a1D hs hr)) List.nodup_range
 unfold cnt b2G
 omega
theorem c7h {set:Nat} {f:Nat->Nat} (h:Lb f) (hs:set<M64) (h0:set≠0) (hin:∀x,bit set x=true->bit set (f x)=true):KK [] set f=if cnt f set=1 then 1 else 0:=by
 unfold KK
 rw[c2g]
 have:=d0O h hs h0 hin
 by_cases hc:b2G set f=[]
 ·rw[if_pos (by rw[hc];rfl),if_pos (by rw[this,hc];rfl)]
 ·rw[if_neg (by simpa using hc),if_neg]
  intro hh
  exact hc (List.eq_nil_of_length_eq_zero (by omega))
def inE (es:List (Nat×Nat)) (set j:Nat):List (Nat×Nat):=(es.drop j).filter (inB set)
theorem d0P {es:List (Nat×Nat)} {set j:Nat} {e:Nat×Nat} (h:es[j]? =some e) (hb:inB set e=true):inE es set j=e::inE es set (j+1):=by
 obtain⟨hj,rfl⟩:=List.getElem?_eq_some_iff.1 h
 unfold inE
 rw[List.drop_eq_getElem_cons hj,List.filter_cons_of_pos hb]
theorem d4m {es:List (Nat×Nat)} {set j:Nat} {e:Nat×Nat} (h:es[j]? =some e) (hb:inB set e=false):inE es set j=inE es set (j+1):=by
 obtain⟨hj,rfl⟩:=List.getElem?_eq_some_iff.1 h
 unfold inE
 rw[List.drop_eq_getElem_cons hj,List.filter_cons_of_neg (by rw[hb];simp)]
theorem b2H {es:List (Nat×Nat)} {set j:Nat} (h:es.length<=j):inE es set j=[]:=by
 unfold inE;rw[List.drop_eq_nil_of_le h];rfl
def trN (es:List (Nat×Nat)) (set:Nat) (t:List Int) (j:Nat):Int:=KK (inE es set j) set (lab (etl es t))
def trH (es:List (Nat×Nat)) (set:Nat) (t:List Int) (j:Nat):Int:=if lab (etl es t) (Ed es (j:Nat)).1=lab (etl es t) (Ed es (j:Nat)).2 then 0 else trN es set (t++[(j:Int)]) (j+1)
section
variable {es:List (Nat×Nat)} {set j:Nat} {t:List Int}
theorem c7i:0<=trN es set t j:=d6r _ _ _
theorem d4n:0<=trH es set t j:=by unfold trH;split;exact Int.le_refl 0;exact c7i
theorem c5t {e:Nat×Nat} (h:es[j]? =some e) (hb:inB set e=false):trN es set t j=trN es set t (j+1):=by
 unfold trN;rw[d4m h hb]
theorem c2k (hs:set<M64) (h0:set≠0):bit set (lst set)=true:=by
 obtain⟨x,r,he,hx,_,_⟩:=b5W hs h0
 unfold lst;rw[he];exact hx
theorem c5u (hs:set<M64) (h0:set≠0) (hin:Inn set (etl es t)) (hj:j<es.length) (hb:inB set (Ed es (j:Nat))=true):trN es set t j=trN es set t (j+1)+trH es set t j:=by
 have he:=a4l hj
 have hb':=hb
 unfold inB at hb'
 simp only[Bool.and_eq_true]at hb'
 unfold trH
 unfold trN
 rw[d0P he hb]
 by_cases hl:lab (etl es t) (Ed es (j:Nat)).1=lab (etl es t) (Ed es (j:Nat)).2
 ·rw[if_pos hl,c2j hl];omega
 ·rw[if_neg hl,c7g (Lb.lab _) hs (a3F hin _ hb'.1) (a3F hin _ hb'.2) (c2k hs h0) hl,a2d,a2c]
theorem d0Q (hs:set<M64) (h0:set≠0) (hb:Beg es set t) (hj:es.length<=j) (h:0<trN es set t j):TreeOk es set t:=by
 unfold trN at h
 rw[b2H hj,c7h (Lb.lab _) hs h0 (a3F hb.inn)]at h
 split at h
 ·rename_i hc
  have h3:=a8S hs hb.inn (etl es t).length (Nat.le_refl _)
  rw[List.take_length,(a4k _ (Nat.le_refl _)).2 hb.acy,show(etl es t).length=t.length from List.length_map _]at h3
  exact hb.tree (by omega)
 ·omega
theorem Beg.add {t:List Int} (h:Beg es set t) (hlt:∀i∈t,i<(j:Int)) (hj:j<es.length) (hb:inB set (Ed es (j:Nat))=true) (hl:lab (etl es t) (Ed es (j:Nat)).1≠lab (etl es t) (Ed es (j:Nat)).2):Beg es set (t++[(j:Int)]):=by
 unfold inB at hb
 simp only[Bool.and_eq_true]at hb
 refine⟨b2j h.asc hlt,?_,?_⟩
 ·intro i hi
  rw[List.mem_append,List.mem_singleton]at hi
  rcases hi with hi|rfl
  ·exact h.ok i hi
  ·exact⟨by omega,by omega,hb⟩
 ·rw[a2d,List.length_append]
  exact h.acy.snoc hl
theorem a9q (hs:set<M64) (h0:set≠0):∀(k j:Nat) (t:List Int),es.length-j=k->Beg es set t->(∀i∈t,i<(j:Int))->Spn es set t j->0<trN es set t j
 |k,j,t,hk,hb,hlt,h=>by
  by_cases hj:j<es.length
  ·cases hi:inB set (Ed es (j:Nat))with
   |false=>
    rw[c5t (a4l hj) hi]
    exact a9q hs h0 (es.length-(j+1)) (j+1) t rfl hb (fun i hi=>by have:=hlt i hi;omega) (h.skip (a4l hj) hi)
   |true=>
    rw[c5u hs h0 hb.inn hj hi]
    have hi':=hi
    unfold inB at hi'
    simp only[Bool.and_eq_true]at hi'
    by_cases hl:lab (etl es t) (Ed es (j:Nat)).1=lab (etl es t) (Ed es (j:Nat)).2
    ·have:=a9q hs h0 (es.length-(j+1)) (j+1) t rfl hb (fun i hi=>by have:=hlt i hi;omega) (h.cyc (a4l hj) ((b2i hb.inn hi'.1 hi'.2).1 hl))
     have h2:0<=trH es set t j:=d4n
     omega
    ·have:=a9q hs h0 (es.length-(j+1)) (j+1) (t++[(j:Int)]) rfl (hb.add hlt hj hi hl) (fun i hi=>by
      rcases List.mem_append.1 hi with hi|hi
      ·have:=hlt i hi;omega
      ·rw[List.mem_singleton]at hi;omega) (h.take hj)
     have h2:0<=trN es set t (j+1):=c7i
     have h3:trH es set t j=trN es set (t++[(j:Int)]) (j+1):=if_neg hl
     omega
  ·have hl:=h.end hs h0 (by omega) hb.inn hb.acy
   unfold trN
   rw[b2H (by omega),c7h (Lb.lab _) hs h0 (a3F hb.inn)]
   have h3:=a8S hs hb.inn (etl es t).length (Nat.le_refl _)
   rw[List.take_length,(a4k _ (Nat.le_refl _)).2 hb.acy]at h3
   rw[if_pos (by omega)];decide
 termination_by k=>k
 decreasing_by all_goals omega
end
end Go.GS
/- Determinants by b6c without fractions. -/
namespace Go.GS
def blk (k:Nat):List Nat:=(List.range k).reverse
theorem b5j (k:Nat):blk (k+1)=k::blk k:=by unfold blk;rw[List.range_succ,List.reverse_append];rfl
theorem c2l (k:Nat):(blk k).length=k:=by unfold blk;simp
def gk (F:Nat->Nat->Int) (k i j:Nat):Int:=dt (j::blk k) (F i::(blk k).map F)
def pk (F:Nat->Nat->Int) (k:Nat):Int:=dt (blk k) ((blk k).map F)
section
variable {F:Nat->Nat->Int} {k i j n:Nat}
theorem b5k (F:Nat->Nat->Int) (k:Nat):gk F k k k=pk F (k+1):=by unfold gk pk;rw[b5j];rfl
theorem c2m (F:Nat->Nat->Int):pk F 0=1:=rfl
theorem d0R (F:Nat->Nat->Int) (i j:Nat):gk F 0 i j=F i j:=by simp[gk,blk,dt,dx]
theorem d0S:pk F k*gk F (k+1) i j=gk F k i j*gk F k k k-gk F k i k*gk F k k j:=by
 have:=d0H (blk k) ((blk k).map F) (F k) (F i) k j
 unfold gk pk
 rw[b5j,List.map_cons,this]
 grind
theorem d4o (h:pk F k≠0):(gk F k i j*gk F k k k-gk F k i k*gk F k k j)/pk F k=gk F (k+1) i j:=by
 rw[<-d0S,Int.mul_ediv_cancel_left _ h]
theorem c5v {B:Nat} (h:∀i j,(F i j).natAbs<=B) (k i j:Nat):(gk F k i j).natAbs<=((k+1)*B)^(k+1):=by
 have:=b5f (B:=B) (j::blk k) (F i::(blk k).map F) (k+1) (by simp[c2l]) (fun r hr c hc=>by
  rcases List.mem_cons.1 hr with rfl|hr
  ·exact h _ _
  ·obtain⟨x,_,rfl⟩:=List.mem_map.1 hr
   exact h _ _)
 unfold gk;simpa[c2l]using this
end
theorem c7j {C R:Type} (φ:R->C) (c:R) (cs:List R) (ih:∀l:List (C->Int),dt (cs.map φ) l=dt cs (l.map fun r x=>r (φ x))):∀(l p:List (C->Int)),dx (φ c) (dt (cs.map φ)) p l=dx c (dt cs) (p.map fun r x=>r (φ x)) (l.map fun r x=>r (φ x))
 |[],_=>rfl
 |x::l,p=>by
  simp only[List.map_cons,dx]
  rw[ih,c7j φ c cs ih l (p++[x]),List.map_append,List.map_append]
  rfl
theorem c7k {C R:Type} (φ:R->C):∀(cs:List R) (l:List (C->Int)),dt (cs.map φ) l=dt cs (l.map fun r x=>r (φ x))
 |[],[]=>rfl
 |[],_::_=>rfl
 |c::cs,l=>c7j φ c cs (c7k φ cs) l []
def c5w (E:List (Nat×Nat)) (lab:Nat->Nat) (V:List Nat) (i j:Nat):Int:=Fm E (cv lab (V.getD i 0)) (cv lab (V.getD j 0))
theorem c5x (V:List Nat) {k:Nat} (hk:k<=V.length):(blk k).map (fun i=>V.getD i 0)=(V.take k).reverse:=by
 unfold blk
 rw[List.map_reverse]
 congr 1
 apply List.ext_getElem?
 intro i
 rw[List.getElem?_map,List.getElem?_take]
 by_cases h:i<k
 ·rw[List.getElem?_range h,if_pos h,Option.map_some,List.getD_eq_getElem?_getD,List.getElem?_eq_getElem (by omega)]
  rfl
 ·rw[if_neg h,List.getElem?_eq_none (by simp;omega)]
  rfl
theorem c7l (E:List (Nat×Nat)) (lab:Nat->Nat) (V:List Nat) {k:Nat} (hk:k<=V.length):pk (c5w E lab V) k=Dg E lab (V.take k).reverse:=by
 unfold Dg Dv
 rw[<-c5x V hk,List.map_map,List.map_map,c7k,List.map_map]
 rfl
theorem b2I (E:List (Nat×Nat)) (lab:Nat->Nat) (V:List Nat):pk (c5w E lab V) V.length=Dg E lab V.reverse:=by
 rw[c7l E lab V (Nat.le_refl _),List.take_length]
theorem c2n (E:List (Nat×Nat)) (lab:Nat->Nat) {V:List Nat} (hn:V.Nodup) {k:Nat} (hk:k<=V.length) (h:pk (c5w E lab V) k=0):Dg E lab V.reverse=0:=by
 rw[c7l E lab V hk]at h
 have e:V.reverse=(V.drop k).reverse++(V.take k).reverse:=by rw[<-List.reverse_append,List.take_append_drop]
 rw[e]
 refine a2D E lab _ _ ?_ h
 rw[<-e]
 unfold List.Nodup;rw[List.pairwise_reverse];exact hn.imp fun h hh=>h hh.symm
theorem a6Y (E:List (Nat×Nat)) (lab:Nat->Nat) (V:List Nat) (i j:Nat):(c5w E lab V i j).natAbs<=E.length:=b5h lab _ _ E
end Go.GS

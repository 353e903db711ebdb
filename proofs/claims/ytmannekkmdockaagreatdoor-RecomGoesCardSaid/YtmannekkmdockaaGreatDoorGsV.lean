/- Lemmas of the proof. -/
import Derived.Test.YtmannekkmdockaaGreatDoorRxQ
open Bool renaming and_eq_true->aF
open Int renaming natAbs_mul->iC
open List renaming append_assoc->bG,append_of_mem->iM,cons_append->cG,drop_eq_getElem_cons->dI,filter_cons_of_neg->fC,filter_cons_of_pos->lF,getElem?_eq_some_iff->aC,length_cons->bA,map_append->aX,map_congr_left->jR,map_cons->aM,map_map->cC,mem_append->aV,mem_cons->aL,mem_map->aH,mem_range->cK,mem_singleton->aQ,nil_append->bV,nodup_append->eO,nodup_cons->dF,nodup_range->fJ,range->bL
open Nat renaming le_refl->aN,le_total->fL,le_trans->aS,max_eq_left->eX,max_eq_right->eT,min_eq_left->cD,min_eq_right->fU,mul_le_mul->cI,mul_le_mul_right->dX
namespace Go.GS
section
variable {C:Type}
def dx (c:C) (d:List (C->Int)->Int):List (C->Int)->List (C->Int)->Int
 |_,[]=>0
 |pre,x::l=>x c*d (pre++l)-dx c d (pre++[x]) l
def dt:List C->List (C->Int)->Int
 |[],[]=>1
 |[],_::_=>0
 |c::cs,l=>dx c (dt cs) [] l
theorem d7u {l:List (C->Int)} (h:l≠[]):dt [] l=0:=by
 match l,h with
 |_::_,_=>rfl
theorem jy (l1 l2:List (C->Int)) (x:C->Int):dt [] (l1++x::l2)=0:=d7u (by simp)
theorem d7v {c:C} {d:List (C->Int)->Int} {x r s:C->Int} {t:Int} (h:x c=r c+t*s c) (hd:∀l1 l2,d (l1++x::l2)=d (l1++r::l2)+t*d (l1++s::l2)):∀(l1 l2 pre:List (C->Int)),dx c d pre (l1++x::l2)=dx c d pre (l1++r::l2)+t*dx c d pre (l1++s::l2):=by
 have hb:∀(l p1 p2:List (C->Int)),dx c d (p1++x::p2) l=dx c d (p1++r::p2) l+t*dx c d (p1++s::p2) l:=fun l=>by
  induction l with
  |nil=>intro p1 p2;simp[dx]
  |cons y l ih=>
   intro p1 p2;simp only[dx];have h1:=hd p1 (p2++l);have h2:=ih p1 (p2++[y]);simp only[bG,cG]at h1 h2⊢;rw[h1,h2]
   grind
 intro l1;induction l1 with
 |nil=>
  intro l2 pre;have h2:=hb l2 pre [];simp only[bV,dx];have h3:=h2;rw[h2,h];have h4:=hd pre l2
  grind
 |cons y l1 ih=>
  intro l2 pre;simp only[cG,dx];have h1:=hd (pre++l1) l2;simp only[bG]at h1;rw[ih l2 (pre++[y]),h1]
  grind
theorem Jh {x r s:C->Int} {t:Int}:∀{cs:List C} (_:∀c∈cs,x c=r c+t*s c) (l1 l2:List (C->Int)),dt cs (l1++x::l2)=dt cs (l1++r::l2)+t*dt cs (l1++s::l2)
 |[],_,l1,l2=>by rw[jy,jy,jy];simp
 |c::cs,h,l1,l2=>d7v (h c (by simp)) (fun a b=>Jh (fun e he=>h e (by simp[he])) a b) l1 l2 []
theorem c3n {x r:C->Int} {cs:List C} (h:∀c∈cs,x c=r c) (l1 l2:List (C->Int)):dt cs (l1++x::l2)=dt cs (l1++r::l2):=by
 have:=Jh (x:=x) (r:=r) (s:=r) (t:=0) (fun c hc=>by rw[h c hc];simp) l1 l2;simpa using this
theorem d7w {c:C} {d:List (C->Int)->Int} {x y:C->Int} (h:x c=y c) (hd:∀l1 l2,d (l1++x::y::l2)=0) (he:∀l1 l2,d (l1++x::l2)=d (l1++y::l2)):∀(l1 l2 pre:List (C->Int)),dx c d pre (l1++x::y::l2)=0:=by
 have hb:∀(l p1 p2:List (C->Int)),dx c d (p1++x::y::p2) l=0:=fun l=>by
  induction l with
  |nil=>intro p1 p2;simp[dx]
  |cons z l ih=>
   intro p1 p2;simp only[dx];have h1:=hd p1 (p2++l);have h2:=ih p1 (p2++[z]);simp only[bG,cG]at h1 h2⊢;rw[h1,h2];simp
 intro l1;induction l1 with
 |nil=>
  intro l2 pre;have h2:=hb l2 pre [];simp only[bV,dx,bG,cG]at h2⊢;rw[h2,h,he pre l2]
  grind
 |cons z l1 ih=>
  intro l2 pre;simp only[cG,dx];have h1:=hd (pre++l1) l2;simp only[bG]at h1;rw[ih l2 (pre++[z]),h1];simp
theorem Zw {x y:C->Int}:∀{cs:List C} (_:∀c∈cs,x c=y c) (l1 l2:List (C->Int)),dt cs (l1++x::y::l2)=0
 |[],_,l1,l2=>jy _ _ _
 |c::cs,h,l1,l2=>d7w (h c (by simp)) (fun a b=>Zw (fun e he=>h e (by simp[he])) a b) (fun a b=>c3n (fun e he=>h e (by simp[he])) a b) l1 l2 []
theorem yv (cs:List C) (x y:C->Int) (l1 l2:List (C->Int)):dt cs (l1++x::y::l2)= -dt cs (l1++y::x::l2):=by
 have hz:∀c∈cs,(fun c=>x c+y c) c=x c+1*y c:=fun c _=>by simp
 have h0:=Zw (x:=fun c=>x c+y c) (y:=fun c=>x c+y c) (cs:=cs) (fun _ _=>rfl) l1 l2;rw[Jh hz]at h0;have h1:=Jh hz (l1++[x]) l2;have h2:=Jh hz (l1++[y]) l2;simp only[bG,cG,bV]at h1 h2;rw[h1,h2,Zw (x:=x) (y:=x) (fun _ _=>rfl),Zw (x:=y) (y:=y) (fun _ _=>rfl)]at h0;omega
theorem jz {x y:C->Int} {cs:List C} (h:∀c∈cs,x c=y c) (l3:List (C->Int)):∀(l2 l1:List (C->Int)),dt cs (l1++x::(l2++y::l3))=0
 |[],l1=>Zw h l1 l3
 |w::l2,l1=>by
  rw[cG,yv];have:=jz h l3 l2 (l1++[w]);simp only[bG,cG,bV]at this;rw[this];simp
theorem yw {x y z:C->Int} {t:Int} {cs:List C} (h:∀c∈cs,z c=x c+t*y c) (l1 l2 l3:List (C->Int)):dt cs (l1++z::(l2++y::l3))=dt cs (l1++x::(l2++y::l3)):=by
 rw[Jh h,jz (fun _ _=>rfl)];simp
theorem NC {x y z:C->Int} {t:Int} {cs:List C} (h:∀c∈cs,z c=x c+t*y c) (l1 l2 l3:List (C->Int)):dt cs (l1++y::(l2++z::l3))=dt cs (l1++y::(l2++x::l3)):=by
 have h1:=Jh h (l1++y::l2) l3;simp only[bG,cG]at h1;rw[h1,jz (fun _ _=>rfl)];simp
def ex (r:C->Int) (l:List (C->Int)):List C->List C->Int
 |_,[]=>0
 |pre,c::cs=>r c*dt (pre++cs) l-ex r l (pre++[c]) cs
theorem ND {c:C} {d e g:List (C->Int)->Int} {t:Int} (h:∀l,g l=t*d l-e l):∀(l pre:List (C->Int)),dx c g pre l=t*dx c d pre l-dx c e pre l
 |[],_=>by simp[dx]
 |x::l,pre=>by
  simp only[dx];rw[ND h l (pre++[x]),h]
  grind
theorem NE {c:C}:∀(l pre:List (C->Int)),dx c (fun _=>0) pre l=0
 |[],_=>rfl
 |x::l,pre=>by simp only[dx];rw[NE l];simp
theorem NF {c:C} {d:List (C->Int)->Int} (r:C->Int):∀(l pre:List (C->Int)),dx c d (r::pre) l=dx c (fun m=>d (r::m)) pre l
 |[],_=>rfl
 |x::l,pre=>by
  simp only[dx];rw[<-NF r l (pre++[x])];rfl
theorem NG {c:C} {r:C->Int} (l:List (C->Int)):∀(cs pre:List C),dx c (fun m=>ex r m pre cs) [] l=ex r l (c::pre) cs
 |[],pre=>by simp only[ex];exact NE l []
 |e::cs,pre=>by
  rw[ND (g:=fun m=>ex r m pre (e::cs)) (d:=dt (pre++cs)) (e:=fun m=>ex r m (pre++[e]) cs) (t:=r e) (fun m=>rfl),NG l cs (pre++[e])];rfl
theorem ka (r:C->Int):∀(cs:List C) (l:List (C->Int)),dt cs (r::l)=ex r l [] cs
 |[],_=>rfl
 |c::cs,l=>by
  show dx c (dt cs) [] (r::l)=_;simp only[dx,ex,bV];have h:=NF (c:=c) (d:=dt cs) r l [];rw[h,show(fun m=>dt cs (r::m))=fun m=>ex r m [] cs from funext fun m=>ka r cs m,NG]
end
theorem NH {R C:Type} (f:R->C->Int) (r:R) (l:List R) (ih:∀cs:List C,dt cs (l.map f)=dt l (cs.map fun c s=>f s c)):∀(cs pre:List C),ex (f r) (l.map f) pre cs=dx r (dt l) (pre.map fun c s=>f s c) (cs.map fun c s=>f s c)
 |[],_=>rfl
 |c::cs,pre=>by
  simp only[ex,aM,dx];rw[ih,NH f r l ih cs (pre++[c]),aX,aX];rfl
theorem NI {R C:Type} (f:R->C->Int):∀(l:List R) (cs:List C),dt cs (l.map f)=dt l (cs.map fun c s=>f s c)
 |[],[]=>rfl
 |[],c::cs=>rfl
 |r::l,cs=>by
  rw[aM,ka];exact NH f r l (fun cs=>NI f l cs) cs []
theorem Zx {C:Type} (l:List (C->Int)) (cs:List C):dt cs l=dt l (cs.map fun c s=>s c):=by
 have:=NI (fun(x:C->Int) c=>x c) l cs;simpa using this
section
variable {C:Type}
theorem d4e {l:List (C->Int)} {a b:C} (h:∀r∈l,r a=r b) (c1 c2 c3:List C):dt (c1++a::(c2++b::c3)) l=0:=by
 rw[Zx];simp only[aX,aM];exact jz (fun r hr=>h r hr) _ _ _
theorem d4f {l:List (C->Int)} {a b z:C} (h:∀r∈l,r z=r a+r b) (c1 c2 c3:List C):dt (c1++z::(c2++b::c3)) l=dt (c1++a::(c2++b::c3)) l:=by
 rw[Zx,Zx l];simp only[aX,aM];exact yw (t:=1) (fun r hr=>by simp[h r hr]) _ _ _
theorem c8c {l:List (C->Int)} {a b z:C} (h:∀r∈l,r z=r a+r b) (c1 c2 c3:List C):dt (c1++b::(c2++z::c3)) l=dt (c1++b::(c2++a::c3)) l:=by
 rw[Zx,Zx l];simp only[aX,aM];exact NC (t:=1) (fun r hr=>by simp[h r hr]) _ _ _
def sg:Nat->Int
 |0=>1
 |n+1=> -sg n
theorem NJ:∀n,sg n*sg n=1
 |0=>rfl
 |n+1=>by simp only[sg];have:=NJ n;grind
theorem NK (cs:List C) (x:C->Int) (r2:List (C->Int)):∀(r1 p:List (C->Int)),dt cs (p++(r1++x::r2))=sg r1.length*dt cs (p++x::(r1++r2))
 |[],p=>by simp[sg]
 |y::r1,p=>by
  have h:=NK cs x r2 r1 (p++[y]);simp only[bG,cG,bV]at h⊢;rw[h,yv];simp only[bA,sg]
  grind
theorem yx {r:C->Int} {l:List (C->Int)}:∀{cs:List C} (_:∀c∈cs,r c=0) (pre:List C),ex r l pre cs=0
 |[],_,_=>rfl
 |c::cs,h,pre=>by
  simp only[ex];rw[h c (by simp),yx (fun e he=>h e (by simp[he]))];simp
theorem NL {r:C->Int} {l:List (C->Int)} {w:C} {c2:List C} (h2:∀c∈c2,r c=0):∀{c1:List C} (_:∀c∈c1,r c=0) (pre:List C),ex r l pre (c1++w::c2)=sg c1.length*(r w*dt (pre++(c1++c2)) l)
 |[],_,pre=>by
  simp only[bV,ex,sg,List.length_nil];rw[yx h2];simp
 |c::c1,h,pre=>by
  simp only[cG,ex,bA,sg];rw[h c (by simp),NL h2 (fun e he=>h e (by simp[he])) (pre++[c])];simp only[bG,cG,bV]
  grind
theorem d4g {r:C->Int} {w:C} {c1 c2:List C} {r1 r2:List (C->Int)} (h1:∀c∈c1,r c=0) (h2:∀c∈c2,r c=0) (hl:r1.length=c1.length):dt (c1++w::c2) (r1++r::r2)=r w*dt (c1++c2) (r1++r2):=by
 have h:=NK (c1++w::c2) r r2 r1 [];simp only[bV]at h;rw[h,ka,NL h2 h1,hl];have:=NJ c1.length;simp only[bV]
 grind
def Fb:List Int->List (C->Int)->C->Int
 |w::ws,x::l,c=>w*x c+Fb ws l c
 |_,_,_=>0
theorem NM (d:List (C->Int)->Int):∀(l pre:List (C->Int)),∃ws:List Int,ws.length=l.length/\∀c,dx c d pre l=Fb ws l c
 |[],_=>⟨[],rfl,fun _=>rfl⟩
 |x::l,pre=>by
  obtain⟨ws,hl,hw⟩:=NM d l (pre++[x]);refine⟨d (pre++l)::ws.map (fun w=> -w),by simp[hl],fun c=> ?_⟩;simp only[dx,Fb];rw[hw];have hn:∀(us:List Int) (m:List (C->Int)),Fb (us.map fun w=> -w) m c= -Fb us m c:=fun us=>by
   induction us with
   |nil=>intro m;simp[Fb]
   |cons u us ih=>
    intro m;cases m with
    |nil=>simp[Fb]
    |cons y m=>simp only[aM,Fb];rw[ih];grind
  rw[hn]
  grind
theorem NN {cs:List C} {t:Int}:∀(m p l1:List (C->Int)) (ws:List Int) (r z:C->Int) (_:ws.length=m.length) (_:∀c∈cs,z c=t*r c+Fb ws m c),dt cs (l1++z::(p++m))=t*dt cs (l1++r::(p++m))
 |[],p,l1,ws,r,z,hl,h=>by
  have h0:=Jh (x:=z) (r:=fun _=>0) (s:=r) (t:=t) (cs:=cs) (fun c hc=>by rw[h c hc];cases ws<;>simp[Fb]) l1 (p++[]);have h1:=Jh (x:=fun _:C=>0) (r:=fun _=>0) (s:=fun _=>0) (t:=1) (cs:=cs) (fun c hc=>by simp) l1 (p++[]);rw[h0];omega
 |a::m,p,l1,w::ws,r,z,hl,h=>by
  have h1:=NN (cs:=cs) (t:=t) m (p++[a]) l1 ws r (fun c=>t*r c+Fb ws m c) (by simpa using hl) (fun _ _=>rfl);simp only[bG,cG,bV]at h1;rw[<-h1];refine yw (t:=w) (fun c hc=> ?_) l1 p m;rw[h c hc];simp only[Fb];grind
theorem d4h (B:List C) (A:List (C->Int)) (r s:C->Int) (c d:C):dt B A*dt (d::c::B) (s::r::A)=dt (c::B) (r::A)*dt (d::B) (s::A)-dt (d::B) (r::A)*dt (c::B) (s::A):=by
 obtain⟨ws,hl,hw⟩:=NM (dt B) A [r];have hg:∀e,dt (e::B) (r::A)=dt B A*r e+Fb (ws.map fun w=> -w) A e:=fun e=>by
  show dx e (dt B) [] (r::A)=_;simp only[dx,bV];rw[hw];have hn:∀(us:List Int) (m:List (C->Int)),Fb (us.map fun w=> -w) m e= -Fb us m e:=fun us=>by
   induction us with
   |nil=>intro m;simp[Fb]
   |cons u us ih=>
    intro m;cases m with
    |nil=>simp[Fb]
    |cons y m=>simp only[aM,Fb];rw[ih];grind
  rw[hn];grind
 have h1:=NN (cs:=d::c::B) (t:=dt B A) A [] [s] (ws.map fun w=> -w) r (fun e=>dt (e::B) (r::A)) (by simpa using hl) (fun e _=>hg e);simp only[bV,cG]at h1;rw[<-h1];have hz:∀e∈B,dt (e::B) (r::A)=0:=fun e he=>by
  obtain⟨b1,b2,rfl⟩:=iM he;exact d4e (a:=e) (b:=e) (fun _ _=>rfl) [] b1 b2
 have h2:=yv (d::c::B) s (fun e=>dt (e::B) (r::A)) [] A;simp only[bV]at h2;rw[h2,ka];simp only[ex,bV,cG];rw[yx hz]
 grind
end
end Go.GS
/- Laplacians of graphs: an edge is left out or contracted. -/
namespace Go.GS
def dl (e:Nat×Nat) (u:Nat->Int):Int:=u e.1-u e.2
def Fm:List (Nat×Nat)->(Nat->Int)->(Nat->Int)->Int
 |[],_,_=>0
 |e::E,u,v=>dl e u*dl e v+Fm E u v
def Ji (u v:Nat->Int):Nat->Int:=fun a=>u a+v a
theorem kf (e:Nat×Nat) (u v:Nat->Int):dl e (Ji u v)=dl e u+dl e v:=by unfold dl Ji;omega
theorem NP (E:List (Nat×Nat)) (u v w:Nat->Int):Fm E u (Ji v w)=Fm E u v+Fm E u w:=by
 induction E with
 |nil=>rfl
 |cons e E ih=>simp only[Fm];rw[ih,kf];grind
theorem NQ (E:List (Nat×Nat)) (u v w:Nat->Int):Fm E (Ji v w) u=Fm E v u+Fm E w u:=by
 induction E with
 |nil=>rfl
 |cons e E ih=>simp only[Fm];rw[ih,kf];grind
def Dv (E:List (Nat×Nat)) (V:List (Nat->Int)):Int:=dt V (V.map (Fm E))
theorem NR {e:Nat×Nat} {E:List (Nat×Nat)} {u:Nat->Int} (h:dl e u=0):Fm (e::E) u=Fm E u:=funext fun v=>by simp only[Fm];rw[h];simp
theorem kg {e:Nat×Nat} {E:List (Nat×Nat)}:∀{V:List (Nat->Int)} (_:∀u∈V,dl e u=0),V.map (Fm (e::E))=V.map (Fm E)
 |[],_=>rfl
 |u::V,h=>by rw[aM,aM,NR (h u (by simp)),kg fun x hx=>h x (by simp[hx])]
theorem NS {e:Nat×Nat} {E:List (Nat×Nat)} {V:List (Nat->Int)} (h:∀u∈V,dl e u=0):Dv (e::E) V=Dv E V:=by
 unfold Dv;rw[kg h]
theorem yy {e:Nat×Nat} {E:List (Nat×Nat)} {l1 l2:List (Nat->Int)} {w:Nat->Int} (hw:dl e w*dl e w=1) (h1:∀u∈l1,dl e u=0) (h2:∀u∈l2,dl e u=0):Dv (e::E) (l1++w::l2)=Dv E (l1++w::l2)+Dv E (l1++l2):=by
 unfold Dv;simp only[aX,aM];rw[kg h1,kg h2,Jh (x:=Fm (e::E) w) (r:=Fm E w) (s:=dl e) (t:=dl e w) (fun c _=>by simp only[Fm];grind),d4g h1 h2 (by simp)]
 grind
theorem d7B {e:Nat×Nat} {E:List (Nat×Nat)} {l1 l2 l3:List (Nat->Int)} {u w:Nat->Int} (hw:dl e w*dl e w=1) (hu:dl e u+dl e w=0) (h1:∀u∈l1,dl e u=0) (h2:∀u∈l2,dl e u=0) (h3:∀u∈l3,dl e u=0):
  Dv (e::E) (l1++u::(l2++w::l3))=Dv E (l1++u::(l2++w::l3))+Dv E (l1++Ji u w::(l2++l3)):=by
 have hm:∀E',Dv E' (l1++Ji u w::(l2++w::l3))=Dv E' (l1++u::(l2++w::l3)):=fun E'=>by
  unfold Dv;rw[d4f (fun r hr=>by obtain⟨v,_,rfl⟩:=aH.1 hr;exact NP E' v u w)];simp only[aX,aM];exact yw (t:=1) (fun c _=>by rw[NQ];omega) _ _ _
 rw[<-hm,<-hm];have h:=yy (E:=E) (l1:=l1++Ji u w::l2) (l2:=l3) hw (fun v hv=>by
  rcases aV.1 hv with hv|hv
  ·exact h1 v hv
  ·rcases aL.1 hv with rfl|hv
   ·rw[kf];exact hu
   ·exact h2 v hv) h3
 simpa using h
theorem d4i {e:Nat×Nat} {E:List (Nat×Nat)} {l1 l2 l3:List (Nat->Int)} {u w:Nat->Int} (hw:dl e w*dl e w=1) (hu:dl e u+dl e w=0) (h1:∀u∈l1,dl e u=0) (h2:∀u∈l2,dl e u=0) (h3:∀u∈l3,dl e u=0):
  Dv (e::E) (l1++w::(l2++u::l3))=Dv E (l1++w::(l2++u::l3))+Dv E (l1++(l2++Ji u w::l3)):=by
 have hm:∀E',Dv E' (l1++w::(l2++Ji u w::l3))=Dv E' (l1++w::(l2++u::l3)):=fun E'=>by
  unfold Dv;rw[c8c (fun r hr=>by obtain⟨v,_,rfl⟩:=aH.1 hr;exact NP E' v u w)];simp only[aX,aM];exact NC (t:=1) (fun c _=>by rw[NQ];omega) _ _ _
 rw[<-hm,<-hm];exact yy (E:=E) (l1:=l1) (l2:=l2++Ji u w::l3) hw h1 (fun v hv=>by
  rcases aV.1 hv with hv|hv
  ·exact h2 v hv
  ·rcases aL.1 hv with rfl|hv
   ·rw[kf];exact hu
   ·exact h3 v hv)
def cv (lab:Nat->Nat) (x:Nat):Nat->Int:=fun a=>if lab a=x then 1 else 0
def mg (lab:Nat->Nat) (q p:Nat):Nat->Nat:=fun a=>if lab a=q then p else lab a
def Dg (E:List (Nat×Nat)) (lab:Nat->Nat) (V:List Nat):Int:=Dv E (V.map (cv lab))
theorem Pv (e:Nat×Nat) (lab:Nat->Nat) (x:Nat):dl e (cv lab x)=(if lab e.1=x then 1 else 0)-(if lab e.2=x then 1 else 0):=rfl
theorem d7C {e:Nat×Nat} {lab:Nat->Nat} {x:Nat} (h1:lab e.1≠x) (h2:lab e.2≠x):dl e (cv lab x)=0:=by rw[Pv,if_neg h1,if_neg h2];rfl
theorem c8d {lab:Nat->Nat} {q p x:Nat} (h1:x≠p) (h2:x≠q):cv (mg lab q p) x=cv lab x:=funext fun a=>by
 unfold cv mg;by_cases h:lab a=q
 ·rw[if_pos h,if_neg (fun hh=>h1 hh.symm),if_neg (by rw[h];exact fun hh=>h2 hh.symm)]
 ·rw[if_neg h]
theorem NT {lab:Nat->Nat} {q p:Nat} (h:p≠q):cv (mg lab q p) p=Ji (cv lab p) (cv lab q):=funext fun a=>by
 show(if mg lab q p a=p then(1:Int)else 0)=(if lab a=p then 1 else 0)+(if lab a=q then 1 else 0);unfold mg;by_cases h1:lab a=q
 ·rw[if_pos h1,if_pos rfl,if_neg (by rw[h1];exact fun hh=>h hh.symm),if_pos h1];rfl
 ·rw[if_neg h1,if_neg h1];omega
theorem Nb {lab:Nat->Nat} {q p:Nat} {l:List Nat} (h1:p∉l) (h2:q∉l):l.map (cv (mg lab q p))=l.map (cv lab):=jR fun x hx=>c8d (fun hh=>h1 (hh ▸ hx)) (fun hh=>h2 (hh ▸ hx))
theorem yz {e:Nat×Nat} {lab:Nat->Nat} {l:List Nat} (h1:lab e.1∉l) (h2:lab e.2∉l):∀u∈l.map (cv lab),dl e u=0:=fun u hu=>by
 obtain⟨x,hx,rfl⟩:=aH.1 hu;exact d7C (fun hh=>h1 (hh ▸ hx)) (fun hh=>h2 (hh ▸ hx))
section
variable {e:Nat×Nat} {E:List (Nat×Nat)} {lab:Nat->Nat} {V l1 l2 l3:List Nat} {p q:Nat}
theorem zc (h:lab e.1=lab e.2):Dg (e::E) lab V=Dg E lab V:=NS fun u hu=>by
 obtain⟨x,hx,rfl⟩:=aH.1 hu;rw[Pv,h];omega
theorem zd (h1:lab e.1∉V) (h2:lab e.2∉V):Dg (e::E) lab V=Dg E lab V:=NS (yz h1 h2)
def Ends (lab:Nat->Nat) (e:Nat×Nat) (p q:Nat):Prop:=p≠q/\(lab e.1=p/\lab e.2=q\/lab e.1=q/\lab e.2=p)
theorem Ends.sym (h:Ends lab e p q):Ends lab e q p:=⟨fun hh=>h.1 hh.symm,h.2.symm⟩
theorem Ends.off (h:Ends lab e p q) {l:List Nat} (h1:p∉l) (h2:q∉l):∀u∈l.map (cv lab),dl e u=0:=by
 rcases h.2 with⟨a,b⟩|⟨a,b⟩
 ·exact yz (by rw[a];exact h1) (by rw[b];exact h2)
 ·exact yz (by rw[a];exact h2) (by rw[b];exact h1)
theorem Ends.sq (h:Ends lab e p q):dl e (cv lab p)*dl e (cv lab p)=1/\dl e (cv lab q)+dl e (cv lab p)=0:=by
 rw[Pv,Pv];rcases h.2 with⟨a,b⟩|⟨a,b⟩
 ·rw[a,b,if_pos rfl,if_neg fun hh=>h.1 hh.symm,if_neg h.1,if_pos rfl];decide
 ·rw[a,b,if_pos rfl,if_neg fun hh=>h.1 hh.symm,if_neg h.1,if_pos rfl];decide
theorem d7E (h:Ends lab e p q) (uP:p∉l1) (rE:p∉l2) (uS:q∉l1) (xQ:q∉l2):Dg (e::E) lab (l1++p::l2)=Dg E lab (l1++p::l2)+Dg E (mg lab p q) (l1++l2):=by
 unfold Dg;simp only[aX,aM];rw[yy h.sq.1 (h.off uP uS) (h.off rE xQ),Nb uS uP,Nb xQ rE]
theorem d7F (h:Ends lab e p q) (uP:p∉l1) (rE:p∉l2) (hp3:p∉l3) (uS:q∉l1) (xQ:q∉l2) (yK:q∉l3):Dg (e::E) lab (l1++p::(l2++q::l3))=Dg E lab (l1++p::(l2++q::l3))+Dg E (mg lab q p) (l1++p::(l2++l3)):=by
 unfold Dg;simp only[aX,aM];rw[d7B h.sym.sq.1 (by have:=h.sq.2;omega) (h.off uP uS) (h.off rE xQ) (h.off hp3 yK),Nb uP uS,Nb rE xQ,Nb hp3 yK,NT h.1]
theorem d4j (h:Ends lab e p q) (uP:p∉l1) (rE:p∉l2) (hp3:p∉l3) (uS:q∉l1) (xQ:q∉l2) (yK:q∉l3):Dg (e::E) lab (l1++q::(l2++p::l3))=Dg E lab (l1++q::(l2++p::l3))+Dg E (mg lab q p) (l1++(l2++p::l3)):=by
 unfold Dg;simp only[aX,aM];rw[d4i h.sym.sq.1 (by have:=h.sq.2;omega) (h.off uP uS) (h.off rE xQ) (h.off hp3 yK),Nb uP uS,Nb rE xQ,Nb hp3 yK,NT h.1]
end
end Go.GS
/- Laplacians of graphs: an edge's two ways, no negative corner, a corner that is 0, bounds. -/
namespace Go.GS
def En (V:List Nat) (q:Nat):List Nat:=V.filter (fun x=>x !=q)
theorem kh {V:List Nat} {q:Nat} (h:q∉V):En V q=V:=List.filter_eq_self.2 fun x hx=>by simp;exact fun hh=>h (hh ▸ hx)
theorem ze (l m:List Nat) (q:Nat):En (l++m) q=En l q++En m q:=List.filter_append ..
theorem d4k (l:List Nat) (q:Nat):En (q::l) q=En l q:=by unfold En;simp
theorem d7G (V:List Nat) (q:Nat):En V.reverse q=(En V q).reverse:=by unfold En;rw[List.filter_reverse]
theorem Zy {V:List Nat} {q:Nat} (h:V.Nodup):(En V q).Nodup:=h.filter _
section
variable {e:Nat×Nat} {E:List (Nat×Nat)} {lab:Nat->Nat} {V l:List Nat} {p q:Nat}
theorem Vx (h:Ends lab e p q) (hq:q∈V) (hn:V.Nodup):Dg (e::E) lab V=Dg E lab V+Dg E (mg lab q p) (En V q):=by
 obtain⟨l1,l2,rfl⟩:=iM hq;rw[eO]at hn;obtain⟨n1,n2,n3⟩:=hn;rw[dF]at n2;have uS:q∉l1:=fun hh=>n3 q hh q (by simp) rfl;have hw:En (l1++q::l2) q=l1++l2:=by rw[ze,d4k,kh uS,kh n2.1]
 rw[hw];by_cases uP:p∈l1
 ·obtain⟨m1,m2,rfl⟩:=iM uP;rw[eO,dF]at n1;obtain⟨_,⟨a2,_⟩,a3⟩:=n1;have:=d7F (E:=E) (l1:=m1) (l2:=m2) (l3:=l2) h (fun hh=>a3 p hh p (by simp) rfl) a2 (fun hh=>n3 p (by simp) p (by simp[hh]) rfl) (fun hh=>uS (by simp[hh])) (fun hh=>uS (by simp[hh])) n2.1;simpa using this
 ·by_cases rE:p∈l2
  ·obtain⟨m1,m2,rfl⟩:=iM rE;have n4:=n2.2;rw[eO,dF]at n4;obtain⟨_,⟨a2,_⟩,a3⟩:=n4;have:=d4j (E:=E) (l1:=l1) (l2:=m1) (l3:=m2) h uP (fun hh=>a3 p hh p (by simp) rfl) a2 uS (fun hh=>n2.1 (by simp[hh])) (fun hh=>n2.1 (by simp[hh]));simpa using this
  ·exact d7E h.sym uS n2.1 uP rE
theorem Vy (h:lab e.1≠lab e.2):Ends lab e (lab e.1) (lab e.2):=⟨h,.inl ⟨rfl,rfl⟩⟩
theorem d4l {C:Type} {cs:List C} {x:C->Int} (h:∀c∈cs,x c=0) (l1 l2:List (C->Int)):dt cs (l1++x::l2)=0:=by
 have h0:=Jh (x:=x) (r:=x) (s:=x) (t:=1) (cs:=cs) (fun c hc=>by rw[h c hc];rfl) l1 l2;omega
theorem zf (lab:Nat->Nat) (V:List Nat):Dg [] lab V=if V=[]then 1 else 0:=by
 cases V with
 |nil=>rfl
 |cons x V=>
  rw[if_neg (by simp)];exact d4l (x:=Fm [] (cv lab x)) (fun _ _=>rfl) [] _
theorem Nc:∀(E:List (Nat×Nat)) (lab:Nat->Nat) (V:List Nat),V.Nodup->0<=Dg E lab V
 |[],lab,V,_=>by rw[zf];split<;>omega
 |e::E,lab,V,h=>by
  by_cases h1:lab e.1=lab e.2
  ·rw[zc h1];exact Nc E lab V h
  ·by_cases h2:lab e.2∈V
   ·rw[Vx (Vy h1) h2 h];have a:=Nc E lab V h;have b:=Nc E (mg lab (lab e.2) (lab e.1)) _ (Zy (q:=lab e.2) h);omega
   ·by_cases h3:lab e.1∈V
    ·rw[Vx (Vy h1).sym h3 h];have a:=Nc E lab V h;have b:=Nc E (mg lab (lab e.1) (lab e.2)) _ (Zy (q:=lab e.1) h);omega
    ·rw[zd h3 h2];exact Nc E lab V h
theorem d7H (hp:p∉V) (hq:q∉V):Dg E (mg lab q p) V=Dg E lab V:=by unfold Dg;rw[Nb hp hq]
theorem c8e {l V:List Nat} (h:(l++V).Nodup):V.Nodup:=(eO.1 h).2.1
theorem Vz:∀(E:List (Nat×Nat)) (lab:Nat->Nat) (l V:List Nat),(l++V).Nodup->Dg E lab V=0->Dg E lab (l++V)=0
 |[],lab,l,V,_,h=>by
  rw[zf]at h⊢;rw[if_neg];intro hh;rw[if_pos (by simpa using(List.append_eq_nil_iff.1 hh).2)]at h;omega
 |e::E,lab,l,V,hn,h=>by
  have hv:=c8e hn;by_cases h1:lab e.1=lab e.2
  ·rw[zc h1]at h⊢;exact Vz E lab l V hn h
  ·--q in V
   have key:∀p q,Ends lab e p q->q∈V->Dg (e::E) lab (l++V)=0:=fun p q he hq=>by
    rw[Vx he hq hv]at h;have a:=Nc E lab V hv;have b:=Nc E (mg lab q p) _ (Zy (q:=q) hv);have hql:q∉l:=fun hh=>(eO.1 hn).2.2 q hh q hq rfl;have hw:En (l++V) q=l++En V q:=by rw[ze,kh hql]
    rw[Vx he (by simp[hq]) hn,Vz E lab l V hn (by omega),hw,Vz E _ l _ (by rw[<-hw];exact Zy hn) (by omega)];rfl
   by_cases h2:lab e.2∈V
   ·exact key _ _ (Vy h1) h2
   ·by_cases h3:lab e.1∈V
    ·exact key _ _ (Vy h1).sym h3
    ·rw[zd h3 h2]at h;have i1:=Vz E lab l V hn h;have key2:∀p q,Ends lab e p q->q∈l->q∉V->p∉V->Dg (e::E) lab (l++V)=0:=fun p q he hq hqV hpV=>by
      have hw:En (l++V) q=En l q++V:=by rw[ze,kh hqV]
      rw[Vx he (by simp[hq]) hn,i1,hw,Vz E _ _ V (by rw[<-hw];exact Zy hn) (by rw[d7H hpV hqV];exact h)];rfl
     by_cases h4:lab e.2∈l
     ·exact key2 _ _ (Vy h1) h4 h2 h3
     ·by_cases h5:lab e.1∈l
      ·exact key2 _ _ (Vy h1).sym h5 h3 h2
      ·rw[zd (by simp[h3,h5]) (by simp[h2,h4])];exact i1
theorem zh (lab:Nat->Nat) (x:Nat):∀E:List (Nat×Nat),Fm (E.filter fun e=>lab e.1 !=lab e.2) (cv lab x)=Fm E (cv lab x)
 |[]=>rfl
 |e::E=>by
  by_cases h:lab e.1=lab e.2
  ·rw[fC (by simp[h]),zh lab x E];refine(NR ?_).symm;rw[Pv,h];omega
  ·rw[lF (by simp[h])];funext v;simp only[Fm];rw[zh lab x E]
theorem c3E (E:List (Nat×Nat)) (lab:Nat->Nat) (V:List Nat):Dg (E.filter fun e=>lab e.1 !=lab e.2) lab V=Dg E lab V:=by
 unfold Dg Dv;rw[cC,cC];congr 1;exact jR fun x _=>zh lab x E
end
theorem NU {C:Type} {c:C} {d:List (C->Int)->Int} {B K:Nat}:∀(l pre:List (C->Int)),(∀r∈l,(r c).natAbs<=B)->(∀p s:List (C->Int),∀x,pre++l=p++x::s->(d (p++s)).natAbs<=K)->(dx c d pre l).natAbs<=l.length*(B*K)
 |[],pre,_,_=>by simp[dx]
 |x::l,pre,h,hd=>by
  simp only[dx,bA];have h1:=NU l (pre++[x]) (fun r hr=>h r (by simp[hr])) (fun p s y hy=>hd p s y (by simpa using hy));have h2:=hd pre l x rfl;have h3:(x c*d (pre++l)).natAbs<=B*K:=by rw[iC];exact cI (h x (by simp)) h2
  rw[Nat.succ_mul];omega
theorem zi {C:Type} {B:Nat}:∀(cs:List C) (l:List (C->Int)) (m:Nat),l.length<=m->(∀r∈l,∀c∈cs,(r c).natAbs<=B)->(dt cs l).natAbs<=(m*B)^cs.length
 |[],[],_,_,_=>by simp[dt]
 |[],_::_,_,_,_=>by simp[dt]
 |c::cs,l,m,hl,h=>by
  have h1:=NU (c:=c) (d:=dt cs) (B:=B) (K:=(m*B)^cs.length) l [] (fun r hr=>h r hr c (by simp)) fun p s x hx=>by
   simp only[bV]at hx;refine zi cs (p++s) m ?_ fun r hr e he=>h r ?_ e (by simp[he])
   ·rw[hx]at hl;simp at hl⊢;omega
   ·rw[hx];simp at hr⊢;rcases hr with hr|hr<;>simp[hr]
  refine aS h1 ?_;rw[bA,Nat.pow_succ,<-Nat.mul_assoc,Nat.mul_comm ((m*B)^cs.length)];exact dX _ (dX _ hl)
theorem NV (e:Nat×Nat) (lab:Nat->Nat) (x:Nat):(dl e (cv lab x)).natAbs<=1:=by
 rw[Pv];split<;>split<;>decide
theorem NW (lab:Nat->Nat) (x y:Nat):∀E:List (Nat×Nat),(Fm E (cv lab x) (cv lab y)).natAbs<=E.length
 |[]=>by simp[Fm]
 |e::E=>by
  simp only[Fm,bA];have h1:=NW lab x y E;have h2:(dl e (cv lab x)*dl e (cv lab y)).natAbs<=1:=by rw[iC];exact aS (cI (NV e lab x) (NV e lab y)) (by decide)
  omega
end Go.GS
/- Spanning trees by determinants: each edge's two ways, and the tree of a number. -/
namespace Go.GS
def lst (set:Nat):Nat:=(els set).headD 64
def Fp (set:Nat) (f:Nat->Nat):List Nat:=(bL 64).filter fun x=>bit set x&&decide (f x=x)&&decide (x≠f (lst set))
def KK (E:List (Nat×Nat)) (set:Nat) (f:Nat->Nat):Int:=Dg E f (Fp set f).reverse
theorem NX (set:Nat) (f:Nat->Nat):(Fp set f).Nodup:=fJ.filter _
theorem NY (set:Nat) (f:Nat->Nat):(Fp set f).reverse.Nodup:=by unfold List.Nodup;rw[List.pairwise_reverse];exact(NX set f).imp fun h hh=>h hh.symm
theorem d4m {set x:Nat} {f:Nat->Nat} (hs:set<M64):x∈Fp set f↔bit set x=true/\f x=x/\x≠f (lst set):=by
 unfold Fp;rw[List.mem_filter,cK];simp only[aF,decide_eq_true_eq];exact⟨fun h=>⟨h.2.1.1,h.2.1.2,h.2.2⟩,fun h=>⟨Db hs h.1,⟨h.1,h.2.1⟩,h.2.2⟩⟩
theorem NZ (E:List (Nat×Nat)) (set:Nat) (f:Nat->Nat):0<=KK E set f:=Nc E f _ (NY set f)
theorem km {set x:Nat} (hs:set<M64) (hx:bit set x=true):lst set<=x:=by
 have h0:set≠0:=fun h=>by rw[h]at hx;simp[bit]at hx
 obtain⟨y,r,he,hy,_,hl⟩:=Je hs h0;unfold lst;rw[he];show y<=x;rcases Nat.lt_or_ge x y with h|h
 ·rw[hl x h]at hx;cases hx
 ·exact h
theorem b9s {f:Nat->Nat} (h:Lb f) {e:Nat×Nat} (pT:f e.1≠f e.2) (y:Nat):Bc f e y=y↔f y=y/\y≠max (f e.1) (f e.2):=by
 unfold Bc;have ha:=h.idm e.1;have hb:=h.idm e.2;generalize f e.1=a at*;generalize f e.2=b at*;constructor
 ·intro hj;split at hj
  ·rename_i xX;exfalso;rcases fL a b with hh|hh
   ·rw[cD hh]at hj;rw[eT hh,<-hj,ha]at xX;exact pT xX
   ·rw[fU hh]at hj;rw[eX hh,<-hj,hb]at xX;exact pT xX.symm
  ·rename_i xX;exact⟨hj,fun e2=>xX (by rw[hj,e2])⟩
 ·rintro⟨h3,h4⟩;rw[if_neg (by rw[h3];exact h4)];exact h3
section
variable {set:Nat} {f:Nat->Nat} {e:Nat×Nat} {E:List (Nat×Nat)}
theorem d4n (h:Lb f) (hs:set<M64) (h1:bit set (f e.1)=true) (h2:bit set (f e.2)=true) (hl:bit set (lst set)=true) (pT:f e.1≠f e.2):max (f e.1) (f e.2)∈Fp set f:=by
 rw[d4m hs];have ha:=h.idm e.1;have hb:=h.idm e.2;have l0:=h.le (lst set);have l1:=km hs h1;have l2:=km hs h2;generalize f e.1=a at*;generalize f e.2=b at*;rcases fL a b with hh|hh
 ·rw[eT hh];exact⟨h2,hb,by omega⟩
 ·rw[eX hh];exact⟨h1,ha,by omega⟩
theorem c8f (h:Lb f) (hs:set<M64) (h1:bit set (f e.1)=true) (h2:bit set (f e.2)=true) (pT:f e.1≠f e.2):Fp set (Bc f e)=En (Fp set f) (max (f e.1) (f e.2)):=by
 unfold Fp En;rw[List.filter_filter];refine List.filter_congr fun x _=> ?_;have hm:Bc f e (lst set)=f (lst set):=by
  unfold Bc;rw[if_neg];intro hh;have l0:=h.le (lst set);have l1:=km hs h1;have l2:=km hs h2;omega
 rw[hm];have:=b9s h pT x;rw[Bool.eq_iff_iff];simp only[aF,decide_eq_true_eq,bne_iff_ne,this];exact⟨fun h=>⟨h.1.2.2,⟨h.1.1,h.1.2.1⟩,h.2⟩,fun h=>⟨⟨h.2.1.1,h.2.1.2,h.1⟩,h.2.2⟩⟩
theorem d7J (h:Lb f) (hs:set<M64) (h1:bit set (f e.1)=true) (h2:bit set (f e.2)=true) (hl:bit set (lst set)=true) (pT:f e.1≠f e.2):KK (e::E) set f=KK E set f+KK E set (Bc f e):=by
 have he:Ends f e (min (f e.1) (f e.2)) (max (f e.1) (f e.2)):=by
  refine⟨by omega,?_⟩;rcases fL (f e.1) (f e.2)with hh|hh
  ·rw[eT hh,cD hh];exact .inl ⟨rfl,rfl⟩
  ·rw[eX hh,fU hh];exact .inr ⟨rfl,rfl⟩
 have:=Vx (E:=E) he (List.mem_reverse.2 (d4n h hs h1 h2 hl pT)) (NY set f);unfold KK;rw[this,d7G,<-c8f h hs h1 h2 pT];rfl
theorem d4o (h:f e.1=f e.2):KK (e::E) set f=KK E set f:=zc h
theorem c3G (E:List (Nat×Nat)) (set:Nat) (f:Nat->Nat):KK (E.filter fun e=>f e.1 !=f e.2) set f=KK E set f:=c3E ..
end
theorem d4p {set:Nat} {f:Nat->Nat} (h:Lb f) (hs:set<M64) (h0:set≠0) (pY:∀x,bit set x=true->bit set (f x)=true):cnt f set=(Fp set f).length+1:=by
 obtain⟨x,r,he,hx,_,_⟩:=Je hs h0;have hl:lst set=x:=by unfold lst;rw[he];rfl
 have hr:=pY x hx;have:=LK (p:=fun x=>bit set x&&decide (f x=x)) (q:=fun x=>bit set x&&decide (f x=x)&&decide (x≠f (lst set))) (x:=f x) (by simp[hr,h.idm]) (fun y=>by rw[hl]) (bL 64) (cK.2 (Db hs hr)) fJ;unfold cnt Fp;omega
theorem OA {set:Nat} {f:Nat->Nat} (h:Lb f) (hs:set<M64) (h0:set≠0) (pY:∀x,bit set x=true->bit set (f x)=true):KK [] set f=if cnt f set=1 then 1 else 0:=by
 unfold KK;rw[zf];have:=d4p h hs h0 pY;by_cases hc:Fp set f=[]
 ·rw[if_pos (by rw[hc];rfl),if_pos (by rw[this,hc];rfl)]
 ·rw[if_neg (by simpa using hc),if_neg];intro hh;exact hc (List.eq_nil_of_length_eq_zero (by omega))
def inE (es:List (Nat×Nat)) (set j:Nat):List (Nat×Nat):=(es.drop j).filter (inB set)
theorem d4q {es:List (Nat×Nat)} {set j:Nat} {e:Nat×Nat} (h:es[j]? =some e) (hb:inB set e=true):inE es set j=e::inE es set (j+1):=by
 obtain⟨hj,rfl⟩:=aC.1 h;unfold inE;rw[dI hj,lF hb]
theorem d7K {es:List (Nat×Nat)} {set j:Nat} {e:Nat×Nat} (h:es[j]? =some e) (hb:inB set e=false):inE es set j=inE es set (j+1):=by
 obtain⟨hj,rfl⟩:=aC.1 h;unfold inE;rw[dI hj,fC (by rw[hb];simp)]
theorem OB {es:List (Nat×Nat)} {set j:Nat} (h:es.length<=j):inE es set j=[]:=by
 unfold inE;rw[List.drop_eq_nil_of_le h];rfl
def trN (es:List (Nat×Nat)) (set:Nat) (t:List Int) (j:Nat):Int:=KK (inE es set j) set (lab (etl es t))
def trH (es:List (Nat×Nat)) (set:Nat) (t:List Int) (j:Nat):Int:=if lab (etl es t) (Ed es (j:Nat)).1=lab (etl es t) (Ed es (j:Nat)).2 then 0 else trN es set (t++[(j:Int)]) (j+1)
section
variable {es:List (Nat×Nat)} {set j:Nat} {t:List Int}
theorem OC:0<=trN es set t j:=NZ _ _ _
theorem d7L:0<=trH es set t j:=by unfold trH;split;exact Int.le_refl 0;exact OC
theorem OD {e:Nat×Nat} (h:es[j]? =some e) (hb:inB set e=false):trN es set t j=trN es set t (j+1):=by
 unfold trN;rw[d7K h hb]
theorem Nh (hs:set<M64) (h0:set≠0):bit set (lst set)=true:=by
 obtain⟨x,r,he,hx,_,_⟩:=Je hs h0;unfold lst;rw[he];exact hx
theorem OF (hs:set<M64) (h0:set≠0) (pY:Inn set (etl es t)) (hj:j<es.length) (hb:inB set (Ed es (j:Nat))=true):trN es set t j=trN es set t (j+1)+trH es set t j:=by
 have he:=Fo hj;have rI:=hb;unfold inB at rI;simp only[aF]at rI;unfold trH;unfold trN;rw[d4q he hb];by_cases hl:lab (etl es t) (Ed es (j:Nat)).1=lab (etl es t) (Ed es (j:Nat)).2
 ·rw[if_pos hl,d4o hl];omega
 ·rw[if_neg hl,d7J (Lb.lab _) hs (Ib pY _ rI.1) (Ib pY _ rI.2) (Nh hs h0) hl,Pn,Pi]
theorem Beg.add {t:List Int} (h:Beg es set t) (pO:∀i∈t,i<(j:Int)) (hj:j<es.length) (hb:inB set (Ed es (j:Nat))=true) (hl:lab (etl es t) (Ed es (j:Nat)).1≠lab (etl es t) (Ed es (j:Nat)).2):Beg es set (t++[(j:Int)]):=by
 unfold inB at hb;simp only[aF]at hb;refine⟨yp h.asc pO,?_,?_⟩
 ·intro i hi;rw[aV,aQ]at hi;rcases hi with hi|rfl
  ·exact h.ok i hi
  ·exact⟨by omega,by omega,hb⟩
 ·rw[Pn,List.length_append];exact h.acy.snoc hl
theorem ko (hs:set<M64) (h0:set≠0):∀(k j:Nat) (t:List Int),es.length-j=k->Beg es set t->(∀i∈t,i<(j:Int))->Spn es set t j->0<trN es set t j
 |k,j,t,hk,hb,pO,h=>by
  by_cases hj:j<es.length
  ·cases hi:inB set (Ed es (j:Nat))with
   |false=>
    rw[OD (Fo hj) hi];exact ko hs h0 (es.length-(j+1)) (j+1) t rfl hb (fun i hi=>by have:=pO i hi;omega) (h.skip (Fo hj) hi)
   |true=>
    rw[OF hs h0 hb.inn hj hi];have pW:=hi;unfold inB at pW;simp only[aF]at pW;by_cases hl:lab (etl es t) (Ed es (j:Nat)).1=lab (etl es t) (Ed es (j:Nat)).2
    ·have:=ko hs h0 (es.length-(j+1)) (j+1) t rfl hb (fun i hi=>by have:=pO i hi;omega) (h.cyc (Fo hj) ((Pj hb.inn pW.1 pW.2).1 hl));have h2:0<=trH es set t j:=d7L;omega
    ·have:=ko hs h0 (es.length-(j+1)) (j+1) (t++[(j:Int)]) rfl (hb.add pO hj hi hl) (fun i hi=>by
      rcases aV.1 hi with hi|hi
      ·have:=pO i hi;omega
      ·rw[aQ]at hi;omega) (h.take hj)
     have h2:0<=trN es set t (j+1):=OC;have h3:trH es set t j=trN es set (t++[(j:Int)]) (j+1):=if_neg hl;omega
  ·have hl:=h.end hs h0 (by omega) hb.inn hb.acy;unfold trN;rw[OB (by omega),OA (Lb.lab _) hs h0 (Ib hb.inn)];have h3:=Vo hs hb.inn (etl es t).length (aN _);rw[List.take_length,(Zr _ (aN _)).2 hb.acy]at h3;rw[if_pos (by omega)];decide
 termination_by k=>k
 decreasing_by all_goals omega
end
end Go.GS

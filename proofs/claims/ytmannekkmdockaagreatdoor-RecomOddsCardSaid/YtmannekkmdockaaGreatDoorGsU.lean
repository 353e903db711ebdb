/- Lemmas: chapter 32. -/
import Derived.Test.YtmannekkmdockaaGreatDoorGsQ
open Int renaming natAbs_mul->iY
open List renaming append_of_mem->jH,getElem?_mapIdx->mR,idxOf_append->nP,nodup_cons->eZ,range->eP,range_succ->iL
open List.Nodup renaming idxOf_getElem->pB,length_le_of_subset->jP
namespace Go.GS
def Fb:List Int->List Int->List Int
 |_,[]=>[]
 |F,x::r=>if x∈F then((F.idxOf x:Nat):Int)::Fb F r else((F.length:Nat):Int)::Fb (F++[x]) r
def j6 (p:List Int):List Int:=Fb [] p
def Dz:List Int->List Int->List Int
 |F,[]=>F
 |F,x::r=>if x∈F then Dz F r else Dz (F++[x]) r
theorem mj:∀(r F:List Int),∃s,Dz F r=F++s
 |[],F=>⟨[],by simp[Dz]⟩
 |x::r,F=>by
  simp only[Dz];split
  ·exact mj r F
  ·obtain⟨s,h⟩:=mj r (F++[x]);exact⟨x::s,by rw[h];simp⟩
theorem Kv:∀(r F:List Int) (y:Int),y∈Dz F r↔y∈F\/y∈r
 |[],F,y=>by simp[Dz]
 |x::r,F,y=>by
  simp only[Dz];split
  ·rename_i hx;rw[Kv r F y];constructor
   ·rintro(h|h)
    ·exact .inl h
    ·exact .inr (by simp[h])
   ·rintro(h|h)
    ·exact .inl h
    ·rcases aP.1 h with rfl|h
     ·exact .inl hx
     ·exact .inr h
  ·rw[Kv r (F++[x]) y];simp only[aQ,aP,bP,or_false,or_assoc]
theorem Zz:∀(r F:List Int),F.Nodup->(Dz F r).Nodup
 |[],F,h=>by simpa[Dz]using h
 |x::r,F,h=>by
  simp only[Dz];split
  ·exact Zz r F h
  ·rename_i hx;refine Zz r (F++[x]) (cQ.2 ⟨h,aD,fun a ha b hb=> ?_⟩);obtain rfl:=aL.1 hb;exact fun e=>hx (e ▸ ha)
theorem AA {F s:List Int} {x:Int} (h:x∈F):(F++s).idxOf x=F.idxOf x:=by
 rw[nP,if_pos h]
theorem AB:∀(r F:List Int),Fb F r=r.map fun x=>(((Dz F r).idxOf x:Nat):Int)
 |[],F=>by simp[Fb]
 |x::r,F=>by
  simp only[Fb,Dz];split
  ·rename_i hx;obtain⟨s,hs⟩:=mj r F;rw[aN,AB r F,hs,AA hx]
  ·rename_i hx;obtain⟨s,hs⟩:=mj r (F++[x]);rw[aN,AB r (F++[x])];congr 1;rw[hs,AA aD,nP,if_neg hx];simp
theorem aa (p:List Int):j6 p=p.map fun x=>(((Dz [] p).idxOf x:Nat):Int):=AB p []
theorem Fe (p:List Int):(j6 p).length=p.length:=by rw[aa,aX]
theorem mask_mem2 {p:List Int} {d:Int}:j0 p d≠0↔d∈p:=by
 constructor
 ·intro h;obtain⟨x,h1,h2⟩:=Zn (a:=0) (b:=j0 p d) (fun e=>h e.symm) (fun y hy=>by rw[Dc]at hy;cases hy);unfold j0 at h1;rw[ll,bA]at h1;exact aG (oDt h1.2)
 ·intro h e;obtain⟨i,hi⟩:=cN.1 h;have pX:=(aH.1 hi).1;have:bit (j0 p d) i=true:=by unfold j0;rw[ll,oDd pX,oDd hi];rfl
  rw[e,Dc]at this;cases this
theorem OB {p:List Int} {k:Nat} (hL:LabOk p (k:Nat)) (hU:Ai p k):(Dz [] p).length=k:=by
 have hn:=Zz p [] dG;have hr:((eP k).map fun i:Nat=>(i:Int)).Nodup:=by
  rw[List.nodup_iff_pairwise_ne,List.pairwise_map];exact(List.nodup_range (n:=k)).imp fun h e=>h aA
 have h1:=jP hn (l₂:=(eP k).map fun i:Nat=>(i:Int)) fun x hx=>by
  have hx:=((Kv p [] x).1 hx).resolve_left aD;have:=hL.1 x hx;exact aY.2 ⟨x.toNat,bR.2 aA,aA⟩
 have h2:=jP hr (l₂:=Dz [] p) fun x hx=>by
  obtain⟨d,hd,rfl⟩:=aY.1 hx;exact(Kv p [] _).2 (.inr (mask_mem2.1 (hU d (bR.1 hd))))
 rw[aX,List.length_range]at h1 h2;omega
theorem ab {p:List Int} {k:Nat} (hL:LabOk p (k:Nat)) (hU:Ai p k):LabOk (j6 p) (k:Nat):=by
 refine⟨fun x hx=> ?_,by rw[Fe];exact hL.2.1,by rw[Fe];exact hL.2.2⟩;rw[aa]at hx;obtain⟨y,hy,rfl⟩:=aY.1 hx;have:=List.idxOf_lt_length_of_mem ((Kv p [] y).2 (.inr hy));rw[OB hL hU]at this;omega
theorem ml {p:List Int} {k:Nat} (hL:LabOk p (k:Nat)) (hU:Ai p k):Ai (j6 p) k:=fun d hd=>by
 rw[mask_mem2,aa];have hl:=OB hL hU;have qZ:d<(Dz [] p).length:=aA;refine aY.2 ⟨(Dz [] p)[d],((Kv p [] _).1 (dS qZ)).resolve_left aD,?_⟩;rw[pB (Zz p [] dG) d qZ]
def rcV (i k:Int) (a m:Nat) (x:Int):Int:=if x=i\/x=k then(if bit a m=true then i else k)else x
def Ax (p:List Int) (i k:Int) (a:Nat):List Int:=p.mapIdx fun m x=>rcV i k a m x
theorem ac {p:List Int} {i k:Int} {a m:Nat} {x:Int} (h:p[m]? =some x):(Ax p i k a)[m]? =some (rcV i k a m x):=by
 unfold Ax;rw[mR,h];rfl
theorem Ir (p:List Int) (i k:Int) (a:Nat):(Ax p i k a).length=p.length:=by unfold Ax;rw[List.length_mapIdx]
theorem mn {p:List Int} {i k:Int} {a:Nat} {m:Int} (hL:LabOk p m) (hi:0<=i/\i<m) (hk:0<=k/\k<m):LabOk (Ax p i k a) m:=by
 refine⟨fun x hx=> ?_,by rw[Ir];exact hL.2.1,by rw[Ir];exact hL.2.2⟩;obtain⟨j,hj⟩:=cN.1 hx;unfold Ax at hj;rw[mR]at hj;obtain⟨y,hy,rfl⟩:=Option.map_eq_some_iff.1 hj;unfold rcV;split
 ·split
  ·exact hi
  ·exact hk
 ·exact hL.1 y (aG hy)
def btB (a b:Nat) (e:Nat×Nat):Bool:=bit a e.1&&bit b e.2||bit a e.2&&bit b e.1
def Af (es:List (Nat×Nat)) (a b:Nat):Nat:=(es.filter (btB a b)).length
theorem c4n (es:List (Nat×Nat)) (e:Nat×Nat) (a b:Nat):Af (es++[e]) a b=if btB a b e=true then Af es a b+1 else Af es a b:=by
 unfold Af;rw[dP,List.filter_cons,List.filter_nil];split
 ·simp
 ·simp
def Gq (i j:Nat):List (Nat×Nat):=(eP (j-(i+1))).map fun d=>(i,i+1+d)
def prI (k i:Nat):List (Nat×Nat):=(eP i).flatMap fun a=>Gq a k
def i0 (k:Nat):List (Nat×Nat):=prI k k
theorem AC (k i:Nat):prI k (i+1)=prI k i++Gq i k:=by unfold prI;rw[iL,List.flatMap_append];simp
theorem OC {i j:Nat} (h:i+1<=j):Gq i (j+1)=Gq i j++[(i,j)]:=by
 unfold Gq;rw[show j+1-(i+1)=(j-(i+1))+1 by omega,iL,aT,aN,bJ,show i+1+(j-(i+1))=j by omega]
theorem OD (i:Nat):Gq i (i+1)=[]:=by unfold Gq;rw[Nat.sub_self];rfl
theorem AD (i j:Nat):(Gq i j).length=j-(i+1):=by simp[Gq]
theorem ae (k:Nat):∀i,(prI k i).length<=i*k
 |0=>by simp[prI]
 |i+1=>by
  rw[AC,aM,AD];have:=ae k i;rw[cK,cM];omega
theorem Su {k:Nat} {e:Nat×Nat} (h:e∈i0 k):e.1<e.2/\e.2<k:=by
 unfold i0 prI Gq at h;obtain⟨a,ha,h⟩:=List.mem_flatMap.1 h;obtain⟨d,hd,rfl⟩:=aY.1 h;rw[bR]at ha hd;simp only;omega
theorem Vq (k:Nat) (h:k<=8):(i0 k).length<=64:=bD (ae k k) (bU h h)
def e1v (q:List Int) (pr:Nat×Nat):Nat:=j0 q (pr.1:Nat)|||j0 q (pr.2:Nat)
section
variable {C:Type}
def dx (c:C) (d:List (C->Int)->Int):List (C->Int)->List (C->Int)->Int
 |_,[]=>0
 |pre,x::l=>x c*d (pre++l)-dx c d (pre++[x]) l
def dt:List C->List (C->Int)->Int
 |[],[]=>1
 |[],_::_=>0
 |c::cs,l=>dx c (dt cs) [] l
theorem d7P {l:List (C->Int)} (h:l≠[]):dt [] l=0:=by
 match l,h with
 |_::_,_=>rfl
theorem mr (l1 l2:List (C->Int)) (x:C->Int):dt [] (l1++x::l2)=0:=d7P aD
theorem d7Q {c:C} {d:List (C->Int)->Int} {x r s:C->Int} {t:Int} (h:x c=r c+t*s c) (hd:∀l1 l2,d (l1++x::l2)=d (l1++r::l2)+t*d (l1++s::l2)):∀(l1 l2 pre:List (C->Int)),dx c d pre (l1++x::l2)=dx c d pre (l1++r::l2)+t*dx c d pre (l1++s::l2):=by
 have hb:∀(l p1 p2:List (C->Int)),dx c d (p1++x::p2) l=dx c d (p1++r::p2) l+t*dx c d (p1++s::p2) l:=fun l=>by
  induction l with
  |nil=>intro p1 p2;simp[dx]
  |cons y l ih=>
   intro p1 p2;simp only[dx];have h1:=hd p1 (p2++l);have h2:=ih p1 (p2++[y]);simp only[bH,cL]at h1 h2⊢;rw[h1,h2]
   grind
 intro l1;induction l1 with
 |nil=>
  intro l2 pre;have h2:=hb l2 pre [];simp only[cB,dx];have h3:=h2;rw[h2,h];have h4:=hd pre l2
  grind
 |cons y l1 ih=>
  intro l2 pre;simp only[cL,dx];have h1:=hd (pre++l1) l2;simp only[bH]at h1;rw[ih l2 (pre++[y]),h1]
  grind
theorem Jo {x r s:C->Int} {t:Int}:∀{cs:List C} (_:∀c∈cs,x c=r c+t*s c) (l1 l2:List (C->Int)),dt cs (l1++x::l2)=dt cs (l1++r::l2)+t*dt cs (l1++s::l2)
 |[],_,l1,l2=>by rw[mr,mr,mr];simp
 |c::cs,h,l1,l2=>d7Q (h c aD) (fun a b=>Jo (fun e he=>h e (by simp[he])) a b) l1 l2 []
theorem c4o {x r:C->Int} {cs:List C} (h:∀c∈cs,x c=r c) (l1 l2:List (C->Int)):dt cs (l1++x::l2)=dt cs (l1++r::l2):=by
 have:=Jo (x:=x) (r:=r) (s:=r) (t:=0) (fun c hc=>by rw[h c hc];simp) l1 l2;simpa using this
theorem d7R {c:C} {d:List (C->Int)->Int} {x y:C->Int} (h:x c=y c) (hd:∀l1 l2,d (l1++x::y::l2)=0) (he:∀l1 l2,d (l1++x::l2)=d (l1++y::l2)):∀(l1 l2 pre:List (C->Int)),dx c d pre (l1++x::y::l2)=0:=by
 have hb:∀(l p1 p2:List (C->Int)),dx c d (p1++x::y::p2) l=0:=fun l=>by
  induction l with
  |nil=>intro p1 p2;simp[dx]
  |cons z l ih=>
   intro p1 p2;simp only[dx];have h1:=hd p1 (p2++l);have h2:=ih p1 (p2++[z]);simp only[bH,cL]at h1 h2⊢;rw[h1,h2];simp
 intro l1;induction l1 with
 |nil=>
  intro l2 pre;have h2:=hb l2 pre [];simp only[cB,dx,bH,cL]at h2⊢;rw[h2,h,he pre l2]
  grind
 |cons z l1 ih=>
  intro l2 pre;simp only[cL,dx];have h1:=hd (pre++l1) l2;simp only[bH]at h1;rw[ih l2 (pre++[z]),h1];simp
theorem af {x y:C->Int}:∀{cs:List C} (_:∀c∈cs,x c=y c) (l1 l2:List (C->Int)),dt cs (l1++x::y::l2)=0
 |[],_,l1,l2=>mr _ _ _
 |c::cs,h,l1,l2=>d7R (h c aD) (fun a b=>af (fun e he=>h e (by simp[he])) a b) (fun a b=>c4o (fun e he=>h e (by simp[he])) a b) l1 l2 []
theorem AE (cs:List C) (x y:C->Int) (l1 l2:List (C->Int)):dt cs (l1++x::y::l2)= -dt cs (l1++y::x::l2):=by
 have hz:∀c∈cs,(fun c=>x c+y c) c=x c+1*y c:=fun c _=>by simp
 have h0:=af (x:=fun c=>x c+y c) (y:=fun c=>x c+y c) (cs:=cs) (fun _ _=>rfl) l1 l2;rw[Jo hz]at h0;have h1:=Jo hz (l1++[x]) l2;have h2:=Jo hz (l1++[y]) l2;simp only[bH,cL,cB]at h1 h2;rw[h1,h2,af (x:=x) (y:=x) (fun _ _=>rfl),af (x:=y) (y:=y) (fun _ _=>rfl)]at h0;omega
theorem my {x y:C->Int} {cs:List C} (h:∀c∈cs,x c=y c) (l3:List (C->Int)):∀(l2 l1:List (C->Int)),dt cs (l1++x::(l2++y::l3))=0
 |[],l1=>af h l1 l3
 |w::l2,l1=>by
  rw[cL,AE];have:=my h l3 l2 (l1++[w]);simp only[bH,cL,cB]at this;rw[this];simp
theorem AG {x y z:C->Int} {t:Int} {cs:List C} (h:∀c∈cs,z c=x c+t*y c) (l1 l2 l3:List (C->Int)):dt cs (l1++z::(l2++y::l3))=dt cs (l1++x::(l2++y::l3)):=by
 rw[Jo h,my (fun _ _=>rfl)];simp
theorem OF {x y z:C->Int} {t:Int} {cs:List C} (h:∀c∈cs,z c=x c+t*y c) (l1 l2 l3:List (C->Int)):dt cs (l1++y::(l2++z::l3))=dt cs (l1++y::(l2++x::l3)):=by
 have h1:=Jo h (l1++y::l2) l3;simp only[bH,cL]at h1;rw[h1,my (fun _ _=>rfl)];simp
def ex (r:C->Int) (l:List (C->Int)):List C->List C->Int
 |_,[]=>0
 |pre,c::cs=>r c*dt (pre++cs) l-ex r l (pre++[c]) cs
theorem OG {c:C} {d e g:List (C->Int)->Int} {t:Int} (h:∀l,g l=t*d l-e l):∀(l pre:List (C->Int)),dx c g pre l=t*dx c d pre l-dx c e pre l
 |[],_=>by simp[dx]
 |x::l,pre=>by
  simp only[dx];rw[OG h l (pre++[x]),h]
  grind
theorem OH {c:C}:∀(l pre:List (C->Int)),dx c (fun _=>0) pre l=0
 |[],_=>rfl
 |x::l,pre=>by simp only[dx];rw[OH l];simp
theorem OJ {c:C} {d:List (C->Int)->Int} (r:C->Int):∀(l pre:List (C->Int)),dx c d (r::pre) l=dx c (fun m=>d (r::m)) pre l
 |[],_=>rfl
 |x::l,pre=>by
  simp only[dx];rw[<-OJ r l (pre++[x])];rfl
theorem OK {c:C} {r:C->Int} (l:List (C->Int)):∀(cs pre:List C),dx c (fun m=>ex r m pre cs) [] l=ex r l (c::pre) cs
 |[],pre=>by simp only[ex];exact OH l []
 |e::cs,pre=>by
  rw[OG (g:=fun m=>ex r m pre (e::cs)) (d:=dt (pre++cs)) (e:=fun m=>ex r m (pre++[e]) cs) (t:=r e) (fun m=>rfl),OK l cs (pre++[e])];rfl
theorem mz (r:C->Int):∀(cs:List C) (l:List (C->Int)),dt cs (r::l)=ex r l [] cs
 |[],_=>rfl
 |c::cs,l=>by
  show dx c (dt cs) [] (r::l)=_;simp only[dx,ex,cB];have h:=OJ (c:=c) (d:=dt cs) r l [];rw[h,show(fun m=>dt cs (r::m))=fun m=>ex r m [] cs from funext fun m=>mz r cs m,OK]
end
theorem OL {R C:Type} (f:R->C->Int) (r:R) (l:List R) (ih:∀cs:List C,dt cs (l.map f)=dt l (cs.map fun c s=>f s c)):∀(cs pre:List C),ex (f r) (l.map f) pre cs=dx r (dt l) (pre.map fun c s=>f s c) (cs.map fun c s=>f s c)
 |[],_=>rfl
 |c::cs,pre=>by
  simp only[ex,aN,dx];rw[ih,OL f r l ih cs (pre++[c]),aT,aT];rfl
theorem OM {R C:Type} (f:R->C->Int):∀(l:List R) (cs:List C),dt cs (l.map f)=dt l (cs.map fun c s=>f s c)
 |[],[]=>rfl
 |[],c::cs=>rfl
 |r::l,cs=>by
  rw[aN,mz];exact OL f r l (fun cs=>OM f l cs) cs []
theorem ah {C:Type} (l:List (C->Int)) (cs:List C):dt cs l=dt l (cs.map fun c s=>s c):=by
 have:=OM (fun(x:C->Int) c=>x c) l cs;simpa using this
section
variable {C:Type}
theorem d4B {l:List (C->Int)} {a b:C} (h:∀r∈l,r a=r b) (c1 c2 c3:List C):dt (c1++a::(c2++b::c3)) l=0:=by
 rw[ah];simp only[aT,aN];exact my (fun r hr=>h r hr) _ _ _
theorem d4C {l:List (C->Int)} {a b z:C} (h:∀r∈l,r z=r a+r b) (c1 c2 c3:List C):dt (c1++z::(c2++b::c3)) l=dt (c1++a::(c2++b::c3)) l:=by
 rw[ah,ah l];simp only[aT,aN];exact AG (t:=1) (fun r hr=>by simp[h r hr]) _ _ _
theorem c9k {l:List (C->Int)} {a b z:C} (h:∀r∈l,r z=r a+r b) (c1 c2 c3:List C):dt (c1++b::(c2++z::c3)) l=dt (c1++b::(c2++a::c3)) l:=by
 rw[ah,ah l];simp only[aT,aN];exact OF (t:=1) (fun r hr=>by simp[h r hr]) _ _ _
def sg:Nat->Int
 |0=>1
 |n+1=> -sg n
theorem ON:∀n,sg n*sg n=1
 |0=>rfl
 |n+1=>by simp only[sg];have:=ON n;grind
theorem OO (cs:List C) (x:C->Int) (r2:List (C->Int)):∀(r1 p:List (C->Int)),dt cs (p++(r1++x::r2))=sg r1.length*dt cs (p++x::(r1++r2))
 |[],p=>by simp[sg]
 |y::r1,p=>by
  have h:=OO cs x r2 r1 (p++[y]);simp only[bH,cL,cB]at h⊢;rw[h,AE];simp only[aO,sg]
  grind
theorem AH {r:C->Int} {l:List (C->Int)}:∀{cs:List C} (_:∀c∈cs,r c=0) (pre:List C),ex r l pre cs=0
 |[],_,_=>rfl
 |c::cs,h,pre=>by
  simp only[ex];rw[h c aD,AH (fun e he=>h e (by simp[he]))];simp
theorem OQ {r:C->Int} {l:List (C->Int)} {w:C} {c2:List C} (h2:∀c∈c2,r c=0):∀{c1:List C} (_:∀c∈c1,r c=0) (pre:List C),ex r l pre (c1++w::c2)=sg c1.length*(r w*dt (pre++(c1++c2)) l)
 |[],_,pre=>by
  simp only[cB,ex,sg,bX];rw[AH h2];simp
 |c::c1,h,pre=>by
  simp only[cL,ex,aO,sg];rw[h c aD,OQ h2 (fun e he=>h e (by simp[he])) (pre++[c])];simp only[bH,cL,cB]
  grind
theorem d4D {r:C->Int} {w:C} {c1 c2:List C} {r1 r2:List (C->Int)} (h1:∀c∈c1,r c=0) (h2:∀c∈c2,r c=0) (hl:r1.length=c1.length):dt (c1++w::c2) (r1++r::r2)=r w*dt (c1++c2) (r1++r2):=by
 have h:=OO (c1++w::c2) r r2 r1 [];simp only[cB]at h;rw[h,mz,OQ h2 h1,hl];have:=ON c1.length;simp only[cB]
 grind
def Ep:List Int->List (C->Int)->C->Int
 |w::ws,x::l,c=>w*x c+Ep ws l c
 |_,_,_=>0
theorem OR (d:List (C->Int)->Int):∀(l pre:List (C->Int)),∃ws:List Int,ws.length=l.length/\∀c,dx c d pre l=Ep ws l c
 |[],_=>⟨[],rfl,fun _=>rfl⟩
 |x::l,pre=>by
  obtain⟨ws,hl,hw⟩:=OR d l (pre++[x]);refine⟨d (pre++l)::ws.map (fun w=> -w),by simp[hl],fun c=> ?_⟩;simp only[dx,Ep];rw[hw];have hn:∀(us:List Int) (m:List (C->Int)),Ep (us.map fun w=> -w) m c= -Ep us m c:=fun us=>by
   induction us with
   |nil=>intro m;simp[Ep]
   |cons u us ih=>
    intro m;cases m with
    |nil=>simp[Ep]
    |cons y m=>simp only[aN,Ep];rw[ih];grind
  rw[hn]
  grind
theorem OS {cs:List C} {t:Int}:∀(m p l1:List (C->Int)) (ws:List Int) (r z:C->Int) (_:ws.length=m.length) (_:∀c∈cs,z c=t*r c+Ep ws m c),dt cs (l1++z::(p++m))=t*dt cs (l1++r::(p++m))
 |[],p,l1,ws,r,z,hl,h=>by
  have h0:=Jo (x:=z) (r:=fun _=>0) (s:=r) (t:=t) (cs:=cs) (fun c hc=>by rw[h c hc];cases ws<;>simp[Ep]) l1 (p++[]);have h1:=Jo (x:=fun _:C=>0) (r:=fun _=>0) (s:=fun _=>0) (t:=1) (cs:=cs) (fun c hc=>aD) l1 (p++[]);rw[h0];omega
 |a::m,p,l1,w::ws,r,z,hl,h=>by
  have h1:=OS (cs:=cs) (t:=t) m (p++[a]) l1 ws r (fun c=>t*r c+Ep ws m c) (by simpa using hl) (fun _ _=>rfl);simp only[bH,cL,cB]at h1;rw[<-h1];refine AG (t:=w) (fun c hc=> ?_) l1 p m;rw[h c hc];simp only[Ep];grind
theorem d4E (B:List C) (A:List (C->Int)) (r s:C->Int) (c d:C):dt B A*dt (d::c::B) (s::r::A)=dt (c::B) (r::A)*dt (d::B) (s::A)-dt (d::B) (r::A)*dt (c::B) (s::A):=by
 obtain⟨ws,hl,hw⟩:=OR (dt B) A [r];have hg:∀e,dt (e::B) (r::A)=dt B A*r e+Ep (ws.map fun w=> -w) A e:=fun e=>by
  show dx e (dt B) [] (r::A)=_;simp only[dx,cB];rw[hw];have hn:∀(us:List Int) (m:List (C->Int)),Ep (us.map fun w=> -w) m e= -Ep us m e:=fun us=>by
   induction us with
   |nil=>intro m;simp[Ep]
   |cons u us ih=>
    intro m;cases m with
    |nil=>simp[Ep]
    |cons y m=>simp only[aN,Ep];rw[ih];grind
  rw[hn];grind
 have h1:=OS (cs:=d::c::B) (t:=dt B A) A [] [s] (ws.map fun w=> -w) r (fun e=>dt (e::B) (r::A)) (by simpa using hl) (fun e _=>hg e);simp only[cB,cL]at h1;rw[<-h1];have hz:∀e∈B,dt (e::B) (r::A)=0:=fun e he=>by
  obtain⟨b1,b2,rfl⟩:=jH he;exact d4B (a:=e) (b:=e) (fun _ _=>rfl) [] b1 b2
 have h2:=AE (d::c::B) s (fun e=>dt (e::B) (r::A)) [] A;simp only[cB]at h2;rw[h2,mz];simp only[ex,cB,cL];rw[AH hz]
 grind
end
def dl (e:Nat×Nat) (u:Nat->Int):Int:=u e.1-u e.2
def Fm:List (Nat×Nat)->(Nat->Int)->(Nat->Int)->Int
 |[],_,_=>0
 |e::E,u,v=>dl e u*dl e v+Fm E u v
def Jp (u v:Nat->Int):Nat->Int:=fun a=>u a+v a
theorem na (e:Nat×Nat) (u v:Nat->Int):dl e (Jp u v)=dl e u+dl e v:=by unfold dl Jp;omega
theorem OT (E:List (Nat×Nat)) (u v w:Nat->Int):Fm E u (Jp v w)=Fm E u v+Fm E u w:=by
 induction E with
 |nil=>rfl
 |cons e E ih=>simp only[Fm];rw[ih,na];grind
theorem OU (E:List (Nat×Nat)) (u v w:Nat->Int):Fm E (Jp v w) u=Fm E v u+Fm E w u:=by
 induction E with
 |nil=>rfl
 |cons e E ih=>simp only[Fm];rw[ih,na];grind
def Dv (E:List (Nat×Nat)) (V:List (Nat->Int)):Int:=dt V (V.map (Fm E))
theorem OV {e:Nat×Nat} {E:List (Nat×Nat)} {u:Nat->Int} (h:dl e u=0):Fm (e::E) u=Fm E u:=funext fun v=>by simp only[Fm];rw[h];simp
theorem nc {e:Nat×Nat} {E:List (Nat×Nat)}:∀{V:List (Nat->Int)} (_:∀u∈V,dl e u=0),V.map (Fm (e::E))=V.map (Fm E)
 |[],_=>rfl
 |u::V,h=>by rw[aN,aN,OV (h u aD),nc fun x hx=>h x (by simp[hx])]
theorem OW {e:Nat×Nat} {E:List (Nat×Nat)} {V:List (Nat->Int)} (h:∀u∈V,dl e u=0):Dv (e::E) V=Dv E V:=by
 unfold Dv;rw[nc h]
theorem AI {e:Nat×Nat} {E:List (Nat×Nat)} {l1 l2:List (Nat->Int)} {w:Nat->Int} (hw:dl e w*dl e w=1) (h1:∀u∈l1,dl e u=0) (h2:∀u∈l2,dl e u=0):Dv (e::E) (l1++w::l2)=Dv E (l1++w::l2)+Dv E (l1++l2):=by
 unfold Dv;simp only[aT,aN];rw[nc h1,nc h2,Jo (x:=Fm (e::E) w) (r:=Fm E w) (s:=dl e) (t:=dl e w) (fun c _=>by simp only[Fm];grind),d4D h1 h2 aD]
 grind
theorem d7W {e:Nat×Nat} {E:List (Nat×Nat)} {l1 l2 l3:List (Nat->Int)} {u w:Nat->Int} (hw:dl e w*dl e w=1) (hu:dl e u+dl e w=0) (h1:∀u∈l1,dl e u=0) (h2:∀u∈l2,dl e u=0) (h3:∀u∈l3,dl e u=0):
  Dv (e::E) (l1++u::(l2++w::l3))=Dv E (l1++u::(l2++w::l3))+Dv E (l1++Jp u w::(l2++l3)):=by
 have hm:∀E',Dv E' (l1++Jp u w::(l2++w::l3))=Dv E' (l1++u::(l2++w::l3)):=fun E'=>by
  unfold Dv;rw[d4C (fun r hr=>by obtain⟨v,_,rfl⟩:=aY.1 hr;exact OT E' v u w)];simp only[aT,aN];exact AG (t:=1) (fun c _=>by rw[OU];omega) _ _ _
 rw[<-hm,<-hm];have h:=AI (E:=E) (l1:=l1++Jp u w::l2) (l2:=l3) hw (fun v hv=>by
  rcases aQ.1 hv with hv|hv
  ·exact h1 v hv
  ·rcases aP.1 hv with rfl|hv
   ·rw[na];exact hu
   ·exact h2 v hv) h3
 simpa using h
theorem d4F {e:Nat×Nat} {E:List (Nat×Nat)} {l1 l2 l3:List (Nat->Int)} {u w:Nat->Int} (hw:dl e w*dl e w=1) (hu:dl e u+dl e w=0) (h1:∀u∈l1,dl e u=0) (h2:∀u∈l2,dl e u=0) (h3:∀u∈l3,dl e u=0):
  Dv (e::E) (l1++w::(l2++u::l3))=Dv E (l1++w::(l2++u::l3))+Dv E (l1++(l2++Jp u w::l3)):=by
 have hm:∀E',Dv E' (l1++w::(l2++Jp u w::l3))=Dv E' (l1++w::(l2++u::l3)):=fun E'=>by
  unfold Dv;rw[c9k (fun r hr=>by obtain⟨v,_,rfl⟩:=aY.1 hr;exact OT E' v u w)];simp only[aT,aN];exact OF (t:=1) (fun c _=>by rw[OU];omega) _ _ _
 rw[<-hm,<-hm];exact AI (E:=E) (l1:=l1) (l2:=l2++Jp u w::l3) hw h1 (fun v hv=>by
  rcases aQ.1 hv with hv|hv
  ·exact h2 v hv
  ·rcases aP.1 hv with rfl|hv
   ·rw[na];exact hu
   ·exact h3 v hv)
def cv (lab:Nat->Nat) (x:Nat):Nat->Int:=fun a=>if lab a=x then 1 else 0
def mg (lab:Nat->Nat) (q p:Nat):Nat->Nat:=fun a=>if lab a=q then p else lab a
def Dg (E:List (Nat×Nat)) (lab:Nat->Nat) (V:List Nat):Int:=Dv E (V.map (cv lab))
theorem Pz (e:Nat×Nat) (lab:Nat->Nat) (x:Nat):dl e (cv lab x)=(if lab e.1=x then 1 else 0)-(if lab e.2=x then 1 else 0):=rfl
theorem d7X {e:Nat×Nat} {lab:Nat->Nat} {x:Nat} (h1:lab e.1≠x) (h2:lab e.2≠x):dl e (cv lab x)=0:=by rw[Pz,if_neg h1,if_neg h2];rfl
theorem c9l {lab:Nat->Nat} {q p x:Nat} (h1:x≠p) (h2:x≠q):cv (mg lab q p) x=cv lab x:=funext fun a=>by
 unfold cv mg;by_cases h:lab a=q
 ·rw[if_pos h,if_neg (fun hh=>h1 hh.symm),if_neg (by rw[h];exact fun hh=>h2 hh.symm)]
 ·rw[if_neg h]
theorem OX {lab:Nat->Nat} {q p:Nat} (h:p≠q):cv (mg lab q p) p=Jp (cv lab p) (cv lab q):=funext fun a=>by
 show(if mg lab q p a=p then(1:Int)else 0)=(if lab a=p then 1 else 0)+(if lab a=q then 1 else 0);unfold mg;by_cases h1:lab a=q
 ·rw[if_pos h1,if_pos rfl,if_neg (by rw[h1];exact fun hh=>h hh.symm),if_pos h1];rfl
 ·rw[if_neg h1,if_neg h1];omega
theorem Nl {lab:Nat->Nat} {q p:Nat} {l:List Nat} (h1:p∉l) (h2:q∉l):l.map (cv (mg lab q p))=l.map (cv lab):=bW fun x hx=>c9l (fun hh=>h1 (hh ▸ hx)) (fun hh=>h2 (hh ▸ hx))
theorem AK {e:Nat×Nat} {lab:Nat->Nat} {l:List Nat} (h1:lab e.1∉l) (h2:lab e.2∉l):∀u∈l.map (cv lab),dl e u=0:=fun u hu=>by
 obtain⟨x,hx,rfl⟩:=aY.1 hu;exact d7X (fun hh=>h1 (hh ▸ hx)) (fun hh=>h2 (hh ▸ hx))
section
variable {e:Nat×Nat} {E:List (Nat×Nat)} {lab:Nat->Nat} {V l1 l2 l3:List Nat} {p q:Nat}
theorem AL (h:lab e.1=lab e.2):Dg (e::E) lab V=Dg E lab V:=OW fun u hu=>by
 obtain⟨x,hx,rfl⟩:=aY.1 hu;rw[Pz,h];omega
theorem AM (h1:lab e.1∉V) (h2:lab e.2∉V):Dg (e::E) lab V=Dg E lab V:=OW (AK h1 h2)
def Ends (lab:Nat->Nat) (e:Nat×Nat) (p q:Nat):Prop:=p≠q/\(lab e.1=p/\lab e.2=q\/lab e.1=q/\lab e.2=p)
theorem Ends.sym (h:Ends lab e p q):Ends lab e q p:=⟨fun hh=>h.1 hh.symm,h.2.symm⟩
theorem Ends.off (h:Ends lab e p q) {l:List Nat} (h1:p∉l) (h2:q∉l):∀u∈l.map (cv lab),dl e u=0:=by
 rcases h.2 with⟨a,b⟩|⟨a,b⟩
 ·exact AK (by rw[a];exact h1) (by rw[b];exact h2)
 ·exact AK (by rw[a];exact h2) (by rw[b];exact h1)
theorem Ends.sq (h:Ends lab e p q):dl e (cv lab p)*dl e (cv lab p)=1/\dl e (cv lab q)+dl e (cv lab p)=0:=by
 rw[Pz,Pz];rcases h.2 with⟨a,b⟩|⟨a,b⟩
 ·rw[a,b,if_pos rfl,if_neg fun hh=>h.1 hh.symm,if_neg h.1,if_pos rfl];decide
 ·rw[a,b,if_pos rfl,if_neg fun hh=>h.1 hh.symm,if_neg h.1,if_pos rfl];decide
theorem d7Z (h:Ends lab e p q) (vI:p∉l1) (rT:p∉l2) (vB:q∉l1) (wH:q∉l2):Dg (e::E) lab (l1++p::l2)=Dg E lab (l1++p::l2)+Dg E (mg lab p q) (l1++l2):=by
 unfold Dg;simp only[aT,aN];rw[AI h.sq.1 (h.off vI vB) (h.off rT wH),Nl vB vI,Nl wH rT]
theorem d8a (h:Ends lab e p q) (vI:p∉l1) (rT:p∉l2) (hp3:p∉l3) (vB:q∉l1) (wH:q∉l2) (hq3:q∉l3):Dg (e::E) lab (l1++p::(l2++q::l3))=Dg E lab (l1++p::(l2++q::l3))+Dg E (mg lab q p) (l1++p::(l2++l3)):=by
 unfold Dg;simp only[aT,aN];rw[d7W h.sym.sq.1 (by have:=h.sq.2;omega) (h.off vI vB) (h.off rT wH) (h.off hp3 hq3),Nl vI vB,Nl rT wH,Nl hp3 hq3,OX h.1]
theorem d4G (h:Ends lab e p q) (vI:p∉l1) (rT:p∉l2) (hp3:p∉l3) (vB:q∉l1) (wH:q∉l2) (hq3:q∉l3):Dg (e::E) lab (l1++q::(l2++p::l3))=Dg E lab (l1++q::(l2++p::l3))+Dg E (mg lab q p) (l1++(l2++p::l3)):=by
 unfold Dg;simp only[aT,aN];rw[d4F h.sym.sq.1 (by have:=h.sq.2;omega) (h.off vI vB) (h.off rT wH) (h.off hp3 hq3),Nl vI vB,Nl rT wH,Nl hp3 hq3,OX h.1]
end
def Ef (V:List Nat) (q:Nat):List Nat:=V.filter (fun x=>x !=q)
theorem nf {V:List Nat} {q:Nat} (h:q∉V):Ef V q=V:=List.filter_eq_self.2 fun x hx=>by simp;exact fun hh=>h (hh ▸ hx)
theorem AN (l m:List Nat) (q:Nat):Ef (l++m) q=Ef l q++Ef m q:=dP ..
theorem d4H (l:List Nat) (q:Nat):Ef (q::l) q=Ef l q:=by unfold Ef;simp
theorem d8b (V:List Nat) (q:Nat):Ef V.reverse q=(Ef V q).reverse:=by unfold Ef;rw[List.filter_reverse]
theorem aj {V:List Nat} {q:Nat} (h:V.Nodup):(Ef V q).Nodup:=h.filter _
section
variable {e:Nat×Nat} {E:List (Nat×Nat)} {lab:Nat->Nat} {V l:List Nat} {p q:Nat}
theorem Vr (h:Ends lab e p q) (hq:q∈V) (hn:V.Nodup):Dg (e::E) lab V=Dg E lab V+Dg E (mg lab q p) (Ef V q):=by
 obtain⟨l1,l2,rfl⟩:=jH hq;rw[cQ]at hn;obtain⟨n1,n2,n3⟩:=hn;rw[eZ]at n2;have vB:q∉l1:=fun hh=>n3 q hh q aD rfl;have hw:Ef (l1++q::l2) q=l1++l2:=by rw[AN,d4H,nf vB,nf n2.1]
 rw[hw];by_cases vI:p∈l1
 ·obtain⟨m1,m2,rfl⟩:=jH vI;rw[cQ,eZ]at n1;obtain⟨_,⟨a2,_⟩,a3⟩:=n1;have:=d8a (E:=E) (l1:=m1) (l2:=m2) (l3:=l2) h (fun hh=>a3 p hh p aD rfl) a2 (fun hh=>n3 p aD p (by simp[hh]) rfl) (fun hh=>vB (by simp[hh])) (fun hh=>vB (by simp[hh])) n2.1;simpa using this
 ·by_cases rT:p∈l2
  ·obtain⟨m1,m2,rfl⟩:=jH rT;have n4:=n2.2;rw[cQ,eZ]at n4;obtain⟨_,⟨a2,_⟩,a3⟩:=n4;have:=d4G (E:=E) (l1:=l1) (l2:=m1) (l3:=m2) h vI (fun hh=>a3 p hh p aD rfl) a2 vB (fun hh=>n2.1 (by simp[hh])) (fun hh=>n2.1 (by simp[hh]));simpa using this
  ·exact d7Z h.sym vB n2.1 vI rT
theorem Vs (h:lab e.1≠lab e.2):Ends lab e (lab e.1) (lab e.2):=⟨h,.inl ⟨rfl,rfl⟩⟩
theorem d4I {C:Type} {cs:List C} {x:C->Int} (h:∀c∈cs,x c=0) (l1 l2:List (C->Int)):dt cs (l1++x::l2)=0:=by
 have h0:=Jo (x:=x) (r:=x) (s:=x) (t:=1) (cs:=cs) (fun c hc=>by rw[h c hc];rfl) l1 l2;omega
theorem AO (lab:Nat->Nat) (V:List Nat):Dg [] lab V=if V=[]then 1 else 0:=by
 cases V with
 |nil=>rfl
 |cons x V=>
  rw[if_neg aD];exact d4I (x:=Fm [] (cv lab x)) (fun _ _=>rfl) [] _
theorem Nn:∀(E:List (Nat×Nat)) (lab:Nat->Nat) (V:List Nat),V.Nodup->0<=Dg E lab V
 |[],lab,V,_=>by rw[AO];split<;>omega
 |e::E,lab,V,h=>by
  by_cases h1:lab e.1=lab e.2
  ·rw[AL h1];exact Nn E lab V h
  ·by_cases h2:lab e.2∈V
   ·rw[Vr (Vs h1) h2 h];have a:=Nn E lab V h;have b:=Nn E (mg lab (lab e.2) (lab e.1)) _ (aj (q:=lab e.2) h);omega
   ·by_cases h3:lab e.1∈V
    ·rw[Vr (Vs h1).sym h3 h];have a:=Nn E lab V h;have b:=Nn E (mg lab (lab e.1) (lab e.2)) _ (aj (q:=lab e.1) h);omega
    ·rw[AM h3 h2];exact Nn E lab V h
theorem d8c (hp:p∉V) (hq:q∉V):Dg E (mg lab q p) V=Dg E lab V:=by unfold Dg;rw[Nl hp hq]
theorem c9m {l V:List Nat} (h:(l++V).Nodup):V.Nodup:=(cQ.1 h).2.1
theorem Vt:∀(E:List (Nat×Nat)) (lab:Nat->Nat) (l V:List Nat),(l++V).Nodup->Dg E lab V=0->Dg E lab (l++V)=0
 |[],lab,l,V,_,h=>by
  rw[AO]at h⊢;rw[if_neg];intro hh;rw[if_pos (by simpa using(List.append_eq_nil_iff.1 hh).2)]at h;omega
 |e::E,lab,l,V,hn,h=>by
  have hv:=c9m hn;by_cases h1:lab e.1=lab e.2
  ·rw[AL h1]at h⊢;exact Vt E lab l V hn h
  ·--q in V
   have key:∀p q,Ends lab e p q->q∈V->Dg (e::E) lab (l++V)=0:=fun p q he hq=>by
    rw[Vr he hq hv]at h;have a:=Nn E lab V hv;have b:=Nn E (mg lab q p) _ (aj (q:=q) hv);have hql:q∉l:=fun hh=>(cQ.1 hn).2.2 q hh q hq rfl;have hw:Ef (l++V) q=l++Ef V q:=by rw[AN,nf hql]
    rw[Vr he (by simp[hq]) hn,Vt E lab l V hn aA,hw,Vt E _ l _ (by rw[<-hw];exact aj hn) aA];rfl
   by_cases h2:lab e.2∈V
   ·exact key _ _ (Vs h1) h2
   ·by_cases h3:lab e.1∈V
    ·exact key _ _ (Vs h1).sym h3
    ·rw[AM h3 h2]at h;have i1:=Vt E lab l V hn h;have key2:∀p q,Ends lab e p q->q∈l->q∉V->p∉V->Dg (e::E) lab (l++V)=0:=fun p q he hq hqV hpV=>by
      have hw:Ef (l++V) q=Ef l q++V:=by rw[AN,nf hqV]
      rw[Vr he (by simp[hq]) hn,i1,hw,Vt E _ _ V (by rw[<-hw];exact aj hn) (by rw[d8c hpV hqV];exact h)];rfl
     by_cases h4:lab e.2∈l
     ·exact key2 _ _ (Vs h1) h4 h2 h3
     ·by_cases h5:lab e.1∈l
      ·exact key2 _ _ (Vs h1).sym h5 h3 h2
      ·rw[AM (by simp[h3,h5]) (by simp[h2,h4])];exact i1
theorem AP (lab:Nat->Nat) (x:Nat):∀E:List (Nat×Nat),Fm (E.filter fun e=>lab e.1 !=lab e.2) (cv lab x)=Fm E (cv lab x)
 |[]=>rfl
 |e::E=>by
  by_cases h:lab e.1=lab e.2
  ·rw[dD (by simp[h]),AP lab x E];refine(OV ?_).symm;rw[Pz,h];omega
  ·rw[dY (by simp[h])];funext v;simp only[Fm];rw[AP lab x E]
theorem c4F (E:List (Nat×Nat)) (lab:Nat->Nat) (V:List Nat):Dg (E.filter fun e=>lab e.1 !=lab e.2) lab V=Dg E lab V:=by
 unfold Dg Dv;rw[cZ,cZ];congr 1;exact bW fun x _=>AP lab x E
end
theorem OY {C:Type} {c:C} {d:List (C->Int)->Int} {B K:Nat}:∀(l pre:List (C->Int)),(∀r∈l,(r c).natAbs<=B)->(∀p s:List (C->Int),∀x,pre++l=p++x::s->(d (p++s)).natAbs<=K)->(dx c d pre l).natAbs<=l.length*(B*K)
 |[],pre,_,_=>by simp[dx]
 |x::l,pre,h,hd=>by
  simp only[dx,aO];have h1:=OY l (pre++[x]) (fun r hr=>h r (by simp[hr])) (fun p s y hy=>hd p s y (by simpa using hy));have h2:=hd pre l x rfl;have h3:(x c*d (pre++l)).natAbs<=B*K:=by rw[iY];exact bU (h x aD) h2
  rw[Nat.succ_mul];omega
theorem AQ {C:Type} {B:Nat}:∀(cs:List C) (l:List (C->Int)) (m:Nat),l.length<=m->(∀r∈l,∀c∈cs,(r c).natAbs<=B)->(dt cs l).natAbs<=(m*B)^cs.length
 |[],[],_,_,_=>by simp[dt]
 |[],_::_,_,_,_=>by simp[dt]
 |c::cs,l,m,hl,h=>by
  have h1:=OY (c:=c) (d:=dt cs) (B:=B) (K:=(m*B)^cs.length) l [] (fun r hr=>h r hr c aD) fun p s x hx=>by
   simp only[cB]at hx;refine AQ cs (p++s) m ?_ fun r hr e he=>h r ?_ e (by simp[he])
   ·rw[hx]at hl;simp at hl⊢;omega
   ·rw[hx];simp at hr⊢;rcases hr with hr|hr<;>simp[hr]
  refine bD h1 ?_;rw[aO,Nat.pow_succ,<-cY,cX ((m*B)^cs.length)];exact bL _ (bL _ hl)
theorem OZ (e:Nat×Nat) (lab:Nat->Nat) (x:Nat):(dl e (cv lab x)).natAbs<=1:=by
 rw[Pz];split<;>split<;>decide
theorem PC (lab:Nat->Nat) (x y:Nat):∀E:List (Nat×Nat),(Fm E (cv lab x) (cv lab y)).natAbs<=E.length
 |[]=>by simp[Fm]
 |e::E=>by
  simp only[Fm,aO];have h1:=PC lab x y E;have h2:(dl e (cv lab x)*dl e (cv lab y)).natAbs<=1:=by rw[iY];exact bD (bU (OZ e lab x) (OZ e lab y)) aC
  omega
end Go.GS

/- Lemmas of the proof. -/
import Derived.Test.YtcdnhlplkhldbaaGreatDoorGsS
import Derived.Test.YtcdnhlplkhldbaaGreatDoorShT
open Go.Result renaming andThen_ok->eJ
open Go.Sem renaming run_bind->eK,run_pure->eL
open Go.Value.int renaming injEq->kP
open Int renaming natAbs_mul->jQ
open List renaming append_of_mem->kK,filter_append->fF,getElem?_inj->gX,length_filter_le->iS,length_singleton->fL,mem_iff_getElem?->gR,nodup_append->gA,nodup_cons->fM,range->eO,range_succ->gU,replicate->eS,reverse_append->mZ
open Option renaming map_eq_some_iff->eZ,some->eX
open Prod.mk renaming injEq->kY
set_option linter.all false
set_option maxRecDepth 100000
namespace Go.GS
def dl (e:Nat×Nat) (u:Nat->Int):Int:=u e.1-u e.2
def Fm:List (Nat×Nat)->(Nat->Int)->(Nat->Int)->Int
 |[],_,_=>0
 |e::E,u,v=>dl e u*dl e v+Fm E u v
def Ir (u v:Nat->Int):Nat->Int:=fun a=>u a+v a
def ku (e:Nat×Nat) (u v:Nat->Int):dl e (Ir u v)=dl e u+dl e v:=by unfold dl Ir;omega
def OC (E:List (Nat×Nat)) (u v w:Nat->Int):Fm E u (Ir v w)=Fm E u v+Fm E u w:=by
 induction E with
 |nil=>rfl
 |cons e E ih=>simp only[Fm];rw[ih,ku];grind
def OD (E:List (Nat×Nat)) (u v w:Nat->Int):Fm E (Ir v w) u=Fm E v u+Fm E w u:=by
 induction E with
 |nil=>rfl
 |cons e E ih=>simp only[Fm];rw[ih,ku];grind
def Dv (E:List (Nat×Nat)) (V:List (Nat->Int)):Int:=dt V (V.map (Fm E))
def OE {e:Nat×Nat} {E:List (Nat×Nat)} {u:Nat->Int} (h:dl e u=0):Fm (e::E) u=Fm E u:=funext fun v=>by simp only[Fm];rw[h];simp
def kw {e:Nat×Nat} {E:List (Nat×Nat)}:∀{V:List (Nat->Int)} (_:∀u∈V,dl e u=0),V.map (Fm (e::E))=V.map (Fm E)
 |[],_=>rfl
 |u::V,h=>by rw[bI,bI,OE (h u aD),kw fun x hx=>h x (by simp[hx])]
def OF {e:Nat×Nat} {E:List (Nat×Nat)} {V:List (Nat->Int)} (h:∀u∈V,dl e u=0):Dv (e::E) V=Dv E V:=by
 unfold Dv;rw[kw h]
def AE {e:Nat×Nat} {E:List (Nat×Nat)} {l1 l2:List (Nat->Int)} {w:Nat->Int} (hw:dl e w*dl e w=1) (h1:∀u∈l1,dl e u=0) (h2:∀u∈l2,dl e u=0):Dv (e::E) (l1++w::l2)=Dv E (l1++w::l2)+Dv E (l1++l2):=by
 unfold Dv;simp only[bM,bI];rw[kw h1,kw h2,Iq (x:=Fm (e::E) w) (r:=Fm E w) (s:=dl e) (t:=dl e w) (fun c _=>by simp only[Fm];grind),d5a h1 h2 aD]
 grind
def e0f {e:Nat×Nat} {E:List (Nat×Nat)} {l1 l2 l3:List (Nat->Int)} {u w:Nat->Int} (hw:dl e w*dl e w=1) (hu:dl e u+dl e w=0) (h1:∀u∈l1,dl e u=0) (h2:∀u∈l2,dl e u=0) (h3:∀u∈l3,dl e u=0):
  Dv (e::E) (l1++u::(l2++w::l3))=Dv E (l1++u::(l2++w::l3))+Dv E (l1++Ir u w::(l2++l3)):=by
 have hm:∀E',Dv E' (l1++Ir u w::(l2++w::l3))=Dv E' (l1++u::(l2++w::l3)):=fun E'=>by
  unfold Dv;rw[d4Z (fun r hr=>by obtain⟨v,_,rfl⟩:=aZ.1 hr;exact OC E' v u w)];simp only[bM,bI];exact AC (t:=1) (fun c _=>by rw[OD];omega) _ _ _
 rw[<-hm,<-hm];have h:=AE (E:=E) (l1:=l1++Ir u w::l2) (l2:=l3) hw (fun v hv=>by
  rcases aV.1 hv with hv|hv
  ·exact h1 v hv
  ·rcases bG.1 hv with rfl|hv
   ·rw[ku];exact hu
   ·exact h2 v hv) h3
 simpa using h
def d5c {e:Nat×Nat} {E:List (Nat×Nat)} {l1 l2 l3:List (Nat->Int)} {u w:Nat->Int} (hw:dl e w*dl e w=1) (hu:dl e u+dl e w=0) (h1:∀u∈l1,dl e u=0) (h2:∀u∈l2,dl e u=0) (h3:∀u∈l3,dl e u=0):
  Dv (e::E) (l1++w::(l2++u::l3))=Dv E (l1++w::(l2++u::l3))+Dv E (l1++(l2++Ir u w::l3)):=by
 have hm:∀E',Dv E' (l1++w::(l2++Ir u w::l3))=Dv E' (l1++w::(l2++u::l3)):=fun E'=>by
  unfold Dv;rw[c8X (fun r hr=>by obtain⟨v,_,rfl⟩:=aZ.1 hr;exact OC E' v u w)];simp only[bM,bI];exact NQ (t:=1) (fun c _=>by rw[OD];omega) _ _ _
 rw[<-hm,<-hm];exact AE (E:=E) (l1:=l1) (l2:=l2++Ir u w::l3) hw h1 (fun v hv=>by
  rcases aV.1 hv with hv|hv
  ·exact h2 v hv
  ·rcases bG.1 hv with rfl|hv
   ·rw[ku];exact hu
   ·exact h3 v hv)
def cv (lab:Nat->Nat) (x:Nat):Nat->Int:=fun a=>if lab a=x then 1 else 0
def mg (lab:Nat->Nat) (q p:Nat):Nat->Nat:=fun a=>if lab a=q then p else lab a
def Dg (E:List (Nat×Nat)) (lab:Nat->Nat) (V:List Nat):Int:=Dv E (V.map (cv lab))
def Ph (e:Nat×Nat) (lab:Nat->Nat) (x:Nat):dl e (cv lab x)=(if lab e.1=x then 1 else 0)-(if lab e.2=x then 1 else 0):=rfl
def e0g {e:Nat×Nat} {lab:Nat->Nat} {x:Nat} (h1:lab e.1≠x) (h2:lab e.2≠x):dl e (cv lab x)=0:=by rw[Ph,if_neg h1,if_neg h2];rfl
def c8Y {lab:Nat->Nat} {q p x:Nat} (h1:x≠p) (h2:x≠q):cv (mg lab q p) x=cv lab x:=funext fun a=>by
 unfold cv mg;by_cases h:lab a=q
 ·rw[if_pos h,if_neg (fun hh=>h1 hh.symm),if_neg (by rw[h];exact fun hh=>h2 hh.symm)]
 ·rw[if_neg h]
def OG {lab:Nat->Nat} {q p:Nat} (h:p≠q):cv (mg lab q p) p=Ir (cv lab p) (cv lab q):=funext fun a=>by
 show(if mg lab q p a=p then(1:Int)else 0)=(if lab a=p then 1 else 0)+(if lab a=q then 1 else 0);unfold mg;by_cases h1:lab a=q
 ·rw[if_pos h1,if_pos rfl,if_neg (by rw[h1];exact fun hh=>h hh.symm),if_pos h1];rfl
 ·rw[if_neg h1,if_neg h1];omega
def Ly {lab:Nat->Nat} {q p:Nat} {l:List Nat} (h1:p∉l) (h2:q∉l):l.map (cv (mg lab q p))=l.map (cv lab):=dK fun x hx=>c8Y (fun hh=>h1 (hh ▸ hx)) (fun hh=>h2 (hh ▸ hx))
def AG {e:Nat×Nat} {lab:Nat->Nat} {l:List Nat} (h1:lab e.1∉l) (h2:lab e.2∉l):∀u∈l.map (cv lab),dl e u=0:=fun u hu=>by
 obtain⟨x,hx,rfl⟩:=aZ.1 hu;exact e0g (fun hh=>h1 (hh ▸ hx)) (fun hh=>h2 (hh ▸ hx))
section
variable {e:Nat×Nat} {E:List (Nat×Nat)} {lab:Nat->Nat} {V l1 l2 l3:List Nat} {p q:Nat}
def OH (h:lab e.1=lab e.2):Dg (e::E) lab V=Dg E lab V:=OF fun u hu=>by
 obtain⟨x,hx,rfl⟩:=aZ.1 hu;rw[Ph,h];omega
def AH (h1:lab e.1∉V) (h2:lab e.2∉V):Dg (e::E) lab V=Dg E lab V:=OF (AG h1 h2)
def Ends (lab:Nat->Nat) (e:Nat×Nat) (p q:Nat):Prop:=p≠q/\(lab e.1=p/\lab e.2=q\/lab e.1=q/\lab e.2=p)
def Ends.sym (h:Ends lab e p q):Ends lab e q p:=⟨fun hh=>h.1 hh.symm,h.2.symm⟩
def Ends.off (h:Ends lab e p q) {l:List Nat} (h1:p∉l) (h2:q∉l):∀u∈l.map (cv lab),dl e u=0:=by
 rcases h.2 with⟨a,b⟩|⟨a,b⟩
 ·exact AG (by rw[a];exact h1) (by rw[b];exact h2)
 ·exact AG (by rw[a];exact h2) (by rw[b];exact h1)
def Ends.sq (h:Ends lab e p q):dl e (cv lab p)*dl e (cv lab p)=1/\dl e (cv lab q)+dl e (cv lab p)=0:=by
 rw[Ph,Ph];rcases h.2 with⟨a,b⟩|⟨a,b⟩
 ·rw[a,b,if_pos rfl,if_neg fun hh=>h.1 hh.symm,if_neg h.1,if_pos rfl];decide
 ·rw[a,b,if_pos rfl,if_neg fun hh=>h.1 hh.symm,if_neg h.1,if_pos rfl];decide
def e0i (h:Ends lab e p q) (tZ:p∉l1) (rP:p∉l2) (uN:q∉l1) (uY:q∉l2):Dg (e::E) lab (l1++p::l2)=Dg E lab (l1++p::l2)+Dg E (mg lab p q) (l1++l2):=by
 unfold Dg;simp only[bM,bI];rw[AE h.sq.1 (h.off tZ uN) (h.off rP uY),Ly uN tZ,Ly uY rP]
def e0j (h:Ends lab e p q) (tZ:p∉l1) (rP:p∉l2) (hp3:p∉l3) (uN:q∉l1) (uY:q∉l2) (yG:q∉l3):Dg (e::E) lab (l1++p::(l2++q::l3))=Dg E lab (l1++p::(l2++q::l3))+Dg E (mg lab q p) (l1++p::(l2++l3)):=by
 unfold Dg;simp only[bM,bI];rw[e0f h.sym.sq.1 (by have:=h.sq.2;omega) (h.off tZ uN) (h.off rP uY) (h.off hp3 yG),Ly tZ uN,Ly rP uY,Ly hp3 yG,OG h.1]
def d5d (h:Ends lab e p q) (tZ:p∉l1) (rP:p∉l2) (hp3:p∉l3) (uN:q∉l1) (uY:q∉l2) (yG:q∉l3):Dg (e::E) lab (l1++q::(l2++p::l3))=Dg E lab (l1++q::(l2++p::l3))+Dg E (mg lab q p) (l1++(l2++p::l3)):=by
 unfold Dg;simp only[bM,bI];rw[d5c h.sym.sq.1 (by have:=h.sq.2;omega) (h.off tZ uN) (h.off rP uY) (h.off hp3 yG),Ly tZ uN,Ly rP uY,Ly hp3 yG,OG h.1]
end
def Fq (V:List Nat) (q:Nat):List Nat:=V.filter (fun x=>x !=q)
def kx {V:List Nat} {q:Nat} (h:q∉V):Fq V q=V:=List.filter_eq_self.2 fun x hx=>by simp;exact fun hh=>h (hh ▸ hx)
def AI (l m:List Nat) (q:Nat):Fq (l++m) q=Fq l q++Fq m q:=fF ..
def d5e (l:List Nat) (q:Nat):Fq (q::l) q=Fq l q:=by unfold Fq;simp
def ai {V:List Nat} {q:Nat} (h:V.Nodup):(Fq V q).Nodup:=h.filter _
section
variable {e:Nat×Nat} {E:List (Nat×Nat)} {lab:Nat->Nat} {V l:List Nat} {p q:Nat}
def aj (h:Ends lab e p q) (hq:q∈V) (hn:V.Nodup):Dg (e::E) lab V=Dg E lab V+Dg E (mg lab q p) (Fq V q):=by
 obtain⟨l1,l2,rfl⟩:=kK hq;rw[gA]at hn;obtain⟨n1,n2,n3⟩:=hn;rw[fM]at n2;have uN:q∉l1:=fun hh=>n3 q hh q aD rfl;have hw:Fq (l1++q::l2) q=l1++l2:=by rw[AI,d5e,kx uN,kx n2.1]
 rw[hw];by_cases tZ:p∈l1
 ·obtain⟨m1,m2,rfl⟩:=kK tZ;rw[gA,fM]at n1;obtain⟨_,⟨a2,_⟩,a3⟩:=n1;have:=e0j (E:=E) (l1:=m1) (l2:=m2) (l3:=l2) h (fun hh=>a3 p hh p aD rfl) a2 (fun hh=>n3 p aD p (by simp[hh]) rfl) (fun hh=>uN (by simp[hh])) (fun hh=>uN (by simp[hh])) n2.1;simpa using this
 ·by_cases rP:p∈l2
  ·obtain⟨m1,m2,rfl⟩:=kK rP;have n4:=n2.2;rw[gA,fM]at n4;obtain⟨_,⟨a2,_⟩,a3⟩:=n4;have:=d5d (E:=E) (l1:=l1) (l2:=m1) (l3:=m2) h tZ (fun hh=>a3 p hh p aD rfl) a2 uN (fun hh=>n2.1 (by simp[hh])) (fun hh=>n2.1 (by simp[hh]));simpa using this
  ·exact e0i h.sym uN n2.1 tZ rP
def Wi (h:lab e.1≠lab e.2):Ends lab e (lab e.1) (lab e.2):=⟨h,.inl ⟨rfl,rfl⟩⟩
def d5f {C:Type} {cs:List C} {x:C->Int} (h:∀c∈cs,x c=0) (l1 l2:List (C->Int)):dt cs (l1++x::l2)=0:=by
 have h0:=Iq (x:=x) (r:=x) (s:=x) (t:=1) (cs:=cs) (fun c hc=>by rw[h c hc];rfl) l1 l2;omega
def OI (lab:Nat->Nat) (V:List Nat):Dg [] lab V=if V=[]then 1 else 0:=by
 cases V with
 |nil=>rfl
 |cons x V=>
  rw[if_neg aD];exact d5f (x:=Fm [] (cv lab x)) (fun _ _=>rfl) [] _
def Pi:∀(E:List (Nat×Nat)) (lab:Nat->Nat) (V:List Nat),V.Nodup->0<=Dg E lab V
 |[],lab,V,_=>by rw[OI];split<;>omega
 |e::E,lab,V,h=>by
  by_cases h1:lab e.1=lab e.2
  ·rw[OH h1];exact Pi E lab V h
  ·by_cases h2:lab e.2∈V
   ·rw[aj (Wi h1) h2 h];have a:=Pi E lab V h;have b:=Pi E (mg lab (lab e.2) (lab e.1)) _ (ai (q:=lab e.2) h);omega
   ·by_cases h3:lab e.1∈V
    ·rw[aj (Wi h1).sym h3 h];have a:=Pi E lab V h;have b:=Pi E (mg lab (lab e.1) (lab e.2)) _ (ai (q:=lab e.1) h);omega
    ·rw[AH h3 h2];exact Pi E lab V h
def e0k (hp:p∉V) (hq:q∉V):Dg E (mg lab q p) V=Dg E lab V:=by unfold Dg;rw[Ly hp hq]
def c8Z {l V:List Nat} (h:(l++V).Nodup):V.Nodup:=(gA.1 h).2.1
def Wj:∀(E:List (Nat×Nat)) (lab:Nat->Nat) (l V:List Nat),(l++V).Nodup->Dg E lab V=0->Dg E lab (l++V)=0
 |[],lab,l,V,_,h=>by
  rw[OI]at h⊢;rw[if_neg];intro hh;rw[if_pos (by simpa using(List.append_eq_nil_iff.1 hh).2)]at h;omega
 |e::E,lab,l,V,hn,h=>by
  have hv:=c8Z hn;by_cases h1:lab e.1=lab e.2
  ·rw[OH h1]at h⊢;exact Wj E lab l V hn h
  ·--q in V
   have key:∀p q,Ends lab e p q->q∈V->Dg (e::E) lab (l++V)=0:=fun p q he hq=>by
    rw[aj he hq hv]at h;have a:=Pi E lab V hv;have b:=Pi E (mg lab q p) _ (ai (q:=q) hv);have hql:q∉l:=fun hh=>(gA.1 hn).2.2 q hh q hq rfl;have hw:Fq (l++V) q=l++Fq V q:=by rw[AI,kx hql]
    rw[aj he (by simp[hq]) hn,Wj E lab l V hn aA,hw,Wj E _ l _ (by rw[<-hw];exact ai hn) aA];rfl
   by_cases h2:lab e.2∈V
   ·exact key _ _ (Wi h1) h2
   ·by_cases h3:lab e.1∈V
    ·exact key _ _ (Wi h1).sym h3
    ·rw[AH h3 h2]at h;have i1:=Wj E lab l V hn h;have key2:∀p q,Ends lab e p q->q∈l->q∉V->p∉V->Dg (e::E) lab (l++V)=0:=fun p q he hq hqV hpV=>by
      have hw:Fq (l++V) q=Fq l q++V:=by rw[AI,kx hqV]
      rw[aj he (by simp[hq]) hn,i1,hw,Wj E _ _ V (by rw[<-hw];exact ai hn) (by rw[e0k hpV hqV];exact h)];rfl
     by_cases h4:lab e.2∈l
     ·exact key2 _ _ (Wi h1) h4 h2 h3
     ·by_cases h5:lab e.1∈l
      ·exact key2 _ _ (Wi h1).sym h5 h3 h2
      ·rw[AH (by simp[h3,h5]) (by simp[h2,h4])];exact i1
def AK (lab:Nat->Nat) (x:Nat):∀E:List (Nat×Nat),Fm (E.filter fun e=>lab e.1 !=lab e.2) (cv lab x)=Fm E (cv lab x)
 |[]=>rfl
 |e::E=>by
  by_cases h:lab e.1=lab e.2
  ·rw[dH (by simp[h]),AK lab x E];refine(OE ?_).symm;rw[Ph,h];omega
  ·rw[eE (by simp[h])];funext v;simp only[Fm];rw[AK lab x E]
def c2P (E:List (Nat×Nat)) (lab:Nat->Nat) (V:List Nat):Dg (E.filter fun e=>lab e.1 !=lab e.2) lab V=Dg E lab V:=by
 unfold Dg Dv;rw[dO,dO];congr 1;exact dK fun x _=>AK lab x E
end
def OJ {C:Type} {c:C} {d:List (C->Int)->Int} {B K:Nat}:∀(l pre:List (C->Int)),(∀r∈l,(r c).natAbs<=B)->(∀p s:List (C->Int),∀x,pre++l=p++x::s->(d (p++s)).natAbs<=K)->(dx c d pre l).natAbs<=l.length*(B*K)
 |[],pre,_,_=>by simp[dx]
 |x::l,pre,h,hd=>by
  simp only[dx,aP];have h1:=OJ l (pre++[x]) (fun r hr=>h r (by simp[hr])) (fun p s y hy=>hd p s y (by simpa using hy));have h2:=hd pre l x rfl;have h3:(x c*d (pre++l)).natAbs<=B*K:=by rw[jQ];exact eH (h x aD) h2
  rw[Nat.succ_mul];omega
def OK {C:Type} {B:Nat}:∀(cs:List C) (l:List (C->Int)) (m:Nat),l.length<=m->(∀r∈l,∀c∈cs,(r c).natAbs<=B)->(dt cs l).natAbs<=(m*B)^cs.length
 |[],[],_,_,_=>by simp[dt]
 |[],_::_,_,_,_=>by simp[dt]
 |c::cs,l,m,hl,h=>by
  have h1:=OJ (c:=c) (d:=dt cs) (B:=B) (K:=(m*B)^cs.length) l [] (fun r hr=>h r hr c aD) fun p s x hx=>by
   simp only[dA]at hx;refine OK cs (p++s) m ?_ fun r hr e he=>h r ?_ e (by simp[he])
   ·rw[hx]at hl;simp at hl⊢;omega
   ·rw[hx];simp at hr⊢;rcases hr with hr|hr<;>simp[hr]
  refine cK h1 ?_;rw[aP,Nat.pow_succ,<-Nat.mul_assoc,eF ((m*B)^cs.length)];exact bC _ (bC _ hl)
def OL (e:Nat×Nat) (lab:Nat->Nat) (x:Nat):(dl e (cv lab x)).natAbs<=1:=by
 rw[Ph];split<;>split<;>decide
def OM (lab:Nat->Nat) (x y:Nat):∀E:List (Nat×Nat),(Fm E (cv lab x) (cv lab y)).natAbs<=E.length
 |[]=>by simp[Fm]
 |e::E=>by
  simp only[Fm,aP];have h1:=OM lab x y E;have h2:(dl e (cv lab x)*dl e (cv lab y)).natAbs<=1:=by rw[jQ];exact cK (eH (OL e lab x) (OL e lab y)) aC
  omega
def lst (set:Nat):Nat:=(els set).headD 64
def ky (set:Nat) (f:Nat->Nat):List Nat:=(eO 64).filter fun x=>bit set x&&decide (f x=x)&&decide (x≠f (lst set))
def KK (E:List (Nat×Nat)) (set:Nat) (f:Nat->Nat):Int:=Dg E f (ky set f).reverse
def e0l (set:Nat) (f:Nat->Nat):(ky set f).Nodup:=List.nodup_range.filter _
section
variable {set:Nat} {f:Nat->Nat} {e:Nat×Nat} {E:List (Nat×Nat)}
def c2Q (E:List (Nat×Nat)) (set:Nat) (f:Nat->Nat):KK (E.filter fun e=>f e.1 !=f e.2) set f=KK E set f:=c2P ..
end
def inE (es:List (Nat×Nat)) (set j:Nat):List (Nat×Nat):=(es.drop j).filter (inB set)
def trN (es:List (Nat×Nat)) (set:Nat) (t:List Int) (j:Nat):Int:=KK (inE es set j) set (lab (etl es t))
section
variable {es:List (Nat×Nat)} {set j:Nat} {t:List Int}
def ON (hs:set<M64) (h0:set≠0):bit set (lst set)=true:=by
 obtain⟨x,r,he,hx,_,_⟩:=e2V hs h0;unfold lst;rw[he];exact hx
end
end Go.GS
namespace Go.RX
open RowKit RZ
def mE (es:List (Int×Int×Nat)):List MapEntry:=es.map fun p=>⟨.int .i64 p.1,.int .i64 p.2.1,p.2.2⟩
def kv (es:List (Int×Int×Nat)):List (Int×Int):=es.map fun p=>(p.1,p.2.1)
def MI (H:PH) (m:Value) (L:List (Int×Int)):Prop:=(L.map (·.1)).Nodup/\∃r es clock,m= .map (some r)/\H r=some (.map (mE es).toArray clock)/\kv es=L
def MO (B H:PH) (m:Value) (L:List (Int×Int)):Prop:=(L.map (·.1)).Nodup/\∃r es clock,m= .map (some r)/\B r=none/\H r=some (.map (mE es).toArray clock)/\kv es=L
def MO.mi {B H:PH} {m:Value} {L:List (Int×Int)} (h:MO B H m L):MI H m L:=by
 obtain⟨h0,r,es,c,h1,_,h2,h3⟩:=h;exact⟨h0,r,es,c,h1,h2,h3⟩
def MI.mono {H H':PH} {m:Value} {L:List (Int×Int)} (h:MI H m L) (hl:Pl H H'):MI H' m L:=by
 obtain⟨h0,r,es,c,h1,h2,h3⟩:=h;exact⟨h0,r,es,c,h1,hl _ _ h2,h3⟩
def Tj (L:List (Int×Int)) (k v:Int):List (Int×Int):=if k∈L.map (·.1)then L.map fun p=>if p.1=k then(k,v)else p else L++[(k,v)]
def OO {L:List (Int×Int)} {k v:Int} (h:(L.map (·.1)).Nodup):((Tj L k v).map (·.1)).Nodup:=by
 unfold Tj;split
 ·rw[dO];have:((fun p:Int×Int=>p.1) ∘ fun p:Int×Int=>if p.1=k then(k,v)else p)=fun p:Int×Int=>p.1:=by
   funext p;simp only[Function.comp];split
   ·rename_i e;exact e.symm
   ·rfl
  rw[this];exact h
 ·rename_i hk;rw[bM,gA];refine⟨h,aD,fun a ha b hb=> ?_⟩;simp only[bI,bR,bB]at hb;subst hb;intro e;subst e;exact hk ha
section
variable {P:Program} {H:PH} {o:Oper} {x y z:Operand} {T kt et:TypeId}
def d5h (es:List (Int×Int×Nat)):∀e∈mE es,∃b,e.key= .int .i64 b:=fun e he=>by
 obtain⟨p,_,rfl⟩:=aZ.1 he;exact⟨p.1,rfl⟩
def OQ {L:List (Int×Int)} {es:List (Int×Int×Nat)} (rW:kv es=L) (k:Int):
  (Instr.findNow (.int .i64) (.int .i64 k) (mE es) 0=some none/\k∉L.map (·.1))\/∃j p,Instr.findNow (.int .i64) (.int .i64 k) (mE es) 0=some (some (j,.int .i64 p.2.1))/\es[j]? =some p/\p.1=k:=by
 rcases jz (q:= .i64) (n:=k) (mE es) 0 (d5h es)with⟨h1,h2⟩|⟨j,e,h1,h2,h3⟩
 ·refine .inl ⟨h1,fun hk=> ?_⟩;subst rW;unfold kv at hk;rw[dO]at hk;obtain⟨p,hp,e⟩:=aZ.1 hk;exact h2 _ (aZ.2 ⟨p,hp,rfl⟩) (by simp only[Function.comp]at e;rw[<-e])
 ·unfold mE at h2;rw[aX]at h2;obtain⟨p,hp,rfl⟩:=eZ.1 h2;refine .inr ⟨j,p,by rw[h1,bJ],hp,?_⟩;simp only[kP,true_and]at h3;exact h3
def c9a {B:PH} {vs:List Value} {m:Value} {L:List (Int×Int)} {k v:Int} (ho:o.op= .mapUpdate T x y z) (hx:e8 [x,y,z] vs x=m) (hy:e8 [x,y,z] vs y= .int .i64 k) (hz:e8 [x,y,z] vs z= .int .i64 v) (hu:P.underlying T=some (.map kt et)) (hk:P.underlying kt=some (.int .i64))
  (pY:Pl B H) (h:MO B H m L):Opn P o vs H fun u H'=>u=undef/\Pl B H'/\MO B H' m (Tj L k v)/\∃g ob E c,B g=none/\H g=some (.map E c)/\H'=H.put g ob:=fun w hw=>by
 obtain⟨h0,r,es,clock,rfl,hB,hH,rW⟩:=h;have qE:o.op.operands.toList=[x,y,z]:=by simp[ho,Op.operands]
 have hb:=hw _ _ hH;unfold Stp;rw[qE];have tK:∀ob,Pl B (H.put r ob):=fun ob c cb hc=>by
  rw[PH.put_ne _ _ (fun e=>by subst e;rw[hB]at hc;cases hc)];exact pY _ _ hc
 simp only[execOp,ho,hx,hy,hz,eK,Instr.mapUpdate,run_underlying hu,eJ,Ih hb,Ld hk,Instr.findKey,run_underlying hk];rcases OQ rW k with⟨h1,h2⟩|⟨j,p,h1,h2,h3⟩
 ·rw[h1];simp only[eJ,eL,Yz _ hb];refine⟨_,Step.setB hw hH _,by first|rfl|trivial,tK _,⟨OO h0,r,es++[(k,v,clock)],clock+1,rfl,hB,?_,?_⟩,r,_,_,_,hB,hH,rfl⟩
  ·rw[PH.put_self];simp[mE]
  ·unfold Tj;rw[if_neg h2,<-rW];simp[kv]
 ·rw[h1];have rB:∀w:World,(Instr.keyThatStays (.int .i64 k) (.int .i64 k)).run P w= .ok (.int .i64 k) w:=fun w=>by simp[Instr.keyThatStays,Instr.sameBits]
  have hje:((mE es).toArray[j]?.map (·.key)).getD (.int .i64 k)= .int .i64 k:=by
   simp[mE,h2,h3]
  simp only[eJ,eL,hje,eK,rB,Yz _ hb];refine⟨_,Step.setB hw hH _,by first|rfl|trivial,tK _,⟨OO h0,r,es.set j (k,v,p.2.2),clock,rfl,hB,?_,?_⟩,r,_,_,_,hB,hH,rfl⟩
  ·rw[PH.put_self];congr 2;rw[<-bS];simp only[Array.toList_modify];apply bP;intro i;simp only[List.getElem?_modify,mE,aX,dF];by_cases e:j=i
   ·subst e;obtain⟨zL,h5⟩:=aH.1 h2;simp[zL,h5,h3]
   ·simp[e]
  ·have rI:k∈L.map (·.1):=by
    rw[<-rW];unfold kv;rw[dO];exact aZ.2 ⟨p,aK h2,h3⟩
   unfold Tj;rw[if_pos rI,<-rW];rw[<-rW]at h0;unfold kv at h0⊢;rw[dO]at h0⊢;apply bP;intro i;simp only[aX,dF,Function.comp];by_cases e:j=i
   ·subst e;obtain⟨zL,h5⟩:=aH.1 h2;simp[zL,h5,h3]
   ·rw[if_neg e];cases hi:es[i]? with
    |none=>rfl
    |some q=>
     have qJ:q.1≠k:=fun e2=>e (by
      have l1:=(aH.1 h2).1;refine(gX (by simpa using l1) h0).1 ?_;rw[aX,aX,h2,hi];simp[h3,e2])
     simp[qJ]
def c2S {vs:List Value} {m:Value} {L:List (Int×Int)} {k:Int} {ok:Bool} {w:World} (ho:o.op= .lookup T x y ok) (hx:e8 [x,y] vs x=m) (hy:e8 [x,y] vs y= .int .i64 k) (hu:P.underlying T=some (.map kt et)) (hk:P.underlying kt=some (.int .i64)) (hz:∀w,(zeroValue et).run P w= .ok (.int .i64 0) w) (h:MI H m L) (hw:H.In w) (u:Int) (b:Bool)
  (wG:(b=false/\u=0/\k∉L.map (·.1))\/(b=true/\(k,u)∈L)):(execOp (e8 o.op.operands.toList vs) o).run P w= .ok (.value (if ok then .tuple #[.int .i64 u,.bool b]else .int .i64 u)) w:=by
 obtain⟨h0,r,es,clock,rfl,hH,rW⟩:=h;have qE:o.op.operands.toList=[x,y]:=by simp[ho,Op.operands]
 have hb:=hw _ _ hH;rw[qE];simp only[execOp,ho,hx,hy,eK,Instr.lookup,run_underlying hu,eJ,Ih hb,eL,Ld hk,Instr.findKey,run_underlying hk];rcases OQ rW k with⟨h1,h2⟩|⟨j,p,h1,h2,h3⟩
 ·rcases wG with⟨rfl,rfl,_⟩|⟨_,hm⟩
  ·rw[h1];simp[hz]
  ·exact absurd (aZ.2 ⟨_,hm,rfl⟩) h2
 ·have rJ:(k,p.2.1)∈L:=by
   rw[<-rW];unfold kv;exact aZ.2 ⟨p,aK h2,by rw[h3]⟩
  rcases wG with⟨_,_,hn⟩|⟨rfl,hm⟩
  ·exact absurd (aZ.2 ⟨_,rJ,rfl⟩) hn
  ·have:p.2.1=u:=by
    obtain⟨i1,m1⟩:=gR.1 rJ;obtain⟨i2,m2⟩:=gR.1 hm;have l1:=(aH.1 m1).1;have:i1=i2:=(gX (by simpa using l1) h0).1 (by rw[aX,aX,m1,m2];rfl);subst this;rw[m1]at m2;simp only[cN,kY,true_and]at m2;exact m2
   rw[h1,this];simp
def OR {vs:List Value} {m:Value} {L:List (Int×Int)} {k u:Int} {b:Bool} (ho:o.op= .lookup T x y true) (hx:e8 [x,y] vs x=m) (hy:e8 [x,y] vs y= .int .i64 k) (hu:P.underlying T=some (.map kt et)) (hk:P.underlying kt=some (.int .i64)) (hz:∀w,(zeroValue et).run P w= .ok (.int .i64 0) w) (h:MI H m L)
  (wG:(b=false/\u=0/\k∉L.map (·.1))\/(b=true/\(k,u)∈L)):Rds P o vs H (.tuple #[.int .i64 u,.bool b]):=fun w hw=>by
 rw[c2S ho hx hy hu hk hz h hw u b wG];rfl
def AL {t:TypeId} {vs:List Value} {m:Value} {L:List (Int×Int)} (ho:o.op= .call ⟨.builtin .len,#[x],#[t]⟩) (hx:e8 [x] vs x=m) (hu:P.underlying t=some (.map kt et)) (h:MI H m L):Rds P o vs H (.int .i64 (L.length:Nat)):=by
 obtain⟨h0,r,es,clock,rfl,hH,rW⟩:=h;have:=MQ (P:=P) ho hx hu hH;have e:(mE es).toArray.size=L.length:=by rw[<-rW];simp[mE,kv]
 rw[e]at this;exact this
end
def bE (es:List (Int×Nat)):List MapEntry:=es.map fun p=>⟨.int .i64 p.1,.bool true,p.2⟩
def MB (H:PH) (m:Value) (S:List Int):Prop:=S.Nodup/\((m= .map none/\S=[])\/∃r es clock,m= .map (some r)/\H r=some (.map (bE es).toArray clock)/\es.map (·.1)=S)
def MB.none (H:PH):MB H (.map none) []:=⟨List.nodup_nil,.inl ⟨rfl,rfl⟩⟩
def MB.mono {H H':PH} {m:Value} {S:List Int} (h:MB H m S) (hl:Pl H H'):MB H' m S:=by
 obtain⟨h0,h|⟨r,es,c,h1,h2,h3⟩⟩:=h
 ·exact⟨h0,.inl h⟩
 ·exact⟨h0,.inr ⟨r,es,c,h1,hl _ _ h2,h3⟩⟩
section
variable {P:Program} {H:PH} {o:Oper} {x y z:Operand} {T kt et:TypeId}
def d5i (es:List (Int×Nat)):∀e∈bE es,∃b,e.key= .int .i64 b:=fun e he=>by
 obtain⟨p,_,rfl⟩:=aZ.1 he;exact⟨p.1,rfl⟩
def d5j {S:List Int} {es:List (Int×Nat)} (rW:es.map (·.1)=S) (k:Int):
  (Instr.findNow (.int .i64) (.int .i64 k) (bE es) 0=some none/\k∉S)\/∃j p,Instr.findNow (.int .i64) (.int .i64 k) (bE es) 0=some (some (j,.bool true))/\es[j]? =some p/\p.1=k:=by
 rcases jz (q:= .i64) (n:=k) (bE es) 0 (d5i es)with⟨h1,h2⟩|⟨j,e,h1,h2,h3⟩
 ·refine .inl ⟨h1,fun hk=> ?_⟩;subst rW;obtain⟨p,hp,e⟩:=aZ.1 hk;exact h2 _ (aZ.2 ⟨p,hp,rfl⟩) (by simp only;rw[<-e])
 ·unfold bE at h2;rw[aX]at h2;obtain⟨p,hp,rfl⟩:=eZ.1 h2;refine .inr ⟨j,p,by rw[h1,bJ],hp,?_⟩;simp only[kP,true_and]at h3;exact h3
def OS {vs:List Value} {m:Value} {S:List Int} {k:Int} (ho:o.op= .lookup T x y false) (hx:e8 [x,y] vs x=m) (hy:e8 [x,y] vs y= .int .i64 k) (hu:P.underlying T=some (.map kt et)) (hk:P.underlying kt=some (.int .i64)) (hz:∀w,(zeroValue et).run P w= .ok (.bool false) w) (h:MB H m S):Rds P o vs H (.bool (decide (k∈S))):=fun w hw=>by
 have qE:o.op.operands.toList=[x,y]:=by simp[ho,Op.operands]
 rw[qE];obtain⟨h0,⟨rfl,rfl⟩|⟨r,es,clock,rfl,hH,rW⟩⟩:=h
 ·simp[execOp,ho,hx,hy,eK,Instr.lookup,run_underlying hu,eJ,eL,Ld hk,hz,Instr.findKey,run_underlying hk,Instr.findNow]
 ·have hb:=hw _ _ hH;simp only[execOp,ho,hx,hy,eK,Instr.lookup,run_underlying hu,eJ,Ih hb,eL,Ld hk,Instr.findKey,run_underlying hk];rcases d5j rW k with⟨h1,h2⟩|⟨j,p,h1,h2,h3⟩
  ·rw[h1];simp[hz,h2]
  ·have:k∈S:=by rw[<-rW];exact aZ.2 ⟨p,aK h2,h3⟩
   rw[h1];simp[this]
end
def Ft {P:Program} {G Xp:Value->PH->Prop} {nx:List (List Value->PH->Prop)} {ρ:List Value} {X H:PH} {pf:Bool} {f:FuncId} {args:List SV} {t:Tree} {vs:List Value} {W:Value->PH->Prop} (hc:Con P f vs X fun u X'=>Pl X X'/\W u X') (hX:Pl X H) (ha:args.map (D P ρ)=vs)
  (n:∀u X' H',Pl X X'->W u X'->Pl X' H'->Pl H H'->(∀k,H k≠none->X k=none->X' k=none)->den P G Xp t nx (ρ++[u]) H'):den P G Xp (.call pf f args t) nx ρ H:=by
 refine f0 (hc.frame hX) ha ?_;rintro u H' ⟨X',⟨h1,h2⟩,h3,h4⟩;have pY:Pl H H':=fun k ob hk=>by
  cases e:X k with
  |none=>exact(h4 k ob hk e).2
  |some o2=>
   have:=hX _ _ e;rw[this]at hk;rw[<-hk];exact h3 _ _ (h1 _ _ e)
 exact⟨fun _=>pY,n u X' H' h1 h2 h3 pY fun k hk e=>by
  obtain⟨ob,hk⟩:=Option.ne_none_iff_exists'.1 hk;exact(h4 k ob hk e).1⟩
end Go.RX
namespace Go.GS
def blk (k:Nat):List Nat:=(eO k).reverse
def OT (k:Nat):blk (k+1)=k::blk k:=by unfold blk;rw[gU,mZ];rfl
def OU (k:Nat):(blk k).length=k:=by unfold blk;simp
def gk (F:Nat->Nat->Int) (k i j:Nat):Int:=dt (j::blk k) (F i::(blk k).map F)
def pk (F:Nat->Nat->Int) (k:Nat):Int:=dt (blk k) ((blk k).map F)
section
variable {F:Nat->Nat->Int} {k i j n:Nat}
def kz (F:Nat->Nat->Int) (k:Nat):gk F k k k=pk F (k+1):=by unfold gk pk;rw[OT];rfl
def OV (F:Nat->Nat->Int):pk F 0=1:=rfl
def d5k (F:Nat->Nat->Int) (i j:Nat):gk F 0 i j=F i j:=by simp[gk,blk,dt,dx]
def d5l:pk F k*gk F (k+1) i j=gk F k i j*gk F k k k-gk F k i k*gk F k k j:=by
 have:=d5b (blk k) ((blk k).map F) (F k) (F i) k j;unfold gk pk;rw[OT,bI,this]
 grind
def e0m (h:pk F k≠0):(gk F k i j*gk F k k k-gk F k i k*gk F k k j)/pk F k=gk F (k+1) i j:=by
 rw[<-d5l,Int.mul_ediv_cancel_left _ h]
def c9b {B:Nat} (h:∀i j,(F i j).natAbs<=B) (k i j:Nat):(gk F k i j).natAbs<=((k+1)*B)^(k+1):=by
 have:=OK (B:=B) (j::blk k) (F i::(blk k).map F) (k+1) (by simp[OU]) (fun r hr c hc=>by
  rcases bG.1 hr with rfl|hr
  ·exact h _ _
  ·obtain⟨x,_,rfl⟩:=aZ.1 hr;exact h _ _)
 unfold gk;simpa[OU]using this
end
def OW {C R:Type} (φ:R->C) (c:R) (cs:List R) (ih:∀l:List (C->Int),dt (cs.map φ) l=dt cs (l.map fun r x=>r (φ x))):∀(l p:List (C->Int)),dx (φ c) (dt (cs.map φ)) p l=dx c (dt cs) (p.map fun r x=>r (φ x)) (l.map fun r x=>r (φ x))
 |[],_=>rfl
 |x::l,p=>by
  simp only[bI,dx];rw[ih,OW φ c cs ih l (p++[x]),bM,bM];rfl
def OX {C R:Type} (φ:R->C):∀(cs:List R) (l:List (C->Int)),dt (cs.map φ) l=dt cs (l.map fun r x=>r (φ x))
 |[],[]=>rfl
 |[],_::_=>rfl
 |c::cs,l=>OW φ c cs (OX φ cs) l []
def Mc (E:List (Nat×Nat)) (lab:Nat->Nat) (V:List Nat) (i j:Nat):Int:=Fm E (cv lab (V.getD i 0)) (cv lab (V.getD j 0))
def c9d (V:List Nat) {k:Nat} (hk:k<=V.length):(blk k).map (fun i=>V.getD i 0)=(V.take k).reverse:=by
 unfold blk;rw[List.map_reverse];congr 1;apply bP;intro i;rw[aX,eI];by_cases h:i<k
 ·rw[cP h,if_pos h,cR,aJ,aG aA];rfl
 ·rw[if_neg h,aO (by simp;omega)];rfl
def OY (E:List (Nat×Nat)) (lab:Nat->Nat) (V:List Nat) {k:Nat} (hk:k<=V.length):pk (Mc E lab V) k=Dg E lab (V.take k).reverse:=by
 unfold Dg Dv;rw[<-c9d V hk,dO,dO,OX,dO];rfl
def OZ (E:List (Nat×Nat)) (lab:Nat->Nat) (V:List Nat):pk (Mc E lab V) V.length=Dg E lab V.reverse:=by
 rw[OY E lab V (aS _),eB]
def c2W (E:List (Nat×Nat)) (lab:Nat->Nat) {V:List Nat} (hn:V.Nodup) {k:Nat} (hk:k<=V.length) (h:pk (Mc E lab V) k=0):Dg E lab V.reverse=0:=by
 rw[OY E lab V hk]at h;have e:V.reverse=(V.drop k).reverse++(V.take k).reverse:=by rw[<-mZ,dQ]
 rw[e];refine Wj E lab _ _ ?_ h;rw[<-e];unfold List.Nodup;rw[List.pairwise_reverse];exact hn.imp fun h hh=>h hh.symm
def PC (E:List (Nat×Nat)) (lab:Nat->Nat) (V:List Nat) (i j:Nat):(Mc E lab V i j).natAbs<=E.length:=OM lab _ _ E
end Go.GS
namespace Go.Z
open Proofs.Tryz RowKit RX GS WD
abbrev LV:=Bool×Slc
def lc (x:LV):List Value:=[.bool x.1,vs x.2]
def lv (x:LV):Value:= .agg #[.bool x.1,vs x.2]
def el_long:El prog 334 106 2 true lc lv where
 und:=aB
 has:=aB
 cel:=aB
 agg:=aB
 pos:=aC
 one1:=fun h=>(nomatch h)
 small:=aC
 inf:=⟨(prog.info? 106).getD default,lv (false,(none,0,0)),aB,aB,aB,rfl,oDt aB⟩
 len:=fun _=>rfl
 val:=fun _=>rfl
 cells:=fun _=>rfl
 one:=fun x c hc=>by simp[lc]at hc;rcases hc with rfl|rfl<;>rfl
def Fa:El prog 333 334 1 false (fun s:Slc=>[vs s]) vs where
 und:=aB
 has:=aB
 cel:=aB
 agg:=aB
 pos:=aC
 one1:=fun _=>rfl
 small:=aC
 inf:=⟨(prog.info? 334).getD default,vs (none,0,0),aB,aB,aB,rfl,oDt aB⟩
 len:=fun _=>rfl
 val:=fun _=>rfl
 cells:=fun _=>rfl
 one:=fun x c hc=>by simp at hc;subst hc;rfl
def Pj {H:PH} {v:Value} {z:Int} (h:Lw H v z):∃x,v=lv x:=by
 obtain⟨w,rfl,l,⟨⟨_,a,c,rfl,_⟩,_⟩,_⟩:=h;exact⟨(_,(a,l.length,c)),rfl⟩
def e2W:j3 prog 106=lv (false,(none,0,0)):=aB
def d5m (H:PH):Lw H (lv (false,(none,0,0))) 0:=⟨.slice none 0 0,rfl,[],⟨⟨rfl,none,0,rfl,aS _,by simp[maxLen],.inl rfl⟩,fun d hd=>by cases hd⟩,fun i hi=>by simp at hi⊢,rfl⟩
def Dw (M:Nat->Nat->LV) (n i:Nat):List LV:=(eO n).map (M i)
def Tn {M:Nat->Nat->LV} {n i j:Nat} (h:j<n):(Dw M n i)[j]? =some (M i j):=by unfold Dw;rw[aX,cP h];rfl
def PD (M:Nat->Nat->LV) (n i:Nat):(Dw M n i).length=n:=by unfold Dw;simp
def Jw (M:Nat->Nat->LV) (i j:Nat) (x:LV):Nat->Nat->LV:=fun a b=>if a=i/\b=j then x else M a b
def c9e (M:Nat->Nat->LV) (n i j:Nat) (x:LV):Dw (Jw M i j x) n i=(Dw M n i).set j x:=by
 apply bP;intro b;unfold Dw Jw;rw[dF,aX,aX];by_cases hb:b<n
 ·rw[cP hb];by_cases e:b=j
  ·subst e;simp[hb]
  ·have e':¬j=b:=fun h=>e h.symm;simp[e,e']
 ·rw[aO (by simp;omega)];by_cases e:j=b
  ·subst e;simp[hb]
  ·simp[e]
def c9f {M:Nat->Nat->LV} {n i a j:Nat} {x:LV} (h:a≠i):Dw (Jw M i j x) n a=Dw M n a:=by
 unfold Dw Jw;exact dK fun b _=>if_neg fun hh=>h hh.1
def rsl (n g:Nat):Slc:=(some ⟨g,0,none⟩,n,n)
structure MX (X H:PH) (gs:List Nat) (n:Nat) (M:Nat->Nat->LV):Prop where
 nd:gs.Nodup
 n64:n<=64
 row:∀(i g:Nat),gs[i]? =some g->X g=none/\SO (Bm H g) H 106 2 lc (vs (rsl n g)) (Dw M n i)
def AM (H:PH) (g:Nat):Bm H g g=none:=if_pos rfl
def Wl {α:Type} {e:TypeId} {sz:Nat} {ce:α->List Value} {H H':PH} {g n:Nat} {l:List α} (h:SO (Bm H g) H e sz ce (vs (rsl n g)) l) (hk:∀ob,H g=some ob->H' g=some ob):SO (Bm H' g) H' e sz ce (vs (rsl n g)) l:=by
 obtain⟨h1,⟨h2,h3⟩|⟨g',cap,cur,h2,h3,h4,h5⟩⟩:=h
 ·cases h2
 ·simp only[vs,rsl,Value.slice.injEq,cN,Addr.mk.injEq]at h2;obtain⟨⟨rfl,-,-⟩,h6,h7⟩:=h2;exact⟨h1,.inr ⟨g,cap,cur,by simp only[vs,rsl];rw[<-h6,<-h7],AM _ _,hk _ h4,h5⟩⟩
section
variable {X H X' H':PH} {gs:List Nat} {n i j g:Nat} {M:Nat->Nat->LV} {x:LV} {v:Value} {z:Int}
def MX.se (h:MX X H gs n M) (hg:gs[i]? =some g):SE H 2 lc (vs (rsl n g)) (Dw M n i):=(h.row i g hg).2.se
def MX.bound (h:MX X H gs n M) (hg:gs[i]? =some g):∃ob,H g=some ob:=by
 obtain⟨h1,⟨h2,h3⟩|⟨g',cap,cur,h2,h3,h4,h5⟩⟩:=(h.row i g hg).2
 ·cases h2
 ·simp only[vs,rsl,Value.slice.injEq,cN,Addr.mk.injEq]at h2;obtain⟨⟨rfl,-,-⟩,h6,h7⟩:=h2;exact⟨_,h4⟩
def MX.mono (h:MX X H gs n M) (hl:Pl H H') (hk:∀k,H k≠none->X k=none->X' k=none):MX X' H' gs n M:=
 ⟨h.nd,h.n64,fun i g hg=>by
  obtain⟨ob,hb⟩:=h.bound hg;exact⟨hk g (by rw[hb];simp) (h.row i g hg).1,Wl (h.row i g hg).2 fun o ho=>hl _ _ ho⟩⟩
def MX.put (h:MX X H gs n M) (hg:gs[i]? =some g) (hl:Pl (Bm H g) H') (ho:SO (Bm H g) H' 106 2 lc (vs (rsl n g)) ((Dw M n i).set j x)):MX X H' gs n (Jw M i j x):=
 ⟨h.nd,h.n64,fun a b hb=>by
  by_cases e:a=i
  ·subst e;obtain rfl:g=b:=eX.inj (hg.symm.trans hb);refine⟨(h.row a g hg).1,?_⟩;rw[c9e];have hc:Bm (Bm H g) g=Bm H g:=by
    funext k;unfold Bm;split<;>simp_all
   have:SO (Bm H' g) H' 106 2 lc (vs (rsl n g)) ((Dw M n a).set j x):=by
    obtain⟨h1,⟨h2,h3⟩|⟨g',cap,cur,h2,h3,h4,h5⟩⟩:=ho
    ·cases h2
    ·simp only[vs,rsl,Value.slice.injEq,cN,Addr.mk.injEq]at h2;obtain⟨⟨rfl,-,-⟩,h6,h7⟩:=h2;exact⟨h1,.inr ⟨g,cap,cur,by simp only[vs,rsl];rw[<-h6,<-h7],AM _ _,h4,h5⟩⟩
   exact this
  ·have qJ:b≠g:=fun hh=>by
    subst hh;have l1:=(aH.1 hg).1;exact e ((gX l1 h.nd).1 (hg.trans hb.symm)).symm
   obtain⟨h1,h2⟩:=h.row a b hb;rw[c9f e];exact⟨h1,Wl h2 fun ob sE=>hl _ _ (by unfold Bm;rw[if_neg qJ];exact sE)⟩⟩
def MX.cut (h:MX X H gs n M) (hg:gs[i]? =some g) (hX:Pl X H):Pl X (Bm H g):=fun k ob hk=>by
 unfold Bm;rw[if_neg (fun e=>by subst e;rw[(h.row i k hg).1]at hk;cases hk)];exact hX _ _ hk
end
def Vl (X:PH) (n k:Nat) (M:Nat->Nat->LV) (Z:Nat->Nat->Int):Prop:=∀i j,k<=i->k<=j->i<n->j<n->Lw X (lv (M i j)) (Z i j)
def Vl.mono {X X':PH} {n k:Nat} {M:Nat->Nat->LV} {Z:Nat->Nat->Int} (h:Vl X n k M Z) (hl:Pl X X'):Vl X' n k M Z:=fun i j a b c d=>(h i j a b c d).mono hl
def Vl.put {X:PH} {n k i j:Nat} {M:Nat->Nat->LV} {Z Z':Nat->Nat->Int} {x:LV} (h:Vl X n k M Z) (hx:Lw X (lv x) (Z' i j)) (hz:∀a b,k<=a->k<=b->a<n->b<n->¬(a=i/\b=j)->Z' a b=Z a b):Vl X n k (Jw M i j x) Z':=fun a b h1 h2 h3 h4=>by
 unfold Jw;by_cases e:a=i/\b=j
 ·rw[if_pos e,e.1,e.2];exact hx
 ·rw[if_neg e,hz a b h1 h2 h3 h4 e];exact h a b h1 h2 h3 h4
def Zk (F:Nat->Nat->Int) (k r c i j:Nat):Int:=if k<i/\(i<r\/i=r/\j<c)then(gk F k i j*gk F k k k-gk F k i k*gk F k k j)/pk F k else gk F k i j
def SmZ (z:Int):Prop:=z.natAbs<BP 100
def SmZ.lm {z:Int} (h:SmZ z):Lm z:=aU h (Ha aC)
def SmZ.mul {y z:Int} (hy:SmZ y) (hz:SmZ z):(y*z).natAbs<BP 200:=by
 rw[jQ,show 200=100+100 from rfl,J6];exact Nat.mul_lt_mul'' hy hz
def PE {z:Int} (h:z.natAbs<BP 200):Lm z:=aU h (Ha aC)
def e0o {y z:Int} (hy:y.natAbs<BP 200) (hz:z.natAbs<BP 200):Lm (y-z):=by
 have h:BP 201<=BP 10000:=Ha aC;rw[BP_succ]at h;unfold Lm;omega
def Md {gs:List Nat} {n i g:Nat} (h:gs[i]? =some g):(gs.map (rsl n))[i]? =some (rsl n g):=by rw[aX,h];rfl
def AN {gs:List Nat} {i n:Nat} (hn:gs.length=n) (h:i<n):∃g,gs[i]? =some g:=⟨_,aG aA⟩
structure Mt (X0 X H:PH) (gs:List Nat) (n k:Nat) (M:Nat->Nat->LV) (Z:Nat->Nat->Int):Prop where
 x0:Pl X0 X
 xh:Pl X H
 mx:MX X H gs n M
 vl:Vl X n k M Z
def Mt.grow {X0 X H X' H':PH} {gs:List Nat} {n k:Nat} {M:Nat->Nat->LV} {Z:Nat->Nat->Int} (h:Mt X0 X H gs n k M Z) (a:Pl X X') (b:Pl X' H') (c:Pl H H') (d:∀k,H k≠none->X k=none->X' k=none):Mt X0 X' H' gs n k M Z:=⟨h.x0.trans a,b,h.mx.mono c d,h.vl.mono a⟩
def e2X {F:Nat->Nat->Int} (hb:∀k i j,k<=64->SmZ (gk F k i j)) {k:Nat} (hk:k<=64):SmZ (pk F k):=by
 cases k with
 |zero=>
  rw[OV];show(1:Nat)<BP 100;have:BP 0<BP 100:=BP_lt_iff.2 aC;rw[BP_zero]at this;exact this
 |succ k=>rw[<-kz];exact hb k k k aA
def Wm {F:Nat->Nat->Int} {k r c i j:Nat} (h:¬(k<i/\(i<r\/i=r/\j<c))):Zk F k r c i j=gk F k i j:=if_neg h
def e0p {F:Nat->Nat->Int} {k r c i j:Nat} (h:¬(i=r/\j=c)):Zk F k r (c+1) i j=Zk F k r c i j:=by
 unfold Zk;split<;>split<;>(first|rfl|omega)
def e0q {F:Nat->Nat->Int} {k r c i j:Nat} (h:k<=j) (hj:j<c):Zk F k (r+1) k i j=Zk F k r c i j:=by
 unfold Zk;split<;>split<;>(first|rfl|omega)
def sgI_zeroG {z:Int}:(sgI z 0==0)=true↔z=0:=by
 unfold sgI;rw[beq_iff_eq];split<;>(try split)<;>simp<;>omega
def c9g {H X:PH} {v:Value} {gs:List Nat} {n:Nat} {M:Nat->Nat->LV} {F:Nat->Nat->Int} (hX:Pl X H) (hv:SE X 1 (fun s:Slc=>[vs s]) v (gs.map (rsl n))) (hM:MX X H gs n M) (hn:gs.length=n) (hF:Vl X n 0 M F) (hb:∀k i j,k<=64->SmZ (gk F k i j)) (hc:∀k,k<=n->pk F k=0->pk F n=0):
  Con prog 224 [v] H fun u H'=>∃X',Pl X X'/\Pl X' H'/\Lw X' u (pk F n):=by
 refine g5 mixed d4n ?_;have sM:=hM.n64;refine Ft (Oq 1 aA aA) hX rfl fun v1 X1 H1 a1 w1 b1 c1 d1=> ?_;simp only[cA,nA];replace hM:=hM.mono c1 d1;obtain⟨x1,rfl⟩:=Pj w1;refine b4 w1.rq ?_;refine m9 Fa (hv.mono (a1.trans b1)) ?_;simp only[cA,nA];rw[aR,hn];refine r7 (α:=Nat×Value×LV) (fun⟨k,y,l⟩=>[ii (k:Nat),y,lv l]) (fun⟨k,y,l⟩=>fun H'=>k<=n/\∃X' M',Mt X X' H' gs n k M' (gk F k)/\Lw X' (lv l) (pk F k)/\pk F k≠0) (fun⟨k,y,l⟩=>n+1-k) ((0,j3 prog 106,x1)) rfl (⟨bK _,X1,M,⟨a1,b1,hM,fun i j h1 h2 h3 h4=>by rw[d5k];exact(hF i j h1 h2 h3 h4).mono a1⟩,w1,by rw[OV];omega⟩) fun⟨k,y,l⟩ H2 ⟨hk,X2,M2,t2,tO,rP⟩=> ?_;simp only[cA,nA];refine b9 (b9 ?_);refine g6 (b:=decide (((k:Nat):Int)<(n:Nat))) rfl (fun h=> ?_) (fun h=> ?_)
 ·replace h:=oDt h;have sH:k<n:=aA;obtain⟨g,hg⟩:=AN hn sH;refine n9 Fa (hv.mono (t2.x0.trans t2.xh)) (Md hg) fun _=> ?_;simp only[cA,nA];refine n9 el_long (t2.mx.se hg) (Tn sH) fun _=> ?_;simp only[cA,nA];refine f0 (jd ((t2.vl k k (aS _) (aS _) sH sH).mono t2.xh)) rfl ?_;rintro _ _ ⟨rfl,rfl⟩;refine nmI ?_;simp only[cA,nA];refine b9 ?_;refine g6 (b:=(sgI (gk F k k k) 0==0)) rfl (fun h2=> ?_) (fun h2=> ?_)
  ·skip
   refine Ft (Oq 0 aA aA) t2.xh rfl fun v11 X3 H3 a3 w3 b3 c3 d3=> ?_;simp only[cA,nA];obtain⟨x3,rfl⟩:=Pj w3;refine b4 w3.rq ?_;exact d4 rfl ⟨X3,t2.x0.trans a3,b3,by rw[hc (k+1) sH (by rw[<-kz];exact sgI_zeroG.1 h2)];exact w3⟩
  ·skip
   have a4u:gk F k k k≠0:=fun e=>by rw[sgI_zeroG.2 e]at h2;cases h2
   refine r7 (α:=Nat) (fun r=>[ii (r:Nat),y,lv l]) (fun r=>fun H'=>k<r/\r<=n/\∃X' M',Mt X X' H' gs n k M' (Zk F k r k)/\Lw X' (lv l) (pk F k)) (fun r=>n+1-r) (k+1) (By (j5 rfl aA) rfl rfl) (⟨aA,aA,X2,M2,⟨t2.x0,t2.xh,t2.mx,fun i j h1 h2 h3 h4=>by rw[Wm aA];exact t2.vl i j h1 h2 h3 h4⟩,tO⟩) fun r H3 ⟨sX,hr2,X3,M3,t3,vZ⟩=> ?_;simp only[cA,nA];refine m9 Fa (hv.mono (t3.x0.trans t3.xh)) ?_;simp only[cA,nA];rw[aR,hn];refine b9 (b9 ?_);refine g6 (b:=decide (((r:Nat):Int)<(n:Nat))) rfl (fun h3=> ?_) (fun h3=> ?_)
   ·replace h3:=oDt h3;have hrn:r<n:=aA;obtain⟨g2,hg2⟩:=AN hn hrn;refine n9 Fa (hv.mono (t3.x0.trans t3.xh)) (Md hg2) fun _=> ?_;simp only[cA,nA];refine n9 el_long (t3.mx.se hg2) (Tn sH) fun _=> ?_;simp only[cA,nA];generalize hf:M3 r k=f;have hf3:Lw X3 (lv f) (gk F k r k):=by rw[<-hf,<-Wm (F:=F) (k:=k) (r:=r) (c:=k) (i:=r) (j:=k) aA];exact t3.vl r k aA (aS _) hrn sH
    refine b4 (el_long.vcells f) ?_;refine r7 (α:=Nat) (fun c=>[ii (c:Nat)]) (fun c=>fun H'=>k<=c/\c<=n/\∃X' M',Mt X X' H' gs n k M' (Zk F k r c)/\Lw X' (lv l) (pk F k)/\Lw X' (lv f) (gk F k r k)) (fun c=>n+1-c) (k) rfl (⟨aS _,aA,X3,M3,t3,vZ,hf3⟩) fun c H4 ⟨rX,rR,X4,M4,t4,hl4,hf4⟩=> ?_;simp only[cA,nA];refine m9 Fa (hv.mono (t4.x0.trans t4.xh)) ?_;simp only[cA,nA];rw[aR,hn];refine b9 (b9 ?_);refine g6 (b:=decide (((c:Nat):Int)<(n:Nat))) rfl (fun h4=> ?_) (fun h4=> ?_)
    ·replace h4:=oDt h4;have yH:c<n:=aA;refine n9 Fa (hv.mono (t4.x0.trans t4.xh)) (Md hg2) fun _=> ?_;simp only[cA,nA];refine n9 el_long (t4.mx.se hg2) (Tn yH) fun _=> ?_;simp only[cA,nA];refine n9 Fa (hv.mono (t4.x0.trans t4.xh)) (Md hg) fun _=> ?_;simp only[cA,nA];refine n9 el_long (t4.mx.se hg) (Tn sH) fun _=> ?_;simp only[cA,nA];refine n9 Fa (hv.mono (t4.x0.trans t4.xh)) (Md hg) fun _=> ?_;simp only[cA,nA];refine n9 el_long (t4.mx.se hg) (Tn yH) fun _=> ?_;simp only[cA,nA];have e1:Lw X4 (lv (M4 r c)) (gk F k r c):=by rw[<-Wm (F:=F) (k:=k) (r:=r) (c:=c) (i:=r) (j:=c) aA];exact t4.vl r c aA rX hrn yH
     have e2:Lw X4 (lv (M4 k k)) (gk F k k k):=by rw[<-Wm (F:=F) (k:=k) (r:=r) (c:=c) (i:=k) (j:=k) aA];exact t4.vl k k aA (aS _) sH sH
     have e3:Lw X4 (lv (M4 k c)) (gk F k k c):=by rw[<-Wm (F:=F) (k:=k) (r:=r) (c:=c) (i:=k) (j:=c) aA];exact t4.vl k c aA rX sH yH
     have s1:=hb k r c aA;have s2:=hb k k k aA;have s3:=hb k k c aA;have s4:=hb k r k aA;refine Ft (Jq e1 e2 s1.lm s2.lm) t4.xh rfl fun u1 X5 H5 a5 w5 b5 c5 d5=> ?_;simp only[cA,nA];replace t4:=t4.grow a5 b5 c5 d5;refine Ft (Jq (hf4.mono a5) (e3.mono a5) s4.lm s3.lm) t4.xh rfl fun u2 X6 H6 a6 w6 b6 c6 d6=> ?_;simp only[cA,nA];replace t4:=t4.grow a6 b6 c6 d6;refine Ft (KN (w5.mono a6) w6 (PE (s1.mul s2)) (PE (s4.mul s3))) t4.xh rfl fun u3 X7 H7 a7 w7 b7 c7 d7=> ?_;simp only[cA,nA];replace t4:=t4.grow a7 b7 c7 d7;obtain⟨x7,rfl⟩:=Pj w7;refine b4 w7.rq ?_;refine n9 Fa (hv.mono (t4.x0.trans t4.xh)) (Md hg2) fun _=> ?_;simp only[cA,nA];refine Ft ((yd w7 (hl4.mono (a5.trans (a6.trans a7))) (e0o (s1.mul s2) (s4.mul s3)) (e2X hb aA).lm rP)) t4.xh rfl fun u4 X8 H8 a8 w8 b8 c8 d8=> ?_;simp only[cA,nA];replace t4:=t4.grow a8 b8 c8 d8;obtain⟨qa,qb,rfl,q1,q2⟩:=w8;obtain⟨x8,rfl⟩:=Pj q1;refine g7 (g7 ?_);refine Ee el_long (a:=x8) rfl rfl rfl rfl aF aF (cut_le H8 g2) (t4.mx.row r g2 hg2).2 (show c<(Dw M4 n r).length by rw[PD];exact yH) rfl aF rfl fun p9 u9 H9 l9 o9 _=> ?_;simp only[cA,nA];exact⟨c+1,aA,(p6 (j5 rfl aA)),⟨aA,aA,X8,Jw M4 r c x8,⟨t4.x0,(t4.mx.cut hg2 t4.xh).trans l9,t4.mx.put hg2 l9 o9,t4.vl.put (by show Lw X8 (lv x8) (Zk F k r (c+1) r c);unfold Zk;rw[if_pos aA];exact q1) (fun i j h1 h2 h3 h4 h5=>e0p h5)⟩,hl4.mono (a5.trans (a6.trans (a7.trans a8))),hf4.mono (a5.trans (a6.trans (a7.trans a8)))⟩⟩
    ·replace h4:=oDf h4;exact⟨r+1,aA,(By (j5 rfl aA) rfl rfl),⟨aA,aA,X4,M4,⟨t4.x0,t4.xh,t4.mx,fun i j h1 h2 h3 h4=>by have:=t4.vl i j h1 h2 h3 h4;rw[e0q (c:=c) h2 aA];exact this⟩,hl4⟩⟩
   ·replace h3:=oDf h3;have hrn:r=n:=aA;refine n9 Fa (hv.mono (t3.x0.trans t3.xh)) (Md hg) fun _=> ?_;simp only[cA,nA];refine n9 el_long (t3.mx.se hg) (Tn sH) fun _=> ?_;simp only[cA,nA];refine b4 (el_long.vcells _) ?_;exact⟨(k+1,y,M3 k k),by show n+1-(k+1)<n+1-k;omega,(By (j5 rfl aA) rfl rfl),⟨sH,X3,M3,⟨t3.x0,t3.xh,t3.mx,fun i j h1 h2 h3 h4=>by have:=t3.vl i j aA aA h3 h4;rw[<-e0m rP];unfold Zk at this;rw[if_pos aA]at this;exact this⟩,by rw[<-kz,<-Wm (F:=F) (k:=k) (r:=r) (c:=k) (i:=k) (j:=k) aA];exact t3.vl k k (aS _) (aS _) sH sH,by rw[<-kz];exact a4u⟩⟩
 ·replace h:=oDf h;have hke:k=n:=aA;subst hke;exact d4 rfl ⟨X2,t2.x0,t2.xh,tO⟩
def Wn:prog.underlying 281=some (.map 3 3):=aB
def Wp:prog.underlying 3=some (.int .i64):=aB
def PG:∀w,(zeroValue 3).run prog w= .ok (.int .i64 0) w:=fun w=>by
 have h:(prog.info? 3).bind (·.zero)=some (.int .i64 0):=aB;cases hi:prog.info? 3 with
 |none=>rw[hi]at h;cases h
 |some i=>
  rw[hi]at h;simp only[Option.bind_some]at h;simp[zeroValue,typeInfo,hi,h]
open Go.WD (BP Ha)
def d5o {n:Nat} {w:Value} (h1:y6 w=true):j0 (Value.cells (.agg #[ii n,w])):=fun c hc=>by
 simp[Value.cells]at hc;rcases hc with hc|hc
 ·subst hc;rfl
 ·subst hc;exact h1
def PI {H:PH} {n s:Nat} {w:Value} (hw:w.cells= #[w]) (h1:y6 w=true):Con prog 220 [gv n w,GS.uv s] H fun u H'=>∃b j,b≠j/\H'=H.or (Fp b j (ii n) w 33 s)/\Disj H (Fp b j (ii n) w 33 s)/\u= .func (.func 275) #[] #[.pointer (some ⟨b,0,none⟩),.pointer (some ⟨j,0,none⟩)]:=by
 refine g5 mixed d4m ?_;refine b4 ⟨rfl,d5o h1⟩ ?_;refine o0 (cs:= #[ii (n:Nat),w]) rfl fun b hb=> ?_;refine b4 ⟨rfl,fun c hc=>by simp[D,Value.cells,GS.uv]at hc;subst hc;rfl⟩ ?_;refine o0 (cs:= #[GS.uv s]) rfl fun j hj=> ?_;refine y8 (Ai (vs:=[.pointer (some ⟨b,0,none⟩),.pointer (some ⟨j,0,none⟩)]) rfl rfl) rfl ?_;have hbj:b≠j:=fun e=>by subst e;rw[PH.put_self]at hj;cases hj
 have xN:H j=none:=by rwa[PH.put_ne _ _ (fun e=>hbj e.symm)]at hj
 exact d4 rfl ⟨b,j,hbj,by unfold Fp;rw[PH.put_or hb,PH.or_put (X:=H) xN],Zu (Zu (Sm H) hb) xN,rfl⟩
def plL (V:List Nat):List (Int×Int):=(eO V.length).map fun i=>(((V.getD i 0:Nat):Int),(i:Int))
def d5p {V:List Nat} {a i:Nat} (h:V[i]? =some a):((a:Int),(i:Int))∈plL V:=by
 unfold plL;refine aZ.2 ⟨i,aW.2 (aH.1 h).1,?_⟩;rw[aJ,h];rfl
def c9h (V:List Nat):(plL V).map (·.1)=V.map fun x:Nat=>(x:Int):=by
 unfold plL;rw[dO];apply bP;intro i;rw[aX,aX];by_cases h:i<V.length
 ·rw[cP h,aG h];simp[aJ,aG h]
 ·rw[aO (by simp;omega),aO aA];rfl
def PK {V:List Nat} {a:Nat} (h:a∉V):((a:Nat):Int)∉(plL V).map (·.1):=by
 rw[c9h];intro hh;obtain⟨x,hx,e⟩:=aZ.1 hh;have:x=a:=aA;exact h (this ▸ hx)
def c9i (V:List Nat) (x:Nat):plL (V++[x])=plL V++[((x:Int),(V.length:Int))]:=by
 unfold plL;rw[aL,fL,gU,bM];congr 1
 ·refine dK fun i hi=> ?_;rw[aW]at hi;simp[aJ,aM hi]
 ·simp[aJ]
def AO (V:List Nat):(plL V).length=V.length:=by unfold plL;simp
def d5q {V:List Nat} {x:Nat} (h:x∉V):Tj (plL V) (x:Int) (V.length:Int)=plL (V++[x]):=by
 unfold Tj;rw[if_neg (PK h),c9i]
def addZ (V:List Nat) (Z:Nat->Nat->Int) (a b:Nat) (z:Int) (i k:Nat):Int:=if V[i]? =some a/\V[k]? =some b then Z i k+z else Z i k
def To:Sc prog 281:=⟨aB,aB,aB⟩
def Wq:Sc prog 333:=⟨aB,aB,aB⟩
def lh:n8 prog 223=true:=aB
section
variable {X0 X H:PH} {gs:List Nat} {n pb qb a b:Nat} {mp v:Value} {V:List Nat} {M:Nat->Nat->LV} {Z:Nat->Nat->Int} {Tp Tq:TypeId} {z:Int} {fz:Nat×Nat}
def Vl.addZ (h:Vl X n 0 M Z) (hn:V.Nodup) {i k:Nat} {x:LV} (hi:V[i]? =some a) (hk:V[k]? =some b) (hx:Lw X (lv x) (Z i k+z)):Vl X n 0 (Jw M i k x) (addZ V Z a b z):=by
 refine h.put (by unfold Go.Z.addZ;rw[if_pos ⟨hi,hk⟩];exact hx) fun c d _ _ _ _ qJ=> ?_;unfold Go.Z.addZ;rw[if_neg];rintro⟨h1,h2⟩;exact qJ ⟨(gX (aH.1 h1).1 hn).1 (h1.trans hi.symm),(gX (aH.1 h2).1 hn).1 (h2.trans hk.symm)⟩
def PL (h:a∉V\/b∉V):addZ V Z a b z=Z:=by
 funext i k;unfold addZ;rw[if_neg];rintro⟨h1,h2⟩;rcases h with h|h
 ·exact h (aK h1)
 ·exact h (aK h2)
def li (ht:Mt X0 X H gs n 0 M Z) (hp:X0 pb=some (.cells #[mp] Tp fz)) (hq:X0 qb=some (.cells #[v] Tq fz)) (hm:MI X0 mp (plL V)) (hv:SE X0 1 (fun s:Slc=>[vs s]) v (gs.map (rsl n))) (hn:gs.length=n) (hVn:V.length=n) (uA:V.Nodup) (hz: -2<=z/\z<=2) (hZ:∀i k,Lm (Z i k)):
  Con prog 223 [ii (a:Nat),ii (b:Nat),ii z,.pointer (some ⟨pb,0,none⟩),.pointer (some ⟨qb,0,none⟩)] H fun _ H'=>∃X' M',Pl X X'/\Mt X0 X' H' gs n 0 M' (addZ V Z a b z):=by
 refine g5 mixed c8p ?_;have hp':=(ht.x0.trans ht.xh) _ _ hp;have yS:=(ht.x0.trans ht.xh) _ _ hq;have hm':=hm.mono (ht.x0.trans ht.xh);have wM:=hv.mono (ht.x0.trans ht.xh);have huk:prog.underlying 3=some (.int .i64):=Wp;have look:∀{c:Nat},∃(u:Int) (bb:Bool),((bb=false/\u=0/\((c:Nat):Int)∉(plL V).map (·.1))\/(bb=true/\(((c:Nat):Int),u)∈plL V))/\(bb=false/\c∉V\/bb=true/\∃i:Nat,u=(i:Int)/\V[i]? =some c):=fun{c}=>by
  by_cases h:c∈V
  ·obtain⟨i,hi⟩:=gR.1 h;exact⟨(i:Int),true,.inr ⟨rfl,d5p hi⟩,.inr ⟨rfl,i,rfl,hi⟩⟩
  ·exact⟨0,false,.inl ⟨rfl,rfl,PK h⟩,.inl ⟨rfl,h⟩⟩
 obtain⟨u1,b1,sJ,rX⟩:=look (c:=a);obtain⟨u2,b2,sB,rR⟩:=look (c:=b);have off1:b1=false->a∉V:=fun e=>by
  rcases rX with⟨_,h⟩|⟨h,_⟩
  ·exact h
  ·rw[e]at h;cases h
 have off2:b2=false->b∉V:=fun e=>by
  rcases rR with⟨_,h⟩|⟨h,_⟩
  ·exact h
  ·rw[e]at h;cases h
 have on1:b1=true->∃i:Nat,u1=(i:Int)/\V[i]? =some a:=fun e=>by
  rcases rX with⟨h,_⟩|⟨_,h⟩
  ·rw[e]at h;cases h
  ·exact h
 have on2:b2=true->∃i:Nat,u2=(i:Int)/\V[i]? =some b:=fun e=>by
  rcases rR with⟨h,_⟩|⟨_,h⟩
  ·rw[e]at h;cases h
  ·exact h
 refine g9 To rfl rfl hp' rfl rfl ?_;simp only[cA,nA];refine j8 (OR (k:=(a:Nat)) (vs:=[mp,ii (a:Nat)]) rfl rfl rfl Wn Wp PG hm' sJ) rfl ?_;simp only[cA,nA];refine g7 (g7 ?_);refine g9 To rfl rfl hp' rfl rfl ?_;simp only[cA,nA];refine j8 (OR (k:=(b:Nat)) (vs:=[mp,ii (b:Nat)]) rfl rfl rfl Wn Wp PG hm' sB) rfl ?_;simp only[cA,nA];refine g7 (g7 (b9 ?_));refine g6 (b:=b1) rfl (fun h1=> ?_) (fun h1=> ?_)
 ·skip
  refine b9 ?_;refine g6 (b:=b2) rfl (fun h2=> ?_) (fun h2=> ?_)
  ·skip
   obtain⟨i,rfl,hi⟩:=on1 h1;obtain⟨k,rfl,hk⟩:=on2 h2;have qL:i<n:=by have:=(aH.1 hi).1;omega
   have sH:k<n:=by have:=(aH.1 hk).1;omega
   obtain⟨g,hg⟩:=AN hn qL;refine g9 Wq rfl rfl yS rfl rfl ?_;simp only[cA,nA];refine n9 Fa wM (Md hg) fun _=> ?_;simp only[cA,nA];refine g9 Wq rfl rfl yS rfl rfl ?_;simp only[cA,nA];refine n9 Fa wM (Md hg) fun _=> ?_;simp only[cA,nA];refine n9 el_long (ht.mx.se hg) (Tn sH) fun _=> ?_;simp only[cA,nA];refine Ft (Oq z aA aA) ht.xh rfl fun w1 X5 H5 a5 w5 b5 c5 d5=> ?_;simp only[cA,nA];replace ht:=ht.grow a5 b5 c5 d5;refine Ft (Zp ((ht.vl i k (bK _) (bK _) qL sH)) w5 (hZ i k) (by unfold Lm;have:=Ha (i:=1) (j:=10000) aC;rw[Go.WD.BP_succ,Go.WD.BP_zero]at this;omega)) ht.xh rfl fun w2 X6 H6 a6 w6 b6 c6 d6=> ?_;simp only[cA,nA];replace ht:=ht.grow a6 b6 c6 d6;obtain⟨x6,rfl⟩:=Pj w6;refine Ee el_long (a:=x6) rfl rfl rfl rfl aF aF (cut_le H6 g) (ht.mx.row i g hg).2 (show k<(Dw M n i).length by rw[PD];exact sH) rfl aF rfl fun p9 u9 H9 l9 o9 _=> ?_;simp only[cA,nA];exact d4 rfl ⟨X6,Jw M i k x6,a5.trans a6,⟨ht.x0,(ht.mx.cut hg ht.xh).trans l9,ht.mx.put hg l9 o9,ht.vl.addZ uA hi hk w6⟩⟩
  ·skip
   exact d4 rfl ⟨X,M,Pl.refl _,by rw[PL (.inr (off2 (by simpa using h2)))];exact ht⟩
 ·skip
  exact d4 rfl ⟨X,M,Pl.refl _,by rw[PL (.inl (off1 (by simpa using h1)))];exact ht⟩
end
open Go.WD (wd toI iw)
section
variable {H:PH} {n:Nat} {w:Value} {es:List (Nat×Nat)} {set:Nat}
def AP (a:Nat):(wd a).cells.size=8/\j0 (wd a).cells:=⟨Go.WD.words_size a,Go.WD.words_one a⟩
end
section
variable {H H0:PH} {u v w wts:Value} {p q wl t l:List Int} {n c e m bw:Nat} {es:List (Nat×Nat)} {lo hi ds:Int} {set x:Nat}
def PM {m:List Int} (hu:SI H u l) (hv:SI H v m):Asks prog 21 [u,v] H (.bool (decide (l=m))):=by
 refine g5 mixed d4t ?_;have hl:=hu.len;have hm:=hv.len;refine m9 z6 hu ?_;refine m9 z6 hv ?_;refine b9 (b9 ?_);refine y5 (p:=(l.length≠m.length)) (by show Value.bool (((l.length:Nat):Int) !=((m.length:Nat):Int))=_;rw[bN];congr 1;apply decide_eq_decide.2;omega) (fun h=> ?_) fun h=> ?_
 ·exact d4 rfl ⟨rfl,by rw[decide_eq_false (fun e=>h (by rw[e]))];rfl⟩
 ·have hlm:l.length=m.length:=aA;refine m9 z6 hu ?_;refine Df (α:=Nat×Value) (fun⟨i,p⟩=>[p,ii (i:Nat)]) (fun⟨i,p⟩=>i<=l.length/\l.take i=m.take i) (fun⟨i,p⟩=>l.length-i) ((0,.bool false)) rfl (⟨bK _,rfl⟩) fun⟨i,p⟩ hQ=> ?_;obtain⟨hi,hq⟩:=hQ;refine b9 (b9 ?_);refine g6 (b:=decide (((i:Nat):Int)<(l.length:Nat))) rfl (fun h2=> ?_) (fun h2=> ?_)
  ·replace h2:=oDt h2;have qG:i<l.length:=aA;obtain⟨x,hx,wW⟩:=q8 qG;refine n9 z6 hu hx fun _=> ?_;obtain⟨y,hy,hdy⟩:=q8 (l:=m) (i:=i) aA;refine n9 z6 hv hy fun _=> ?_;refine b9 (b9 ?_);refine y5 (p:=(x≠y)) (bN x y) (fun uG=> ?_) fun uG=> ?_
   ·exact d4 rfl ⟨rfl,by rw[decide_eq_false (fun e=>uG (by subst e;rw[hx]at hy;exact eX.inj hy))];rfl⟩
   ·have uG:x=y:=cL uG;exact⟨(i+1,p),by show l.length-(i+1)<l.length-i;omega,(i0 rfl (j5 rfl aA)),⟨⟨qG,by rw[take_snoc hx,take_snoc hy,hq,uG]⟩,rfl⟩⟩
  ·replace h2:=oDf h2;rw[aI aA,aI aA]at hq;exact d4 rfl ⟨rfl,by rw[oDd hq];rfl⟩
end
end Go.Z
namespace Go.RX
open RowKit
def PN {P:Program} {T e:TypeId} {sz:Nat} {ag:Bool} {α:Type} {ce:α->List Value} {ve:α->Value} (E:El P T e sz ag ce ve) {G Xp:Value->PH->Prop} {nx:List (List Value->PH->Prop)} {ρ:List Value} {H:PH} {o:Oper} {x y:Operand} {id i:Nat} {args:List SV} {t:Tree} {pf:Bool} {kl kc:IntKind} {m:Nat} {z:α} (hz:j3 P e=ve z) (ho:o.op= .makeSlice T x y) (hx:e8 [x,y] [.int kl (m:Nat),.int kc (m:Nat)] x= .int kl (m:Nat)) (hy:e8 [x,y] [.int kl (m:Nat),.int kc (m:Nat)] y= .int kc (m:Nat)) (hm:m<=68719476736) (ha:args.map (D P ρ)=[.int kl (m:Nat),.int kc (m:Nat)])
  (n:∀g H',H g=none->Pl H H'->(∀k,k≠g->H' k=H k)->SO H H' e sz ce (.slice (some ⟨g,0,none⟩) m m) (eS m z)->den P G Xp t nx (ρ++[.slice (some ⟨g,0,none⟩) m m]) H'):den P G Xp (.eff pf id i o args t) nx ρ H:=by
 obtain⟨ti,zv,h1,h2,h3,h4,h5⟩:=E.inf;refine j1 (vu ho hx hy E.und h1 h2 h3 (by have:=eH h5 hm;omega) (by simp only[maxLen];omega)) ha ?_;rintro v H' ⟨g,hg,rfl,rfl⟩;refine⟨fun _=>PH.le_put hg _,n g _ hg (PH.le_put hg _) (fun k hk=>PH.put_ne _ _ hk) (Vt E hg aD (by simp only[maxLen];omega) ?_)⟩;have hzv:zv=ve z:=by
  rw[<-hz];unfold j3;rw[h1];simp[h2]
 subst hzv;have rS:=E.pos;have hcz:=E.cells z;have hlz:=E.len z;show(madeCells (ve z).cells (m*sz)).toList=_;have hr:∀m,(eS m z).flatMap ce=(eO (m*sz)).map fun c=>(ce z)[c%sz]?.getD undef:=by
  intro m;induction m with
  |zero=>simp
  |succ m ih=>
   rw[List.replicate_succ',List.flatMap_append,ih,dC,cQ,List.range_add,bM];congr 1;simp only[List.flatMap_cons,List.flatMap_nil,cC];apply bP;intro c;simp only[aX,cP];by_cases hc:c<sz
   ·rw[cP hc];simp only[cR];rw[Nat.add_comm,Nat.add_mul_mod_self_right,dV hc,aG aA];rfl
   ·rw[aO aA,aO (by simp;omega)];rfl
 rw[hr];apply bP;intro c;simp only[madeCells,dR,aX,Array.toList_range];by_cases hc:c<m*sz
 ·rw[cP hc];simp only[cR];congr 1;have wV:c%sz<sz:=cI _ rS;rw[h4,<-hcz];have:c%sz<(ve z).cells.size:=aA;simp[this]
 ·rw[aO (by simp;omega)];simp
end Go.RX
namespace Go.Z
open Proofs.Tryz RowKit RX GS
open WD (BP Ha)
def wE (set:Nat) (es:List (Nat×Nat)) (W:List Int) (k:Nat):List (Nat×Nat):=(((Am set 0 es).take k).filter fun y=>decide (((y.1:Nat):Int)∈W)).map (·.2)
def oE (set:Nat) (es:List (Nat×Nat)) (O:List Int) (f:Nat->Nat) (k:Nat):List (Nat×Nat):=(((Am set 0 es).take k).filter fun y=> !decide (((y.1:Nat):Int)∈O)&& !decide (f y.2.1=f y.2.2)).map (·.2)
section
variable {set k:Nat} {es:List (Nat×Nat)} {W O:List Int} {f:Nat->Nat} {y:Nat×(Nat×Nat)}
def AQ (h:(Am set 0 es)[k]? =some y) (hw:((y.1:Nat):Int)∈W):wE set es W (k+1)=wE set es W k++[y.2]:=by
 unfold wE;rw[take_snoc h,fF,bM];simp[hw]
def PP (h:(Am set 0 es)[k]? =some y) (hw:((y.1:Nat):Int)∉W):wE set es W (k+1)=wE set es W k:=by
 unfold wE;rw[take_snoc h,fF,bM];simp[hw]
def e0s (h:(Am set 0 es)[k]? =some y) (hw:((y.1:Nat):Int)∉O) (hf:f y.2.1≠f y.2.2):oE set es O f (k+1)=oE set es O f k++[y.2]:=by
 unfold oE;rw[take_snoc h,fF,bM];simp[hw,hf]
def PQ (h:(Am set 0 es)[k]? =some y) (hw:((y.1:Nat):Int)∈O\/f y.2.1=f y.2.2):oE set es O f (k+1)=oE set es O f k:=by
 unfold oE;rw[take_snoc h,fF,bM];rcases hw with hw|hw<;>simp[hw]
def AS:∀(es:List (Nat×Nat)) (i:Nat) (y:Nat×(Nat×Nat)),y∈Am set i es->i<=y.1/\es[y.1-i]? =some y.2/\bit set y.2.1=true/\bit set y.2.2=true
 |[],_,_,h=>by cases h
 |e::r,i,y,h=>by
  unfold Am at h;split at h
  ·rename_i hb;rcases bG.1 h with rfl|h
   ·simp only[aQ]at hb;exact⟨aS _,aD,hb⟩
   ·obtain⟨h1,h2,h3⟩:=AS r (i+1) y h;refine⟨aA,?_,h3⟩;rw[show y.1-i=(y.1-(i+1))+1 by omega];exact h2
  ·obtain⟨h1,h2,h3⟩:=AS r (i+1) y h;refine⟨aA,?_,h3⟩;rw[show y.1-i=(y.1-(i+1))+1 by omega];exact h2
def PR (h:(Am set 0 es)[k]? =some y):es[y.1]? =some y.2/\bit set y.2.1=true/\bit set y.2.2=true:=by
 have:=AS es 0 y (aK h);simpa using this.2
def PT:(oE set es O f k).length<=es.length:=by
 have qL:∀(es:List (Nat×Nat)) i,(Am set i es).length<=es.length:=fun es=>by
  induction es with
  |nil=>intro i;exact aS _
  |cons e r ih=>
   intro i;unfold Am;have:=ih (i+1);split
   ·simp only[aP];omega
   ·simp only[aP];omega
 unfold oE;rw[aR];exact cK (iS _ _) (cK (List.length_take_le' _ _) (qL es 0))
end
def Cyc (L:List (Nat×Nat)):Prop:=∃i e,L[i]? =some e/\lab (L.take i) e.1=lab (L.take i) e.2
def Cyc.not {L:List (Nat×Nat)} (h:Cyc L):¬Acy L L.length:=fun ha=>by
 obtain⟨i,e,h1,h2⟩:=h;exact ha i e (aH.1 h1).1 h1 h2
def Cyc.app {L M:List (Nat×Nat)} (h:Cyc L):Cyc (L++M):=by
 obtain⟨i,e,h1,h2⟩:=h;have hi:=(aH.1 h1).1;exact⟨i,e,by rw[aM hi];exact h1,by rw[dG aA];exact h2⟩
def e0u {set:Nat} {es:List (Nat×Nat)} {W:List Int} {j k:Nat} (h:j<=k):∃M,wE set es W k=wE set es W j++M:=by
 unfold wE;refine⟨((((Am set 0 es).take k).drop j).filter fun y=>decide (((y.1:Nat):Int)∈W)).map (·.2),?_⟩;rw[<-bM,<-fF];congr 2
 conv=>lhs;rw[<-dQ j ((Am set 0 es).take k)]
 rw[List.take_take,cD h]
open Classical in
noncomputable def Me (set:Nat) (es:List (Nat×Nat)) (W O:List Int):Int:=if Acy (wE set es W es.length) (wE set es W es.length).length then KK (oE set es O (lab (wE set es W es.length)) es.length) set (lab (wE set es W es.length))else 0
def Ws (set:Nat):∀(es:List (Nat×Nat)) i,(Am set i es).length<=es.length
 |[],_=>aS _
 |e::r,i=>by
  unfold Am;have:=Ws set r (i+1);split
  ·simp only[aP];omega
  ·simp only[aP];omega
def e0v {set k:Nat} {es:List (Nat×Nat)} {W:List Int} (h:k=(Am set 0 es).length):wE set es W k=wE set es W es.length:=by
 unfold wE;rw[aI aA,aI (Ws set es 0)]
def e0w {set k:Nat} {es:List (Nat×Nat)} {O:List Int} {f:Nat->Nat} (h:k=(Am set 0 es).length):oE set es O f k=oE set es O f es.length:=by
 unfold oE;rw[aI aA,aI (Ws set es 0)]
def clsP (set:Nat) (f:Nat->Nat) (x:Nat):List Nat:=(eO x).filter fun y=>bit set y&&decide (f y=y)&&decide (y≠f (lst set))
def c9k {set x:Nat} {f:Nat->Nat} (h1:bit set x=true) (h2:f x=x) (h3:x≠f (lst set)):clsP set f (x+1)=clsP set f x++[x]:=by
 unfold clsP;rw[gU,fF];simp[h1,h2,h3]
def AU {set x:Nat} {f:Nat->Nat} (h:bit set x=false\/f x≠x\/x=f (lst set)):clsP set f (x+1)=clsP set f x:=by
 unfold clsP;rw[gU,fF];have:(bit set x&&decide (f x=x)&&decide (x≠f (lst set)))=false:=by
  rcases h with h|h|h
  ·simp[h]
  ·simp[h]
  ·rw[<-h];simp
 rw[show List.filter (fun y=>bit set y&&decide (f y=y)&&decide (y≠f (lst set))) [x]=[]from by rw[dH (by rw[this];simp)];rfl,cC]
def c9l {set x:Nat} {f:Nat->Nat}:x∉clsP set f x:=fun h=>by
 unfold clsP at h;have:=(bZ.1 h).1;rw[aW]at this;omega
def c9m (set x:Nat) (f:Nat->Nat):(clsP set f x).length<=x:=by
 unfold clsP;exact cK (iS _ _) aD
section
variable {B H H':PH} {go g n i:Nat} {gs:List Nat} {l:List Slc}
structure Mk (B H:PH) (go:Nat) (gs:List Nat) (n:Nat):Prop where
 bh:Pl B H
 bo:B go=none
 out:SO (Bm H go) H 334 1 (fun s:Slc=>[vs s]) (vs (rsl n go)) (gs.map (rsl n)++eS (n-gs.length) (none,0,0))
 rows:MX B H gs n fun _ _=>(false,(none,0,0))
 off:go∉gs
 le:gs.length<=n
def AW {α:Type} {e:TypeId} {sz:Nat} {ce:α->List Value} {l:List α} (h:SO (Bm H g) H e sz ce (vs (rsl n g)) l):∃ob,H g=some ob/\∀X:PH,X g=some ob->SE X sz ce (vs (rsl n g)) l:=by
 obtain⟨h1,⟨h2,h3⟩|⟨g',cap,cur,h2,h3,h4,h5,h6,h7,h8⟩⟩:=h
 ·cases h2
 ·simp only[vs,rsl,Value.slice.injEq,cN,Addr.mk.injEq]at h2;obtain⟨⟨rfl,-,-⟩,h9,vJ⟩:=h2;refine⟨_,h4,fun X hX=>⟨h1,some ⟨g,0,none⟩,cap,by simp only[vs,rsl];rw[<-h9,<-vJ],h5,h6,.inr ⟨g,0,cur,e,_,rfl,hX,by rw[cS];exact h8⟩⟩⟩
def AX {α:Type} {e:TypeId} {sz:Nat} {ce:α->List Value} {l:List α} {X:PH} (h:SO X H e sz ce (vs (rsl n g)) l):SO (Bm H g) H e sz ce (vs (rsl n g)) l:=by
 obtain⟨h1,⟨h2,h3⟩|⟨g',cap,cur,h2,h3,h4,h5⟩⟩:=h
 ·cases h2
 ·simp only[vs,rsl,Value.slice.injEq,cN,Addr.mk.injEq]at h2;obtain⟨⟨rfl,-,-⟩,h9,vJ⟩:=h2;exact⟨h1,.inr ⟨g,cap,cur,by simp only[vs,rsl];rw[<-h9,<-vJ],AM _ _,h4,h5⟩⟩
def Mk.row (h:Mk B H go gs n) (hg:H g=none) (hl:Pl H H') (ho:SO H H' 106 2 lc (vs (rsl n g)) (eS n (false,(none,0,0)))):MX B H' (gs++[g]) n (fun _ _=>(false,(none,0,0)))/\SO (Bm H' go) H' 334 1 (fun s:Slc=>[vs s]) (vs (rsl n go)) (gs.map (rsl n)++eS (n-gs.length) (none,0,0))/\go≠g:=by
 have qJ:go≠g:=fun e=>by
  obtain⟨ob,h1,_⟩:=AW h.out;rw[e,hg]at h1;cases h1
 have hgs:g∉gs:=fun hm=>by
  obtain⟨i,hi⟩:=gR.1 hm;obtain⟨ob,h1⟩:=h.rows.bound hi;rw[hg]at h1;cases h1
 have hB:B g=none:=by
  cases e:B g with
  |none=>rfl
  |some o=>rw[h.bh _ _ e]at hg;cases hg
 refine⟨⟨?_,h.rows.n64,fun i b hb=> ?_⟩,Wl h.out fun ob ho=>hl _ _ ho,qJ⟩
 ·rw[gA];exact⟨h.rows.nd,aD,fun a ha b hb=>by simp only[bB]at hb;subst hb;intro e;subst e;exact hgs ha⟩
 ·by_cases hi:i<gs.length
  ·rw[aM hi]at hb;exact⟨(h.rows.row i b hb).1,Wl (h.rows.row i b hb).2 fun ob ho=>hl _ _ ho⟩
  ·rw[aN aA]at hb;have:i-gs.length=0:=by
    have:=(aH.1 hb).1;simp at this;omega
   rw[this]at hb;simp only[List.getElem?_cons_zero,cN]at hb;subst hb;refine⟨hB,?_⟩;have e:Dw (fun _ _=>(false,(none,0,0))) n i=eS n (false,(none,0,0)):=by
    unfold Dw;rw[List.map_const'];simp
   rw[e];exact AX ho
def Mk.set (h:Mk B H go gs n) (hM:MX B H' (gs++[g]) n (fun _ _=>(false,(none,0,0)))) (hgo:go≠g) {H2:PH} (hi:gs.length<n) (hb:Pl B H') (hl:Pl (Bm H' go) H2) (ho:SO (Bm H' go) H2 334 1 (fun s:Slc=>[vs s]) (vs (rsl n go)) ((gs.map (rsl n)++eS (n-gs.length) (none,0,0)).set gs.length (rsl n g))):Mk B H2 go (gs++[g]) n:=by
 have a2s:go∉gs++[g]:=by simp only[aV,bB];rintro(e|e);exact h.off e;exact hgo e
 refine⟨fun k ob hk=>hl _ _ (by unfold Bm;rw[if_neg (fun e=>by subst e;rw[h.bo]at hk;cases hk)];exact hb _ _ hk),h.bo,?_,⟨hM.nd,hM.n64,fun i b hb=> ?_⟩,a2s,by simp;omega⟩
 ·have e:(gs.map (rsl n)++eS (n-gs.length) (none,0,0)).set gs.length (rsl n g)=(gs++[g]).map (rsl n)++eS (n-(gs++[g]).length) (none,0,0):=by
   obtain⟨k,hk⟩:∃k,n-gs.length=k+1:=⟨n-gs.length-1,aA⟩;rw[hk,aL,fL,show n-(gs.length+1)=k by omega,List.replicate_succ];simp[List.set_append]
  rw[e]at ho;exact AX ho
 ·have qJ:b≠go:=fun e=>a2s (e ▸ aK hb);exact⟨(hM.row i b hb).1,Wl (hM.row i b hb).2 fun ob ho=>hl _ _ (by unfold Bm;rw[if_neg qJ];exact ho)⟩
def Mk.done (h:Mk B H go gs n) (hn:gs.length=n):∃X,Pl B X/\SE X 1 (fun s:Slc=>[vs s]) (vs (rsl n go)) (gs.map (rsl n))/\Mt X X H gs n 0 (fun _ _=>(false,(none,0,0))) (fun _ _=>0):=by
 obtain⟨ob,h1,h2⟩:=AW h.out;rw[hn,dS,List.replicate_zero,cC]at h2;refine⟨B.put go ob,PH.le_put h.bo _,h2 _ (PH.put_self _ _ _),Pl.refl _,fun k o hk=> ?_,⟨h.rows.nd,h.rows.n64,fun i b hb=>⟨?_,(h.rows.row i b hb).2⟩⟩,fun i j _ _ _ _=>d5m _⟩
 ·by_cases e:k=go
  ·subst e;rw[PH.put_self]at hk;rw[h1];exact hk
  ·rw[PH.put_ne _ _ e]at hk;exact h.bh _ _ hk
 ·rw[PH.put_ne _ _ (fun e=>h.off (by rw[<-e];exact aK hb))];exact(h.rows.row i b hb).1
end
end Go.Z

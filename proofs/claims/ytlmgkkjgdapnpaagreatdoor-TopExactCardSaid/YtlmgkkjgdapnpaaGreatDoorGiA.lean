/- Drafted plans, in plain terms. -/
import Derived.Test.YtlmgkkjgdapnpaaGreatDoorGfS
import Derived.Test.YtlmgkkjgdapnpaaGreatDoorGfX
namespace Go.GS
def a6U (ps:List Nat) (i:Nat):Nat:=match ps[i-1]? with|some x=>x%i|none=>i-1
theorem a4Y {ps:List Nat} {i:Nat} (h:1<=i):a6U ps i<i:=by
 unfold a6U
 split
 ·exact Nat.mod_lt _ h
 ·omega
theorem a2E {p q:List Nat}:∀v,v<=p.length->a8C (p++q) v=a8C p v
 |0,_=>rfl
 |v+1,h=>by
  show a2Z (a8C (p++q) v) v ((p++q).getD v 0)=a2Z (a8C p v) v (p.getD v 0)
  rw[a2E v (by omega)]
  congr 1
  rw[List.getD_eq_getElem?_getD,List.getD_eq_getElem?_getD,List.getElem?_append_left (by omega)]
structure PlD (ps:List Nat) (m:Nat) (p:List Nat) (k:Nat):Prop where
 k1:1<=k
 km:k<=m
 p0:1<=p.length
 lt:∀x∈p,x<k
 use:∀d,d<k->d∈p
 can:∀v,v<p.length->p.getD v 0<=(a8C p v).length
 len:(a8C p p.length).length=k
 par:∀v,v<p.length->(∀u,u<v->p.getD u 0≠p.getD v 0)\/(1<=v/\p.getD (a6U ps v) 0=p.getD v 0)
theorem PlD.one {ps:List Nat} {m:Nat} (hm:1<=m):PlD ps m [0] 1:=by
 refine⟨Nat.le_refl _,hm,Nat.le_refl _,fun x hx=> ?_,fun d hd=> ?_,fun v hv=> ?_,rfl,fun v hv=> ?_⟩
 ·rw[List.mem_singleton]at hx;subst hx;decide
 ·rw[List.mem_singleton];omega
 ·obtain rfl:v=0:=by simpa using hv
  exact Nat.zero_le _
 ·obtain rfl:v=0:=by simpa using hv
  exact .inl fun u hu=>absurd hu (by omega)
theorem a1w {p:List Nat} {x v:Nat} (h:v<p.length):(p++[x]).getD v 0=p.getD v 0:=by
 rw[List.getD_eq_getElem?_getD,List.getD_eq_getElem?_getD,List.getElem?_append_left h]
theorem a3q {p:List Nat} {x:Nat}:(p++[x]).getD p.length 0=x:=by
 rw[List.getD_eq_getElem?_getD,List.getElem?_append_right (Nat.le_refl _),Nat.sub_self];rfl
theorem b5z {p:List Nat} {v:Nat} (h:v<p.length):p.getD v 0∈p:=by
 rw[List.getD_eq_getElem?_getD,List.getElem?_eq_getElem h];exact List.getElem_mem h
section
variable {ps p:List Nat} {m k:Nat}
theorem PlD.old (h:PlD ps m p k):PlD ps m (p++[p.getD (a6U ps p.length) 0]) k:=by
 have hp:=a4Y (ps:=ps) h.p0
 have hx:p.getD (a6U ps p.length) 0<k:=h.lt _ (b5z hp)
 have hl:(p++[p.getD (a6U ps p.length) 0]).length=p.length+1:=by simp
 refine⟨h.k1,h.km,by omega,fun x hm=> ?_,fun d hd=>List.mem_append_left _ (h.use d hd),fun v hv=> ?_,?_,fun v hv=> ?_⟩
 ·rcases List.mem_append.1 hm with hm|hm
  ·exact h.lt x hm
  ·rw[List.mem_singleton]at hm;subst hm;exact hx
 ·rw[a2E v (by omega)]
  by_cases e:v=p.length
  ·subst e;rw[a3q,h.len];omega
  ·rw[a1w (by omega)];exact h.can v (by omega)
 ·rw[hl]
  show(a2Z (a8C _ p.length) p.length ((p++_).getD p.length 0)).length=k
  rw[a2E _ (Nat.le_refl _),a3q,a2M,h.len,if_pos hx]
 ·by_cases e:v=p.length
  ·subst e
   exact .inr ⟨h.p0,by rw[a3q,a1w hp]⟩
  ·have hv':v<p.length:=by omega
   rw[a1w hv']
   rcases h.par v hv' with h1|⟨h1,h2⟩
   ·exact .inl fun u hu=>by rw[a1w (by omega)];exact h1 u hu
   ·have:=a4Y (ps:=ps) h1
    exact .inr ⟨h1,by rw[a1w (by omega)];exact h2⟩
theorem PlD.new (h:PlD ps m p k) (hk:k<m):PlD ps m (p++[k]) (k+1):=by
 have hl:(p++[k]).length=p.length+1:=by simp
 refine⟨by omega,hk,by omega,fun x hm=> ?_,fun d hd=> ?_,fun v hv=> ?_,?_,fun v hv=> ?_⟩
 ·rcases List.mem_append.1 hm with hm|hm
  ·have:=h.lt x hm;omega
  ·rw[List.mem_singleton]at hm;omega
 ·by_cases e:d=k
  ·subst e;simp
  ·exact List.mem_append_left _ (h.use d (by omega))
 ·rw[a2E v (by omega)]
  by_cases e:v=p.length
  ·subst e;rw[a3q,h.len];exact Nat.le_refl _
  ·rw[a1w (by omega)];exact h.can v (by omega)
 ·rw[hl]
  show(a2Z (a8C _ p.length) p.length ((p++_).getD p.length 0)).length=k+1
  rw[a2E _ (Nat.le_refl _),a3q,a2M,h.len,if_neg (Nat.lt_irrefl k)]
 ·by_cases e:v=p.length
  ·subst e
   exact .inl fun u hu=>by rw[a3q,a1w hu];have:=h.lt _ (b5z hu);omega
  ·have hv':v<p.length:=by omega
   rw[a1w hv']
   rcases h.par v hv' with h1|⟨h1,h2⟩
   ·exact .inl fun u hu=>by rw[a1w (by omega)];exact h1 u hu
   ·have:=a4Y (ps:=ps) h1
    exact .inr ⟨h1,by rw[a1w (by omega)];exact h2⟩
def a1D (p:List Nat):List Int:=p.map fun x:Nat=>(x:Int)
theorem a2S:(a1D p).length=p.length:=List.length_map ..
theorem b3P {v:Nat} (h:v<p.length):(a1D p)[v]? =some ((p.getD v 0:Nat):Int):=by
 unfold a1D
 rw[List.getElem?_map,List.getD_eq_getElem?_getD,List.getElem?_eq_getElem h];rfl
theorem a5E {d v:Nat}:bit (b3C (a1D p) (d:Nat)) v=(decide (v<p.length)&&decide (p.getD v 0=d)):=by
 unfold b3C
 rw[a7U,a2S]
 by_cases h:v<p.length
 ·rw[b3P h]
  congr 1
  refine decide_eq_decide.2 ⟨fun e=>by injection e with e;omega,fun e=>by rw[e]⟩
 ·rw[decide_eq_false h];rfl
variable {es:List (Nat×Nat)} {n:Nat}
theorem PlD.root (h:PlD ps m p k) (he:∀v,1<=v->v<p.length->(a6U ps v,v)∈es) {d:Nat}:∀N v,v<N->v<p.length->p.getD v 0=d->∃f,f<=v/\p.getD f 0=d/\(∀u,u<f->p.getD u 0≠d)/\Rch es (b3C (a1D p) (d:Nat)) f v:=by
 intro N
 induction N with
 |zero=>intro v h;omega
 |succ N ih=>
  intro v hN hv hd
  rcases h.par v hv with h1|⟨h1,h2⟩
  ·exact⟨v,Nat.le_refl _,hd,fun u hu=>by have:=h1 u hu;omega,.base⟩
  ·have hlt:=a4Y (ps:=ps) h1
   obtain⟨f,hf,hfd,hfu,hr⟩:=ih (a6U ps v) (by omega) (by omega) (by omega)
   exact⟨f,by omega,hfd,hfu,hr.step ⟨_,he v h1 hv,.inl ⟨rfl,rfl⟩⟩ (by rw[a5E,decide_eq_true hv,decide_eq_true hd];rfl)⟩
theorem PlD.cn (h:PlD ps m p k) (he:∀v,1<=v->v<p.length->(a6U ps v,v)∈es) {d:Nat} (hd:d<k):Cn es (b3C (a1D p) (d:Nat)):=by
 obtain⟨v,hv⟩:=List.getElem?_of_mem (h.use d hd)
 have hvl:=(List.getElem?_eq_some_iff.1 hv).1
 have hvd:p.getD v 0=d:=by rw[List.getD_eq_getElem?_getD,hv];rfl
 obtain⟨f,hf,hfd,hfu,_⟩:=h.root he (v+1) v (Nat.lt_succ_self v) hvl hvd
 refine⟨f,by rw[a5E,decide_eq_true (show f<p.length by omega),decide_eq_true hfd];rfl,fun y hy=> ?_⟩
 rw[a5E,Bool.and_eq_true,decide_eq_true_iff,decide_eq_true_iff]at hy
 obtain⟨g,hg,hgd,hgu,hr⟩:=h.root he (y+1) y (Nat.lt_succ_self y) hy.1 hy.2
 have:g=f:=by
  rcases Nat.lt_trichotomy g f with h1|h1|h1
  ·exact absurd hgd (hfu g h1)
  ·exact h1
  ·exact absurd hfd (hgu f h1)
 subst this
 exact hr
theorem PlD.plOk (h:PlD ps m p k) (hn:p.length=n):PlOk n k (a1D p):=by
 refine⟨by rw[a2S];exact hn,fun x hx=> ?_,fun d hd=>List.mem_map.2 ⟨d,h.use d hd,rfl⟩⟩
 obtain⟨y,hy,rfl⟩:=List.mem_map.1 hx
 have:=h.lt y hy
 exact⟨Int.natCast_nonneg _,by omega⟩
theorem PlD.mask0 (h:PlD ps m p k) {d:Nat} (hd:d<k):b3C (a1D p) (d:Nat)≠0:=fun e=>by
 obtain⟨v,hv⟩:=List.getElem?_of_mem (h.use d hd)
 have hvl:=(List.getElem?_eq_some_iff.1 hv).1
 have hvd:p.getD v 0=d:=by rw[List.getD_eq_getElem?_getD,hv];rfl
 have h1:bit (b3C (a1D p) (d:Nat)) v=true:=by rw[a5E,decide_eq_true hvl,decide_eq_true hvd];rfl
 rw[e,a1N]at h1;cases h1
variable {us:List Un} {lo hi:Int}
theorem c2t {q:List Int} {d:Nat} (hu:n<=us.length) (hq:q.length=n):∀i,i<=n->a0V Un.ppl us q i d=(((List.range i).filter fun x=>decide (q[x]? =some (d:Int))).map fun x=>(wlU us n).getD x 0).sum
 |0,_=>rfl
 |i+1,hi=>by
  have e1:q[i]? =some q[i]:=List.getElem?_eq_getElem (by omega)
  have e2:us[i]? =some us[i]:=List.getElem?_eq_getElem (by omega)
  have e3:(wlU us n).getD i 0=(us[i]).ppl:=by
   unfold wlU
   rw[List.getD_eq_getElem?_getD,List.getElem?_map,List.getElem?_take_of_lt (by omega),e2];rfl
  show a0V Un.ppl us q i d+(match q[i]?,us[i]? with|some x,some u=>if x=(d:Nat)then Un.ppl u else 0|_,_=>0)=_
  rw[c2t hu hq i (by omega),List.range_succ,List.filter_append,List.map_append,List.sum_append]
  congr 1
  rw[e1,e2]
  show(if q[i]=(d:Int)then(us[i]).ppl else 0)=_
  by_cases h:q[i]=(d:Int)
  ·rw[if_pos h,List.filter_cons_of_pos (by rw[e1,h];simp)];simp only[List.filter_nil,List.map_cons,List.map_nil,List.sum_cons,List.sum_nil,e3,Int.add_zero]
  ·rw[if_neg h,List.filter_cons_of_neg (by rw[e1];simpa using h)];rfl
theorem c7j {q:List Int} {d:Nat} (hu:n<=us.length) (hq:q.length=n) (hn:n<=64):a6E (wlU us n) (b3C q (d:Nat))=a0V Un.ppl us q n d:=by
 rw[c2t hu hq n (Nat.le_refl _)]
 unfold a6E
 congr 2
 refine a9d (a3Z _) (List.pairwise_lt_range.filter _) fun x=> ?_
 have hM:b3C q (d:Nat)<M64:=c7T q _ (by omega)
 rw[a2Y hM,List.mem_filter,List.mem_range]
 unfold b3C
 rw[a7U,hq,Bool.and_eq_true,decide_eq_true_iff,decide_eq_true_iff]
theorem PlD.alB (h:PlD ps m p k) (he:∀v,1<=v->v<p.length->(a6U ps v,v)∈es) (hn:p.length=n) (hn64:n<=64) (hu:n<=us.length) (hw:∀d,d<k->lo<=a0V Un.ppl us (a1D p) n d/\a0V Un.ppl us (a1D p) n d<=hi) {d:Nat} (hd:d<k):alB es (wlU us n) lo hi (b3C (a1D p) (d:Nat))=true:=by
 have:=hw d hd
 unfold Go.GS.alB
 rw[cnB_iff.2 (h.cn he hd),c7j hu (by rw[a2S];exact hn) hn64,decide_eq_true (show a0V Un.ppl us (a1D p) n d≥lo from this.1),decide_eq_true this.2];rfl
theorem PlD.fit (h:PlD ps m p k) (hm:m<=8) (he:∀v,1<=v->v<p.length->(a6U ps v,v)∈es) (hn:p.length=n) (hn64:n<=64) (hu:n<=us.length) (hw:∀d,d<k->lo<=a0V Un.ppl us (a1D p) n d/\a0V Un.ppl us (a1D p) n d<=hi):d1c n es (wlU us n) lo hi (k:Nat) (a1D p)=true:=by
 have hk1:=h.k1
 have hkm:=h.km
 have hp0:=h.p0
 have hO:=h.plOk hn
 unfold d1c
 rw[Bool.and_eq_true]
 refine⟨decide_eq_true ?_,List.all_eq_true.2 fun s hs=> ?_⟩
 ·unfold plE
  rw[if_neg (by omega),if_pos ⟨hO.len,⟨hO.lab,by rw[a2S];omega,by rw[a2S];omega⟩,fun d hd=>h.mask0 (by omega)⟩]
 ·rw[Int.toNat_natCast]at hs
  obtain⟨d,hd,rfl⟩:=List.mem_map.1 hs
  exact h.alB he hn hn64 hu hw (List.mem_range.1 hd)
theorem PlD.pos (h:PlD ps m p k) (he:∀v,1<=v->v<p.length->(a6U ps v,v)∈es) (hn:p.length=n) (hn64:n<=64) (hu:n<=us.length) (hw:∀d,d<k->lo<=a0V Un.ppl us (a1D p) n d/\a0V Un.ppl us (a1D p) n d<=hi):0<a3j (Go.GS.alB es (wlU us n) lo hi) n k:=by
 have hl:=h.len
 have hc:=h.can
 rw[hn]at hl hc
 refine d0T hc hl fun c hcm=> ?_
 obtain⟨d,hd⟩:=List.getElem?_of_mem hcm
 have hdl:=(List.getElem?_eq_some_iff.1 hd).1
 have hcm:=c5F (p:=p) n (by omega) (fun u hu=>hc u hu) d hdl
 rw[hd]at hcm
 injection hcm with hcm
 subst hcm
 have:=h.alB he hn hn64 hu hw (show d<k by omega)
 unfold b3C at this
 rw[a2S,hn]at this
 exact this
end
end Go.GS

/- Chapter 32: the chain is reversible. -/
import Derived.Test.YtmannekkmdockaaGreatDoorGtC
import Derived.Test.YtmannekkmdockaaGreatDoorGtG
import Derived.Test.YtmannekkmdockaaGreatDoorGtJ
import Derived.Test.YtmannekkmdockaaGreatDoorSsA
namespace Go.GS
def b4Q:List Nat->List Nat
 |[]=>[0]
 |x::r=>b4Q r++(b4Q r).map (· |||2^x)
theorem b3o:∀l:List Nat,(b4Q l).length=2^l.length
 |[]=>rfl
 |x::r=>by
  simp only[b4Q,List.length_append,List.length_map,b3o r,List.length_cons,Nat.pow_succ]
  omega
theorem a8S:∀(l:List Nat) (a:Nat),(∀y,bit a y=true->y∈l)->a∈b4Q l
 |[],a,h=>by
  have:a=0:=Classical.byContradiction fun h0=>by
   obtain⟨y,hy⟩:=a2z h0
   exact absurd (h y hy) (by simp)
  simp[b4Q,this]
 |x::r,a,h=>by
  simp only[b4Q,List.mem_append,List.mem_map]
  by_cases hx:bit a x=true
  ·refine .inr ⟨sdf a (2^x),a8S r _ (fun y hy=> ?_),a0F fun y=> ?_⟩
   ·rw[a0p,a0v]at hy
    simp only[Bool.and_eq_true,Bool.not_eq_true',decide_eq_false_iff_not]at hy
    exact(List.mem_cons.1 (h y hy.1)).resolve_left (fun e=>hy.2 e.symm)
   ·rw[a0G,a0p,a0v]
    by_cases e:x=y
    ·subst e;simp[hx]
    ·simp[e]
  ·exact .inl (a8S r a fun y hy=>(List.mem_cons.1 (h y hy)).resolve_left (fun e=>hx (e ▸ hy)))
theorem c7l {S:Nat} (hs:S<M64) (h0:S≠0) {l:List Nat} (hn:l.Nodup) (h:∀a∈l,(∀y,bit a y=true->bit S y=true)/\bit a (lst S)=true):l.length<=2^(card S-1):=by
 obtain⟨m,r,he,hm,_⟩:=a9d hs h0
 have hl:lst S=m:=by unfold lst;rw[he];rfl
 have hc:card S-1=r.length:=by unfold card;rw[he];simp
 rw[hc,<-b3o]
 refine a8J (fun a=>sdf a (2^m)) hn (fun a ha b hb e=>a0F fun y=> ?_) fun a ha=>a8S r _ fun y hy=> ?_
 ·have h1:bit (sdf a (2^m)) y=bit (sdf b (2^m)) y:=by rw[show sdf a (2^m)=sdf b (2^m)from e]
  rw[a0p,a0p,a0v]at h1
  by_cases hy:m=y
  ·subst hy;rw[hl]at h;rw[(h a ha).2,(h b hb).2]
  ·simpa[hy]using h1
 ·rw[a0p,a0v]at hy
  simp only[Bool.and_eq_true,Bool.not_eq_true',decide_eq_false_iff_not]at hy
  have h2:=(a1Y hs).2 ((h a ha).1 y hy.1)
  rw[he]at h2
  exact(List.mem_cons.1 h2).resolve_left fun e=>hy.2 e.symm
theorem d7n:∀a b c:Fin 10,1<=a.val->1<=b.val->1<=c.val->a.val+b.val+c.val<=9->2^(a.val+b.val-1)+(2^(a.val+c.val-1)+2^(b.val+c.val-1))<=300:=by decide+kernel
theorem d7o:∀a b c d:Fin 7,1<=a.val->1<=b.val->1<=c.val->1<=d.val->a.val+b.val+c.val+d.val<=9->2^(a.val+b.val-1)+(2^(a.val+c.val-1)+(2^(a.val+d.val-1)+(2^(b.val+c.val-1)+(2^(b.val+d.val-1)+2^(c.val+d.val-1)))))<=300:=by decide+kernel
theorem a4y {a b:Nat} (h:∀y,bit a y=true->bit b y=false):card (a|||b)=card a+card b:=by
 rw[a6s (S:=a|||b) (A:=a) (fun y hy=>d7G hy),a4x h]
theorem c7m {a:Nat} (hs:a<M64) (h0:a≠0):1<=card a:=by
 obtain⟨m,r,he,_⟩:=a9d hs h0
 unfold card;rw[he];simp
def a2q (f:Nat->Nat) (l:List Nat):Nat:=l.foldl (fun z m=>z*f m) 1
theorem a6x (f:Nat->Nat):∀(l:List Nat) (c:Nat),l.foldl (fun z m=>z*f m) c=c*a2q f l
 |[],c=>by simp[a2q]
 |a::l,c=>by
  unfold a2q
  rw[List.foldl_cons,List.foldl_cons,a6x f l,a6x f l (1*f a)]
  grind
theorem a3q (f:Nat->Nat) (a:Nat) (l:List Nat):a2q f (a::l)=f a*a2q f l:=by
 show l.foldl _ (1*f a)=_
 rw[a6x];grind
theorem b8w (f:Nat->Nat) (a:Nat) (l:List Nat):a2q f (l++[a])=a2q f l*f a:=by
 unfold a2q;rw[List.foldl_append];rfl
theorem a6y (f:Nat->Nat) {l m:List Nat} (h:l.Perm m):a2q f l=a2q f m:=
 h.foldl_eq' (fun x _ y _ z=>by grind) 1
theorem b1I (f:Nat->Nat) {B:Nat}:∀l:List Nat,(∀m∈l,f m<=2^B)->a2q f l<=2^(B*l.length)
 |[],_=>by simp[a2q]
 |a::l,h=>by
  rw[a3q,List.length_cons,Nat.mul_succ,Nat.pow_add,Nat.mul_comm]
  exact Nat.mul_le_mul (b1I f l fun m hm=>h m (by simp[hm])) (h a (by simp))
def b8x (p:List Int) (k i j:Nat):List Nat:=((List.range k).filter fun d=> !decide (d=i)&& !decide (d=j)).map fun d:Nat=>a0o p (d:Nat)
theorem b0d {p:List Int} {k i j:Nat} (hU:a3B p k) (hij:i<j) (hj:j<k):(masks p k).Perm (a0o p (i:Nat)::a0o p (j:Nat)::b8x p k i j):=by
 have h1:(List.range k).Perm (i::j::(List.range k).filter fun d=> !decide (d=i)&& !decide (d=j)):=by
  rw[List.perm_ext_iff_of_nodup List.nodup_range]
  ·intro d
   simp only[List.mem_range,List.mem_cons,List.mem_filter,Bool.and_eq_true,Bool.not_eq_true',decide_eq_false_iff_not]
   omega
  ·rw[List.nodup_cons,List.nodup_cons]
   refine⟨?_,?_,List.nodup_range.filter _⟩
   ·intro hm
    rcases List.mem_cons.1 hm with e|e
    ·omega
    ·have:=(List.mem_filter.1 e).2
     simp at this
   ·simp
 exact h1.map fun d:Nat=>a0o p (d:Nat)
noncomputable def wgt (es:List (Nat×Nat)) (p:List Int) (k:Nat):Nat:=a2q (tn es) (masks p k)
section
variable {p:List Int} {k i j a:Nat} {es:List (Nat×Nat)}
theorem d2Q (h:Prt p k i j a):wgt es p k=tn es (a0o p (i:Nat))*(tn es (a0o p (j:Nat))*a2q (tn es) (b8x p k i j)):=by
 unfold wgt
 rw[a6y _ (b0d h.used h.ij h.jk),a3q,a3q]
theorem d2R (h:Prt p k i j a):wgt es (a0x (a2C p (i:Nat) (j:Nat) a)) k=tn es a*(tn es (sdf (a0o p (i:Nat)|||a0o p (j:Nat)) a)*a2q (tn es) (b8x p k i j)):=by
 have h1:(masks (a0x (a2C p (i:Nat) (j:Nat) a)) k).Perm (masks (a2C p (i:Nat) (j:Nat) a) k):=by
  rw[List.perm_ext_iff_of_nodup (a7o (a1M h.rlab h.rused)) (a7o h.rused)]
  exact a3I h.rlab h.rused
 unfold wgt
 rw[a6y _ (h1.trans (b0d h.rused h.ij h.jk)),a3q,a3q,b6W h.sub h.ij,b1H h.ij]
 congr 3
 unfold b8x
 refine List.map_congr_left fun d hd=> ?_
 have hd:=(List.mem_filter.1 hd).2
 simp only[Bool.and_eq_true,Bool.not_eq_true',decide_eq_false_iff_not]at hd
 exact a5M h.ij hd.1 hd.2
end
end Go.GS
namespace Go.Proofs.YtmannekkmdockaaGreatDoor
open Go.Proofs.Tryz
open Go.RowKit Go.RX Go.GS Go.RZ
open Go.WD (BP a1E wd rs toI HM sgI Rb)
section
variable {es:List (Nat×Nat)} {wl:List Int} {lo hi:Int} {n k:Nat} {p:List Int}
theorem b3p (hf:a3L n es wl lo hi (k:Nat) p=true):∀m∈masks p k,alB es wl lo hi m=true:=by
 unfold a3L at hf
 rw[Bool.and_eq_true,Int.toNat_natCast]at hf
 exact List.all_eq_true.1 hf.2
theorem d6c (hL:LabOk p (k:Nat)) (hU:a3B p k) (hl:p.length=n) (h1:1<=k) (h8:k<=8) (h:∀m∈masks p k,alB es wl lo hi m=true):a3L n es wl lo hi (k:Nat) p=true:=by
 unfold a3L
 rw[Bool.and_eq_true,Int.toNat_natCast]
 refine⟨decide_eq_true ?_,List.all_eq_true.2 h⟩
 unfold plE
 rw[if_neg (by omega),if_pos ⟨hl,hL,by rw[Int.toNat_natCast];exact hU⟩]
theorem SitO.fit (h:SitO es n k p) (h':∀m∈masks p k,alB es wl lo hi m=true):a3L n es wl lo hi (k:Nat) p=true:=d6c h.lab h.used h.len h.k1 (by have:=h.k4;omega) h'
theorem SitO.fitn (h:SitO es n k p) (hf:∀m∈masks p k,alB es wl lo hi m=true) {x:(Nat×Nat)×Nat} (hx:x∈a6W es wl lo hi k p):∀m∈masks (a2h p x.1 x.2) k,alB es wl lo hi m=true:=fun m hm=>by
 have hh:=h.hit hx
 rcases(hh.prt.masks m).1 hm with rfl|rfl|⟨d,hd,_,_,rfl⟩
 ·exact hh.ala
 ·exact hh.alb
 ·exact hf _ (mem_masks.2 ⟨d,hd,rfl⟩)
theorem SitO.back (h:SitO es n k p) (hf:∀m∈masks p k,alB es wl lo hi m=true) {x:(Nat×Nat)×Nat} (hx:x∈a6W es wl lo hi k p):
  ∃y∈a6W es wl lo hi k (a2h p x.1 x.2),a2h (a2h p x.1 x.2) y.1 y.2=p/\unP (a2h p x.1 x.2) y.1=unP p x.1/\(y.2=a0o p (x.1.1:Nat)\/y.2=a0o p (x.1.2:Nat)):=by
 have hh:=h.hit hx
 have hP:=h.pr hh.pr
 have hn:=h.next hh.pr hh.pl
 obtain⟨i2,j2,h1,h2,hS,_,hb⟩:=hh.prt.back
 have hS':unP (a2h p x.1 x.2) (i2,j2)=unP p x.1:=hS
 obtain⟨c,hc,hcl⟩:∃c,(c=a0o p (x.1.1:Nat)\/c=a0o p (x.1.2:Nat))/\bit c (lst (unP p x.1))=true:=by
  have:=a6O hP.sM hP.s0
  unfold unP at this
  rcases b4K this with h|h
  ·exact⟨_,.inl rfl,h⟩
  ·exact⟨_,.inr rfl,h⟩
 obtain⟨hPc,hcan⟩:=hb c hc
 have hnp:a2h (a2h p x.1 x.2) (i2,j2) c=p:=by
  show a0x (a2C (a2h p x.1 x.2) (i2:Nat) (j2:Nat) c)=p
  have:=h.can
  exact hcan.trans this
 have hcS:∀y,bit c y=true->bit (unP p x.1) y=true:=fun y hy=>by rw[<-hS'];exact hPc.sub y hy
 have hij:=hh.prt.ij
 have hjk:=hh.prt.jk
 have hal:alB es wl lo hi c=true/\alB es wl lo hi (sdf (unP p x.1) c)=true:=by
  have a1:=hf _ (mem_masks.2 ⟨x.1.1,by omega,rfl⟩)
  have a2:=hf _ (mem_masks.2 ⟨x.1.2,hjk,rfl⟩)
  rcases hc with rfl|rfl
  ·exact⟨a1,by unfold unP;rw[a4x hh.prt.dis];exact a2⟩
  ·exact⟨a2,by unfold unP;rw[a5O hh.prt.dis];exact a1⟩
 refine⟨((i2,j2),c),idx_mem.2 ⟨c6Z h1 h2,?_,?_,hal.1,?_,?_⟩,hnp,hS',hc⟩
 ·show c∈a1z (unP (a2h p x.1 x.2) (i2,j2))
  rw[hS']
  exact c3d hP.sM hP.s0 hcS hcl fun e=>hPc.b0 (by
   show sdf (unP (a2h p x.1 x.2) (i2,j2)) c=0
   rw[hS',e]
   exact a0F fun y=>by rw[a0p,a0J];cases bit (unP p x.1) y<;>rfl)
 ·show tN es (unP (a2h p x.1 x.2) (i2,j2))≠0
  rw[hS',a8N hP.sM hP.s0]
  have:=hh.ts
  omega
 ·show alB es wl lo hi (sdf (unP (a2h p x.1 x.2) (i2,j2)) c)=true
  rw[hS'];exact hal.2
 ·show a0r (a2h p x.1 x.2)≠a0r (a2h (a2h p x.1 x.2) (i2,j2) c)
  rw[hnp]
  intro e
  exact hh.ne (c2K (by rw[a5a]) e).symm
theorem SitO.rev (h:SitO es n k p) (hf:∀m∈masks p k,alB es wl lo hi m=true) {x:(Nat×Nat)×Nat} (hx:x∈a6W es wl lo hi k p):
  (((wgt es p k:Nat):Int):Rat)*vO (a1Z es wl lo hi n k p) (a0r (a2h p x.1 x.2))=(((wgt es (a2h p x.1 x.2) k:Nat):Int):Rat)*vO (a1Z es wl lo hi n k (a2h p x.1 x.2)) (a0r p):=by
 have hh:=h.hit hx
 have hn:=h.next hh.pr hh.pl
 have hn64:n<=64:=by have:=h.n9;omega
 obtain⟨y,hy,e1,e2,e3⟩:=h.back hf hx
 have hq:=hn.hit hy
 have hv2:=hn.hitv hy
 rw[e1]at hv2
 rw[h.hitv hx,hv2,b3j (h.pr hh.pr) hn64 hh.pl,b3j (hn.pr hq.pr) hn64 hq.pl,e2]
 have w1:=d2Q (es:=es) hh.prt
 have w2:=d2R (es:=es) hh.prt
 have w2':wgt es (a2h p x.1 x.2) k=tn es x.2*(tn es (sdf (unP p x.1) x.2)*a2q (tn es) (b8x p k x.1.1 x.1.2)):=w2
 have hyy:tn es y.2*tn es (sdf (unP p x.1) y.2)=tn es (a0o p (x.1.1:Nat))*tn es (a0o p (x.1.2:Nat)):=by
  rcases e3 with e|e
  ·rw[e,show sdf (unP p x.1) (a0o p (x.1.1:Nat))=a0o p (x.1.2:Nat)from a4x hh.prt.dis]
  ·rw[e,show sdf (unP p x.1) (a0o p (x.1.2:Nat))=a0o p (x.1.1:Nat)from a5O hh.prt.dis,Nat.mul_comm]
 rw[w1,w2',hyy]
 generalize tn es (a0o p (x.1.1:Nat))=A
 generalize tn es (a0o p (x.1.2:Nat))=B
 generalize tn es x.2=C
 generalize tn es (sdf (unP p x.1) x.2)=E
 generalize a2q (tn es) (b8x p k x.1.1 x.1.2)=R
 generalize tn es (unP p x.1)*((n-1)*(a0A k).length)=Z
 push_cast
 rw[Rat.div_def,Rat.div_def]
 grind
theorem SitO.few (h:SitO es n k p):(a1Z es wl lo hi n k p).length<=400:=by
 have hn64:n<=64:=by have:=h.n9;omega
 have hpar:∀pr∈a0A k,(a8U es wl lo hi p pr).length<=2^(card (unP p pr)-1):=fun pr hpr=>by
  have hP:=h.pr hpr
  exact c7l hP.sM hP.s0 c8t fun a ha=>by
   obtain⟨h1,h2,_⟩:=a8E hP.sM hP.s0 (par_mem.1 ha).2.1
   exact⟨h1,h2⟩
 have hidx:(a6W es wl lo hi k p).length<=300:=by
  unfold a6W
  rw[List.length_flatMap]
  simp only[List.length_map]
  refine Nat.le_trans (c3l hpar) ?_
  have hM:∀d:Nat,a0o p (d:Nat)<M64:=fun d=>c0Y p _ (by have:=h.len;omega)
  have hlt:∀d:Nat,a0o p (d:Nat)<2^n:=fun d=>by have:=h.len;subst this;exact a5w p _ hn64
  have hdis:∀d e:Nat,d≠e->∀y,bit (a0o p (d:Nat)) y=true->bit (a0o p (e:Nat)) y=false:=fun d e hne y hy=>by
   cases hb:bit (a0o p (e:Nat)) y with
   |false=>rfl
   |true=>have:=a3J hy hb;omega
  have hun:∀d e:Nat,d≠e->card (unP p (d,e))=card (a0o p (d:Nat))+card (a0o p (e:Nat)):=fun d e hne=>a4y (hdis d e hne)
  have hpos:∀d:Nat,d<k->1<=card (a0o p (d:Nat)):=fun d hd=>c7m (hM d) (h.used d hd)
  have h9:=h.n9
  have hk1:=h.k1
  have hk4:=h.k4
  obtain rfl|rfl|rfl|rfl:k=1\/k=2\/k=3\/k=4:=by omega
  ·rw[show a0A 1=[]from by decide];simp
  ·rw[show a0A 2=[(0,1)]from by decide]
   simp only[List.map_cons,List.map_nil,List.sum_cons,List.sum_nil,Nat.add_zero]
   have:=(h.pr (pr:=(0,1)) (by decide)).cd
   have h2:=Nat.pow_le_pow_right (n:=2) (by decide) (show card (unP p (0,1))-1<=8 by omega)
   omega
  ·rw[show a0A 3=[(0,1),(0,2),(1,2)]from by decide]
   simp only[List.map_cons,List.map_nil,List.sum_cons,List.sum_nil,Nat.add_zero]
   rw[hun 0 1 (by decide),hun 0 2 (by decide),hun 1 2 (by decide)]
   have a0:=hpos 0 (by decide)
   have a1:=hpos 1 (by decide)
   have a2:=hpos 2 (by decide)
   have hs:card (a0o p ((0:Nat):Int))+card (a0o p ((1:Nat):Int))+card (a0o p ((2:Nat):Int))<=n:=by
    have e1:=a4y (hdis 0 1 (by decide))
    have e2:=a4y (a:=a0o p ((0:Nat):Int)|||a0o p ((1:Nat):Int)) (b:=a0o p ((2:Nat):Int)) (fun y hy=>by
     rcases b4K hy with hy|hy
     ·exact hdis 0 2 (by decide) y hy
     ·exact hdis 1 2 (by decide) y hy)
    have:=a8y (d:=(a0o p ((0:Nat):Int)|||a0o p ((1:Nat):Int))|||a0o p ((2:Nat):Int)) (n:=n) (Nat.or_lt_two_pow (Nat.or_lt_two_pow (hlt 0) (hlt 1)) (hlt 2)) hn64
    omega
   exact d7n ⟨card (a0o p ((0:Nat):Int)),by omega⟩ ⟨card (a0o p ((1:Nat):Int)),by omega⟩ ⟨card (a0o p ((2:Nat):Int)),by omega⟩ a0 a1 a2 (by show card _+card _+card _<=9;omega)
  ·rw[show a0A 4=[(0,1),(0,2),(0,3),(1,2),(1,3),(2,3)]from by decide]
   simp only[List.map_cons,List.map_nil,List.sum_cons,List.sum_nil,Nat.add_zero]
   rw[hun 0 1 (by decide),hun 0 2 (by decide),hun 0 3 (by decide),hun 1 2 (by decide),hun 1 3 (by decide),hun 2 3 (by decide)]
   have a0:=hpos 0 (by decide)
   have a1:=hpos 1 (by decide)
   have a2:=hpos 2 (by decide)
   have a3:=hpos 3 (by decide)
   have hs:card (a0o p ((0:Nat):Int))+card (a0o p ((1:Nat):Int))+card (a0o p ((2:Nat):Int))+card (a0o p ((3:Nat):Int))<=n:=by
    have e1:=a4y (hdis 0 1 (by decide))
    have e2:=a4y (a:=a0o p ((0:Nat):Int)|||a0o p ((1:Nat):Int)) (b:=a0o p ((2:Nat):Int)) (fun y hy=>by
     rcases b4K hy with hy|hy
     ·exact hdis 0 2 (by decide) y hy
     ·exact hdis 1 2 (by decide) y hy)
    have e3:=a4y (a:=(a0o p ((0:Nat):Int)|||a0o p ((1:Nat):Int))|||a0o p ((2:Nat):Int)) (b:=a0o p ((3:Nat):Int)) (fun y hy=>by
     rcases b4K hy with hy|hy
     ·rcases b4K hy with hy|hy
      ·exact hdis 0 3 (by decide) y hy
      ·exact hdis 1 3 (by decide) y hy
     ·exact hdis 2 3 (by decide) y hy)
    have:=a8y (d:=((a0o p ((0:Nat):Int)|||a0o p ((1:Nat):Int))|||a0o p ((2:Nat):Int))|||a0o p ((3:Nat):Int)) (n:=n) (Nat.or_lt_two_pow (Nat.or_lt_two_pow (Nat.or_lt_two_pow (hlt 0) (hlt 1)) (hlt 2)) (hlt 3)) hn64
    omega
   exact d7o ⟨card (a0o p ((0:Nat):Int)),by omega⟩ ⟨card (a0o p ((1:Nat):Int)),by omega⟩ ⟨card (a0o p ((2:Nat):Int)),by omega⟩ ⟨card (a0o p ((3:Nat):Int)),by omega⟩ a0 a1 a2 a3 (by show card _+card _+card _+card _<=9;omega)
 rw[h.all,h.odds,List.length_append,List.length_map]
 split<;>simp only[List.length_cons,List.length_nil]<;>omega
theorem SitO.wgt (h:SitO es n k p):Go.GS.wgt es p k<=2^144:=by
 have hn64:n<=64:=by have:=h.n9;omega
 have h1:=b1I (tn es) (B:=36) (masks p k) fun m hm=>by
  obtain⟨d,hd,rfl⟩:=mem_masks.1 hm
  have hlt:a0o p (d:Nat)<2^n:=by have:=h.len;subst this;exact a5w p _ hn64
  exact a7p h.gv (a1g hn64 hlt) (Nat.le_trans (a8y hlt hn64) h.n9)
 have h2:(masks p k).length=k:=a4t _ _ _
 rw[h2]at h1
 exact Nat.le_trans h1 (Nat.pow_le_pow_right (by decide) (by have:=h.k4;omega))
end
end Go.Proofs.YtmannekkmdockaaGreatDoor
/- Chapter 32: the law RecomReversible returns true. -/
namespace Go.GS
theorem d2S {l m:List Rat} (h:l.Perm m):sQ l=sQ m:=by
 induction h with
 |nil=>rfl
 |cons x _ ih=>simp only[sQ,ih]
 |swap x y l=>simp only[sQ];grind
 |trans _ _ ih1 ih2=>exact ih1.trans ih2
theorem b3q {es:List (Nat×Nat)} {p:List Int} {k:Nat} (hL:LabOk p (k:Nat)) (hU:a3B p k):wgt es (a0x p) k=wgt es p k:=by
 unfold wgt
 refine a6y _ ((List.perm_ext_iff_of_nodup (a7o (a1M hL hU)) (a7o hU)).2 (a3I hL hU))
end Go.GS
namespace Go.Proofs.YtmannekkmdockaaGreatDoor
open Go.Proofs.Tryz
open Go.RowKit Go.RX Go.GS Go.RZ
open Go.WD (BP a1E wd iw rs toI HM sgI Rb a8Y)
set_option maxRecDepth 100000
section
variable {H:PH} {u v w wts:Value} {l:List Nat} {p q wl:List Int} {n k:Nat} {es:List (Nat×Nat)} {lo hi:Int}
theorem d2T (l:List Rat) (hl:∀r∈l,Rg r):b4e (l.map tpr)=sQ l:=by
 unfold b4e
 rw[List.map_map]
 have h1:l.map (d2Z ∘ tpr)=l:=by
  have:l.map (d2Z ∘ tpr)=l.map id:=List.map_congr_left fun r hr=>b5D (hl r hr)
  rw[this,List.map_id]
 rw[h1]
 have:∀(l:List Rat) (c:Rat),l.foldl (· + ·) c=c+sQ l:=by
  intro l
  induction l with
  |nil=>intro c;simp only[List.foldl_nil,sQ];grind
  |cons a l ih=>intro c;rw[List.foldl_cons,ih];simp only[sQ];grind
 rw[this];grind
structure d8l (es:List (Nat×Nat)) (wl:List Int) (lo hi:Int) (n k:Nat) (p q:List Int) (r r2:Rat):Prop where
 v:vO (a1Z es wl lo hi n k p) (a0r q)=r
 b:vO (a1Z es wl lo hi n k q) (a0r p)=r2
 law:(((wgt es p k:Nat):Int):Rat)*r=(((wgt es q k:Nat):Int):Rat)*r2
 pos:0<r
 rr:Rb 256 r
 rb:Rb 256 r2
 sit:SitO es n k q
 fit:a3L n es wl lo hi (k:Nat) q=true
theorem d2U (h:SitO es n k p) (hf:a3L n es wl lo hi (k:Nat) p=true) (hq:q∈(a1Z es wl lo hi n k p).map fun x=>x.1.take n):∃r r2,d8l es wl lo hi n k p q r r2:=by
 have hm:=b3p hf
 rcases h.out hq with⟨x,hx,rfl⟩|⟨rfl,hs⟩
 ·have hh:=h.hit hx
  obtain⟨y,hy,e1,e2,e3⟩:=h.back hm hx
  have hn:=h.next hh.pr hh.pl
  have v1:=h.val hx
  have v2:=hn.val hy
  have hb:=hn.hitv hy
  rw[e1]at hb
  have hr:=h.rev hm hx
  rw[h.hitv hx,hb]at hr
  exact⟨_,_,h.hitv hx,hb,hr,v1.1,v1.2.2,v2.2.2,hn,hn.fit (h.fitn hm hx)⟩
 ·exact⟨_,_,h.stayv,h.stayv,rfl,hs,(h.stay).2.2,(h.stay).2.2,h,hf⟩
theorem c3C {ps:List (List Int)} (h:SitO es n k p) (hps:ps.Perm ((a1Z es wl lo hi n k p).map fun x=>x.1.take n)):(ps.map fun q=>vO (a1Z es wl lo hi n k p) (a0r q)).Perm ((a1Z es wl lo hi n k p).map (·.2)):=by
 refine(hps.map _).trans ?_
 rw[List.map_map]
 refine List.Perm.of_eq (List.map_congr_left fun y hy=> ?_)
 have f:∃q:List Int,q.length=n/\y.1=a0r q:=by
  rcases h.mem hy with⟨x,hx,rfl⟩|⟨rfl,hs⟩
  ·exact⟨_,by rw[a5a];exact h.len,rfl⟩
  ·exact⟨_,h.len,rfl⟩
 obtain⟨q,h1,h2⟩:=f
 have h3:(a0r q).take n=q:=by rw[<-h1];exact a5P
 show vO _ (a0r (y.1.take n))=y.2
 rw[h2,h3,<-h2]
 exact a5K a6R hy
theorem a6S {B:Nat} {z:Nat} (h:z<=2^B) (hB:B<=200):a8Y ((z:Nat):Int):=by
 have h1:=c8v
 have h2:(2:Nat)^B<=2^200:=Nat.pow_le_pow_right (by decide) hB
 have h3:(2:Nat)^200<=2^256:=by decide
 exact⟨by omega,by omega⟩
theorem b3r (hT:Tb H) (hw:SG H w es) (hg:GV n es) (hn:n<=9) (h1:1<=k) (h4:k<=4) (hu:SI H u p) (hL:LabOk p (k:Nat)) (hU:a3B p k) (hl:p.length=n):a3M prog 33 [gv n w,u,ii (k:Nat)] H (iw ((wgt es p k:Nat):Int)):=by
 refine a0b mixed d2P (by kernel_rfl) rfl ?_
 have hn64:n<=64:=by omega
 have hmk:(masks p k).length=k:=a4t _ _ _
 have hmt:∀m∈masks p k,(m≠0/\m<2^n)/\m<M64/\tn es m<=2^36:=fun m hm=>by
  obtain⟨d,hd,rfl⟩:=mem_masks.1 hm
  have hlt:a0o p (d:Nat)<2^n:=by subst hl;exact a5w p _ hn64
  exact⟨⟨hU d hd,hlt⟩,a1g hn64 hlt,a7p hg (a1g hn64 hlt) (Nat.le_trans (a8y hlt hn64) hn)⟩
 have hpr:∀i,a2q (tn es) ((masks p k).take i)<=2^(36*k):=fun i=>by
  refine Nat.le_trans (b1I (tn es) (B:=36) _ fun m hm=>(hmt m (List.mem_of_mem_take hm)).2.2) (Nat.pow_le_pow_right (by decide) (Nat.mul_le_mul_left _ ?_))
  rw[List.length_take,hmk];omega
 have hf1:a8Y ((1:Nat):Int):=a6S (B:=0) (by decide) (by decide)
 refine a0a (a0T hw) ?_
 refine a0u ((a9y 1 (by decide) (by decide))) rfl ?_
 simp only[cA,nA]
 refine a0a (a8B _) ?_
 refine a0d (b1f hu k h1 (by omega) hL hU) rfl ?_
 rintro _ H1 ⟨l1,z,rfl,hz⟩
 refine⟨fun h=>(nomatch h),?_⟩
 simp only[cA,nA]
 refine a0a ⟨_,rfl,by simp⟩ ?_
 refine a0a ⟨_,rfl,by simp⟩ ?_
 refine a0h el_u64 rfl rfl hz rfl ?_
 simp only[cA,nA]
 refine a0k (α:=Nat) (fun i=>[ii (i:Nat),iw ((a2q (tn es) ((masks p k).take i):Nat):Int)]) (fun i=>fun H'=>i<=(masks p k).length/\PH.le H1 H') (fun i=>(masks p k).length-i) (0) rfl (⟨Nat.zero_le _,PH.le.refl _⟩) fun i H2 ⟨hi,l2⟩=> ?_
 simp only[cA,nA]
 refine a0a ⟨_,rfl⟩ ?_
 refine a0a ⟨_,rfl⟩ ?_
 refine a0e (b:=decide (((i:Nat):Int)<((masks p k).length:Nat))) rfl (fun h=> ?_) (fun h=> ?_)
 ·replace h:=of_decide_eq_true h
  have hi':i<(masks p k).length:=by omega
  obtain⟨m,hm,_⟩:=a0B hi'
  obtain⟨m1,m2,m3⟩:=hmt m (List.mem_of_getElem? hm)
  refine a0i el_u64 rfl rfl rfl rfl (fun _=>rfl) (hz.mono l2) hm rfl (fun _=>rfl) fun _=> ?_
  simp only[cA,nA]
  have em:b8B m es [] []=((tn es m:Nat):Int):=a8N m2 m1.1
  refine a0d (b6K (hw.mono (l1.trans l2)) hg m1 m2 (hT.mono (l1.trans l2))) rfl ?_
  rintro _ H3 ⟨l3,rfl⟩
  refine⟨fun h=>(nomatch h),?_⟩
  simp only[cA,nA]
  rw[show told (b8B m es [] [])= .tuple #[iw ((tn es m:Nat):Int),ii 0]from by rw[em];exact if_pos (a6S (B:=36) m3 (by decide))]
  refine a0a ⟨_,rfl,by simp⟩ ?_
  refine a0a ⟨_,rfl,by simp⟩ ?_
  refine a0a (a8B _) ?_
  have hst:a2q (tn es) ((masks p k).take (i+1))=a2q (tn es) ((masks p k).take i)*tn es m:=by rw[take_snoc hm,b8w]
  have hfp:=a6S (hpr i) (by omega)
  have hfq:=a6S (hpr (i+1)) (by omega)
  rw[hst]at hfq
  refine a0u ((by have:=d3P (x:=((a2q (tn es) ((masks p k).take i):Nat):Int)) (y:=((tn es m:Nat):Int)) hfp (a6S (B:=36) m3 (by decide));rw[<-Int.natCast_mul,show told (((a2q (tn es) ((masks p k).take i)*tn es m:Nat):Int))= .tuple #[iw ((a2q (tn es) ((masks p k).take i)*tn es m:Nat):Int),ii 0]from if_pos hfq]at this;exact this)) rfl ?_
  simp only[cA,nA]
  refine a0a ⟨_,rfl,by simp⟩ ?_
  refine a0a ⟨_,rfl,by simp⟩ ?_
  refine a0a (a8B _) ?_
  exact⟨i+1,by omega,(a1s (a0w rfl (by omega)) (by rw[hst];rfl)),⟨by omega,l2.trans l3⟩⟩
 ·replace h:=of_decide_eq_false h
  rw[List.take_of_length_le (show(masks p k).length<=i by omega)]
  exact a0c rfl ⟨l1.trans l2,rfl⟩
end
theorem d2V {H:PH} {s wv cu:Value} {more:List (Nat×Nat)} {wl0 cuts:List Nat} {da db dc dk s0 s1 tr:Nat} (hT:Tb H) (hwork:a3M prog 7 [] H (.bool true)) (hs:SE H 2 bc s more) (hwv:SE H 1 c8 wv wl0) (hcu:SE H 1 c8 cu cuts) (hc256:∀c∈cuts,c<256) (htr:tr<256):
  Con prog 6 [cv da db dc s wv cu dk s0 s1 tr] H fun r H'=>PH.le H H'/\r= .bool true:=by
 refine a0b mixed d5Y (by kernel_rfl) rfl ?_
 refine a0a (c8i (a0z hs) (a0z hwv) (a0z hcu) _ _ _ _ _ _ _) ?_
 refine a0n (hwork) rfl fun H1 l1=> ?_
 simp only[cA,nA]
 refine a0a ⟨_,rfl⟩ ?_
 refine a0j rfl ?_
 refine a0d (b4P (hs.mono l1) (hwv.mono l1) (hcu.mono l1) hc256 htr) rfl ?_
 rintro v2 H2 ⟨l2,n,w,es,wts,wl,lo,hi,k,u,p,rfl,hw,hg,hn9,hC,hwt,hk1,hk4,hu,hbd,hft⟩
 refine⟨fun h=>(nomatch h),?_⟩
 simp only[cA,nA]
 have hn1:=hg.n1
 have hT2:=hT.mono (l1.trans l2)
 obtain⟨hS,hL,hU,hpl⟩:=d5Z hg hn9 hk1 hk4 hft
 have hmp:∀m∈masks (a0x p) k,alB es wl lo hi m=true:=fun m hm=>b3p hft m ((a3I hL hU m).1 hm)
 have hfc:=hS.fit hmp
 refine a0a ⟨_,rfl,by simp⟩ ?_
 refine a0a ⟨_,rfl,by simp⟩ ?_
 refine a0a ⟨_,rfl,by simp⟩ ?_
 refine a0a (a0T hw) ?_
 refine a0a (a2J (a0z hwt) _ _ _) ?_
 refine a0d (a8P hT2 hw hg hwt hu) rfl ?_
 rintro v3 H4 ⟨l4,hO⟩
 refine⟨fun h=>(nomatch h),?_⟩
 simp only[cA,nA]
 obtain⟨ps,pv,ov,m,cont,hps,rfl,hpv,hmc,hmS,hov⟩:=d6a hS (a5Q hbd (by omega) [p] (fun q hq=>by rw[List.mem_singleton.1 hq];exact hft)) hO
 have hml:m.length=ps.length:=by rw[<-hmc,List.length_map]
 have hvp:=c3C hS hps
 have hvR:∀r∈(ps.map fun q=>vO (a1Z es wl lo hi n k (a0x p)) (a0r q)),Rg r:=fun r hr=>by
  obtain⟨y,hy,e⟩:=List.mem_map.1 (hvp.mem_iff.1 hr)
  rw[<-e];exact⟨256,by decide,(hS.tok hy).2.2⟩
 have hov2:Shs H4 ov ((ps.map fun q=>vO (a1Z es wl lo hi n k (a0x p)) (a0r q)).map tpr):=by rw[List.map_map];exact hov
 have hsum:b4e ((ps.map fun q=>vO (a1Z es wl lo hi n k (a0x p)) (a0r q)).map tpr)=1:=by rw[d2T _ hvR,d2S hvp];exact hS.sum
 have hlen:((ps.map fun q=>vO (a1Z es wl lo hi n k (a0x p)) (a0r q)).map tpr).length<=400:=by
  have h1:=hvp.length_eq
  have h2:=hS.few (wl:=wl) (lo:=lo) (hi:=hi)
  simp only[List.length_map]at h1⊢
  omega
 have hok:((ps.map fun q=>vO (a1Z es wl lo hi n k (a0x p)) (a0r q)).map tpr).all Go.WD.okP=true:=List.all_eq_true.2 fun y hy=>by
  obtain⟨r,hr,rfl⟩:=List.mem_map.1 hy
  exact c5m (hvR r hr)
 refine a0a ⟨_,rfl,by simp⟩ ?_
 refine a0a ⟨_,rfl,by simp⟩ ?_
 refine a0a ⟨_,rfl,by simp⟩ ?_
 refine a0d ((c5o hov2)) rfl ?_
 rintro _ H5 ⟨l5,hv4⟩
 refine⟨fun h=>(nomatch h),?_⟩
 simp only[cA,nA]
 have hsv:d4g ((ps.map fun q=>vO (a1Z es wl lo hi n k (a0x p)) (a0r q)).map tpr)= .tuple #[shR 1,ii 0]:=by
  unfold d4g
  rw[if_neg (by omega),if_pos hok,hsum];exact a4W rg3.2
 rw[hsv]at hv4
 subst hv4
 refine a0a ⟨_,rfl,by simp⟩ ?_
 refine a0a ⟨_,rfl,by simp⟩ ?_
 refine a0a (a0E _ _) ?_
 refine a0a ⟨_,rfl⟩ ?_
 refine a0j rfl ?_
 refine a0a ⟨_,rfl⟩ ?_
 refine a0j rfl ?_
 refine a0h a2e rfl rfl (hpv.mono l5) rfl ?_
 simp only[cA,nA]
 refine a0h a4j rfl rfl (hov.mono l5) rfl ?_
 simp only[cA,nA]
 have hll:(ps.map fun q=>tpr (vO (a1Z es wl lo hi n k (a0x p)) (a0r q))).length=m.length:=by rw[List.length_map,hml]
 rw[hll]
 refine a0a ⟨_,rfl⟩ ?_
 refine a0a ⟨_,rfl⟩ ?_
 refine a0j (by show Value.bool (((m.length:Nat):Int) !=((m.length:Nat):Int))=_;rw[bne_self_eq_false]) ?_
 refine a0n (c3x (by decide) (by decide) (by decide) (by decide) (by decide) div3.2 rg3.2) rfl fun H6 l6=> ?_
 simp only[cA,nA]
 refine a0g ((c0p rg3.2 rg3.2 rfl (fun _ _=>rfl) (fun _ _=>rfl)).rds _) rfl ?_
 simp only[cA,nA]
 refine a0a ⟨_,rfl⟩ ?_
 refine a0j rfl ?_
 have l46:=l5.trans l6
 have l26:=l4.trans l46
 refine a0n (b3r (hT2.mono l26) (hw.mono l26) hg hn9 hk1 hk4 (hu.mono l26) hL hU hpl) rfl fun H7 l7=> ?_
 simp only[cA,nA]
 refine a0u ((a9y 1 (by decide) (by decide))) rfl ?_
 simp only[cA,nA]
 have hW:=hS.wgt
 rw[b3q hL hU]at hW
 have hWf:=a6S hW (by decide)
 have hf1:a8Y ((1:Nat):Int):=a6S (B:=0) (by decide) (by decide)
 have hrW:∀z:Nat,z<=2^144->Rb 145 (((z:Nat):Int):Rat):=fun z hz=>⟨by rw[Rat.num_intCast];show z<2^145;exact Nat.lt_of_le_of_lt hz (by decide),by rw[Rat.den_intCast];decide⟩
 refine a0d (c0q (p:=((wgt es p k:Nat):Int)) (q:=1) hWf hf1 (by decide) (a9E _) ⟨145,by decide,hrW _ hW⟩) rfl ?_
 rintro _ H8 ⟨l8,rfl⟩
 refine⟨fun h=>(nomatch h),?_⟩
 simp only[cA,nA]
 refine a0a ⟨_,rfl,by simp⟩ ?_
 refine a0a ⟨_,rfl,by simp⟩ ?_
 refine a0a (a0E _ _) ?_
 have l48:=l46.trans (l7.trans l8)
 have l28:=l4.trans l48
 refine a0h a2e rfl rfl (hpv.mono l48) rfl ?_
 simp only[cA,nA]
 have hm0:=hpv.len
 refine a0k (α:=Nat) (fun i=>[.bool false,ii (i:Nat)]) (fun i=>fun H'=>i<=m.length/\PH.le H8 H') (fun i=>m.length-i) (0) rfl (⟨Nat.zero_le _,PH.le.refl _⟩) fun i H9 ⟨hi9,l9⟩=> ?_
 simp only[cA,nA]
 refine a0a ⟨_,rfl⟩ ?_
 refine a0a ⟨_,rfl⟩ ?_
 refine a0e (b:=decide (((i:Nat):Int)<(m.length:Nat))) rfl (fun h=> ?_) (fun h=> ?_)
 ·replace h:=of_decide_eq_true h
  have hi':i<m.length:=by omega
  obtain⟨sl,hsl,_⟩:=a0B hi'
  have hsm:=List.mem_of_getElem? hsl
  have l49:=l48.trans l9
  have l29:=l28.trans l9
  refine a0i a2e rfl rfl rfl rfl (fun _=>rfl) (hpv.mono l49) hsl rfl (fun _=>rfl) fun _=> ?_
  simp only[cA,nA]
  have hq0:=(hmS sl hsm).mono l49
  have hqi:ps[i]? =some (cont sl):=by rw[<-hmc,List.getElem?_map,hsl];rfl
  have hqm:=hps.mem_iff.1 (List.mem_of_getElem? hqi)
  generalize hqe:cont sl=q at hq0 hqi hqm
  obtain⟨r,r2,hR⟩:=d2U hS hfc hqm
  refine a0d (b4L (lo:=lo) (hi:=hi) (ds:=(k:Nat)) (hT2.mono l29) (hw.mono l29) hg (hwt.mono l29) hq0 (hu.mono l29)) rfl ?_
  rintro _ H10 ⟨l10,hv17⟩
  refine⟨fun h=>(nomatch h),?_⟩
  simp only[cA,nA]
  have hgo:goR n es wl lo hi (k:Nat) q p= .tuple #[shR r2,ii 0]:=by
   unfold goR
   rw[if_neg (by rw[a5Q hbd (by omega) [q,p] (fun z hz=>by
    simp only[List.mem_cons,List.not_mem_nil,or_false]at hz
    rcases hz with rfl|rfl
    ·exact hR.fit
    ·exact hft)];simp),Int.toNat_natCast]
   unfold goQ
   rw[hR.sit.can,hR.b]
   exact a4W ⟨256,by decide,hR.rb⟩
  rw[hgo]at hv17
  subst hv17
  refine a0a ⟨_,rfl,by simp⟩ ?_
  refine a0a ⟨_,rfl,by simp⟩ ?_
  refine a0a (a0E _ _) ?_
  have l2a:=l29.trans l10
  refine a0n (b3r (hT2.mono l2a) (hw.mono l2a) hg hn9 hk1 hk4 (hq0.mono l10) hR.sit.lab hR.sit.used hR.sit.len) rfl fun H11 l11=> ?_
  simp only[cA,nA]
  refine a0u ((a9y 1 (by decide) (by decide))) rfl ?_
  simp only[cA,nA]
  have hWq:=hR.sit.wgt
  have hWqf:=a6S hWq (by decide)
  refine a0d (c0q (p:=((wgt es q k:Nat):Int)) (q:=1) hWqf hf1 (by decide) (a9E _) ⟨145,by decide,hrW _ hWq⟩) rfl ?_
  rintro _ H12 ⟨l12,rfl⟩
  refine⟨fun h=>(nomatch h),?_⟩
  simp only[cA,nA]
  refine a0a ⟨_,rfl,by simp⟩ ?_
  refine a0a ⟨_,rfl,by simp⟩ ?_
  refine a0a (a0E _ _) ?_
  have l4c:=l49.trans (l10.trans (l11.trans l12))
  have l2c:=l2a.trans (l11.trans l12)
  have hoi:(ps.map fun q=>tpr (vO (a1Z es wl lo hi n k (a0x p)) (a0r q)))[i]? =some (tpr r):=by rw[List.getElem?_map,hqi,Option.map_some,hR.v]
  refine a0i a4j rfl rfl rfl rfl (fun _=>rfl) (hov.mono l4c) hoi rfl (fun _=>rfl) fun _=> ?_
  simp only[cA,nA]
  have hRr:Rg r:=⟨256,by decide,hR.rr⟩
  have hRr2:Rg r2:=⟨256,by decide,hR.rb⟩
  have hlaw:=hR.law
  rw[b3q hL hU]at hlaw
  have hRt:Rg ((((wgt es p k:Nat):Int):Rat)*r):=⟨401,by decide,(hrW _ hW).mul hR.rr (by decide)⟩
  refine a0d (c7N (r:=(((wgt es p k:Nat):Int):Rat)) (s:=r) ⟨145,by decide,hrW _ hW⟩ hRr rfl hRt) rfl ?_
  rintro _ H13 ⟨l13,rfl⟩
  refine⟨(fun _=>l13),?_⟩
  simp only[cA,nA]
  refine a0a ⟨_,rfl,by simp⟩ ?_
  refine a0a ⟨_,rfl,by simp⟩ ?_
  refine a0a (a0E _ _) ?_
  refine a0d (c7N (r:=(((wgt es q k:Nat):Int):Rat)) (s:=r2) ⟨145,by decide,hrW _ hWq⟩ hRr2 hlaw.symm hRt) rfl ?_
  rintro _ H14 ⟨l14,rfl⟩
  refine⟨fun h=>(nomatch h),?_⟩
  simp only[cA,nA]
  refine a0a ⟨_,rfl,by simp⟩ ?_
  refine a0a ⟨_,rfl,by simp⟩ ?_
  refine a0a (a0E _ _) ?_
  refine a0i a4j rfl rfl rfl rfl (fun _=>rfl) (hov.mono (l4c.trans (l13.trans l14))) hoi rfl (fun _=>rfl) fun _=> ?_
  simp only[cA,nA]
  refine a0d (c9N hRr) rfl ?_
  rintro _ H15 ⟨l15,rfl⟩
  refine⟨fun h=>(nomatch h),?_⟩
  simp only[cA,nA]
  refine a0a ⟨_,rfl,by simp⟩ ?_
  refine a0a ⟨_,rfl,by simp⟩ ?_
  refine a0a ⟨_,rfl⟩ ?_
  refine a0j rfl ?_
  refine a0a ⟨_,rfl⟩ ?_
  refine a0j rfl ?_
  refine a0a ⟨_,rfl⟩ ?_
  refine a0j rfl ?_
  refine a0a ⟨_,rfl⟩ ?_
  refine a0j rfl ?_
  refine a0g ((c0p hRt hRt rfl (fun _ _=>rfl) (fun _ _=>rfl)).rds _) rfl ?_
  simp only[cA,nA]
  refine a0a ⟨_,rfl⟩ ?_
  refine a0j rfl ?_
  have hsg:sgI r.num 0=1:=by
   have:=numpos.2 hR.pos
   unfold sgI
   rw[if_neg (by omega),if_neg (by omega)]
  rw[hsg]
  refine a0a ⟨_,rfl⟩ ?_
  refine a0j rfl ?_
  have l2f:=l2c.trans (l13.trans (l14.trans l15))
  refine a0n (b3n (lo:=lo) (hi:=hi) (ds:=(k:Nat)) (hT2.mono l2f) (hw.mono l2f) hg (hwt.mono l2f) (hq0.mono (l10.trans (l11.trans (l12.trans (l13.trans (l14.trans l15)))))) hbd) rfl fun H16 l16=> ?_
  simp only[cA,nA]
  rw[hR.fit]
  refine a0a ⟨_,rfl⟩ ?_
  refine a0j rfl ?_
  exact⟨i+1,by omega,(a1s rfl (a0w rfl (by omega))),⟨by omega,l9.trans (l10.trans (l11.trans (l12.trans (l13.trans (l14.trans (l15.trans l16))))))⟩⟩
 ·replace h:=of_decide_eq_false h
  exact a0c rfl ⟨l1.trans (l2.trans (l28.trans l9)),rfl⟩
end Go.Proofs.YtmannekkmdockaaGreatDoor

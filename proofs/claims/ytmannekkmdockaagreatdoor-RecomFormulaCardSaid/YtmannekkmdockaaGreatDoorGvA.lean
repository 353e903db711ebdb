/- Chapter 32: all probabilities of small graphs can be told. -/
import Derived.Test.YtmannekkmdockaaGreatDoorGzS
import Derived.Test.YtmannekkmdockaaGreatDoorGzI
import Derived.Test.YtmannekkmdockaaGreatDoorGyH
namespace Go.GS
theorem a8i {es:List (Nat×Nat)} {S:Nat}:∀(f j:Nat) (t:List Int),es.length-j=f->(trL es S f j t).length<=2^a4l es S j
 |0,j,t,_=>by
  have:=Nat.two_pow_pos (a4l es S j)
  unfold trL
  split
  ·simp;omega
  ·simp
 |f+1,j,t,hf=>by
  have hj:j<es.length:=by omega
  have h1:=a8i (es:=es) (S:=S) f (j+1) t (by omega)
  unfold trL
  rw[List.length_append]
  split
  ·rename_i h
   have h2:=a8i (es:=es) (S:=S) f (j+1) (t++[(j:Int)]) (by omega)
   rw[b0o (a3K hj) h.1,Nat.pow_succ]
   omega
  ·have:=Nat.pow_le_pow_right (n:=2) (by decide) (b0p es S j)
   simp only[List.length_nil]
   omega
theorem a5q {es:List (Nat×Nat)} {S n:Nat} (hg:GV n es) (hs:S<M64) (h9:card S<=9):tn es S<=2^36:=by
 refine Nat.le_trans (a8i _ _ _ (by omega)) (Nat.pow_le_pow_right (by decide) (c1b hg hs h9))
theorem d4m:∀k:Fin 5,(a0w k.val).length<=6:=by decide
theorem Qd.unit {D B:Nat} {r:Rat} (h:Qd D B r) (hD:0<D) (h0:0<=r) (h1:r<=1):Qd D D r:=by
 obtain⟨A,rfl,_⟩:=h
 refine⟨A,rfl,?_⟩
 have hD':(0:Rat)<((D:Nat):Int):=by exact_mod_cast hD
 have a0:0<=A:=by
  rcases Int.lt_or_le A 0 with h|h
  ·exfalso
   have:((A:Int):Rat)/((D:Nat):Int)<0:=(Rat.div_lt_iff hD').2 (by rw[Rat.zero_mul];exact_mod_cast h)
   exact absurd h0 (Rat.not_le.2 this)
  ·exact h
 have a1:A<=D:=by
  rcases Int.lt_or_le (D:Int) A with h|h
  ·exfalso
   have:1<((A:Int):Rat)/((D:Nat):Int):=(Rat.lt_div_iff hD').2 (by rw[Rat.one_mul];exact_mod_cast h)
   exact absurd h1 (Rat.not_le.2 this)
  ·exact h
 omega
end Go.GS
namespace Go.Proofs.YtmannekkmdockaaGreatDoor
open Go.Proofs.Tryz
open Go.RowKit Go.RX Go.GS Go.RZ
open Go.WD (BP a1L wd rs toI HM sgI Rb)
section
variable {es:List (Nat×Nat)} {wl:List Int} {lo hi:Int} {n k m S a:Nat} {p:List Int}
theorem c6X:2^256<=HM:=by
 rw[d2s]
 have:(2:Nat)^256=BP 8:=by unfold BP;rfl
 rw[this]
 exact Nat.le_trans (a1L (by decide)) (Nat.le_mul_of_pos_right _ (by decide))
theorem d0Y {D:Nat} {r:Rat} (h:Qd D D r) (hD:0<D) (hb:D<2^256):Rb 256 r:=d0x (k:=256) h (by omega) hb hb
theorem c6Y {r:Rat} (h:Rb 256 r):tok r=true:=by
 obtain⟨h1,h2⟩:=h
 have:=c6X
 refine decide_eq_true ⟨⟨by omega,by omega⟩,by omega⟩
structure SitO (es:List (Nat×Nat)) (n k:Nat) (p:List Int):Prop where
 gv:GV n es
 n9:n<=9
 lab:LabOk p (k:Nat)
 used:a3G p k
 can:a0m p=p
 len:p.length=n
 k1:1<=k
 k4:k<=4
theorem SitO.kn (h:SitO es n k p):k<=n:=by have:=c1P h.used;have:=h.len;omega
theorem SitO.pr (h:SitO es n k p) {pr:Nat×Nat} (hpr:pr∈a0w k):PrO p n k pr:=d5T h.used h.len (by have:=h.n9;omega) hpr
theorem SitO.n2 (h:SitO es n k p) {pr:Nat×Nat} (hpr:pr∈a0w k):0<n-1/\0<(a0w k).length/\(a0w k).length<=6:=by
 have h1:=a5k hpr
 have:=h.kn
 exact⟨by omega,List.length_pos_of_mem hpr,d4m ⟨k,by have:=h.k4;omega⟩⟩
theorem SitO.next (h:SitO es n k p) {pr:Nat×Nat} (hpr:pr∈a0w k) {a:Nat} (ha:a∈a1E (unP p pr)):SitO es n k (a2s p pr a):=by
 obtain⟨hP,_⟩:=b6h h.lab h.used h.len (by have:=h.n9;omega) hpr ha
 exact⟨h.gv,h.n9,a3c hP.rlab hP.rused,a2l hP.rlab hP.rused,a8b _,by rw[a8e];exact h.len,h.k1,h.k4⟩
structure d6o (es:List (Nat×Nat)) (wl:List Int) (lo hi:Int) (n k:Nat) (p:List Int) (x:(Nat×Nat)×Nat):Prop where
 pr:x.1∈a0w k
 pl:x.2∈a1E (unP p x.1)
 sub:∀y,bit x.2 y=true->bit (unP p x.1) y=true
 lst:bit x.2 (lst (unP p x.1))=true
 ts:tn es (unP p x.1)≠0
 ta:tn es x.2≠0
 tb:tn es (sdf (unP p x.1) x.2)≠0
 a0:x.2≠0/\x.2<2^n
 b0:sdf (unP p x.1) x.2≠0/\sdf (unP p x.1) x.2<2^n
 ala:alB es wl lo hi x.2=true
 alb:alB es wl lo hi (sdf (unP p x.1) x.2)=true
 ne:p≠a2s p x.1 x.2
 prt:Prt p k x.1.1 x.1.2 x.2
theorem SitO.hit (h:SitO es n k p) {x:(Nat×Nat)×Nat} (hx:x∈b0N es wl lo hi k p):d6o es wl lo hi n k p x:=by
 obtain⟨x1,x2,x3,x4,x5,x6⟩:=idx_mem.1 hx
 have hn:n<=64:=by have:=h.n9;omega
 have hP:=h.pr x1
 obtain⟨a0,b0⟩:=a7W hP.s2 hn hP.s0 x2
 obtain⟨q1,q2⟩:=b6h h.lab h.used h.len hn x1 x2
 have hca:Cn es x.2:=by unfold alB at x4;rw[Bool.and_eq_true]at x4;exact cnB_iff.1 x4.1
 have hcb:Cn es (sdf (unP p x.1) x.2):=by unfold alB at x5;rw[Bool.and_eq_true]at x5;exact cnB_iff.1 x5.1
 exact⟨x1,x2,q1.sub,q2,fun e=>x3 (by rw[a6q hP.sM hP.s0,e];rfl),c1V (a1g hn a0.2) a0.1 hca,c1V (a1g hn b0.2) b0.1 hcb,a0,b0,x4,x5,fun e=>x6 (by rw[<-e]),q1⟩
theorem SitO.val (h:SitO es n k p) {x:(Nat×Nat)×Nat} (hx:x∈b0N es wl lo hi k p):0<b6g es n (a0w k).length p x.1 x.2/\b6g es n (a0w k).length p x.1 x.2<=1/\Rb 256 (b6g es n (a0w k).length p x.1 x.2):=by
 have hh:=h.hit hx
 have hn:n<=64:=by have:=h.n9;omega
 have hP:=h.pr hh.pr
 obtain⟨n1,m1,m6⟩:=h.n2 hh.pr
 have hmem:x.2∈a8t es wl lo hi p x.1:=by
  obtain⟨_,x2,x3,x4,x5,x6⟩:=idx_mem.1 hx
  exact par_mem.2 ⟨x3,x2,x4,x5,x6⟩
 have h1:tn es x.2*tn es (sdf (unP p x.1) x.2)<=tn es (unP p x.1)*(card (unP p x.1)-1):=by
  refine Nat.le_trans ?_ (c6W (wl:=wl) (lo:=lo) (hi:=hi) hP)
  obtain⟨l1,l2,hl⟩:=List.append_of_mem hmem
  rw[hl,List.map_append,List.map_cons,List.sum_append,List.sum_cons]
  omega
 have hts:=hh.ts
 have hD:0<tn es (unP p x.1)*((n-1)*(a0w k).length):=Nat.mul_pos (by omega) (Nat.mul_pos n1 m1)
 have hND:tn es x.2*tn es (sdf (unP p x.1) x.2)<=tn es (unP p x.1)*((n-1)*(a0w k).length):=by
  refine Nat.le_trans h1 (Nat.mul_le_mul_left _ ?_)
  have:=hP.cd
  have h2:n-1<=(n-1)*(a0w k).length:=Nat.le_mul_of_pos_right _ m1
  omega
 have hN0:0<tn es x.2*tn es (sdf (unP p x.1) x.2):=Nat.mul_pos (Nat.pos_of_ne_zero hh.ta) (Nat.pos_of_ne_zero hh.tb)
 have hD2:tn es (unP p x.1)*((n-1)*(a0w k).length)<2^256:=by
  have h2:=a5q h.gv hP.sM (by have:=hP.cd;have:=h.n9;omega)
  have h3:(n-1)*(a0w k).length<=8*6:=Nat.mul_le_mul (by have:=h.n9;omega) m6
  have h4:=Nat.mul_le_mul h2 h3
  have h5:2^36*(8*6)<2^256:=by decide
  omega
 rw[b6j hP hn hh.pl]
 have hD':=a8g hD
 refine⟨(Rat.lt_div_iff hD').2 (by rw[Rat.zero_mul];exact a8g hN0),Rat.not_lt.1 fun hlt=> ?_,d0Y (D:=tn es (unP p x.1)*((n-1)*(a0w k).length)) ⟨_,rfl,by omega⟩ hD hD2⟩
 rw[Rat.lt_div_iff hD',Rat.one_mul]at hlt
 have:((tn es (unP p x.1)*((n-1)*(a0w k).length):Nat):Int)<((tn es x.2*tn es (sdf (unP p x.1) x.2):Nat):Int):=by exact_mod_cast hlt
 omega
theorem SitO.odds (h:SitO es n k p):a1G es wl lo hi n k p=(b0N es wl lo hi k p).map (c6Q es n (a0w k).length p):=b2v h.lab h.used h.can h.len (by have:=h.n9;omega)
theorem d4n:∀{l:List Rat},(∀q∈l,0<=q)->0<=sQ l
 |[],_=>Rat.le_refl
 |a::l,h=>by
  have h1:=h a (by simp)
  have h2:=d4n (l:=l) fun q hq=>h q (by simp[hq])
  simp only[sQ];grind
theorem SitO.tot (h:SitO es n k p):0<=a6l es wl lo hi n k p/\a6l es wl lo hi n k p<=1:=by
 refine⟨?_,d4i h.lab h.used h.can h.len (by have:=h.n9;omega)⟩
 unfold a6l
 rw[h.odds,List.map_map]
 refine d4n fun q hq=> ?_
 obtain⟨x,hx,rfl⟩:=List.mem_map.1 hq
 exact Rat.le_of_lt (h.val hx).1
theorem SitO.stay (h:SitO es n k p):0<=1-a6l es wl lo hi n k p/\1-a6l es wl lo hi n k p<=1/\Rb 256 (1-a6l es wl lo hi n k p):=by
 obtain⟨t0,t1⟩:=h.tot (wl:=wl) (lo:=lo) (hi:=hi)
 have a0:0<=1-a6l es wl lo hi n k p:=by grind
 have a1:1-a6l es wl lo hi n k p<=1:=by grind
 refine⟨a0,a1,?_⟩
 by_cases hd:a0w k=[]
 ·have e:a6l es wl lo hi n k p=0:=by unfold a6l;rw[h.odds];unfold b0N;rw[hd];rfl
  rw[e]
  rw[show(1:Rat)-0=1 from by grind]
  exact d0Y (D:=1) (Qd.one (by decide)) (by decide) (by decide)
 ·obtain⟨pr,hpr⟩:=List.exists_mem_of_ne_nil _ hd
  obtain⟨n1,m1,m6⟩:=h.n2 hpr
  have hn2:0<(n-1)*(a0w k).length:=Nat.mul_pos n1 m1
  have hD:=a5o (es:=es) (p:=p) hn2 (a0w k)
  have hDb:a5P es n (a0w k).length p (a0w k)<=2^(42*(a0w k).length):=by
   have:∀l:List (Nat×Nat),(∀pr∈l,pr∈a0w k)->a5P es n (a0w k).length p l<=2^(42*l.length):=by
    intro l
    induction l with
    |nil=>intro _;simp[a5P]
    |cons pr l ih=>
     intro hl
     have ih:=ih fun pr hpr=>hl pr (by simp[hpr])
     have hP:=h.pr (hl pr (by simp))
     have hf:b7q es n (a0w k).length p pr<=2^42:=by
      unfold b7q
      split
      ·decide
      ·rw[a6q hP.sM hP.s0,Int.natAbs_natCast]
       have h2:=a5q h.gv hP.sM (by have:=hP.cd;have:=h.n9;omega)
       have h3:(n-1)*(a0w k).length<=8*6:=Nat.mul_le_mul (by have:=h.n9;omega) m6
       have h4:=Nat.mul_le_mul h2 h3
       have h5:2^36*(8*6)<=2^42:=by decide
       omega
     simp only[a5P,List.length_cons]
     rw[Nat.mul_succ,Nat.pow_add,Nat.mul_comm (2^(42*l.length))]
     exact Nat.mul_le_mul hf ih
   exact this _ fun _ h=>h
  have hDb2:a5P es n (a0w k).length p (a0w k)<2^256:=by
   refine Nat.lt_of_le_of_lt hDb (Nat.pow_lt_pow_right (by decide) (by omega))
  obtain⟨J,hJ⟩:∃J,J=320:=⟨_,rfl⟩
  have hq:=b0L hJ (es:=es) (wl:=wl) (lo:=lo) (hi:=hi) h.gv (by have:=h.n9;omega) h.len hn2
  have hs:Qd (a5P es n (a0w k).length p (a0w k)) _ (a6l es wl lo hi n k p):=c5p (l:=(a1G es wl lo hi n k p).map (·.2)) fun q hq'=>by
   obtain⟨x,hx,rfl⟩:=List.mem_map.1 hq'
   exact hq x hx
  exact d0Y (((Qd.one (by omega)).sub hs).unit hD a0 a1) hD hDb2
theorem c2b (h:SitO es n k p):a0v p∉(a1G es wl lo hi n k p).map (·.1):=fun hm=>by
 obtain⟨x,hx,e⟩:=List.mem_map.1 hm
 obtain⟨pr,_,a,_,_,_,_,h1,h2,_⟩:=(a6G x hx).ex
 exact h1 (e ▸ h2)
theorem SitO.all (h:SitO es n k p):a3v es wl lo hi n k p=a1G es wl lo hi n k p++if 0<1-a6l es wl lo hi n k p then[(a0v p,1-a6l es wl lo hi n k p)]else[]:=by
 unfold a3v
 split
 ·rename_i hs
  rw[if_pos (show 0<1-a6l es wl lo hi n k p from hs)]
  unfold a6j
  rw[if_neg (c2b h)];rfl
 ·rename_i hs
  rw[if_neg (show ¬0<1-a6l es wl lo hi n k p from hs),List.append_nil]
theorem SitO.mem (h:SitO es n k p) {y:List Int×Rat} (hy:y∈a3v es wl lo hi n k p):(∃x∈b0N es wl lo hi k p,y=c6Q es n (a0w k).length p x)\/(y=(a0v p,1-a6l es wl lo hi n k p)/\0<1-a6l es wl lo hi n k p):=by
 rw[h.all,List.mem_append,h.odds]at hy
 rcases hy with hy|hy
 ·obtain⟨x,hx,rfl⟩:=List.mem_map.1 hy
  exact .inl ⟨x,hx,rfl⟩
 ·split at hy
  ·rename_i hs;exact .inr ⟨List.mem_singleton.1 hy,hs⟩
  ·cases hy
theorem SitO.tok (h:SitO es n k p) {y:List Int×Rat} (hy:y∈a3v es wl lo hi n k p):0<y.2/\y.2<=1/\Rb 256 y.2:=by
 rcases h.mem hy with⟨x,hx,rfl⟩|⟨rfl,hs⟩
 ·exact h.val hx
 ·exact⟨hs,(h.stay).2.1,(h.stay).2.2⟩
theorem SitO.hitv (h:SitO es n k p) {x:(Nat×Nat)×Nat} (hx:x∈b0N es wl lo hi k p):vO (a3v es wl lo hi n k p) (a0v (a2s p x.1 x.2))=b6g es n (a0w k).length p x.1 x.2:=
 a6k a8f (by rw[h.all,h.odds];exact List.mem_append_left _ (List.mem_map.2 ⟨x,hx,rfl⟩))
theorem SitO.stayv (h:SitO es n k p):vO (a3v es wl lo hi n k p) (a0v p)=1-a6l es wl lo hi n k p:=by
 by_cases hs:0<1-a6l es wl lo hi n k p
 ·exact a6k a8f (by rw[h.all,if_pos hs];simp)
 ·have h0:=(h.stay (wl:=wl) (lo:=lo) (hi:=hi)).1
  rw[d4c]
  ·grind
  ·rw[h.all,if_neg hs,List.append_nil];exact c2b h
theorem SitO.out (h:SitO es n k p) {q:List Int} (hq:q∈(a3v es wl lo hi n k p).map fun x=>x.1.take n):(∃x∈b0N es wl lo hi k p,q=a2s p x.1 x.2)\/(q=p/\0<1-a6l es wl lo hi n k p):=by
 obtain⟨y,hy,rfl⟩:=List.mem_map.1 hq
 rcases h.mem hy with⟨x,hx,rfl⟩|⟨rfl,hs⟩
 ·refine .inl ⟨x,hx,?_⟩
  have:(a2s p x.1 x.2).length=n:=by rw[a8e];exact h.len
  show(a0v (a2s p x.1 x.2)).take n=_
  rw[<-this];exact a6J
 ·refine .inr ⟨?_,hs⟩
  show(a0v p).take n=p
  have:=h.len
  rw[<-this];exact a6J
theorem SitO.outv (h:SitO es n k p) {q:List Int} (hq:q∈(a3v es wl lo hi n k p).map fun x=>x.1.take n):q.length=n/\(a0v q,vO (a3v es wl lo hi n k p) (a0v q))∈a3v es wl lo hi n k p:=by
 obtain⟨y,hy,rfl⟩:=List.mem_map.1 hq
 have f:∃q:List Int,q.length=n/\y.1=a0v q:=by
  rcases h.mem hy with⟨x,hx,rfl⟩|⟨rfl,hs⟩
  ·exact⟨_,by rw[a8e];exact h.len,rfl⟩
  ·exact⟨_,h.len,rfl⟩
 obtain⟨q,h1,h2⟩:=f
 have h3:(a0v q).take n=q:=by rw[<-h1];exact a6J
 simp only[h2,h3]
 refine⟨h1,?_⟩
 rw[<-h2,a6k a8f hy];exact hy
end
end Go.Proofs.YtmannekkmdockaaGreatDoor
/- Chapter 32: what the examples are made of, in plain terms. -/
namespace Go.GS
def cnC (es:List (Nat×Nat)) (S:Nat):Bool:= !decide (S=0)&&decide (a2J S es es.length (2^lst S)=S)
theorem d4o {es:List (Nat×Nat)} {S n:Nat} (hg:GV n es) (hs:S<M64):cnB es S=cnC es S:=by
 rw[Bool.eq_iff_iff,cnB_iff]
 unfold cnC
 by_cases h0:S=0
 ·subst h0
  simp only[decide_true,Bool.not_true,Bool.false_and,Bool.false_eq_true,iff_false]
  rintro⟨x,hx,_⟩
  rw[a0J]at hx;cases hx
 ·have hx:=a7L hs h0
  have hL:∀e∈es,e.1<64/\e.2<64:=fun e he=>by have:=hg.ed e he;have:=hg.n64;omega
  have hc:=b1S hx (a1z (set:=S) hL (a0P (a1q hs hx)) es.length).1 (b0j S es (2^lst S))
  rw[decide_eq_false h0,Bool.not_false,Bool.true_and,decide_eq_true_iff]
  constructor
  ·intro hC
   refine a0G fun y=> ?_
   rw[Bool.eq_iff_iff,hc.2]
   exact⟨fun h=>h.mem hx,fun h=>hC.all hx h⟩
  ·intro e
   refine⟨lst S,hx,fun y hy=>(hc.2 y).1 (by rw[e];exact hy)⟩
def alC (es:List (Nat×Nat)) (wl:List Int) (lo hi:Int) (S:Nat):Bool:=cnC es S&&(decide (c6t wl S≥lo)&&decide (c6t wl S<=hi))
theorem a9m {es:List (Nat×Nat)} {wl:List Int} {lo hi:Int} {S n:Nat} (hg:GV n es) (hs:S<M64):alB es wl lo hi S=alC es wl lo hi S:=by
 unfold alB alC;rw[d4o hg hs]
theorem d0Z {n:Nat} {es:List (Nat×Nat)} {wl p:List Int} {lo hi ds:Int} (hg:GV n es) (hl:p.length<=64):a4B n es wl lo hi ds p=(decide (plE n p ds=0)&&(masks p ds.toNat).all (alC es wl lo hi)):=by
 unfold a4B
 congr 1
 rw[Bool.eq_iff_iff,List.all_eq_true,List.all_eq_true]
 refine⟨fun h m hm=> ?_,fun h m hm=> ?_⟩
 ·rw[<-a9m hg (Nat.lt_of_lt_of_le (b0g hm hl) (Nat.pow_le_pow_right (n:=2) (by decide) hl))];exact h m hm
 ·rw[a9m hg (Nat.lt_of_lt_of_le (b0g hm hl) (Nat.pow_le_pow_right (n:=2) (by decide) hl))];exact h m hm
def es3:List (Nat×Nat):=[(0,1),(1,2),(2,3)]
def wl1:List Int:=[1,1,1,1]
theorem gv3:GV 4 es3:=⟨by decide,by decide,by decide,by decide,by unfold es3 elt;simp⟩
theorem bd3:bdE 4 wl1 1 3 2=0/\bdE 4 wl1 2 3 2=0:=by decide
theorem d5B:a4B 4 es3 wl1 1 3 2 [0,1,0,1]=false/\a4B 4 es3 wl1 1 3 2 [0,0,0,0]=false/\a4B 4 es3 wl1 1 3 2 [0,0,1,1]=true/\a4B 4 es3 wl1 2 3 2 [0,0,1,1]=true/\a4B 4 es3 wl1 1 3 2 [1,1,1,0]=true:=by
 refine⟨?_,?_,?_,?_,?_⟩<;>(rw[d0Z gv3 (by decide)];decide+kernel)
theorem d1a:TreeOk es3 15 [0,1,2]:=by
 refine⟨by simp,fun i hi=> ?_,fun i e hi he=> ?_,by decide⟩
 ·simp only[List.mem_cons,List.not_mem_nil,or_false]at hi
  rcases hi with rfl|rfl|rfl
  ·exact(by decide:OkI es3 15 0)
  ·exact(by decide:OkI es3 15 1)
  ·exact(by decide:OkI es3 15 2)
 ·simp only[List.length_cons,List.length_nil]at hi
  match i,hi with
  |0,_=>cases he;decide
  |1,_=>cases he;decide
  |2,_=>cases he;decide
theorem bal3:c0m es3 wl1 1 3 15 [0,1,2] [0,1,2]=[0,1,2]/\c0m es3 wl1 2 3 15 [0,1,2] [0,1,2]=[1]:=by
 have h:∀lo,c0m es3 wl1 lo 3 15 [0,1,2] [0,1,2]=[0,1,2].filter fun k=>alC es3 wl1 lo 3 (a2K es3 15 [0,1,2] k)&&alC es3 wl1 lo 3 (sdf 15 (a2K es3 15 [0,1,2] k)):=fun lo=>by
  refine List.filter_congr fun k _=> ?_
  have h1:=b0n (by decide) (by decide) d1a k
  rw[a9m gv3 (Nat.lt_of_le_of_lt (sub_le h1) (by decide)),a9m gv3 (sdf_lt (by decide))]
 rw[h,h]
 decide+kernel
end Go.GS
namespace Go.Proofs.YtmannekkmdockaaGreatDoor
open Go.Proofs.Tryz
open Go.RowKit Go.RX Go.GS Go.RZ
open Go.WD (BP a1L wd rs toI HM sgI Rb)
theorem sit3:SitO es3 4 2 [0,0,1,1]:=⟨gv3,by decide,by decide,by decide,by decide,by decide,by decide,by decide⟩
def d5U (lo:Int) (a:Nat):Bool:=alC es3 wl1 lo 3 a&&(alC es3 wl1 lo 3 (sdf 15 a)&& !decide (a0v [0,0,1,1]=a0v (a2s [0,0,1,1] (0,1) a)))
theorem tr3:trN es3 15 [] 0=1/\trN es3 7 [] 0=1/\trN es3 8 [] 0=1/\trN es3 1 [] 0=1/\trN es3 14 [] 0=1:=by decide+kernel
theorem tn3 {S:Nat} (hs:S<M64) (h0:S≠0) (h:trN es3 S [] 0=1):tn es3 S=1:=by
 have h1:=b2o (es:=es3) hs h0
 rw[h]at h1
 unfold tn;omega
theorem d5V {lo:Int}:a8t es3 wl1 lo 3 [0,0,1,1] (0,1)=(a1E 15).filter (d5U lo):=by
 have hu:unP [0,0,1,1] (0,1)=15:=by decide
 unfold a8t
 rw[hu,if_neg (by rw[a6q (by decide) (by decide),tn3 (by decide) (by decide) tr3.1];decide)]
 refine List.filter_congr fun a ha=> ?_
 have h1:=(b0G (S:=15) (by decide) (by decide) ha).1
 unfold c5w d5U
 rw[hu,a9m gv3 (Nat.lt_of_le_of_lt (sub_le h1) (by decide)),a9m gv3 (sdf_lt (by decide))]
theorem par3a:a8t es3 wl1 1 3 [0,0,1,1] (0,1)=[7,1]/\a8t es3 wl1 2 3 [0,0,1,1] (0,1)=[]:=by
 rw[d5V,d5V]
 decide+kernel
theorem idx3:b0N es3 wl1 1 3 2 [0,0,1,1]=[((0,1),7),((0,1),1)]/\b0N es3 wl1 2 3 2 [0,0,1,1]=[]:=by
 have hd:a0w 2=[(0,1)]:=by decide
 unfold b0N
 rw[hd]
 simp only[List.flatMap_cons,List.flatMap_nil,List.append_nil,par3a.1,par3a.2,List.map_cons,List.map_nil,and_self]
theorem d5W {a:Nat} (ha:a∈a1E 15) (h1:tn es3 a=1) (h2:tn es3 (sdf 15 a)=1):b6g es3 4 1 [0,0,1,1] (0,1) a=1/3:=by
 have hu:unP [0,0,1,1] (0,1)=15:=by decide
 rw[b6j (k:=2) (sit3.pr (pr:=(0,1)) (by decide)) (by decide) (by rw[hu];exact ha),hu,h1,h2,tn3 (by decide) (by decide) tr3.1]
 decide+kernel
theorem val3a:b6g es3 4 1 [0,0,1,1] (0,1) 7=1/3/\b6g es3 4 1 [0,0,1,1] (0,1) 1=1/3:=by
 have hm:7∈a1E 15/\1∈a1E 15:=by decide+kernel
 refine⟨d5W hm.1 (tn3 (by decide) (by decide) tr3.2.1) ?_,d5W hm.2 (tn3 (by decide) (by decide) tr3.2.2.2.1) ?_⟩
 ·exact tn3 (S:=sdf 15 7) (by decide) (by decide) (by have:=tr3.2.2.1;exact this)
 ·exact tn3 (S:=sdf 15 1) (by decide) (by decide) (by have:=tr3.2.2.2.2;exact this)
theorem odds3:a1G es3 wl1 1 3 4 2 [0,0,1,1]=[(a0v [0,0,0,1],1/3),(a0v [0,1,1,1],1/3)]/\a1G es3 wl1 2 3 4 2 [0,0,1,1]=[]:=by
 rw[sit3.odds,sit3.odds,idx3.1,idx3.2]
 have hl:(a0w 2).length=1:=by decide
 have e1:a2s [0,0,1,1] (0,1) 7=[0,0,0,1]:=by decide
 have e2:a2s [0,0,1,1] (0,1) 1=[0,1,1,1]:=by decide
 simp only[List.map_cons,List.map_nil,c6Q,hl,val3a.1,val3a.2,e1,e2,and_self]
theorem tot3:a6l es3 wl1 1 3 4 2 [0,0,1,1]=2/3/\a6l es3 wl1 2 3 4 2 [0,0,1,1]=0:=by
 unfold a6l
 rw[odds3.1,odds3.2]
 simp only[List.map_cons,List.map_nil,sQ]
 decide+kernel
theorem d5C:a3v es3 wl1 1 3 4 2 [0,0,1,1]=[(a0v [0,0,0,1],1/3),(a0v [0,1,1,1],1/3),(a0v [0,0,1,1],1/3)]:=by
 rw[sit3.all,odds3.1,tot3.1,if_pos (by decide+kernel),show(1:Rat)-2/3=1/3 by decide+kernel];rfl
theorem go3:goQ es3 wl1 1 3 4 2 [0,0,1,1] [1,1,1,0]=1/3/\goQ es3 wl1 2 3 4 2 [0,0,1,1] [0,0,1,1]=1:=by
 have hc:a0m [0,0,1,1]=[0,0,1,1]:=by decide
 have hc2:a0m [1,1,1,0]=[0,0,0,1]:=by decide
 unfold goQ
 rw[hc,hc2]
 refine⟨a6k a8f (by rw[d5C];simp),?_⟩
 rw[sit3.stayv,tot3.2];decide+kernel
theorem rb3:Rb 256 (1/3)/\Rb 256 1:=by
 unfold Rb;decide+kernel
theorem d6p {ps:List (List Int)} (hp:ps.Perm ((a3v es3 wl1 1 3 4 2 [0,0,1,1]).map fun x=>x.1.take 4)) (ho:ps.Pairwise (fun a b=>¬a2L b a<0)):ps=[[0,0,0,1],[0,0,1,1],[0,1,1,1]]:=by
 rw[d5C]at hp
 have hp2:ps.Perm [[0,0,0,1],[0,0,1,1],[0,1,1,1]]:=hp.trans (by decide+kernel)
 refine List.Perm.eq_of_pairwise (le:=fun a b=>¬a2L b a<0) (fun a b ha hb h1 h2=> ?_) ho (by decide) hp2
 have ha':=hp2.mem_iff.1 ha
 have hb':=hb
 revert h1 h2
 simp only[List.mem_cons,List.not_mem_nil,or_false]at ha' hb'
 rcases ha' with rfl|rfl|rfl<;>rcases hb' with rfl|rfl|rfl<;>decide
theorem d5D {q:List Int} (hq:q∈[[0,0,0,1],[0,0,1,1],[0,1,1,1]]):vO (a3v es3 wl1 1 3 4 2 [0,0,1,1]) (a0v q)=1/3:=by
 refine a6k a8f ?_
 rw[d5C]
 simp only[List.mem_cons,List.not_mem_nil,or_false]at hq
 rcases hq with rfl|rfl|rfl<;>simp
end Go.Proofs.YtmannekkmdockaaGreatDoor
/- Chapter 32: drafts: the bounds fit the plan. -/
namespace Go.GS
def dsm (p wl:List Int):Nat->Nat->Int
 |0,_=>0
 |i+1,d=>dsm p wl i d+if p.getD i 0=(d:Int)then wl.getD i 0 else 0
theorem a8j {p wl:List Int} (h:∀z∈wl,0<=z/\z<=9):∀i d,0<=dsm p wl i d/\dsm p wl i d<=9*i
 |0,_=>⟨Int.le_refl _,Int.le_refl _⟩
 |i+1,d=>by
  have ih:=a8j (p:=p) h i d
  have hz:0<=wl.getD i 0/\wl.getD i 0<=9:=by
   rw[List.getD_eq_getElem?_getD]
   cases e:wl[i]? with
   |none=>exact⟨by simp,by simp⟩
   |some z=>exact h z (List.mem_of_getElem? e)
  simp only[dsm]
  split<;>omega
end Go.GS
namespace Go.Proofs.YtmannekkmdockaaGreatDoor
open Go.Proofs.Tryz
open Go.RowKit Go.RX Go.GS
section
variable {H:PH} {u wts:Value} {p wl:List Int} {lo hi:Int} {k:Nat}
theorem d1b {a b z:Int} (h1:z<=a) (h2:z<=b):z<=(if b<a then b else a):=by split<;>omega
theorem d1c {a b z:Int} (h1:a<=z) (h2:b<=z):(if b>a then b else a)<=z:=by split<;>omega
theorem d1d {l:List Int} {z:Int} (h:l[0]? =some z) {d':Nat} {y:Int} (hd':d'<1) (hy:l[d']? =some y):z<=y/\y<=z:=by
 obtain rfl:d'=0:=by omega
 rw[h]at hy;cases hy;exact⟨Int.le_refl _,Int.le_refl _⟩
theorem d1e {l:List Int} {a b z:Int} {d:Nat} (h:∀(d':Nat) (y:Int),d'<d->l[d']? =some y->a<=y/\y<=b) (hd:l[d]? =some z) {d':Nat} {y:Int} (hd':d'<d+1) (hy:l[d']? =some y):(if z<a then z else a)<=y/\y<=(if z>b then z else b):=by
 by_cases e:d'=d
 ·subst e;rw[hd]at hy;cases hy;refine⟨?_,?_⟩<;>split<;>omega
 ·have:=h d' y (by omega) hy;refine⟨?_,?_⟩<;>split<;>omega
theorem c5E {p wl l:List Int} (hz9:∀z∈wl,0<=z/\z<=9) {i d:Nat} {x:Int} (hx:p[i]? =some ((d:Nat):Int)) (hw:wl[i]? =some x) (hi:i<64) (hds:∀d,d<8->l[d]? =some (dsm p wl i d)) (hl:l.length=8) (hd8:d<8) {d':Nat} (hd':d'<8):(l.set d (IntKind.i64.wrap (l[d]'(by omega)+x)))[d']? =some (dsm p wl (i+1) d'):=by
 have e1:l[d]'(by omega)=dsm p wl i d:=by
  have:=hds d hd8
  rw[List.getElem?_eq_getElem (by omega)]at this
  exact Option.some.inj this
 have hb:=a8j (p:=p) hz9 i d
 have hx9:=hz9 x (List.mem_of_getElem? hw)
 have ep:p.getD i 0=(d:Int):=by rw[List.getD_eq_getElem?_getD,hx];rfl
 have ew:wl.getD i 0=x:=by rw[List.getD_eq_getElem?_getD,hw];rfl
 rw[List.getElem?_set,e1,IntKind.wrap_i64]
 simp only[dsm]
 rw[ep,ew]
 by_cases e:d=d'
 ·subst e
  rw[if_pos rfl,if_pos (by omega),if_pos rfl]
  congr 1;omega
 ·rw[if_neg e,if_neg (by omega),hds d' hd',Int.add_zero]
theorem b3W (hz9:∀z∈wl,0<=z/\z<=9) (hp64:p.length<=64) (hk1:1<=k) (hu:SI H u p) (hwt:SI H wts wl) (hlen:p.length<=wl.length) (hp:∀x∈p,0<=x/\x<8) (hk:k<=8):Con prog 44 [bv wts lo hi (k:Nat),u] H fun r H'=>H'=H/\∃a b,r= .tuple #[ii a,ii b]/\0<=a/\a<=b/\b<=576/\∀d,d<k->a<=dsm p wl p.length d/\dsm p wl p.length d<=b:=by
 refine a0b mixed c0f (by kernel_rfl) rfl ?_
 have hpl:=hu.len
 refine a0a (a2y (a0A hwt) _ _ _) ?_
 refine a0E (α:=Nat×List Int) (fun⟨i,l⟩=>[ii (i:Nat),arI l]) (fun⟨i,l⟩=>i<=p.length/\l.length=8/\∀d,d<8->l[d]? =some (dsm p wl i d)) (fun⟨i,l⟩=>p.length-i) ((0,List.replicate 8 0)) (a1l rfl z_8) (⟨Nat.zero_le _,rfl,fun d hd=>by rw[List.getElem?_replicate,if_pos hd];rfl⟩) fun⟨i,l⟩ hQ=> ?_
 simp only[cA,nA]
 obtain⟨hi',hl,hds⟩:=hQ
 refine a0g el_plan rfl rfl hu rfl ?_
 refine a0a ⟨_,rfl⟩ ?_
 refine a0a ⟨_,rfl⟩ ?_
 refine a0e (b:=decide (((i:Nat):Int)<(p.length:Nat))) rfl (fun h=> ?_) (fun h=> ?_)
 ·replace h:=of_decide_eq_true h
  have hi2:i<p.length:=by omega
  obtain⟨x,hx,_⟩:=a0u hi2
  obtain⟨hx0,hx8⟩:=hp x (List.mem_of_getElem? hx)
  obtain⟨d,rfl⟩:∃d:Nat,x=(d:Int):=⟨x.toNat,by omega⟩
  have hd:l[d]? =some l[d]:=List.getElem?_eq_getElem (by omega)
  refine a0i el_plan rfl rfl rfl rfl (fun _=>rfl) hu hx rfl (fun _=>rfl) fun _=> ?_
  simp only[cA,nA]
  refine a0i el_plan rfl rfl rfl rfl (fun _=>rfl) hu hx rfl (fun _=>rfl) fun _=> ?_
  simp only[cA,nA]
  refine a0a ⟨_,_,rfl⟩ ?_
  refine a0a ⟨hx0,hx8⟩ ?_
  refine a0i el_int rfl rfl rfl rfl (fun _=>rfl) hwt (List.getElem?_eq_getElem (show i<wl.length by omega)) rfl (fun _=>rfl) fun _=> ?_
  simp only[cA,nA]
  refine a0a ⟨_,c4O rfl rfl hd⟩ ?_
  refine a0a ⟨_,rfl⟩ ?_
  refine a0a ⟨_,_,rfl⟩ ?_
  refine a0a ⟨hx0,hx8⟩ ?_
  exact⟨(i+1,l.set d (IntKind.i64.wrap (l[d]+wl[i]))),by show p.length-(i+1)<p.length-i;omega,(a1l (a0r rfl (by omega)) (c4P rfl (d3u (c4O rfl rfl hd) rfl) rfl)),⟨⟨hi2,by rw[List.length_set];exact hl,fun d' hd'=>c5E hz9 hx (List.getElem?_eq_getElem (show i<wl.length by omega)) (by omega) hds hl (by omega) hd'⟩,rfl⟩⟩
 ·replace h:=of_decide_eq_false h
  have h0:l[0]? =some l[0]:=List.getElem?_eq_getElem (by omega)
  have hb0:∀(d:Nat) (y:Int),l[d]? =some y->0<=y/\y<=576:=fun d y hy=>by
   have hd8:d<8:=by have:=(List.getElem?_eq_some_iff.1 hy).1;omega
   rw[hds d hd8]at hy;cases hy
   have:=a8j (p:=p) hz9 i d;omega
  refine a0E (α:=Nat×Int×Int) (fun⟨d,a,b⟩=>[ii a,ii b,ii (d:Nat)]) (fun⟨d,a,b⟩=>1<=d/\d<=8/\0<=a/\b<=576/\∀d' y,d'<d->l[d']? =some y->a<=y/\y<=b) (fun⟨d,a,b⟩=>8-d) ((1,l[0],l[0])) (a8k (c6G rfl h0) (c6G rfl h0) rfl) (⟨Nat.le_refl _,by decide,(hb0 0 _ h0).1,(hb0 0 _ h0).2,fun d' y hd' hy=>d1d h0 hd' hy⟩) fun⟨d,a,b⟩ hQ=> ?_
  simp only[cA,nA]
  obtain⟨hd1,hd8,ha0,hb5,hab⟩:=hQ
  refine a0a ⟨_,rfl⟩ ?_
  refine a0a ⟨_,rfl⟩ ?_
  refine a0e (b:=decide (((d:Nat):Int)<(k:Nat))) rfl (fun h2=> ?_) (fun h2=> ?_)
  ·replace h2:=of_decide_eq_true h2
   have hd:l[d]? =some l[d]:=List.getElem?_eq_getElem (by omega)
   refine a0a ⟨_,_,rfl⟩ ?_
   refine a0a ⟨by show(0:Int)<=((d:Nat):Int);omega,by show((d:Nat):Int)<8;omega⟩ ?_
   refine a0h ((b5c (vs:=[ii a,ii l[d]]) rfl rfl rfl).rds _) (a1l rfl (c4O rfl rfl hd)) ?_
   simp only[cA,nA]
   refine a0h ((b0l (vs:=[ii b,ii l[d]]) rfl rfl rfl).rds _) (a1l rfl (c4O rfl rfl hd)) ?_
   simp only[cA,nA]
   exact⟨(d+1,(if l[d]<a then l[d]else a),(if l[d]>b then l[d]else b)),by show 8-(d+1)<8-d;omega,(a8k rfl rfl (a0r rfl (by omega))),⟨⟨by show 1<=d+1;omega,by show d+1<=8;omega,(d1b ha0 (hb0 d _ hd).1),(d1c hb5 (hb0 d _ hd).2),fun d' y hd' hy=>d1e hab hd hd' hy⟩,rfl⟩⟩
  ·replace h2:=of_decide_eq_false h2
   have hie:i=p.length:=by omega
   subst hie
   exact a0c rfl ⟨rfl,a,b,rfl,ha0,Int.le_trans (hab 0 _ (by omega) h0).1 (hab 0 _ (by omega) h0).2,hb5,fun d' hd'=>hab d' _ (by omega) (hds d' (by omega))⟩
end
theorem a3d {z:Int} (h0: -100000<=z) (h1:z<=100000):IntKind.i64.wrap z=z:=by
 rw[IntKind.wrap_i64];omega
theorem d1f {ρ:List Value} {x:SV} {a:Nat} (hx:D prog ρ x= .int .u8 (a:Nat)):D prog ρ (.cv .i64 (.op2 .rem .u8 x (.k (.int .u8 10))))=ii ((a%10:Nat):Int):=by
 show Value.int .i64 (IntKind.i64.wrap (Int.tmod (intOf (D prog ρ x)) 10))=_
 rw[hx]
 show Value.int .i64 (IntKind.i64.wrap (Int.tmod ((a:Nat):Int) ((10:Nat):Int)))=_
 have:=Nat.mod_lt a (show 0<10 by decide)
 rw[<-Int.ofNat_tmod,a3d (by omega) (by omega)]
 rfl
theorem d5E {a b:Int} {s0 s1:Nat} (h0:0<=a) (h1:a<=b) (h2:b<=576):0<=(if IntKind.i64.wrap (a-IntKind.i64.wrap (Int.tmod ((s0:Nat):Int) 6))>0 then IntKind.i64.wrap (a-IntKind.i64.wrap (Int.tmod ((s0:Nat):Int) 6))else 0)/\(if IntKind.i64.wrap (a-IntKind.i64.wrap (Int.tmod ((s0:Nat):Int) 6))>0 then IntKind.i64.wrap (a-IntKind.i64.wrap (Int.tmod ((s0:Nat):Int) 6))else 0)<=a/\b<=IntKind.i64.wrap (b+IntKind.i64.wrap (Int.tmod ((s1:Nat):Int) 6))/\IntKind.i64.wrap (b+IntKind.i64.wrap (Int.tmod ((s1:Nat):Int) 6))<=1000:=by
 have e0:Int.tmod ((s0:Nat):Int) 6=((s0%6:Nat):Int):=(Int.ofNat_tmod s0 6).symm
 have e1:Int.tmod ((s1:Nat):Int) 6=((s1%6:Nat):Int):=(Int.ofNat_tmod s1 6).symm
 have l0:=Nat.mod_lt s0 (show 0<6 by decide)
 have l1:=Nat.mod_lt s1 (show 0<6 by decide)
 rw[e0,e1]
 generalize s0%6=x at*
 generalize s1%6=y at*
 have w0:IntKind.i64.wrap ((x:Nat):Int)=(x:Nat):=a3d (by omega) (by omega)
 have w1:IntKind.i64.wrap ((y:Nat):Int)=(y:Nat):=a3d (by omega) (by omega)
 have w2:IntKind.i64.wrap (a-(x:Nat))=a-(x:Nat):=a3d (by omega) (by omega)
 have w3:IntKind.i64.wrap (b+(y:Nat))=b+(y:Nat):=a3d (by omega) (by omega)
 rw[w0,w1,w2,w3]
 split<;>omega
end Go.Proofs.YtmannekkmdockaaGreatDoor

/- Chapter 30: determinants of matrices of long integers. -/
import Derived.Test.YtmannekkmdockaaGreatDoorProg
import Derived.Test.YtmannekkmdockaaGreatDoorRxW
import Derived.Test.YtmannekkmdockaaGreatDoorGtT
import Derived.Test.YtmannekkmdockaaGreatDoorLgC
import Derived.Test.YtmannekkmdockaaGreatDoorGrT
import Derived.Test.YtmannekkmdockaaGreatDoorGdA
import Derived.Test.YtmannekkmdockaaGreatDoorGsT
import Derived.Test.YtmannekkmdockaaGreatDoorGsW
import Derived.Test.YtmannekkmdockaaGreatDoorGyB
namespace Go.RX
open Go.RowKit
theorem a6i {P:Program} {G:Value->PH->Prop} {nx:List (List Value->PH->Prop)} {ρ:List Value} {X H:PH} {pf:Bool} {f:FuncId} {args:List SV} {t:Tree} {vs:List Value} {W:Value->PH->Prop} (hc:Con P f vs X fun u X'=>PH.le X X'/\W u X') (hX:PH.le X H) (ha:args.map (D P ρ)=vs)
  (n:∀u X' H',PH.le X X'->W u X'->PH.le X' H'->PH.le H H'->(∀k,H k≠none->X k=none->X' k=none)->den P G t nx (ρ++[u]) H'):den P G (.call pf f args t) nx ρ H:=by
 refine a0d (hc.frame hX) ha ?_
 rintro u H' ⟨X',⟨h1,h2⟩,h3,h4⟩
 have hle:PH.le H H':=fun k ob hk=>by
  cases e:X k with
  |none=>exact(h4 k ob hk e).2
  |some o2=>
   have:=hX _ _ e
   rw[this]at hk
   rw[<-hk]
   exact h3 _ _ (h1 _ _ e)
 exact⟨fun _=>hle,n u X' H' h1 h2 h3 hle fun k hk e=>by
  obtain⟨ob,hk⟩:=Option.ne_none_iff_exists'.1 hk
  exact(h4 k ob hk e).1⟩
end Go.RX
namespace Go.Proofs.YtmannekkmdockaaGreatDoor
open Go.Proofs.Tryz
open Go.RowKit Go.RX Go.GS Go.WD
set_option maxRecDepth 100000
abbrev LV:=Bool×Slc
def lc (x:LV):List Value:=[.bool x.1,vs x.2]
def lv (x:LV):Value:= .agg #[.bool x.1,vs x.2]
theorem el_long:El prog 202 116 2 true lc lv where
 und:=by kernel_rfl
 has:=by kernel_rfl
 cel:=by kernel_rfl
 agg:=by kernel_rfl
 pos:=by decide
 one1:=fun h=>(nomatch h)
 small:=by decide
 inf:=⟨(prog.info? 116).getD default,lv (false,(none,0,0)),by kernel_rfl,by kernel_rfl,by kernel_rfl,rfl,of_decide_eq_true (by kernel_rfl)⟩
 len:=fun _=>rfl
 val:=fun _=>rfl
 cells:=fun _=>rfl
 one:=fun x c hc=>by simp[lc]at hc;rcases hc with rfl|rfl<;>rfl
theorem a1F:El prog 201 202 1 false (fun s:Slc=>[vs s]) vs where
 und:=by kernel_rfl
 has:=by kernel_rfl
 cel:=by kernel_rfl
 agg:=by kernel_rfl
 pos:=by decide
 one1:=fun _=>rfl
 small:=by decide
 inf:=⟨(prog.info? 202).getD default,vs (none,0,0),by kernel_rfl,by kernel_rfl,by kernel_rfl,rfl,of_decide_eq_true (by kernel_rfl)⟩
 len:=fun _=>rfl
 val:=fun _=>rfl
 cells:=fun _=>rfl
 one:=fun x c hc=>by simp at hc;subst hc;rfl
theorem b3F {H:PH} {v:Value} {z:Int} (h:Lw H v z):∃x,v=lv x:=by
 obtain⟨w,rfl,l,⟨⟨_,a,c,rfl,_⟩,_⟩,_⟩:=h
 exact⟨(_,(a,l.length,c)),rfl⟩
theorem d5t:a0L prog 116=lv (false,(none,0,0)):=by kernel_rfl
theorem c9T (H:PH):Lw H (lv (false,(none,0,0))) 0:=⟨.slice none 0 0,rfl,[],⟨⟨rfl,none,0,rfl,Nat.le_refl _,by simp[maxLen],.inl rfl⟩,fun d hd=>by cases hd⟩,fun i hi=>by simp at hi⊢,rfl⟩
def b0V (M:Nat->Nat->LV) (n i:Nat):List LV:=(List.range n).map (M i)
theorem a4D {M:Nat->Nat->LV} {n i j:Nat} (h:j<n):(b0V M n i)[j]? =some (M i j):=by unfold b0V;rw[List.getElem?_map,List.getElem?_range h];rfl
theorem b5F (M:Nat->Nat->LV) (n i:Nat):(b0V M n i).length=n:=by unfold b0V;simp
def putM (M:Nat->Nat->LV) (i j:Nat) (x:LV):Nat->Nat->LV:=fun a b=>if a=i/\b=j then x else M a b
theorem c4G (M:Nat->Nat->LV) (n i j:Nat) (x:LV):b0V (putM M i j x) n i=(b0V M n i).set j x:=by
 apply List.ext_getElem?
 intro b
 unfold b0V putM
 rw[List.getElem?_set,List.getElem?_map,List.getElem?_map]
 by_cases hb:b<n
 ·rw[List.getElem?_range hb]
  by_cases e:b=j
  ·subst e;simp[hb]
  ·have e':¬j=b:=fun h=>e h.symm
   simp[e,e']
 ·rw[List.getElem?_eq_none (by simp;omega)]
  by_cases e:j=b
  ·subst e;simp[hb]
  ·simp[e]
theorem c4H {M:Nat->Nat->LV} {n i a j:Nat} {x:LV} (h:a≠i):b0V (putM M i j x) n a=b0V M n a:=by
 unfold b0V putM
 exact List.map_congr_left fun b _=>if_neg fun hh=>h hh.1
def rsl (n g:Nat):Slc:=(some ⟨g,0,none⟩,n,n)
structure MX (X H:PH) (gs:List Nat) (n:Nat) (M:Nat->Nat->LV):Prop where
 nd:gs.Nodup
 n64:n<=64
 row:∀(i g:Nat),gs[i]? =some g->X g=none/\SO (a1y H g) H 116 2 lc (vs (rsl n g)) (b0V M n i)
theorem a5g (H:PH) (g:Nat):a1y H g g=none:=if_pos rfl
theorem a5L {α:Type} {e:TypeId} {sz:Nat} {ce:α->List Value} {H H':PH} {g n:Nat} {l:List α} (h:SO (a1y H g) H e sz ce (vs (rsl n g)) l) (hk:∀ob,H g=some ob->H' g=some ob):SO (a1y H' g) H' e sz ce (vs (rsl n g)) l:=by
 obtain⟨h1,⟨h2,h3⟩|⟨g',cap,cur,h2,h3,h4,h5⟩⟩:=h
 ·cases h2
 ·simp only[vs,rsl,Value.slice.injEq,Option.some.injEq,Addr.mk.injEq]at h2
  obtain⟨⟨rfl,-,-⟩,h6,h7⟩:=h2
  exact⟨h1,.inr ⟨g,cap,cur,by simp only[vs,rsl];rw[<-h6,<-h7],a5g _ _,hk _ h4,h5⟩⟩
section
variable {X H X' H':PH} {gs:List Nat} {n i j g:Nat} {M:Nat->Nat->LV} {x:LV} {v:Value} {z:Int}
theorem MX.se (h:MX X H gs n M) (hg:gs[i]? =some g):SE H 2 lc (vs (rsl n g)) (b0V M n i):=(h.row i g hg).2.se
theorem MX.bound (h:MX X H gs n M) (hg:gs[i]? =some g):∃ob,H g=some ob:=by
 obtain⟨h1,⟨h2,h3⟩|⟨g',cap,cur,h2,h3,h4,h5⟩⟩:=(h.row i g hg).2
 ·cases h2
 ·simp only[vs,rsl,Value.slice.injEq,Option.some.injEq,Addr.mk.injEq]at h2
  obtain⟨⟨rfl,-,-⟩,h6,h7⟩:=h2
  exact⟨_,h4⟩
theorem MX.mono (h:MX X H gs n M) (hl:PH.le H H') (hk:∀k,H k≠none->X k=none->X' k=none):MX X' H' gs n M:=
 ⟨h.nd,h.n64,fun i g hg=>by
  obtain⟨ob,hb⟩:=h.bound hg
  exact⟨hk g (by rw[hb];simp) (h.row i g hg).1,a5L (h.row i g hg).2 fun o ho=>hl _ _ ho⟩⟩
theorem MX.put (h:MX X H gs n M) (hg:gs[i]? =some g) (hl:PH.le (a1y H g) H') (ho:SO (a1y H g) H' 116 2 lc (vs (rsl n g)) ((b0V M n i).set j x)):MX X H' gs n (putM M i j x):=
 ⟨h.nd,h.n64,fun a b hb=>by
  by_cases e:a=i
  ·subst e
   obtain rfl:g=b:=Option.some.inj (hg.symm.trans hb)
   refine⟨(h.row a g hg).1,?_⟩
   rw[c4G]
   have hc:a1y (a1y H g) g=a1y H g:=by
    funext k;unfold a1y;split<;>simp_all
   have:SO (a1y H' g) H' 116 2 lc (vs (rsl n g)) ((b0V M n a).set j x):=by
    obtain⟨h1,⟨h2,h3⟩|⟨g',cap,cur,h2,h3,h4,h5⟩⟩:=ho
    ·cases h2
    ·simp only[vs,rsl,Value.slice.injEq,Option.some.injEq,Addr.mk.injEq]at h2
     obtain⟨⟨rfl,-,-⟩,h6,h7⟩:=h2
     exact⟨h1,.inr ⟨g,cap,cur,by simp only[vs,rsl];rw[<-h6,<-h7],a5g _ _,h4,h5⟩⟩
   exact this
  ·have hne:b≠g:=fun hh=>by
    subst hh
    have l1:=(List.getElem?_eq_some_iff.1 hg).1
    exact e ((List.getElem?_inj l1 h.nd).1 (hg.trans hb.symm)).symm
   obtain⟨h1,h2⟩:=h.row a b hb
   rw[c4H e]
   exact⟨h1,a5L h2 fun ob hob=>hl _ _ (by unfold a1y;rw[if_neg hne];exact hob)⟩⟩
theorem MX.cut (h:MX X H gs n M) (hg:gs[i]? =some g) (hX:PH.le X H):PH.le X (a1y H g):=fun k ob hk=>by
 unfold a1y
 rw[if_neg (fun e=>by subst e;rw[(h.row i k hg).1]at hk;cases hk)]
 exact hX _ _ hk
end
def Vl (X:PH) (n k:Nat) (M:Nat->Nat->LV) (Z:Nat->Nat->Int):Prop:=∀i j,k<=i->k<=j->i<n->j<n->Lw X (lv (M i j)) (Z i j)
theorem Vl.mono {X X':PH} {n k:Nat} {M:Nat->Nat->LV} {Z:Nat->Nat->Int} (h:Vl X n k M Z) (hl:PH.le X X'):Vl X' n k M Z:=fun i j a b c d=>(h i j a b c d).mono hl
theorem Vl.put {X:PH} {n k i j:Nat} {M:Nat->Nat->LV} {Z Z':Nat->Nat->Int} {x:LV} (h:Vl X n k M Z) (hx:Lw X (lv x) (Z' i j)) (hz:∀a b,k<=a->k<=b->a<n->b<n->¬(a=i/\b=j)->Z' a b=Z a b):Vl X n k (putM M i j x) Z':=fun a b h1 h2 h3 h4=>by
 unfold putM
 by_cases e:a=i/\b=j
 ·rw[if_pos e,e.1,e.2];exact hx
 ·rw[if_neg e,hz a b h1 h2 h3 h4 e];exact h a b h1 h2 h3 h4
def Zk (F:Nat->Nat->Int) (k r c i j:Nat):Int:=if k<i/\(i<r\/i=r/\j<c)then(gk F k i j*gk F k k k-gk F k i k*gk F k k j)/pk F k else gk F k i j
def SmZ (z:Int):Prop:=z.natAbs<BP 100
theorem SmZ.lm {z:Int} (h:SmZ z):Lm z:=Nat.lt_of_lt_of_le h (a1L (by decide))
theorem SmZ.mul {y z:Int} (hy:SmZ y) (hz:SmZ z):(y*z).natAbs<BP 200:=by
 rw[Int.natAbs_mul,show 200=100+100 from rfl,d1Y]
 exact Nat.mul_lt_mul'' hy hz
theorem d3q {z:Int} (h:z.natAbs<BP 200):Lm z:=Nat.lt_of_lt_of_le h (a1L (by decide))
theorem d3r {y z:Int} (hy:y.natAbs<BP 200) (hz:z.natAbs<BP 200):Lm (y-z):=by
 have h:BP 201<=BP 10000:=a1L (by decide)
 rw[BP_succ]at h
 unfold Lm
 omega
theorem a3p {gs:List Nat} {n i g:Nat} (h:gs[i]? =some g):(gs.map (rsl n))[i]? =some (rsl n g):=by rw[List.getElem?_map,h];rfl
theorem c9U {gs:List Nat} {i n:Nat} (hn:gs.length=n) (h:i<n):∃g,gs[i]? =some g:=⟨_,List.getElem?_eq_getElem (by omega)⟩
structure Mt (X0 X H:PH) (gs:List Nat) (n k:Nat) (M:Nat->Nat->LV) (Z:Nat->Nat->Int):Prop where
 x0:PH.le X0 X
 xh:PH.le X H
 mx:MX X H gs n M
 vl:Vl X n k M Z
theorem Mt.grow {X0 X H X' H':PH} {gs:List Nat} {n k:Nat} {M:Nat->Nat->LV} {Z:Nat->Nat->Int} (h:Mt X0 X H gs n k M Z) (a:PH.le X X') (b:PH.le X' H') (c:PH.le H H') (d:∀k,H k≠none->X k=none->X' k=none):Mt X0 X' H' gs n k M Z:=⟨h.x0.trans a,b,h.mx.mono c d,h.vl.mono a⟩
theorem d5u {F:Nat->Nat->Int} (hb:∀k i j,k<=64->SmZ (gk F k i j)) {k:Nat} (hk:k<=64):SmZ (pk F k):=by
 cases k with
 |zero=>
  rw[c0M]
  show(1:Nat)<BP 100
  have:BP 0<BP 100:=BP_lt_iff.2 (by decide)
  rw[BP_zero]at this;exact this
 |succ k=>rw[<-b5z];exact hb k k k (by omega)
theorem a8Z {F:Nat->Nat->Int} {k r c i j:Nat} (h:¬(k<i/\(i<r\/i=r/\j<c))):Zk F k r c i j=gk F k i j:=if_neg h
theorem d3s {F:Nat->Nat->Int} {k r c i j:Nat} (h:¬(i=r/\j=c)):Zk F k r (c+1) i j=Zk F k r c i j:=by
 unfold Zk;split<;>split<;>(first|rfl|omega)
theorem d3t {F:Nat->Nat->Int} {k r c i j:Nat} (h:k<=j) (hj:j<c):Zk F k (r+1) k i j=Zk F k r c i j:=by
 unfold Zk;split<;>split<;>(first|rfl|omega)
theorem sgI_zero {z:Int}:(sgI z 0==0)=true↔z=0:=by
 unfold sgI
 rw[beq_iff_eq]
 split<;>(try split)<;>simp<;>omega
theorem c4I {H X:PH} {v:Value} {gs:List Nat} {n:Nat} {M:Nat->Nat->LV} {F:Nat->Nat->Int} (hX:PH.le X H) (hv:SE X 1 (fun s:Slc=>[vs s]) v (gs.map (rsl n))) (hM:MX X H gs n M) (hn:gs.length=n) (hF:Vl X n 0 M F) (hb:∀k i j,k<=64->SmZ (gk F k i j)) (hc:∀k,k<=n->pk F k=0->pk F n=0):
  Con prog 125 [v] H fun u H'=>∃X',PH.le X X'/\PH.le X' H'/\Lw X' u (pk F n):=by
 refine a0b mixed c9k (by kernel_rfl) rfl ?_
 have h64:=hM.n64
 refine a6i (a3a 1 (by omega) (by omega)) hX rfl fun v1 X1 H1 a1 w1 b1 c1 d1=> ?_
 simp only[cA,nA]
 replace hM:=hM.mono c1 d1
 obtain⟨x1,rfl⟩:=b3F w1
 refine a0a w1.rq ?_
 refine a0g a1F rfl rfl (hv.mono (a1.trans b1)) rfl ?_
 simp only[cA,nA]
 rw[List.length_map,hn]
 refine a0k (α:=Nat×Value×LV) (fun⟨k,y,l⟩=>[ii (k:Nat),y,lv l]) (fun⟨k,y,l⟩=>fun H'=>k<=n/\∃X' M',Mt X X' H' gs n k M' (gk F k)/\Lw X' (lv l) (pk F k)/\pk F k≠0) (fun⟨k,y,l⟩=>n+1-k) ((0,a0L prog 116,x1)) rfl (⟨Nat.zero_le _,X1,M,⟨a1,b1,hM,fun i j h1 h2 h3 h4=>by rw[c9J];exact(hF i j h1 h2 h3 h4).mono a1⟩,w1,by rw[c0M];omega⟩) fun⟨k,y,l⟩ H2 ⟨hk,X2,M2,t2,hl2,hp2⟩=> ?_
 simp only[cA,nA]
 refine a0a ⟨_,rfl⟩ ?_
 refine a0a ⟨_,rfl⟩ ?_
 refine a0e (b:=decide (((k:Nat):Int)<(n:Nat))) rfl (fun h=> ?_) (fun h=> ?_)
 ·replace h:=of_decide_eq_true h
  have hkn:k<n:=by omega
  obtain⟨g,hg⟩:=c9U hn hkn
  refine a0i a1F rfl rfl rfl rfl (fun _=>rfl) (hv.mono (t2.x0.trans t2.xh)) (a3p hg) rfl (fun _=>rfl) fun _=> ?_
  simp only[cA,nA]
  refine a0i el_long rfl rfl rfl rfl (fun _=>rfl) (t2.mx.se hg) (a4D hkn) rfl (fun _=>rfl) fun _=> ?_
  simp only[cA,nA]
  refine a0d (a7P ((t2.vl k k (Nat.le_refl _) (Nat.le_refl _) hkn hkn).mono t2.xh)) rfl ?_
  rintro _ _ ⟨rfl,rfl⟩
  refine⟨fun h=>(nomatch h),?_⟩
  simp only[cA,nA]
  refine a0a ⟨_,rfl⟩ ?_
  refine a0e (b:=(sgI (gk F k k k) 0==0)) rfl (fun h2=> ?_) (fun h2=> ?_)
  ·skip
   refine a6i (a3a 0 (by omega) (by omega)) t2.xh rfl fun v11 X3 H3 a3 w3 b3 c3 d3=> ?_
   simp only[cA,nA]
   obtain⟨x3,rfl⟩:=b3F w3
   refine a0a w3.rq ?_
   exact a0c rfl ⟨X3,t2.x0.trans a3,b3,by rw[hc (k+1) hkn (by rw[<-b5z];exact sgI_zero.1 h2)];exact w3⟩
  ·skip
   have hpiv:gk F k k k≠0:=fun e=>by rw[sgI_zero.2 e]at h2;cases h2
   refine a0k (α:=Nat) (fun r=>[ii (r:Nat),y,lv l]) (fun r=>fun H'=>k<r/\r<=n/\∃X' M',Mt X X' H' gs n k M' (Zk F k r k)/\Lw X' (lv l) (pk F k)) (fun r=>n+1-r) (k+1) (a8k (a0r rfl (by omega)) rfl rfl) (⟨by omega,by omega,X2,M2,⟨t2.x0,t2.xh,t2.mx,fun i j h1 h2 h3 h4=>by rw[a8Z (by omega)];exact t2.vl i j h1 h2 h3 h4⟩,hl2⟩) fun r H3 ⟨hr1,hr2,X3,M3,t3,hl3⟩=> ?_
   simp only[cA,nA]
   refine a0g a1F rfl rfl (hv.mono (t3.x0.trans t3.xh)) rfl ?_
   simp only[cA,nA]
   rw[List.length_map,hn]
   refine a0a ⟨_,rfl⟩ ?_
   refine a0a ⟨_,rfl⟩ ?_
   refine a0e (b:=decide (((r:Nat):Int)<(n:Nat))) rfl (fun h3=> ?_) (fun h3=> ?_)
   ·replace h3:=of_decide_eq_true h3
    have hrn:r<n:=by omega
    obtain⟨g2,hg2⟩:=c9U hn hrn
    refine a0i a1F rfl rfl rfl rfl (fun _=>rfl) (hv.mono (t3.x0.trans t3.xh)) (a3p hg2) rfl (fun _=>rfl) fun _=> ?_
    simp only[cA,nA]
    refine a0i el_long rfl rfl rfl rfl (fun _=>rfl) (t3.mx.se hg2) (a4D hkn) rfl (fun _=>rfl) fun _=> ?_
    simp only[cA,nA]
    generalize hf:M3 r k=f
    have hf3:Lw X3 (lv f) (gk F k r k):=by rw[<-hf,<-a8Z (F:=F) (k:=k) (r:=r) (c:=k) (i:=r) (j:=k) (by omega)];exact t3.vl r k (by omega) (Nat.le_refl _) hrn hkn
    refine a0a (el_long.vcells f) ?_
    refine a0k (α:=Nat) (fun c=>[ii (c:Nat)]) (fun c=>fun H'=>k<=c/\c<=n/\∃X' M',Mt X X' H' gs n k M' (Zk F k r c)/\Lw X' (lv l) (pk F k)/\Lw X' (lv f) (gk F k r k)) (fun c=>n+1-c) (k) rfl (⟨Nat.le_refl _,by omega,X3,M3,t3,hl3,hf3⟩) fun c H4 ⟨hc1,hc2,X4,M4,t4,hl4,hf4⟩=> ?_
    simp only[cA,nA]
    refine a0g a1F rfl rfl (hv.mono (t4.x0.trans t4.xh)) rfl ?_
    simp only[cA,nA]
    rw[List.length_map,hn]
    refine a0a ⟨_,rfl⟩ ?_
    refine a0a ⟨_,rfl⟩ ?_
    refine a0e (b:=decide (((c:Nat):Int)<(n:Nat))) rfl (fun h4=> ?_) (fun h4=> ?_)
    ·replace h4:=of_decide_eq_true h4
     have hcn:c<n:=by omega
     refine a0i a1F rfl rfl rfl rfl (fun _=>rfl) (hv.mono (t4.x0.trans t4.xh)) (a3p hg2) rfl (fun _=>rfl) fun _=> ?_
     simp only[cA,nA]
     refine a0i el_long rfl rfl rfl rfl (fun _=>rfl) (t4.mx.se hg2) (a4D hcn) rfl (fun _=>rfl) fun _=> ?_
     simp only[cA,nA]
     refine a0i a1F rfl rfl rfl rfl (fun _=>rfl) (hv.mono (t4.x0.trans t4.xh)) (a3p hg) rfl (fun _=>rfl) fun _=> ?_
     simp only[cA,nA]
     refine a0i el_long rfl rfl rfl rfl (fun _=>rfl) (t4.mx.se hg) (a4D hkn) rfl (fun _=>rfl) fun _=> ?_
     simp only[cA,nA]
     refine a0i a1F rfl rfl rfl rfl (fun _=>rfl) (hv.mono (t4.x0.trans t4.xh)) (a3p hg) rfl (fun _=>rfl) fun _=> ?_
     simp only[cA,nA]
     refine a0i el_long rfl rfl rfl rfl (fun _=>rfl) (t4.mx.se hg) (a4D hcn) rfl (fun _=>rfl) fun _=> ?_
     simp only[cA,nA]
     have e1:Lw X4 (lv (M4 r c)) (gk F k r c):=by rw[<-a8Z (F:=F) (k:=k) (r:=r) (c:=c) (i:=r) (j:=c) (by omega)];exact t4.vl r c (by omega) hc1 hrn hcn
     have e2:Lw X4 (lv (M4 k k)) (gk F k k k):=by rw[<-a8Z (F:=F) (k:=k) (r:=r) (c:=c) (i:=k) (j:=k) (by omega)];exact t4.vl k k (by omega) (Nat.le_refl _) hkn hkn
     have e3:Lw X4 (lv (M4 k c)) (gk F k k c):=by rw[<-a8Z (F:=F) (k:=k) (r:=r) (c:=c) (i:=k) (j:=c) (by omega)];exact t4.vl k c (by omega) hc1 hkn hcn
     have s1:=hb k r c (by omega)
     have s2:=hb k k k (by omega)
     have s3:=hb k k c (by omega)
     have s4:=hb k r k (by omega)
     refine a6i (a1v e1 e2 s1.lm s2.lm) t4.xh rfl fun u1 X5 H5 a5 w5 b5 c5 d5=> ?_
     simp only[cA,nA]
     replace t4:=t4.grow a5 b5 c5 d5
     refine a6i (a1v (hf4.mono a5) (e3.mono a5) s4.lm s3.lm) t4.xh rfl fun u2 X6 H6 a6 w6 b6 c6 d6=> ?_
     simp only[cA,nA]
     replace t4:=t4.grow a6 b6 c6 d6
     refine a6i (b7d (w5.mono a6) w6 (d3q (s1.mul s2)) (d3q (s4.mul s3))) t4.xh rfl fun u3 X7 H7 a7 w7 b7 c7 d7=> ?_
     simp only[cA,nA]
     replace t4:=t4.grow a7 b7 c7 d7
     obtain⟨x7,rfl⟩:=b3F w7
     refine a0a w7.rq ?_
     refine a0i a1F rfl rfl rfl rfl (fun _=>rfl) (hv.mono (t4.x0.trans t4.xh)) (a3p hg2) rfl (fun _=>rfl) fun _=> ?_
     simp only[cA,nA]
     refine a6i ((a5K w7 (hl4.mono (a5.trans (a6.trans a7))) (d3r (s1.mul s2) (s4.mul s3)) (d5u hb (by omega)).lm hp2)) t4.xh rfl fun u4 X8 H8 a8 w8 b8 c8 d8=> ?_
     simp only[cA,nA]
     replace t4:=t4.grow a8 b8 c8 d8
     obtain⟨qa,qb,rfl,q1,q2⟩:=w8
     obtain⟨x8,rfl⟩:=b3F q1
     refine a0a ⟨_,rfl,by simp⟩ ?_
     refine a0a ⟨_,rfl,by simp⟩ ?_
     refine a0O el_long (a:=x8) rfl rfl rfl rfl (fun _=>rfl) (fun _=>rfl) (b1W H8 g2) (t4.mx.row r g2 hg2).2 (show c<(b0V M4 n r).length by rw[b5F];exact hcn) rfl (fun _=>rfl) rfl fun p9 u9 H9 l9 o9 _=> ?_
     simp only[cA,nA]
     exact⟨c+1,by omega,(a3k (a0r rfl (by omega))),⟨by omega,by omega,X8,putM M4 r c x8,⟨t4.x0,(t4.mx.cut hg2 t4.xh).trans l9,t4.mx.put hg2 l9 o9,t4.vl.put (by show Lw X8 (lv x8) (Zk F k r (c+1) r c);unfold Zk;rw[if_pos (by omega)];exact q1) (fun i j h1 h2 h3 h4 h5=>d3s h5)⟩,hl4.mono (a5.trans (a6.trans (a7.trans a8))),hf4.mono (a5.trans (a6.trans (a7.trans a8)))⟩⟩
    ·replace h4:=of_decide_eq_false h4
     exact⟨r+1,by omega,(a8k (a0r rfl (by omega)) rfl rfl),⟨by omega,by omega,X4,M4,⟨t4.x0,t4.xh,t4.mx,fun i j h1 h2 h3 h4=>by have:=t4.vl i j h1 h2 h3 h4;rw[d3t (c:=c) h2 (by omega)];exact this⟩,hl4⟩⟩
   ·replace h3:=of_decide_eq_false h3
    have hrn:r=n:=by omega
    refine a0i a1F rfl rfl rfl rfl (fun _=>rfl) (hv.mono (t3.x0.trans t3.xh)) (a3p hg) rfl (fun _=>rfl) fun _=> ?_
    simp only[cA,nA]
    refine a0i el_long rfl rfl rfl rfl (fun _=>rfl) (t3.mx.se hg) (a4D hkn) rfl (fun _=>rfl) fun _=> ?_
    simp only[cA,nA]
    refine a0a (el_long.vcells _) ?_
    exact⟨(k+1,y,M3 k k),by show n+1-(k+1)<n+1-k;omega,(a8k (a0r rfl (by omega)) rfl rfl),⟨hkn,X3,M3,⟨t3.x0,t3.xh,t3.mx,fun i j h1 h2 h3 h4=>by have:=t3.vl i j (by omega) (by omega) h3 h4;rw[<-d3m hp2];unfold Zk at this;rw[if_pos (by omega)]at this;exact this⟩,by rw[<-b5z,<-a8Z (F:=F) (k:=k) (r:=r) (c:=k) (i:=k) (j:=k) (by omega)];exact t3.vl k k (Nat.le_refl _) (Nat.le_refl _) hkn hkn,by rw[<-b5z];exact hpiv⟩⟩
 ·replace h:=of_decide_eq_false h
  have hke:k=n:=by omega
  subst hke
  exact a0c rfl ⟨X2,t2.x0,t2.xh,hl2⟩
end Go.Proofs.YtmannekkmdockaaGreatDoor
/- Chapter 32: walks without loops, and the trees that are drawn with them. -/
namespace Go.GS
theorem b3G {d n:Nat} (h:d<2^n) (h64:n<=64):card d<=n:=by
 have hd:d<M64:=Nat.lt_of_lt_of_le h (Nat.pow_le_pow_right (n:=2) (by decide) h64)
 have hnd:(els d).Nodup:=by
  unfold els
  exact List.Nodup.sublist List.filter_sublist List.nodup_range
 have:=List.Nodup.length_le_of_subset hnd (l₂:=List.range n) fun x hx=>by
  rw[List.mem_range]
  apply Nat.lt_of_not_le
  intro hh
  have h1:=(a2a hd).1 hx
  have:d.testBit x=false:=Nat.testBit_lt_two_pow (Nat.lt_of_lt_of_le h (Nat.pow_le_pow_right (n:=2) (by decide) hh))
  unfold bit at h1;rw[this]at h1;cases h1
 rwa[List.length_range]at this
def b5G (l:List Int):List Int:=l.foldl d1y []
theorem c0U (l:List Int):(b5G l).Perm l/\(b5G l).Pairwise (· <= ·):=by
 induction l using a2x with
 |nil=>exact⟨List.Perm.refl _,List.Pairwise.nil⟩
 |snoc l x ih=>
  have e:b5G (l++[x])=d1y (b5G l) x:=by unfold b5G;rw[List.foldl_append];rfl
  rw[e]
  exact⟨(b9r _ _).trans (ih.1.append_right [x]),c8F ih.2⟩
end Go.GS
/- Chapter 32: walks without loops, and random spanning trees. -/
namespace Go.Proofs.YtmannekkmdockaaGreatDoor
open Go.Proofs.Tryz
open Go.RowKit Go.RX Go.GS
theorem a3q:prog.underlying 140=some (.map 3 3):=by kernel_rfl
theorem a3O:prog.underlying 3=some (.int .i64):=by kernel_rfl
theorem c0V:∀w,(zeroValue 3).run prog w= .ok (.int .i64 0) w:=fun w=>by
 have h:(prog.info? 3).bind (·.zero)=some (.int .i64 0):=by kernel_rfl
 cases hi:prog.info? 3 with
 |none=>rw[hi]at h;cases h
 |some i=>
  rw[hi]at h
  simp only[Option.bind_some]at h
  simp[zeroValue,typeInfo,hi,h]
end Go.Proofs.YtmannekkmdockaaGreatDoor
/- Chapter 30: the matrix of a graph: what adds to its entries. -/
namespace Go.Proofs.YtmannekkmdockaaGreatDoor
open Go.Proofs.Tryz
open Go.RowKit Go.RX Go.GS
open Go.WD (BP a1L)
set_option maxRecDepth 100000
theorem c9V {n:Nat} {w:Value} (h1:a8l w=true):a0t (Value.cells (.agg #[ii n,w])):=fun c hc=>by
 simp[Value.cells]at hc
 rcases hc with hc|hc
 ·subst hc;rfl
 ·subst hc;exact h1
theorem b5H {H:PH} {n s:Nat} {w:Value} (hw:w.cells= #[w]) (h1:a8l w=true):Con prog 119 [gv n w,GS.uv s] H fun u H'=>∃b j,b≠j/\H'=H.or (b5g b j (ii n) w 37 s)/\Disj H (b5g b j (ii n) w 37 s)/\u= .func (.func 190) #[] #[.pointer (some ⟨b,0,none⟩),.pointer (some ⟨j,0,none⟩)]:=by
 refine a0b mixed c9j (by kernel_rfl) rfl ?_
 refine a0a ⟨rfl,c9V h1⟩ ?_
 refine a1C (cs:= #[ii (n:Nat),w]) rfl fun b hb=> ?_
 simp only[cA,nA]
 refine a0a ⟨rfl,fun c hc=>by simp[D,Value.cells,GS.uv]at hc;subst hc;rfl⟩ ?_
 refine a1C (cs:= #[GS.uv s]) rfl fun j hj=> ?_
 simp only[cA,nA]
 refine a3j (a1i (vs:=[.pointer (some ⟨b,0,none⟩),.pointer (some ⟨j,0,none⟩)]) rfl rfl) rfl ?_
 simp only[cA,nA]
 have hbj:b≠j:=fun e=>by subst e;rw[PH.put_self]at hj;cases hj
 have hj':H j=none:=by rwa[PH.put_ne _ _ (fun e=>hbj e.symm)]at hj
 exact a0c rfl ⟨b,j,hbj,by unfold b5g;rw[PH.put_or hb,PH.or_put (X:=H) hj'],a9K (a9K (b4p H) hb) hj',rfl⟩
def plL (V:List Nat):List (Int×Int):=(List.range V.length).map fun i=>(((V.getD i 0:Nat):Int),(i:Int))
theorem c9W {V:List Nat} {a i:Nat} (h:V[i]? =some a):((a:Int),(i:Int))∈plL V:=by
 unfold plL
 refine List.mem_map.2 ⟨i,List.mem_range.2 (List.getElem?_eq_some_iff.1 h).1,?_⟩
 rw[List.getD_eq_getElem?_getD,h];rfl
theorem c4J (V:List Nat):(plL V).map (·.1)=V.map fun x:Nat=>(x:Int):=by
 unfold plL
 rw[List.map_map]
 apply List.ext_getElem?
 intro i
 rw[List.getElem?_map,List.getElem?_map]
 by_cases h:i<V.length
 ·rw[List.getElem?_range h,List.getElem?_eq_getElem h]
  simp[List.getD_eq_getElem?_getD,List.getElem?_eq_getElem h]
 ·rw[List.getElem?_eq_none (by simp;omega),List.getElem?_eq_none (by omega)];rfl
theorem c0W {V:List Nat} {a:Nat} (h:a∉V):((a:Nat):Int)∉(plL V).map (·.1):=by
 rw[c4J]
 intro hh
 obtain⟨x,hx,e⟩:=List.mem_map.1 hh
 have:x=a:=by omega
 exact h (this ▸ hx)
theorem c4K (V:List Nat) (x:Nat):plL (V++[x])=plL V++[((x:Int),(V.length:Int))]:=by
 unfold plL
 rw[List.length_append,List.length_singleton,List.range_succ,List.map_append]
 congr 1
 ·refine List.map_congr_left fun i hi=> ?_
  rw[List.mem_range]at hi
  simp[List.getD_eq_getElem?_getD,List.getElem?_append_left hi]
 ·simp[List.getD_eq_getElem?_getD]
theorem b3H (V:List Nat):(plL V).length=V.length:=by unfold plL;simp
theorem c9X {V:List Nat} {x:Nat} (h:x∉V):c2t (plL V) (x:Int) (V.length:Int)=plL (V++[x]):=by
 unfold c2t
 rw[if_neg (c0W h),c4K]
def addZ (V:List Nat) (Z:Nat->Nat->Int) (a b:Nat) (z:Int) (i k:Nat):Int:=if V[i]? =some a/\V[k]? =some b then Z i k+z else Z i k
theorem a7R:Sc prog 140:=⟨by kernel_rfl,by kernel_rfl,by kernel_rfl⟩
theorem a9a:Sc prog 201:=⟨by kernel_rfl,by kernel_rfl,by kernel_rfl⟩
theorem a5h:a5r prog 123=true:=by kernel_rfl
section
variable {X0 X H:PH} {gs:List Nat} {n pb qb a b:Nat} {mp v:Value} {V:List Nat} {M:Nat->Nat->LV} {Z:Nat->Nat->Int} {Tp Tq:TypeId} {z:Int} {fz:Nat×Nat}
theorem Vl.addZ (h:Vl X n 0 M Z) (hn:V.Nodup) {i k:Nat} {x:LV} (hi:V[i]? =some a) (hk:V[k]? =some b) (hx:Lw X (lv x) (Z i k+z)):Vl X n 0 (putM M i k x) (addZ V Z a b z):=by
 refine h.put (by unfold Go.Proofs.YtmannekkmdockaaGreatDoor.addZ;rw[if_pos ⟨hi,hk⟩];exact hx) fun c d _ _ _ _ hne=> ?_
 unfold Go.Proofs.YtmannekkmdockaaGreatDoor.addZ
 rw[if_neg]
 rintro⟨h1,h2⟩
 exact hne ⟨(List.getElem?_inj (List.getElem?_eq_some_iff.1 h1).1 hn).1 (h1.trans hi.symm),(List.getElem?_inj (List.getElem?_eq_some_iff.1 h2).1 hn).1 (h2.trans hk.symm)⟩
theorem b5I (h:a∉V\/b∉V):addZ V Z a b z=Z:=by
 funext i k
 unfold addZ
 rw[if_neg]
 rintro⟨h1,h2⟩
 rcases h with h|h
 ·exact h (List.mem_of_getElem? h1)
 ·exact h (List.mem_of_getElem? h2)
theorem a5i (ht:Mt X0 X H gs n 0 M Z) (hp:X0 pb=some (.cells #[mp] Tp fz)) (hq:X0 qb=some (.cells #[v] Tq fz)) (hm:MI X0 mp (plL V)) (hv:SE X0 1 (fun s:Slc=>[vs s]) v (gs.map (rsl n))) (hn:gs.length=n) (hVn:V.length=n) (hnd:V.Nodup) (hz: -2<=z/\z<=2) (hZ:∀i k,Lm (Z i k)):
  Con prog 123 [ii (a:Nat),ii (b:Nat),ii z,.pointer (some ⟨pb,0,none⟩),.pointer (some ⟨qb,0,none⟩)] H fun _ H'=>∃X' M',PH.le X X'/\Mt X0 X' H' gs n 0 M' (addZ V Z a b z):=by
 refine a0b mixed c4p (by kernel_rfl) rfl ?_
 have hp':=(ht.x0.trans ht.xh) _ _ hp
 have hq':=(ht.x0.trans ht.xh) _ _ hq
 have hm':=hm.mono (ht.x0.trans ht.xh)
 have hv':=hv.mono (ht.x0.trans ht.xh)
 have huk:prog.underlying 3=some (.int .i64):=a3O
 have look:∀{c:Nat},∃(u:Int) (bb:Bool),((bb=false/\u=0/\((c:Nat):Int)∉(plL V).map (·.1))\/(bb=true/\(((c:Nat):Int),u)∈plL V))/\(bb=false/\c∉V\/bb=true/\∃i:Nat,u=(i:Int)/\V[i]? =some c):=fun{c}=>by
  by_cases h:c∈V
  ·obtain⟨i,hi⟩:=List.mem_iff_getElem?.1 h
   exact⟨(i:Int),true,.inr ⟨rfl,c9W hi⟩,.inr ⟨rfl,i,rfl,hi⟩⟩
  ·exact⟨0,false,.inl ⟨rfl,rfl,c0W h⟩,.inl ⟨rfl,h⟩⟩
 obtain⟨u1,b1,hu1,hc1⟩:=look (c:=a)
 obtain⟨u2,b2,hu2,hc2⟩:=look (c:=b)
 have off1:b1=false->a∉V:=fun e=>by
  rcases hc1 with⟨_,h⟩|⟨h,_⟩
  ·exact h
  ·rw[e]at h;cases h
 have off2:b2=false->b∉V:=fun e=>by
  rcases hc2 with⟨_,h⟩|⟨h,_⟩
  ·exact h
  ·rw[e]at h;cases h
 have on1:b1=true->∃i:Nat,u1=(i:Int)/\V[i]? =some a:=fun e=>by
  rcases hc1 with⟨h,_⟩|⟨_,h⟩
  ·rw[e]at h;cases h
  ·exact h
 have on2:b2=true->∃i:Nat,u2=(i:Int)/\V[i]? =some b:=fun e=>by
  rcases hc2 with⟨h,_⟩|⟨_,h⟩
  ·rw[e]at h;cases h
  ·exact h
 refine a0H a7R rfl rfl hp' rfl rfl ?_
 simp only[cA,nA]
 refine a0h (b0r (k:=(a:Nat)) (vs:=[mp,ii (a:Nat)]) rfl rfl rfl a3q a3O c0V hm' hu1) rfl ?_
 simp only[cA,nA]
 refine a0a ⟨_,rfl,by simp⟩ ?_
 refine a0a ⟨_,rfl,by simp⟩ ?_
 refine a0H a7R rfl rfl hp' rfl rfl ?_
 simp only[cA,nA]
 refine a0h (b0r (k:=(b:Nat)) (vs:=[mp,ii (b:Nat)]) rfl rfl rfl a3q a3O c0V hm' hu2) rfl ?_
 simp only[cA,nA]
 refine a0a ⟨_,rfl,by simp⟩ ?_
 refine a0a ⟨_,rfl,by simp⟩ ?_
 refine a0a ⟨_,rfl⟩ ?_
 refine a0e (b:=b1) rfl (fun h1=> ?_) (fun h1=> ?_)
 ·skip
  refine a0a ⟨_,rfl⟩ ?_
  refine a0e (b:=b2) rfl (fun h2=> ?_) (fun h2=> ?_)
  ·skip
   obtain⟨i,rfl,hi⟩:=on1 h1
   obtain⟨k,rfl,hk⟩:=on2 h2
   have hin:i<n:=by have:=(List.getElem?_eq_some_iff.1 hi).1;omega
   have hkn:k<n:=by have:=(List.getElem?_eq_some_iff.1 hk).1;omega
   obtain⟨g,hg⟩:=c9U hn hin
   refine a0H a9a rfl rfl hq' rfl rfl ?_
   simp only[cA,nA]
   refine a0i a1F rfl rfl rfl rfl (fun _=>rfl) hv' (a3p hg) rfl (fun _=>rfl) fun _=> ?_
   simp only[cA,nA]
   refine a0H a9a rfl rfl hq' rfl rfl ?_
   simp only[cA,nA]
   refine a0i a1F rfl rfl rfl rfl (fun _=>rfl) hv' (a3p hg) rfl (fun _=>rfl) fun _=> ?_
   simp only[cA,nA]
   refine a0i el_long rfl rfl rfl rfl (fun _=>rfl) (ht.mx.se hg) (a4D hkn) rfl (fun _=>rfl) fun _=> ?_
   simp only[cA,nA]
   refine a6i (a3a z (by omega) (by omega)) ht.xh rfl fun w1 X5 H5 a5 w5 b5 c5 d5=> ?_
   simp only[cA,nA]
   replace ht:=ht.grow a5 b5 c5 d5
   refine a6i (a3N ((ht.vl i k (Nat.zero_le _) (Nat.zero_le _) hin hkn)) w5 (hZ i k) (by unfold Lm;have:=a1L (i:=1) (j:=10000) (by decide);rw[Go.WD.BP_succ,Go.WD.BP_zero]at this;omega)) ht.xh rfl fun w2 X6 H6 a6 w6 b6 c6 d6=> ?_
   simp only[cA,nA]
   replace ht:=ht.grow a6 b6 c6 d6
   obtain⟨x6,rfl⟩:=b3F w6
   refine a0O el_long (a:=x6) rfl rfl rfl rfl (fun _=>rfl) (fun _=>rfl) (b1W H6 g) (ht.mx.row i g hg).2 (show k<(b0V M n i).length by rw[b5F];exact hkn) rfl (fun _=>rfl) rfl fun p9 u9 H9 l9 o9 _=> ?_
   simp only[cA,nA]
   exact a0c rfl ⟨X6,putM M i k x6,a5.trans a6,⟨ht.x0,(ht.mx.cut hg ht.xh).trans l9,ht.mx.put hg l9 o9,ht.vl.addZ hnd hi hk w6⟩⟩
  ·skip
   exact a0c rfl ⟨X,M,PH.le.refl _,by rw[b5I (.inr (off2 (by simpa using h2)))];exact ht⟩
 ·skip
  exact a0c rfl ⟨X,M,PH.le.refl _,by rw[b5I (.inl (off1 (by simpa using h1)))];exact ht⟩
end
end Go.Proofs.YtmannekkmdockaaGreatDoor

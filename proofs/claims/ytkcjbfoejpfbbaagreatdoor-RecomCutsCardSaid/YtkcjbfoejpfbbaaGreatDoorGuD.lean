/- Chapter 30: determinants of matrices of long integers. -/
import Derived.Test.YtkcjbfoejpfbbaaGreatDoorGuT
import Derived.Test.YtkcjbfoejpfbbaaGreatDoorGtT
import Derived.Test.YtkcjbfoejpfbbaaGreatDoorLgC
import Derived.Test.YtkcjbfoejpfbbaaGreatDoorGdI
import Derived.Test.YtkcjbfoejpfbbaaGreatDoorGdD
import Derived.Test.YtkcjbfoejpfbbaaGreatDoorRxQ
import Derived.Test.YtkcjbfoejpfbbaaGreatDoorGsW
import Derived.Test.YtkcjbfoejpfbbaaGreatDoorRzM
import Derived.Test.YtkcjbfoejpfbbaaGreatDoorGsO
import Derived.Test.YtkcjbfoejpfbbaaGreatDoorGdG
import Derived.Test.YtkcjbfoejpfbbaaGreatDoorGcC
import Derived.Test.YtkcjbfoejpfbbaaGreatDoorProg
import Derived.Test.YtkcjbfoejpfbbaaGreatDoorRxY
import Derived.Test.YtkcjbfoejpfbbaaGreatDoorRfM
import Derived.Test.YtkcjbfoejpfbbaaGreatDoorWdR
namespace Go.RX
open Go.RowKit
theorem a3n {P:Program} {G:Value->PH->Prop} {nx:List (List Value->PH->Prop)} {ρ:List Value} {X H:PH} {pf:Bool} {f:FuncId} {args:List SV} {t:Tree} {vs:List Value} {W:Value->PH->Prop} (hc:Con P f vs X fun u X'=>PH.le X X'/\W u X') (hX:PH.le X H) (ha:args.map (D P ρ)=vs)
  (n:∀u X' H',PH.le X X'->W u X'->PH.le X' H'->PH.le H H'->(∀k,H k≠none->X k=none->X' k=none)->den P G t nx (ρ++[u]) H'):den P G (.call pf f args t) nx ρ H:=by
 refine a0h (hc.frame hX) ha ?_
 rintro u H' ⟨X',⟨h1,h2⟩,h3,h4⟩
 have hle:PH.le H H':=fun k ob hk=>by
  cases e:X k with
  |none=>exact(h4 k ob hk e).2
  |some o2=>
   have:=hX _ _ e
   rw[this]at hk
   rw[<-hk]
   exact h3 _ _ (h1 _ _ e)
 exact⟨fun _=>hle,n u X' H' h1 h2 h3 hle fun k hk e=>by
  obtain⟨ob,hk⟩:=Option.ne_none_iff_exists'.1 hk
  exact(h4 k ob hk e).1⟩
end Go.RX
namespace Go.Proofs.YtkcjbfoejpfbbaaGreatDoor
open Go.Proofs.Tryz
open Go.RowKit Go.RX Go.GS Go.WD
set_option maxRecDepth 100000
abbrev LV:=Bool×Slc
def lc (x:LV):List Value:=[.bool x.1,vs x.2]
def lv (x:LV):Value:= .agg #[.bool x.1,vs x.2]
theorem el_long:El prog 227 147 2 true lc lv where
 und:=by kernel_rfl
 has:=by kernel_rfl
 cel:=by kernel_rfl
 agg:=by kernel_rfl
 pos:=by decide
 one1:=fun h=>(nomatch h)
 small:=by decide
 inf:=⟨(prog.info? 147).getD default,lv (false,(none,0,0)),by kernel_rfl,by kernel_rfl,by kernel_rfl,rfl,of_decide_eq_true (by kernel_rfl)⟩
 len:=fun _=>rfl
 val:=fun _=>rfl
 cells:=fun _=>rfl
 one:=fun x c hc=>by simp[lc]at hc;rcases hc with rfl|rfl<;>rfl
theorem a1B:El prog 226 227 1 false (fun s:Slc=>[vs s]) vs where
 und:=by kernel_rfl
 has:=by kernel_rfl
 cel:=by kernel_rfl
 agg:=by kernel_rfl
 pos:=by decide
 one1:=fun _=>rfl
 small:=by decide
 inf:=⟨(prog.info? 227).getD default,vs (none,0,0),by kernel_rfl,by kernel_rfl,by kernel_rfl,rfl,of_decide_eq_true (by kernel_rfl)⟩
 len:=fun _=>rfl
 val:=fun _=>rfl
 cells:=fun _=>rfl
 one:=fun x c hc=>by simp at hc;subst hc;rfl
theorem a7u {H:PH} {v:Value} {z:Int} (h:Lw H v z):∃x,v=lv x:=by
 obtain⟨w,rfl,l,⟨⟨_,a,c,rfl,_⟩,_⟩,_⟩:=h
 exact⟨(_,(a,l.length,c)),rfl⟩
theorem d4u:a0G prog 147=lv (false,(none,0,0)):=by kernel_rfl
theorem d1j (H:PH):Lw H (lv (false,(none,0,0))) 0:=⟨.slice none 0 0,rfl,[],⟨⟨rfl,none,0,rfl,Nat.le_refl _,by simp[maxLen],.inl rfl⟩,fun d hd=>by cases hd⟩,fun i hi=>by simp at hi⊢,rfl⟩
def a9B (M:Nat->Nat->LV) (n i:Nat):List LV:=(List.range n).map (M i)
theorem a3Y {M:Nat->Nat->LV} {n i j:Nat} (h:j<n):(a9B M n i)[j]? =some (M i j):=by unfold a9B;rw[List.getElem?_map,List.getElem?_range h];rfl
theorem b5t (M:Nat->Nat->LV) (n i:Nat):(a9B M n i).length=n:=by unfold a9B;simp
def c2S (M:Nat->Nat->LV) (i j:Nat) (x:LV):Nat->Nat->LV:=fun a b=>if a=i/\b=j then x else M a b
theorem c5H (M:Nat->Nat->LV) (n i j:Nat) (x:LV):a9B (c2S M i j x) n i=(a9B M n i).set j x:=by
 apply List.ext_getElem?
 intro b
 unfold a9B c2S
 rw[List.getElem?_set,List.getElem?_map,List.getElem?_map]
 by_cases hb:b<n
 ·rw[List.getElem?_range hb]
  by_cases e:b=j
  ·subst e;simp[hb]
  ·have e':¬j=b:=fun h=>e h.symm
   simp[e,e']
 ·rw[List.getElem?_eq_none (by simp;omega)]
  by_cases e:j=b
  ·subst e;simp[hb]
  ·simp[e]
theorem c5I {M:Nat->Nat->LV} {n i a j:Nat} {x:LV} (h:a≠i):a9B (c2S M i j x) n a=a9B M n a:=by
 unfold a9B c2S
 exact List.map_congr_left fun b _=>if_neg fun hh=>h hh.1
def rsl (n g:Nat):Slc:=(some ⟨g,0,none⟩,n,n)
structure MX (X H:PH) (gs:List Nat) (n:Nat) (M:Nat->Nat->LV):Prop where
 nd:gs.Nodup
 n64:n<=64
 row:∀(i g:Nat),gs[i]? =some g->X g=none/\SO (a5Q H g) H 147 2 lc (vs (rsl n g)) (a9B M n i)
theorem a7g (H:PH) (g:Nat):a5Q H g g=none:=if_pos rfl
theorem a5e {α:Type} {e:TypeId} {sz:Nat} {ce:α->List Value} {H H':PH} {g n:Nat} {l:List α} (h:SO (a5Q H g) H e sz ce (vs (rsl n g)) l) (hk:∀ob,H g=some ob->H' g=some ob):SO (a5Q H' g) H' e sz ce (vs (rsl n g)) l:=by
 obtain⟨h1,⟨h2,h3⟩|⟨g',cap,cur,h2,h3,h4,h5⟩⟩:=h
 ·cases h2
 ·simp only[vs,rsl,Value.slice.injEq,Option.some.injEq,Addr.mk.injEq]at h2
  obtain⟨⟨rfl,-,-⟩,h6,h7⟩:=h2
  exact⟨h1,.inr ⟨g,cap,cur,by simp only[vs,rsl];rw[<-h6,<-h7],a7g _ _,hk _ h4,h5⟩⟩
section
variable {X H X' H':PH} {gs:List Nat} {n i j g:Nat} {M:Nat->Nat->LV} {x:LV} {v:Value} {z:Int}
theorem MX.se (h:MX X H gs n M) (hg:gs[i]? =some g):SE H 2 lc (vs (rsl n g)) (a9B M n i):=(h.row i g hg).2.se
theorem MX.bound (h:MX X H gs n M) (hg:gs[i]? =some g):∃ob,H g=some ob:=by
 obtain⟨h1,⟨h2,h3⟩|⟨g',cap,cur,h2,h3,h4,h5⟩⟩:=(h.row i g hg).2
 ·cases h2
 ·simp only[vs,rsl,Value.slice.injEq,Option.some.injEq,Addr.mk.injEq]at h2
  obtain⟨⟨rfl,-,-⟩,h6,h7⟩:=h2
  exact⟨_,h4⟩
theorem MX.mono (h:MX X H gs n M) (hl:PH.le H H') (hk:∀k,H k≠none->X k=none->X' k=none):MX X' H' gs n M:=
 ⟨h.nd,h.n64,fun i g hg=>by
  obtain⟨ob,hb⟩:=h.bound hg
  exact⟨hk g (by rw[hb];simp) (h.row i g hg).1,a5e (h.row i g hg).2 fun o ho=>hl _ _ ho⟩⟩
theorem MX.put (h:MX X H gs n M) (hg:gs[i]? =some g) (hl:PH.le (a5Q H g) H') (ho:SO (a5Q H g) H' 147 2 lc (vs (rsl n g)) ((a9B M n i).set j x)):MX X H' gs n (c2S M i j x):=
 ⟨h.nd,h.n64,fun a b hb=>by
  by_cases e:a=i
  ·subst e
   obtain rfl:g=b:=Option.some.inj (hg.symm.trans hb)
   refine⟨(h.row a g hg).1,?_⟩
   rw[c5H]
   have hc:a5Q (a5Q H g) g=a5Q H g:=by
    funext k;unfold a5Q;split<;>simp_all
   have:SO (a5Q H' g) H' 147 2 lc (vs (rsl n g)) ((a9B M n a).set j x):=by
    obtain⟨h1,⟨h2,h3⟩|⟨g',cap,cur,h2,h3,h4,h5⟩⟩:=ho
    ·cases h2
    ·simp only[vs,rsl,Value.slice.injEq,Option.some.injEq,Addr.mk.injEq]at h2
     obtain⟨⟨rfl,-,-⟩,h6,h7⟩:=h2
     exact⟨h1,.inr ⟨g,cap,cur,by simp only[vs,rsl];rw[<-h6,<-h7],a7g _ _,h4,h5⟩⟩
   exact this
  ·have hne:b≠g:=fun hh=>by
    subst hh
    have l1:=(List.getElem?_eq_some_iff.1 hg).1
    exact e ((List.getElem?_inj l1 h.nd).1 (hg.trans hb.symm)).symm
   obtain⟨h1,h2⟩:=h.row a b hb
   rw[c5I e]
   exact⟨h1,a5e h2 fun ob hob=>hl _ _ (by unfold a5Q;rw[if_neg hne];exact hob)⟩⟩
theorem MX.cut (h:MX X H gs n M) (hg:gs[i]? =some g) (hX:PH.le X H):PH.le X (a5Q H g):=fun k ob hk=>by
 unfold a5Q
 rw[if_neg (fun e=>by subst e;rw[(h.row i k hg).1]at hk;cases hk)]
 exact hX _ _ hk
end
def Vl (X:PH) (n k:Nat) (M:Nat->Nat->LV) (Z:Nat->Nat->Int):Prop:=∀i j,k<=i->k<=j->i<n->j<n->Lw X (lv (M i j)) (Z i j)
theorem Vl.mono {X X':PH} {n k:Nat} {M:Nat->Nat->LV} {Z:Nat->Nat->Int} (h:Vl X n k M Z) (hl:PH.le X X'):Vl X' n k M Z:=fun i j a b c d=>(h i j a b c d).mono hl
theorem Vl.put {X:PH} {n k i j:Nat} {M:Nat->Nat->LV} {Z Z':Nat->Nat->Int} {x:LV} (h:Vl X n k M Z) (hx:Lw X (lv x) (Z' i j)) (hz:∀a b,k<=a->k<=b->a<n->b<n->¬(a=i/\b=j)->Z' a b=Z a b):Vl X n k (c2S M i j x) Z':=fun a b h1 h2 h3 h4=>by
 unfold c2S
 by_cases e:a=i/\b=j
 ·rw[if_pos e,e.1,e.2];exact hx
 ·rw[if_neg e,hz a b h1 h2 h3 h4 e];exact h a b h1 h2 h3 h4
def Zk (F:Nat->Nat->Int) (k r c i j:Nat):Int:=if k<i/\(i<r\/i=r/\j<c)then(gk F k i j*gk F k k k-gk F k i k*gk F k k j)/pk F k else gk F k i j
def Sm (z:Int):Prop:=z.natAbs<BP 100
theorem Sm.lm {z:Int} (h:Sm z):Lm z:=Nat.lt_of_lt_of_le h (a5x (by decide))
theorem Sm.mul {y z:Int} (hy:Sm y) (hz:Sm z):(y*z).natAbs<BP 200:=by
 rw[Int.natAbs_mul,show 200=100+100 from rfl,d3v]
 exact Nat.mul_lt_mul'' hy hz
theorem d4v {z:Int} (h:z.natAbs<BP 200):Lm z:=Nat.lt_of_lt_of_le h (a5x (by decide))
theorem d4w {y z:Int} (hy:y.natAbs<BP 200) (hz:z.natAbs<BP 200):Lm (y-z):=by
 have h:BP 201<=BP 10000:=a5x (by decide)
 rw[BP_succ]at h
 unfold Lm
 omega
theorem a2Q {gs:List Nat} {n i g:Nat} (h:gs[i]? =some g):(gs.map (rsl n))[i]? =some (rsl n g):=by rw[List.getElem?_map,h];rfl
theorem d1k {gs:List Nat} {i n:Nat} (hn:gs.length=n) (h:i<n):∃g,gs[i]? =some g:=⟨_,List.getElem?_eq_getElem (by omega)⟩
structure Mt (X0 X H:PH) (gs:List Nat) (n k:Nat) (M:Nat->Nat->LV) (Z:Nat->Nat->Int):Prop where
 x0:PH.le X0 X
 xh:PH.le X H
 mx:MX X H gs n M
 vl:Vl X n k M Z
theorem Mt.grow {X0 X H X' H':PH} {gs:List Nat} {n k:Nat} {M:Nat->Nat->LV} {Z:Nat->Nat->Int} (h:Mt X0 X H gs n k M Z) (a:PH.le X X') (b:PH.le X' H') (c:PH.le H H') (d:∀k,H k≠none->X k=none->X' k=none):Mt X0 X' H' gs n k M Z:=⟨h.x0.trans a,b,h.mx.mono c d,h.vl.mono a⟩
theorem d4x {F:Nat->Nat->Int} (hb:∀k i j,k<=64->Sm (gk F k i j)) {k:Nat} (hk:k<=64):Sm (pk F k):=by
 cases k with
 |zero=>
  rw[c2m]
  show(1:Nat)<BP 100
  have:BP 0<BP 100:=BP_lt_iff.2 (by decide)
  rw[BP_zero]at this;exact this
 |succ k=>rw[<-b5k];exact hb k k k (by omega)
theorem a8p {F:Nat->Nat->Int} {k r c i j:Nat} (h:¬(k<i/\(i<r\/i=r/\j<c))):Zk F k r c i j=gk F k i j:=if_neg h
theorem d4y {F:Nat->Nat->Int} {k r c i j:Nat} (h:¬(i=r/\j=c)):Zk F k r (c+1) i j=Zk F k r c i j:=by
 unfold Zk;split<;>split<;>(first|rfl|omega)
theorem d4z {F:Nat->Nat->Int} {k r c i j:Nat} (h:k<=j) (hj:j<c):Zk F k (r+1) k i j=Zk F k r c i j:=by
 unfold Zk;split<;>split<;>(first|rfl|omega)
theorem sgI_zero {z:Int}:(sgI z 0==0)=true↔z=0:=by
 unfold sgI
 rw[beq_iff_eq]
 split<;>(try split)<;>simp<;>omega
theorem c5J {H X:PH} {v:Value} {gs:List Nat} {n:Nat} {M:Nat->Nat->LV} {F:Nat->Nat->Int} (hX:PH.le X H) (hv:SE X 1 (fun s:Slc=>[vs s]) v (gs.map (rsl n))) (hM:MX X H gs n M) (hn:gs.length=n) (hF:Vl X n 0 M F) (hb:∀k i j,k<=64->Sm (gk F k i j)) (hc:∀k,k<=n->pk F k=0->pk F n=0):
  Con prog 164 [v] H fun u H'=>∃X',PH.le X X'/\PH.le X' H'/\Lw X' u (pk F n):=by
 refine a0d a0r c0M (by kernel_rfl) rfl ?_
 have h64:=hM.n64
 refine a3n (a4C 1 (by omega) (by omega)) hX rfl fun v1 X1 H1 a1 w1 b1 c1 d1=> ?_
 simp only[cA,nA]
 replace hM:=hM.mono c1 d1
 obtain⟨x1,rfl⟩:=a7u w1
 refine a0a w1.rq ?_
 refine a0j a1B rfl rfl (hv.mono (a1.trans b1)) rfl ?_
 simp only[cA,nA]
 rw[List.length_map,hn]
 refine a0n (α:=Nat×Value×LV) (fun⟨k,y,l⟩=>[ii (k:Nat),y,lv l]) (fun⟨k,y,l⟩=>fun H'=>k<=n/\∃X' M',Mt X X' H' gs n k M' (gk F k)/\Lw X' (lv l) (pk F k)/\pk F k≠0) (fun⟨k,y,l⟩=>n+1-k) ((0,a0G prog 147,x1)) rfl (⟨Nat.zero_le _,X1,M,⟨a1,b1,hM,fun i j h1 h2 h3 h4=>by rw[d0R];exact(hF i j h1 h2 h3 h4).mono a1⟩,w1,by rw[c2m];omega⟩) fun⟨k,y,l⟩ H2 ⟨hk,X2,M2,t2,hl2,hp2⟩=> ?_
 simp only[cA,nA]
 refine a0a ⟨_,rfl⟩ ?_
 refine a0a ⟨_,rfl⟩ ?_
 refine a0e (b:=decide (((k:Nat):Int)<(n:Nat))) rfl (fun h=> ?_) (fun h=> ?_)
 ·replace h:=of_decide_eq_true h
  have hkn:k<n:=by omega
  obtain⟨g,hg⟩:=d1k hn hkn
  refine a0k a1B rfl rfl rfl rfl (fun _=>rfl) (hv.mono (t2.x0.trans t2.xh)) (a2Q hg) rfl (fun _=>rfl) fun _=> ?_
  simp only[cA,nA]
  refine a0k el_long rfl rfl rfl rfl (fun _=>rfl) (t2.mx.se hg) (a3Y hkn) rfl (fun _=>rfl) fun _=> ?_
  simp only[cA,nA]
  refine a0h (a7d ((t2.vl k k (Nat.le_refl _) (Nat.le_refl _) hkn hkn).mono t2.xh)) rfl ?_
  rintro _ _ ⟨rfl,rfl⟩
  refine⟨fun h=>(nomatch h),?_⟩
  simp only[cA,nA]
  refine a0a ⟨_,rfl⟩ ?_
  refine a0e (b:=(sgI (gk F k k k) 0==0)) rfl (fun h2=> ?_) (fun h2=> ?_)
  ·skip
   refine a3n (a4C 0 (by omega) (by omega)) t2.xh rfl fun v11 X3 H3 a3 w3 b3 c3 d3=> ?_
   simp only[cA,nA]
   obtain⟨x3,rfl⟩:=a7u w3
   refine a0a w3.rq ?_
   exact a0f rfl ⟨X3,t2.x0.trans a3,b3,by rw[hc (k+1) hkn (by rw[<-b5k];exact sgI_zero.1 h2)];exact w3⟩
  ·skip
   have hpiv:gk F k k k≠0:=fun e=>by rw[sgI_zero.2 e]at h2;cases h2
   refine a0n (α:=Nat) (fun r=>[ii (r:Nat),y,lv l]) (fun r=>fun H'=>k<r/\r<=n/\∃X' M',Mt X X' H' gs n k M' (Zk F k r k)/\Lw X' (lv l) (pk F k)) (fun r=>n+1-r) (k+1) (a7m (a0x rfl (by omega)) rfl rfl) (⟨by omega,by omega,X2,M2,⟨t2.x0,t2.xh,t2.mx,fun i j h1 h2 h3 h4=>by rw[a8p (by omega)];exact t2.vl i j h1 h2 h3 h4⟩,hl2⟩) fun r H3 ⟨hr1,hr2,X3,M3,t3,hl3⟩=> ?_
   simp only[cA,nA]
   refine a0j a1B rfl rfl (hv.mono (t3.x0.trans t3.xh)) rfl ?_
   simp only[cA,nA]
   rw[List.length_map,hn]
   refine a0a ⟨_,rfl⟩ ?_
   refine a0a ⟨_,rfl⟩ ?_
   refine a0e (b:=decide (((r:Nat):Int)<(n:Nat))) rfl (fun h3=> ?_) (fun h3=> ?_)
   ·replace h3:=of_decide_eq_true h3
    have hrn:r<n:=by omega
    obtain⟨g2,hg2⟩:=d1k hn hrn
    refine a0k a1B rfl rfl rfl rfl (fun _=>rfl) (hv.mono (t3.x0.trans t3.xh)) (a2Q hg2) rfl (fun _=>rfl) fun _=> ?_
    simp only[cA,nA]
    refine a0k el_long rfl rfl rfl rfl (fun _=>rfl) (t3.mx.se hg2) (a3Y hkn) rfl (fun _=>rfl) fun _=> ?_
    simp only[cA,nA]
    generalize hf:M3 r k=f
    have hf3:Lw X3 (lv f) (gk F k r k):=by rw[<-hf,<-a8p (F:=F) (k:=k) (r:=r) (c:=k) (i:=r) (j:=k) (by omega)];exact t3.vl r k (by omega) (Nat.le_refl _) hrn hkn
    refine a0a (el_long.vcells f) ?_
    refine a0n (α:=Nat) (fun c=>[ii (c:Nat)]) (fun c=>fun H'=>k<=c/\c<=n/\∃X' M',Mt X X' H' gs n k M' (Zk F k r c)/\Lw X' (lv l) (pk F k)/\Lw X' (lv f) (gk F k r k)) (fun c=>n+1-c) (k) rfl (⟨Nat.le_refl _,by omega,X3,M3,t3,hl3,hf3⟩) fun c H4 ⟨hc1,hc2,X4,M4,t4,hl4,hf4⟩=> ?_
    simp only[cA,nA]
    refine a0j a1B rfl rfl (hv.mono (t4.x0.trans t4.xh)) rfl ?_
    simp only[cA,nA]
    rw[List.length_map,hn]
    refine a0a ⟨_,rfl⟩ ?_
    refine a0a ⟨_,rfl⟩ ?_
    refine a0e (b:=decide (((c:Nat):Int)<(n:Nat))) rfl (fun h4=> ?_) (fun h4=> ?_)
    ·replace h4:=of_decide_eq_true h4
     have hcn:c<n:=by omega
     refine a0k a1B rfl rfl rfl rfl (fun _=>rfl) (hv.mono (t4.x0.trans t4.xh)) (a2Q hg2) rfl (fun _=>rfl) fun _=> ?_
     simp only[cA,nA]
     refine a0k el_long rfl rfl rfl rfl (fun _=>rfl) (t4.mx.se hg2) (a3Y hcn) rfl (fun _=>rfl) fun _=> ?_
     simp only[cA,nA]
     refine a0k a1B rfl rfl rfl rfl (fun _=>rfl) (hv.mono (t4.x0.trans t4.xh)) (a2Q hg) rfl (fun _=>rfl) fun _=> ?_
     simp only[cA,nA]
     refine a0k el_long rfl rfl rfl rfl (fun _=>rfl) (t4.mx.se hg) (a3Y hkn) rfl (fun _=>rfl) fun _=> ?_
     simp only[cA,nA]
     refine a0k a1B rfl rfl rfl rfl (fun _=>rfl) (hv.mono (t4.x0.trans t4.xh)) (a2Q hg) rfl (fun _=>rfl) fun _=> ?_
     simp only[cA,nA]
     refine a0k el_long rfl rfl rfl rfl (fun _=>rfl) (t4.mx.se hg) (a3Y hcn) rfl (fun _=>rfl) fun _=> ?_
     simp only[cA,nA]
     have e1:Lw X4 (lv (M4 r c)) (gk F k r c):=by rw[<-a8p (F:=F) (k:=k) (r:=r) (c:=c) (i:=r) (j:=c) (by omega)];exact t4.vl r c (by omega) hc1 hrn hcn
     have e2:Lw X4 (lv (M4 k k)) (gk F k k k):=by rw[<-a8p (F:=F) (k:=k) (r:=r) (c:=c) (i:=k) (j:=k) (by omega)];exact t4.vl k k (by omega) (Nat.le_refl _) hkn hkn
     have e3:Lw X4 (lv (M4 k c)) (gk F k k c):=by rw[<-a8p (F:=F) (k:=k) (r:=r) (c:=c) (i:=k) (j:=c) (by omega)];exact t4.vl k c (by omega) hc1 hkn hcn
     have s1:=hb k r c (by omega)
     have s2:=hb k k k (by omega)
     have s3:=hb k k c (by omega)
     have s4:=hb k r k (by omega)
     refine a3n (a8l e1 e2 s1.lm s2.lm) t4.xh rfl fun u1 X5 H5 a5 w5 b5 c5 d5=> ?_
     simp only[cA,nA]
     replace t4:=t4.grow a5 b5 c5 d5
     refine a3n (a8l (hf4.mono a5) (e3.mono a5) s4.lm s3.lm) t4.xh rfl fun u2 X6 H6 a6 w6 b6 c6 d6=> ?_
     simp only[cA,nA]
     replace t4:=t4.grow a6 b6 c6 d6
     refine a3n (a5c (w5.mono a6) w6 (d4v (s1.mul s2)) (d4v (s4.mul s3))) t4.xh rfl fun u3 X7 H7 a7 w7 b7 c7 d7=> ?_
     simp only[cA,nA]
     replace t4:=t4.grow a7 b7 c7 d7
     obtain⟨x7,rfl⟩:=a7u w7
     refine a0a w7.rq ?_
     refine a0k a1B rfl rfl rfl rfl (fun _=>rfl) (hv.mono (t4.x0.trans t4.xh)) (a2Q hg2) rfl (fun _=>rfl) fun _=> ?_
     simp only[cA,nA]
     refine a3n ((b6t w7 (hl4.mono (a5.trans (a6.trans a7))) (d4w (s1.mul s2) (s4.mul s3)) (d4x hb (by omega)).lm hp2)) t4.xh rfl fun u4 X8 H8 a8 w8 b8 c8 d8=> ?_
     simp only[cA,nA]
     replace t4:=t4.grow a8 b8 c8 d8
     obtain⟨qa,qb,rfl,q1,q2⟩:=w8
     obtain⟨x8,rfl⟩:=a7u q1
     refine a0a ⟨_,rfl,by simp⟩ ?_
     refine a0a ⟨_,rfl,by simp⟩ ?_
     refine a1q el_long (a:=x8) rfl rfl rfl rfl (fun _=>rfl) (fun _=>rfl) (c2w H8 g2) (t4.mx.row r g2 hg2).2 (show c<(a9B M4 n r).length by rw[b5t];exact hcn) rfl (fun _=>rfl) rfl fun p9 u9 H9 l9 o9 _=> ?_
     simp only[cA,nA]
     exact⟨c+1,by omega,(a5E (a0x rfl (by omega))),⟨by omega,by omega,X8,c2S M4 r c x8,⟨t4.x0,(t4.mx.cut hg2 t4.xh).trans l9,t4.mx.put hg2 l9 o9,t4.vl.put (by show Lw X8 (lv x8) (Zk F k r (c+1) r c);unfold Zk;rw[if_pos (by omega)];exact q1) (fun i j h1 h2 h3 h4 h5=>d4y h5)⟩,hl4.mono (a5.trans (a6.trans (a7.trans a8))),hf4.mono (a5.trans (a6.trans (a7.trans a8)))⟩⟩
    ·replace h4:=of_decide_eq_false h4
     exact⟨r+1,by omega,(a7m (a0x rfl (by omega)) rfl rfl),⟨by omega,by omega,X4,M4,⟨t4.x0,t4.xh,t4.mx,fun i j h1 h2 h3 h4=>by have:=t4.vl i j h1 h2 h3 h4;rw[d4z (c:=c) h2 (by omega)];exact this⟩,hl4⟩⟩
   ·replace h3:=of_decide_eq_false h3
    have hrn:r=n:=by omega
    refine a0k a1B rfl rfl rfl rfl (fun _=>rfl) (hv.mono (t3.x0.trans t3.xh)) (a2Q hg) rfl (fun _=>rfl) fun _=> ?_
    simp only[cA,nA]
    refine a0k el_long rfl rfl rfl rfl (fun _=>rfl) (t3.mx.se hg) (a3Y hkn) rfl (fun _=>rfl) fun _=> ?_
    simp only[cA,nA]
    refine a0a (el_long.vcells _) ?_
    exact⟨(k+1,y,M3 k k),by show n+1-(k+1)<n+1-k;omega,(a7m (a0x rfl (by omega)) rfl rfl),⟨hkn,X3,M3,⟨t3.x0,t3.xh,t3.mx,fun i j h1 h2 h3 h4=>by have:=t3.vl i j (by omega) (by omega) h3 h4;rw[<-d4o hp2];unfold Zk at this;rw[if_pos (by omega)]at this;exact this⟩,by rw[<-b5k,<-a8p (F:=F) (k:=k) (r:=r) (c:=k) (i:=k) (j:=k) (by omega)];exact t3.vl k k (Nat.le_refl _) (Nat.le_refl _) hkn hkn,by rw[<-b5k];exact hpiv⟩⟩
 ·replace h:=of_decide_eq_false h
  have hke:k=n:=by omega
  subst hke
  exact a0f rfl ⟨X2,t2.x0,t2.xh,hl2⟩
end Go.Proofs.YtkcjbfoejpfbbaaGreatDoor
/- Chapter 30: the matrix of a graph: what adds to its entries. -/
namespace Go.Proofs.YtkcjbfoejpfbbaaGreatDoor
open Go.Proofs.Tryz
open Go.RowKit Go.RX Go.GS
open Go.WD (BP a5x)
set_option maxRecDepth 100000
theorem d1l {n:Nat} {w:Value} (h1:a7l w=true):a0u (Value.cells (.agg #[ii n,w])):=fun c hc=>by
 simp[Value.cells]at hc
 rcases hc with hc|hc
 ·subst hc;rfl
 ·subst hc;exact h1
theorem a9t {H:PH} {n s:Nat} {w:Value} (hw:w.cells= #[w]) (h1:a7l w=true):Con prog 97 [gv n w,GS.uv s] H fun u H'=>∃b j,b≠j/\H'=H.or (b1x b j (ii n) w 38 s)/\Disj H (b1x b j (ii n) w 38 s)/\u= .func (.func 168) #[] #[.pointer (some ⟨b,0,none⟩),.pointer (some ⟨j,0,none⟩)]:=by
 refine a0d a0r c0K (by kernel_rfl) rfl ?_
 refine a0a ⟨rfl,d1l h1⟩ ?_
 refine a2u (cs:= #[ii (n:Nat),w]) rfl fun b hb=> ?_
 simp only[cA,nA]
 refine a0a ⟨rfl,fun c hc=>by simp[D,Value.cells,GS.uv]at hc;subst hc;rfl⟩ ?_
 refine a2u (cs:= #[GS.uv s]) rfl fun j hj=> ?_
 simp only[cA,nA]
 refine a6u (a2k (vs:=[.pointer (some ⟨b,0,none⟩),.pointer (some ⟨j,0,none⟩)]) rfl rfl) rfl ?_
 simp only[cA,nA]
 have hbj:b≠j:=fun e=>by subst e;rw[PH.put_self]at hj;cases hj
 have hj':H j=none:=by rwa[PH.put_ne _ _ (fun e=>hbj e.symm)]at hj
 exact a0f rfl ⟨b,j,hbj,by unfold b1x;rw[PH.put_or hb,PH.or_put (X:=H) hj'],a8N (a8N (b3e H) hb) hj',rfl⟩
def plL (V:List Nat):List (Int×Int):=(List.range V.length).map fun i=>(((V.getD i 0:Nat):Int),(i:Int))
theorem d1m {V:List Nat} {a i:Nat} (h:V[i]? =some a):((a:Int),(i:Int))∈plL V:=by
 unfold plL
 refine List.mem_map.2 ⟨i,List.mem_range.2 (List.getElem?_eq_some_iff.1 h).1,?_⟩
 rw[List.getD_eq_getElem?_getD,h];rfl
theorem c5K (V:List Nat):(plL V).map (·.1)=V.map fun x:Nat=>(x:Int):=by
 unfold plL
 rw[List.map_map]
 apply List.ext_getElem?
 intro i
 rw[List.getElem?_map,List.getElem?_map]
 by_cases h:i<V.length
 ·rw[List.getElem?_range h,List.getElem?_eq_getElem h]
  simp[List.getD_eq_getElem?_getD,List.getElem?_eq_getElem h]
 ·rw[List.getElem?_eq_none (by simp;omega),List.getElem?_eq_none (by omega)];rfl
theorem c2x {V:List Nat} {a:Nat} (h:a∉V):((a:Nat):Int)∉(plL V).map (·.1):=by
 rw[c5K]
 intro hh
 obtain⟨x,hx,e⟩:=List.mem_map.1 hh
 have:x=a:=by omega
 exact h (this ▸ hx)
theorem c5L (V:List Nat) (x:Nat):plL (V++[x])=plL V++[((x:Int),(V.length:Int))]:=by
 unfold plL
 rw[List.length_append,List.length_singleton,List.range_succ,List.map_append]
 congr 1
 ·refine List.map_congr_left fun i hi=> ?_
  rw[List.mem_range]at hi
  simp[List.getD_eq_getElem?_getD,List.getElem?_append_left hi]
 ·simp[List.getD_eq_getElem?_getD]
theorem b2L (V:List Nat):(plL V).length=V.length:=by unfold plL;simp
theorem d1n {V:List Nat} {x:Nat} (h:x∉V):d1f (plL V) (x:Int) (V.length:Int)=plL (V++[x]):=by
 unfold d1f
 rw[if_neg (c2x h),c5L]
def addZ (V:List Nat) (Z:Nat->Nat->Int) (a b:Nat) (z:Int) (i k:Nat):Int:=if V[i]? =some a/\V[k]? =some b then Z i k+z else Z i k
theorem a7h:Sc prog 201:=⟨by kernel_rfl,by kernel_rfl,by kernel_rfl⟩
theorem a8q:Sc prog 226:=⟨by kernel_rfl,by kernel_rfl,by kernel_rfl⟩
theorem a4D:a7q prog 162=true:=by kernel_rfl
section
variable {X0 X H:PH} {gs:List Nat} {n pb qb a b:Nat} {mp v:Value} {V:List Nat} {M:Nat->Nat->LV} {Z:Nat->Nat->Int} {Tp Tq:TypeId} {z:Int} {fz:Nat×Nat}
theorem Vl.addZ (h:Vl X n 0 M Z) (hn:V.Nodup) {i k:Nat} {x:LV} (hi:V[i]? =some a) (hk:V[k]? =some b) (hx:Lw X (lv x) (Z i k+z)):Vl X n 0 (c2S M i k x) (addZ V Z a b z):=by
 refine h.put (by unfold Go.Proofs.YtkcjbfoejpfbbaaGreatDoor.addZ;rw[if_pos ⟨hi,hk⟩];exact hx) fun c d _ _ _ _ hne=> ?_
 unfold Go.Proofs.YtkcjbfoejpfbbaaGreatDoor.addZ
 rw[if_neg]
 rintro⟨h1,h2⟩
 exact hne ⟨(List.getElem?_inj (List.getElem?_eq_some_iff.1 h1).1 hn).1 (h1.trans hi.symm),(List.getElem?_inj (List.getElem?_eq_some_iff.1 h2).1 hn).1 (h2.trans hk.symm)⟩
theorem b5u (h:a∉V\/b∉V):addZ V Z a b z=Z:=by
 funext i k
 unfold addZ
 rw[if_neg]
 rintro⟨h1,h2⟩
 rcases h with h|h
 ·exact h (List.mem_of_getElem? h1)
 ·exact h (List.mem_of_getElem? h2)
theorem a4E (ht:Mt X0 X H gs n 0 M Z) (hp:X0 pb=some (.cells #[mp] Tp fz)) (hq:X0 qb=some (.cells #[v] Tq fz)) (hm:MI X0 mp (plL V)) (hv:SE X0 1 (fun s:Slc=>[vs s]) v (gs.map (rsl n))) (hn:gs.length=n) (hVn:V.length=n) (hnd:V.Nodup) (hz: -2<=z/\z<=2) (hZ:∀i k,Lm (Z i k)):
  Con prog 162 [ii (a:Nat),ii (b:Nat),ii z,.pointer (some ⟨pb,0,none⟩),.pointer (some ⟨qb,0,none⟩)] H fun _ H'=>∃X' M',PH.le X X'/\Mt X0 X' H' gs n 0 M' (addZ V Z a b z):=by
 refine a0d a0r b4w (by kernel_rfl) rfl ?_
 have hp':=(ht.x0.trans ht.xh) _ _ hp
 have hq':=(ht.x0.trans ht.xh) _ _ hq
 have hm':=hm.mono (ht.x0.trans ht.xh)
 have hv':=hv.mono (ht.x0.trans ht.xh)
 have huk:prog.underlying 3=some (.int .i64):=a2P
 have look:∀{c:Nat},∃(u:Int) (bb:Bool),((bb=false/\u=0/\((c:Nat):Int)∉(plL V).map (·.1))\/(bb=true/\(((c:Nat):Int),u)∈plL V))/\(bb=false/\c∉V\/bb=true/\∃i:Nat,u=(i:Int)/\V[i]? =some c):=fun{c}=>by
  by_cases h:c∈V
  ·obtain⟨i,hi⟩:=List.mem_iff_getElem?.1 h
   exact⟨(i:Int),true,.inr ⟨rfl,d1m hi⟩,.inr ⟨rfl,i,rfl,hi⟩⟩
  ·exact⟨0,false,.inl ⟨rfl,rfl,c2x h⟩,.inl ⟨rfl,h⟩⟩
 obtain⟨u1,b1,hu1,hc1⟩:=look (c:=a)
 obtain⟨u2,b2,hu2,hc2⟩:=look (c:=b)
 have off1:b1=false->a∉V:=fun e=>by
  rcases hc1 with⟨_,h⟩|⟨h,_⟩
  ·exact h
  ·rw[e]at h;cases h
 have off2:b2=false->b∉V:=fun e=>by
  rcases hc2 with⟨_,h⟩|⟨h,_⟩
  ·exact h
  ·rw[e]at h;cases h
 have on1:b1=true->∃i:Nat,u1=(i:Int)/\V[i]? =some a:=fun e=>by
  rcases hc1 with⟨h,_⟩|⟨_,h⟩
  ·rw[e]at h;cases h
  ·exact h
 have on2:b2=true->∃i:Nat,u2=(i:Int)/\V[i]? =some b:=fun e=>by
  rcases hc2 with⟨h,_⟩|⟨_,h⟩
  ·rw[e]at h;cases h
  ·exact h
 refine a0C a7h rfl rfl hp' rfl rfl ?_
 simp only[cA,nA]
 refine a0i (b5r (k:=(a:Nat)) (vs:=[mp,ii (a:Nat)]) rfl rfl rfl a5d a2P c7q hm' hu1) rfl ?_
 simp only[cA,nA]
 refine a0a ⟨_,rfl,by simp⟩ ?_
 refine a0a ⟨_,rfl,by simp⟩ ?_
 refine a0C a7h rfl rfl hp' rfl rfl ?_
 simp only[cA,nA]
 refine a0i (b5r (k:=(b:Nat)) (vs:=[mp,ii (b:Nat)]) rfl rfl rfl a5d a2P c7q hm' hu2) rfl ?_
 simp only[cA,nA]
 refine a0a ⟨_,rfl,by simp⟩ ?_
 refine a0a ⟨_,rfl,by simp⟩ ?_
 refine a0a ⟨_,rfl⟩ ?_
 refine a0e (b:=b1) rfl (fun h1=> ?_) (fun h1=> ?_)
 ·skip
  refine a0a ⟨_,rfl⟩ ?_
  refine a0e (b:=b2) rfl (fun h2=> ?_) (fun h2=> ?_)
  ·skip
   obtain⟨i,rfl,hi⟩:=on1 h1
   obtain⟨k,rfl,hk⟩:=on2 h2
   have hin:i<n:=by have:=(List.getElem?_eq_some_iff.1 hi).1;omega
   have hkn:k<n:=by have:=(List.getElem?_eq_some_iff.1 hk).1;omega
   obtain⟨g,hg⟩:=d1k hn hin
   refine a0C a8q rfl rfl hq' rfl rfl ?_
   simp only[cA,nA]
   refine a0k a1B rfl rfl rfl rfl (fun _=>rfl) hv' (a2Q hg) rfl (fun _=>rfl) fun _=> ?_
   simp only[cA,nA]
   refine a0C a8q rfl rfl hq' rfl rfl ?_
   simp only[cA,nA]
   refine a0k a1B rfl rfl rfl rfl (fun _=>rfl) hv' (a2Q hg) rfl (fun _=>rfl) fun _=> ?_
   simp only[cA,nA]
   refine a0k el_long rfl rfl rfl rfl (fun _=>rfl) (ht.mx.se hg) (a3Y hkn) rfl (fun _=>rfl) fun _=> ?_
   simp only[cA,nA]
   refine a3n (a4C z (by omega) (by omega)) ht.xh rfl fun w1 X5 H5 a5 w5 b5 c5 d5=> ?_
   simp only[cA,nA]
   replace ht:=ht.grow a5 b5 c5 d5
   refine a3n (a4B ((ht.vl i k (Nat.zero_le _) (Nat.zero_le _) hin hkn)) w5 (hZ i k) (by unfold Lm;have:=a5x (i:=1) (j:=10000) (by decide);rw[Go.WD.BP_succ,Go.WD.BP_zero]at this;omega)) ht.xh rfl fun w2 X6 H6 a6 w6 b6 c6 d6=> ?_
   simp only[cA,nA]
   replace ht:=ht.grow a6 b6 c6 d6
   obtain⟨x6,rfl⟩:=a7u w6
   refine a1q el_long (a:=x6) rfl rfl rfl rfl (fun _=>rfl) (fun _=>rfl) (c2w H6 g) (ht.mx.row i g hg).2 (show k<(a9B M n i).length by rw[b5t];exact hkn) rfl (fun _=>rfl) rfl fun p9 u9 H9 l9 o9 _=> ?_
   simp only[cA,nA]
   exact a0f rfl ⟨X6,c2S M i k x6,a5.trans a6,⟨ht.x0,(ht.mx.cut hg ht.xh).trans l9,ht.mx.put hg l9 o9,ht.vl.addZ hnd hi hk w6⟩⟩
  ·skip
   exact a0f rfl ⟨X,M,PH.le.refl _,by rw[b5u (.inr (off2 (by simpa using h2)))];exact ht⟩
 ·skip
  exact a0f rfl ⟨X,M,PH.le.refl _,by rw[b5u (.inl (off1 (by simpa using h1)))];exact ht⟩
end
end Go.Proofs.YtkcjbfoejpfbbaaGreatDoor
/- Chapter 30: the number of spanning trees with some edges, and without some. -/
namespace Go.RX
open Go.RowKit
theorem b1v {P:Program} {T e:TypeId} {sz:Nat} {ag:Bool} {α:Type} {ce:α->List Value} {ve:α->Value} (E:El P T e sz ag ce ve) {G:Value->PH->Prop} {nx:List (List Value->PH->Prop)} {ρ:List Value} {H:PH} {o:Oper} {x y:Operand} {id i:Nat} {args:List SV} {t:Tree} {pf:Bool} {kl kc:IntKind} {m:Nat} {z:α} (hz:a0G P e=ve z) (ho:o.op= .makeSlice T x y) (hx:a0g [x,y] [.int kl (m:Nat),.int kc (m:Nat)] x= .int kl (m:Nat)) (hy:a0g [x,y] [.int kl (m:Nat),.int kc (m:Nat)] y= .int kc (m:Nat)) (hm:m<=68719476736) (ha:args.map (D P ρ)=[.int kl (m:Nat),.int kc (m:Nat)])
  (n:∀g H',H g=none->PH.le H H'->(∀k,k≠g->H' k=H k)->SO H H' e sz ce (.slice (some ⟨g,0,none⟩) m m) (List.replicate m z)->den P G t nx (ρ++[.slice (some ⟨g,0,none⟩) m m]) H'):den P G (.eff pf id i o args t) nx ρ H:=by
 obtain⟨ti,zv,h1,h2,h3,h4,h5⟩:=E.inf
 refine a0s (b1S ho hx hy E.und h1 h2 h3 (by have:=Nat.mul_le_mul h5 hm;omega) (by simp only[maxLen];omega)) ha ?_
 rintro v H' ⟨g,hg,rfl,rfl⟩
 refine⟨fun _=>PH.le_put hg _,n g _ hg (PH.le_put hg _) (fun k hk=>PH.put_ne _ _ hk) (b3d E hg (by simp) (by simp only[maxLen];omega) ?_)⟩
 have hzv:zv=ve z:=by
  rw[<-hz];unfold a0G;rw[h1];simp[h2]
 subst hzv
 have hpos:=E.pos
 have hcz:=E.cells z
 have hlz:=E.len z
 show(madeCells (ve z).cells (m*sz)).toList=_
 have hr:∀m,(List.replicate m z).flatMap ce=(List.range (m*sz)).map fun c=>(ce z)[c%sz]?.getD undef:=by
  intro m
  induction m with
  |zero=>simp
  |succ m ih=>
   rw[List.replicate_succ',List.flatMap_append,ih,Nat.add_mul,Nat.one_mul,List.range_add,List.map_append]
   congr 1
   simp only[List.flatMap_cons,List.flatMap_nil,List.append_nil]
   apply List.ext_getElem?
   intro c
   simp only[List.getElem?_map,List.getElem?_range]
   by_cases hc:c<sz
   ·rw[List.getElem?_range hc]
    simp only[Option.map_some]
    rw[Nat.add_comm,Nat.add_mul_mod_self_right,Nat.mod_eq_of_lt hc,List.getElem?_eq_getElem (by omega)];rfl
   ·rw[List.getElem?_eq_none (by omega),List.getElem?_eq_none (by simp;omega)];rfl
 rw[hr]
 apply List.ext_getElem?
 intro c
 simp only[madeCells,Array.toList_map,List.getElem?_map,Array.toList_range]
 by_cases hc:c<m*sz
 ·rw[List.getElem?_range hc]
  simp only[Option.map_some]
  congr 1
  have hm2:c%sz<sz:=Nat.mod_lt _ hpos
  rw[h4,<-hcz]
  have:c%sz<(ve z).cells.size:=by omega
  simp[this]
 ·rw[List.getElem?_eq_none (by simp;omega)];simp
end Go.RX
namespace Go.Proofs.YtkcjbfoejpfbbaaGreatDoor
open Go.Proofs.Tryz
open Go.RowKit Go.RX Go.GS
open Go.WD (BP a5x)
set_option maxRecDepth 100000
def wE (set:Nat) (es:List (Nat×Nat)) (W:List Int) (k:Nat):List (Nat×Nat):=(((a1A set 0 es).take k).filter fun y=>decide (((y.1:Nat):Int)∈W)).map (·.2)
def oE (set:Nat) (es:List (Nat×Nat)) (O:List Int) (f:Nat->Nat) (k:Nat):List (Nat×Nat):=(((a1A set 0 es).take k).filter fun y=> !decide (((y.1:Nat):Int)∈O)&& !decide (f y.2.1=f y.2.2)).map (·.2)
section
variable {set k:Nat} {es:List (Nat×Nat)} {W O:List Int} {f:Nat->Nat} {y:Nat×(Nat×Nat)}
theorem c2y (h:(a1A set 0 es)[k]? =some y) (hw:((y.1:Nat):Int)∈W):wE set es W (k+1)=wE set es W k++[y.2]:=by
 unfold wE;rw[take_snoc h,List.filter_append,List.map_append];simp[hw]
theorem d4A (h:(a1A set 0 es)[k]? =some y) (hw:((y.1:Nat):Int)∉W):wE set es W (k+1)=wE set es W k:=by
 unfold wE;rw[take_snoc h,List.filter_append,List.map_append];simp[hw]
theorem d4B (h:(a1A set 0 es)[k]? =some y) (hw:((y.1:Nat):Int)∉O) (hf:f y.2.1≠f y.2.2):oE set es O f (k+1)=oE set es O f k++[y.2]:=by
 unfold oE;rw[take_snoc h,List.filter_append,List.map_append];simp[hw,hf]
theorem d4C (h:(a1A set 0 es)[k]? =some y) (hw:((y.1:Nat):Int)∈O\/f y.2.1=f y.2.2):oE set es O f (k+1)=oE set es O f k:=by
 unfold oE;rw[take_snoc h,List.filter_append,List.map_append];rcases hw with hw|hw<;>simp[hw]
theorem a4F:∀(es:List (Nat×Nat)) (i:Nat) (y:Nat×(Nat×Nat)),y∈a1A set i es->i<=y.1/\es[y.1-i]? =some y.2/\bit set y.2.1=true/\bit set y.2.2=true
 |[],_,_,h=>by cases h
 |e::r,i,y,h=>by
  unfold a1A at h
  split at h
  ·rename_i hb
   rcases List.mem_cons.1 h with rfl|h
   ·simp only[Bool.and_eq_true]at hb
    exact⟨Nat.le_refl _,by simp,hb⟩
   ·obtain⟨h1,h2,h3⟩:=a4F r (i+1) y h
    refine⟨by omega,?_,h3⟩
    rw[show y.1-i=(y.1-(i+1))+1 by omega];exact h2
  ·obtain⟨h1,h2,h3⟩:=a4F r (i+1) y h
   refine⟨by omega,?_,h3⟩
   rw[show y.1-i=(y.1-(i+1))+1 by omega];exact h2
theorem a5f (h:(a1A set 0 es)[k]? =some y):es[y.1]? =some y.2/\bit set y.2.1=true/\bit set y.2.2=true:=by
 have:=a4F es 0 y (List.mem_of_getElem? h)
 simpa using this.2
theorem c7r:(oE set es O f k).length<=es.length:=by
 have hin:∀(es:List (Nat×Nat)) i,(a1A set i es).length<=es.length:=fun es=>by
  induction es with
  |nil=>intro i;exact Nat.le_refl _
  |cons e r ih=>
   intro i
   unfold a1A
   have:=ih (i+1)
   split
   ·simp only[List.length_cons];omega
   ·simp only[List.length_cons];omega
 unfold oE
 rw[List.length_map]
 exact Nat.le_trans (List.length_filter_le _ _) (Nat.le_trans (List.length_take_le' _ _) (hin es 0))
end
def Cyc (L:List (Nat×Nat)):Prop:=∃i e,L[i]? =some e/\lab (L.take i) e.1=lab (L.take i) e.2
theorem Cyc.not {L:List (Nat×Nat)} (h:Cyc L):¬Acy L L.length:=fun ha=>by
 obtain⟨i,e,h1,h2⟩:=h
 exact ha i e (List.getElem?_eq_some_iff.1 h1).1 h1 h2
theorem Cyc.app {L M:List (Nat×Nat)} (h:Cyc L):Cyc (L++M):=by
 obtain⟨i,e,h1,h2⟩:=h
 have hi:=(List.getElem?_eq_some_iff.1 h1).1
 exact⟨i,e,by rw[List.getElem?_append_left hi];exact h1,by rw[List.take_append_of_le_length (by omega)];exact h2⟩
theorem d4D {set:Nat} {es:List (Nat×Nat)} {W:List Int} {j k:Nat} (h:j<=k):∃M,wE set es W k=wE set es W j++M:=by
 unfold wE
 refine⟨((((a1A set 0 es).take k).drop j).filter fun y=>decide (((y.1:Nat):Int)∈W)).map (·.2),?_⟩
 rw[<-List.map_append,<-List.filter_append]
 congr 2
 conv=>lhs;rw[<-List.take_append_drop j ((a1A set 0 es).take k)]
 rw[List.take_take,Nat.min_eq_left h]
open Classical in
noncomputable def a7i (set:Nat) (es:List (Nat×Nat)) (W O:List Int):Int:=if Acy (wE set es W es.length) (wE set es W es.length).length then KK (oE set es O (lab (wE set es W es.length)) es.length) set (lab (wE set es W es.length))else 0
theorem a1Y (set:Nat):∀(es:List (Nat×Nat)) i,(a1A set i es).length<=es.length
 |[],_=>Nat.le_refl _
 |e::r,i=>by
  unfold a1A
  have:=a1Y set r (i+1)
  split
  ·simp only[List.length_cons];omega
  ·simp only[List.length_cons];omega
theorem d4E {set k:Nat} {es:List (Nat×Nat)} {W:List Int} (h:k=(a1A set 0 es).length):wE set es W k=wE set es W es.length:=by
 unfold wE
 rw[List.take_of_length_le (by omega),List.take_of_length_le (a1Y set es 0)]
theorem d4F {set k:Nat} {es:List (Nat×Nat)} {O:List Int} {f:Nat->Nat} (h:k=(a1A set 0 es).length):oE set es O f k=oE set es O f es.length:=by
 unfold oE
 rw[List.take_of_length_le (by omega),List.take_of_length_le (a1Y set es 0)]
def b1y (set:Nat) (f:Nat->Nat) (x:Nat):List Nat:=(List.range x).filter fun y=>bit set y&&decide (f y=y)&&decide (y≠f (lst set))
theorem c5M {set x:Nat} {f:Nat->Nat} (h1:bit set x=true) (h2:f x=x) (h3:x≠f (lst set)):b1y set f (x+1)=b1y set f x++[x]:=by
 unfold b1y;rw[List.range_succ,List.filter_append];simp[h1,h2,h3]
theorem b2M {set x:Nat} {f:Nat->Nat} (h:bit set x=false\/f x≠x\/x=f (lst set)):b1y set f (x+1)=b1y set f x:=by
 unfold b1y;rw[List.range_succ,List.filter_append]
 have:(bit set x&&decide (f x=x)&&decide (x≠f (lst set)))=false:=by
  rcases h with h|h|h
  ·simp[h]
  ·simp[h]
  ·rw[<-h];simp
 rw[show List.filter (fun y=>bit set y&&decide (f y=y)&&decide (y≠f (lst set))) [x]=[]from by rw[List.filter_cons_of_neg (by rw[this];simp)];rfl,List.append_nil]
theorem c5N {set x:Nat} {f:Nat->Nat}:x∉b1y set f x:=fun h=>by
 unfold b1y at h
 have:=(List.mem_filter.1 h).1
 rw[List.mem_range]at this;omega
theorem c5O (set x:Nat) (f:Nat->Nat):(b1y set f x).length<=x:=by
 unfold b1y
 exact Nat.le_trans (List.length_filter_le _ _) (by simp)
section
variable {B H H':PH} {go g n i:Nat} {gs:List Nat} {l:List Slc}
structure Mk (B H:PH) (go:Nat) (gs:List Nat) (n:Nat):Prop where
 bh:PH.le B H
 bo:B go=none
 out:SO (a5Q H go) H 227 1 (fun s:Slc=>[vs s]) (vs (rsl n go)) (gs.map (rsl n)++List.replicate (n-gs.length) (none,0,0))
 rows:MX B H gs n fun _ _=>(false,(none,0,0))
 off:go∉gs
 le:gs.length<=n
theorem d1o {α:Type} {e:TypeId} {sz:Nat} {ce:α->List Value} {l:List α} (h:SO (a5Q H g) H e sz ce (vs (rsl n g)) l):∃ob,H g=some ob/\∀X:PH,X g=some ob->SE X sz ce (vs (rsl n g)) l:=by
 obtain⟨h1,⟨h2,h3⟩|⟨g',cap,cur,h2,h3,h4,h5,h6,h7,h8⟩⟩:=h
 ·cases h2
 ·simp only[vs,rsl,Value.slice.injEq,Option.some.injEq,Addr.mk.injEq]at h2
  obtain⟨⟨rfl,-,-⟩,h9,h10⟩:=h2
  refine⟨_,h4,fun X hX=>⟨h1,some ⟨g,0,none⟩,cap,by simp only[vs,rsl];rw[<-h9,<-h10],h5,h6,.inr ⟨g,0,cur,e,_,rfl,hX,by rw[List.drop_zero];exact h8⟩⟩⟩
theorem b2N {α:Type} {e:TypeId} {sz:Nat} {ce:α->List Value} {l:List α} {X:PH} (h:SO X H e sz ce (vs (rsl n g)) l):SO (a5Q H g) H e sz ce (vs (rsl n g)) l:=by
 obtain⟨h1,⟨h2,h3⟩|⟨g',cap,cur,h2,h3,h4,h5⟩⟩:=h
 ·cases h2
 ·simp only[vs,rsl,Value.slice.injEq,Option.some.injEq,Addr.mk.injEq]at h2
  obtain⟨⟨rfl,-,-⟩,h9,h10⟩:=h2
  exact⟨h1,.inr ⟨g,cap,cur,by simp only[vs,rsl];rw[<-h9,<-h10],a7g _ _,h4,h5⟩⟩
theorem Mk.row (h:Mk B H go gs n) (hg:H g=none) (hl:PH.le H H') (ho:SO H H' 147 2 lc (vs (rsl n g)) (List.replicate n (false,(none,0,0)))):MX B H' (gs++[g]) n (fun _ _=>(false,(none,0,0)))/\SO (a5Q H' go) H' 227 1 (fun s:Slc=>[vs s]) (vs (rsl n go)) (gs.map (rsl n)++List.replicate (n-gs.length) (none,0,0))/\go≠g:=by
 have hne:go≠g:=fun e=>by
  obtain⟨ob,h1,_⟩:=d1o h.out
  rw[e,hg]at h1;cases h1
 have hgs:g∉gs:=fun hm=>by
  obtain⟨i,hi⟩:=List.mem_iff_getElem?.1 hm
  obtain⟨ob,h1⟩:=h.rows.bound hi
  rw[hg]at h1;cases h1
 have hB:B g=none:=by
  cases e:B g with
  |none=>rfl
  |some o=>rw[h.bh _ _ e]at hg;cases hg
 refine⟨⟨?_,h.rows.n64,fun i b hb=> ?_⟩,a5e h.out fun ob ho=>hl _ _ ho,hne⟩
 ·rw[List.nodup_append]
  exact⟨h.rows.nd,by simp,fun a ha b hb=>by simp only[List.mem_singleton]at hb;subst hb;intro e;subst e;exact hgs ha⟩
 ·by_cases hi:i<gs.length
  ·rw[List.getElem?_append_left hi]at hb
   exact⟨(h.rows.row i b hb).1,a5e (h.rows.row i b hb).2 fun ob ho=>hl _ _ ho⟩
  ·rw[List.getElem?_append_right (by omega)]at hb
   have:i-gs.length=0:=by
    have:=(List.getElem?_eq_some_iff.1 hb).1
    simp at this;omega
   rw[this]at hb
   simp only[List.getElem?_cons_zero,Option.some.injEq]at hb
   subst hb
   refine⟨hB,?_⟩
   have e:a9B (fun _ _=>(false,(none,0,0))) n i=List.replicate n (false,(none,0,0)):=by
    unfold a9B
    rw[List.map_const'];simp
   rw[e]
   exact b2N ho
theorem Mk.set (h:Mk B H go gs n) (hM:MX B H' (gs++[g]) n (fun _ _=>(false,(none,0,0)))) (hgo:go≠g) {H2:PH} (hi:gs.length<n) (hb:PH.le B H') (hl:PH.le (a5Q H' go) H2) (ho:SO (a5Q H' go) H2 227 1 (fun s:Slc=>[vs s]) (vs (rsl n go)) ((gs.map (rsl n)++List.replicate (n-gs.length) (none,0,0)).set gs.length (rsl n g))):Mk B H2 go (gs++[g]) n:=by
 have hoff:go∉gs++[g]:=by simp only[List.mem_append,List.mem_singleton];rintro(e|e);exact h.off e;exact hgo e
 refine⟨fun k ob hk=>hl _ _ (by unfold a5Q;rw[if_neg (fun e=>by subst e;rw[h.bo]at hk;cases hk)];exact hb _ _ hk),h.bo,?_,⟨hM.nd,hM.n64,fun i b hb=> ?_⟩,hoff,by simp;omega⟩
 ·have e:(gs.map (rsl n)++List.replicate (n-gs.length) (none,0,0)).set gs.length (rsl n g)=(gs++[g]).map (rsl n)++List.replicate (n-(gs++[g]).length) (none,0,0):=by
   obtain⟨k,hk⟩:∃k,n-gs.length=k+1:=⟨n-gs.length-1,by omega⟩
   rw[hk,List.length_append,List.length_singleton,show n-(gs.length+1)=k by omega,List.replicate_succ]
   simp[List.set_append]
  rw[e]at ho
  exact b2N ho
 ·have hne:b≠go:=fun e=>hoff (e ▸ List.mem_of_getElem? hb)
  exact⟨(hM.row i b hb).1,a5e (hM.row i b hb).2 fun ob ho=>hl _ _ (by unfold a5Q;rw[if_neg hne];exact ho)⟩
theorem Mk.done (h:Mk B H go gs n) (hn:gs.length=n):∃X,PH.le B X/\SE X 1 (fun s:Slc=>[vs s]) (vs (rsl n go)) (gs.map (rsl n))/\Mt X X H gs n 0 (fun _ _=>(false,(none,0,0))) (fun _ _=>0):=by
 obtain⟨ob,h1,h2⟩:=d1o h.out
 rw[hn,Nat.sub_self,List.replicate_zero,List.append_nil]at h2
 refine⟨B.put go ob,PH.le_put h.bo _,h2 _ (PH.put_self _ _ _),PH.le.refl _,fun k o hk=> ?_,⟨h.rows.nd,h.rows.n64,fun i b hb=>⟨?_,(h.rows.row i b hb).2⟩⟩,fun i j _ _ _ _=>d1j _⟩
 ·by_cases e:k=go
  ·subst e;rw[PH.put_self]at hk;rw[h1];exact hk
  ·rw[PH.put_ne _ _ e]at hk;exact h.bh _ _ hk
 ·rw[PH.put_ne _ _ (fun e=>h.off (by rw[<-e];exact List.mem_of_getElem? hb))]
  exact(h.rows.row i b hb).1
end
end Go.Proofs.YtkcjbfoejpfbbaaGreatDoor
/- Chapter 30: the number of spanning trees with some edges, and without some. -/
namespace Go.Proofs.YtkcjbfoejpfbbaaGreatDoor
open Go.Proofs.Tryz
open Go.RowKit Go.RX Go.GS
open Go.WD (BP a5x)
set_option maxRecDepth 100000
theorem a7j:prog.underlying 168=some (.map 3 4):=by kernel_rfl
theorem c2z:∀w,(zeroValue 4).run prog w= .ok (.bool false) w:=fun w=>by
 rfl
theorem a5R:a7q prog 161=true:=by kernel_rfl
theorem d4G:a0G prog 227=vs (none,0,0):=by kernel_rfl
theorem a3C {H:PH} {m:Value} {S:List Int} (h:MB H m S):m.cells= #[m]/\a7l m=true:=by
 obtain⟨_,⟨rfl,_⟩|⟨r,_,_,rfl,_⟩⟩:=h<;>exact⟨rfl,rfl⟩
theorem c7s {m:Value} (hc:m.cells= #[m]) (h1:a7l m=true):m.cells.size=1/\a0u m.cells:=by
 rw[hc]
 exact ⟨rfl, fun c hc => by have hc : c ∈ [m] := by simpa using hc
                            rw[List.mem_singleton]at hc;subst hc;exact h1⟩
theorem c2A {H2:PH} {r pb:Nat} {T:TypeId} (hr:H2 r=none) (hp:(H2.put r (.map #[] 0)) pb=none):∃B H4,((H2.put r (.map #[] 0)).put pb (.cells #[.map none] T (0,0))).put pb (.cells ((#[.map none]:Array Value).setIfInBounds 0 (.map (some r))) T (0,0))=H4/\PH.le H2 B/\B pb=some (.cells #[.map (some r)] T (0,0))/\PH.le B H4/\MO B H4 (.map (some r)) (plL []):=by
 have hpr:pb≠r:=fun e=>by subst e;rw[PH.put_self]at hp;cases hp
 have hp2:H2 pb=none:=by rwa[PH.put_ne _ _ hpr]at hp
 refine⟨H2.put pb (.cells #[.map (some r)] T (0,0)),_,rfl,PH.le_put hp2 _,PH.put_self _ _ _,fun k ob hk=> ?_,List.nodup_nil,r,[],0,rfl,?_,?_,rfl⟩
 ·by_cases e:k=pb
  ·subst e;rw[PH.put_self]at hk⊢;exact hk
  ·rw[PH.put_ne _ _ e]at hk
   rw[PH.put_ne _ _ e,PH.put_ne _ _ e,PH.put_ne _ _ (fun e2=>by subst e2;rw[hr]at hk;cases hk)]
   exact hk
 ·rw[PH.put_ne _ _ (fun e=>hpr e.symm)];exact hr
 ·rw[PH.put_ne _ _ (fun e=>hpr e.symm),PH.put_ne _ _ (fun e=>hpr e.symm),PH.put_self];rfl
theorem d1p {H5 H7:PH} {go qb n:Nat} {T:TypeId} (hn:n<=64) (hg:H5 go=none) (hl:PH.le H5 H7) (hk:∀k,k≠go->H7 k=H5 k) (ho:SO H5 H7 227 1 (fun s:Slc=>[vs s]) (vs (rsl n go)) (List.replicate n (none,0,0))) (hq:H7 qb=none):
  ∃B1 H8,(H7.put qb (.cells #[.slice none 0 0] T (0,0))).put qb (.cells ((#[.slice none 0 0]:Array Value).setIfInBounds 0 (vs (rsl n go))) T (0,0))=H8/\PH.le H5 B1/\B1 qb=some (.cells #[vs (rsl n go)] T (0,0))/\Mk B1 H8 go [] n:=by
 have h0:=b2N ho
 have hne:qb≠go:=fun e=>by
  obtain⟨ob,h1,_⟩:=d1o h0
  rw[<-e,hq]at h1;cases h1
 have hq5:H5 qb=none:=by rw[<-hk qb hne];exact hq
 refine⟨H5.put qb (.cells #[vs (rsl n go)] T (0,0)),_,rfl,PH.le_put hq5 _,PH.put_self _ _ _,fun k ob hb=> ?_,by rw[PH.put_ne _ _ hne.symm];exact hg,a5e h0 fun ob hob=> ?_,⟨List.nodup_nil,hn,fun i g h=>by simp at h⟩,by simp,Nat.zero_le _⟩
 ·by_cases e:k=qb
  ·subst e;rw[PH.put_self]at hb⊢;exact hb
  ·rw[PH.put_ne _ _ e]at hb
   rw[PH.put_ne _ _ e,PH.put_ne _ _ e]
   exact hl _ _ hb
 ·rw[PH.put_ne _ _ hne.symm,PH.put_ne _ _ hne.symm];exact hob
theorem Mk.len {B H:PH} {go n:Nat} {gs:List Nat} (h:Mk B H go gs n):(gs.map (rsl n)++List.replicate (n-gs.length) (none,0,0)).length=n:=by
 have:=h.le
 simp;omega
theorem d1q {E:List (Nat×Nat)} {e:Nat×Nat} {f:Nat->Nat} {V:List Nat} {i k:Nat} (hi:i<V.length) (hk:k<V.length) (hne:f e.1≠f e.2):
  addZ V (addZ V (addZ V (addZ V (c5w E f V) (f e.1) (f e.1) 1) (f e.2) (f e.2) 1) (f e.1) (f e.2) (-1)) (f e.2) (f e.1) (-1) i k=c5w (E++[e]) f V i k:=by
 have hF:∀(E:List (Nat×Nat)) (u v:Nat->Int),Fm (E++[e]) u v=Fm E u v+dl e u*dl e v:=fun E=>by
  induction E with
  |nil=>intro u v;simp[Fm]
  |cons x E ih=>intro u v;simp only[List.cons_append,Fm];rw[ih];omega
 unfold c5w
 rw[hF,b1q,b1q]
 have e1:V[i]? =some (V.getD i 0):=by rw[List.getD_eq_getElem?_getD,List.getElem?_eq_getElem hi];rfl
 have e2:V[k]? =some (V.getD k 0):=by rw[List.getD_eq_getElem?_getD,List.getElem?_eq_getElem hk];rfl
 unfold addZ
 rw[e1,e2]
 generalize V.getD i 0=x at*
 generalize V.getD k 0=y at*
 generalize f e.1=a at*
 generalize f e.2=b at*
 simp only[Option.some.injEq]
 by_cases x1:a=x<;>by_cases x2:b=x<;>by_cases y1:a=y<;>by_cases y2:b=y<;>(try (subst_vars;exact absurd rfl hne))<;>simp_all<;>(try split)<;>(try omega)
theorem b2O {V:List Nat} {Z:Nat->Nat->Int} {a b:Nat} {z:Int} {m:Nat} (h:∀i k,(Z i k).natAbs<=m) (hz:z.natAbs<=1):∀i k,(addZ V Z a b z i k).natAbs<=m+1:=fun i k=>by
 unfold addZ
 have:=h i k
 split<;>omega
theorem b5v {z:Int} {m:Nat} (h:z.natAbs<=m) (hm:m<=1000):Lm z:=by
 have:BP 1<=BP 10000:=a5x (by decide)
 rw[Go.WD.BP_succ,Go.WD.BP_zero]at this
 unfold Lm;omega
theorem d4H {F:Nat->Nat->Int} (h:∀i j,(F i j).natAbs<=200):∀k i j,k<=64->Sm (gk F k i j):=fun k i j hk=>by
 have h1:=c5v h k i j
 obtain⟨K,hK⟩:∃K,K=65:=⟨_,rfl⟩
 have h2:((k+1)*200)^(k+1)<=(2^14)^K:=Nat.le_trans (Nat.pow_le_pow_left (by omega) _) (Nat.pow_le_pow_right (by decide) (by omega))
 have h3:∀M,100<=M->((2:Nat)^14)^K<BP M:=fun M hM=>by
  unfold BP
  rw[<-Nat.pow_mul]
  exact Nat.pow_lt_pow_right (by decide) (by omega)
 have h3:=h3 100 (Nat.le_refl _)
 unfold Sm;omega
theorem c7t {s:Nat} {es:List (Nat×Nat)} {W O:List Int} (h:Cyc (wE s es W es.length)):a7i s es W O=0:=if_neg h.not
theorem d1r {s:Nat} {es:List (Nat×Nat)} {W O:List Int} {f:Nat->Nat} (h:Acy (wE s es W es.length) (wE s es W es.length).length) (hf:lab (wE s es W es.length)=f):a7i s es W O=Dg (oE s es O f es.length) f (b2G s f).reverse:=by
 subst hf;exact if_pos h
def fcn (pb qb:Nat):Value:= .func (.func 162) #[] #[.pointer (some ⟨pb,0,none⟩),.pointer (some ⟨qb,0,none⟩)]
def frt (vp:Value):Value:= .func (.func 161) #[vp] #[]
theorem a9u {H:PH} {n s:Nat} {w mw mo:Value} {es:List (Nat×Nat)} {W O:List Int} (hw:SG H w es) (hg:GV n es) (hs:s<M64) (h0:s≠0) (hT:Tb H) (hW:MB H mw W) (hO:MB H mo O):
  Con prog 92 [gv n w,GS.uv s,mw,mo] H fun u H'=>PH.le H H'/\Lw H' u (a7i s es W O):=by
 refine a0d a0r c0O (by kernel_rfl) rfl ?_
 have hwc:=hw.cells
 have hw1:=a0W hw
 have h64:=hg.n64
 have hlen:=hg.len
 have he64:∀e∈es,e.1<=64/\e.2<=64:=fun e he=>by have:=hg.ed e he;omega
 have hil:(a1A s 0 es).length<=200:=Nat.le_trans (a1Y s es 0) hlen
 have hlx:∀{f:Nat->Nat} {x:Nat},Lb f->x<64->f x<64:=fun hf hx=>Nat.lt_of_le_of_lt (hf.le _) hx
 refine a0a (a1m hw) ?_
 refine a0a (c7s (a3C hW).1 (a3C hW).2) ?_
 refine a0a (c7s (a3C hO).1 (a3C hO).2) ?_
 refine a0h (b4x (H:=H)) rfl ?_
 rintro _ H1 ⟨l1,vp,rfl,o1⟩
 refine⟨fun h=>(nomatch h),?_⟩
 simp only[cA,nA]
 refine a0a ⟨rfl,fun c hc=>by have hc:c∈[vp]:=hc;rw[List.mem_singleton]at hc;subst hc;exact a0W o1.se⟩ ?_
 refine a0h (a9t (H:=H1) hwc hw1) rfl ?_
 rintro _ _ ⟨bi,ji,hbj,rfl,hd1,rfl⟩
 refine⟨fun h=>(nomatch h),?_⟩
 simp only[cA,nA]
 refine b3f (X:=H1) (K:=b1x bi ji (ii n) w 38 s) (Ro:=H) (fun pre vals X'=>PH.le H X'/\vals=[a0G prog 147]/\∃q,PO H X' vp q/\Par q (lab (wE s es W pre.length))/\Acy (wE s es W pre.length) (wE s es W pre.length).length) (fun _ vals X'=>PH.le H X'/\∃u,vals=[u]/\Lw X' u 0/\Cyc (wE s es W es.length)) (a4z hs hbj he64 (by omega) hw hwc) a4y hd1 rfl (fun _ _ _ h=>h.1) ⟨l1,rfl,List.range 64,o1,Par.id,fun i e hi=>absurd hi (Nat.not_lt_zero _)⟩ ?_ ?_ ?_
 ·rintro pre xs vals X' ⟨y,hy,rfl⟩ _ ⟨m1,rfl,q,oq,hP,hA⟩
  refine⟨rfl,?_⟩
  simp only[cA,nA]
  refine a0a (el_edge.vcells y.2) ?_
  have hya:=a5f hy
  have hyl:=he64 y.2 (List.mem_of_getElem? hya.1)
  have hyb:=hg.mem hya.1
  refine a0i (b1u (k:=(y.1:Nat)) (vs:=[mw,ii (y.1:Nat)]) rfl rfl rfl a7j a2P c2z (hW.mono m1)) (a1s (a3W rfl (a3C hW).1) rfl) ?_
  simp only[cA,nA]
  refine a0a ⟨_,rfl⟩ ?_
  refine a0e (b:=decide (((y.1:Nat):Int)∈W)) rfl (fun hin=> ?_) (fun hin=> ?_)
  ·skip
   have hin:=of_decide_eq_true hin
   refine a0h (b4z m1 oq hP (by omega) (by omega)) rfl ?_
   rintro _ X2 ⟨rfl,m2,q2,oq2,hP2⟩
   refine⟨fun h=>(nomatch h),?_⟩
   simp only[cA,nA]
   refine a0a ⟨_,rfl⟩ ?_
   refine a0e (b:=decide (¬(lab (wE s es W pre.length) y.2.1≠lab (wE s es W pre.length) y.2.2))) (by show Value.bool (!decide _)=_;congr 1;rw[Bool.eq_iff_iff];simp) (fun h5=> ?_) (fun h5=> ?_)
   ·replace h5:=of_decide_eq_true h5
    refine a0h (a4C 0 (by omega) (by omega)) rfl ?_
    rintro u3 X3 ⟨m3,w3⟩
    refine⟨fun h=>(nomatch h),?_⟩
    simp only[cA,nA]
    refine a0a w3.rq ?_
    have hcy:Cyc (wE s es W es.length):=by
     obtain⟨M,hM⟩:=d4D (set:=s) (es:=es) (W:=W) (j:=pre.length+1) (k:=es.length) (by have:=(List.getElem?_eq_some_iff.1 hy).1;have:=a1Y s es 0;omega)
     rw[hM,c2y hy hin]
     refine Cyc.app ⟨(wE s es W pre.length).length,y.2,by simp,?_⟩
     rw[List.take_left]
     exact Classical.byContradiction h5
    exact⟨m2.trans m3,u3,rfl,w3,hcy⟩
   ·replace h5:=of_decide_eq_false h5
    have h5:=Classical.byContradiction h5
    exact⟨m2,rfl,q2,oq2,by rw[List.length_append,List.length_singleton,c2y hy hin,a2c];exact hP2,by rw[List.length_append,List.length_singleton,c2y hy hin,List.length_append];exact hA.snoc h5⟩
  ·skip
   have hin:=of_decide_eq_false hin
   exact⟨m1,rfl,q,oq,by rw[List.length_append,List.length_singleton,d4A hy hin];exact hP,by rw[List.length_append,List.length_singleton,d4A hy hin];exact hA⟩
 ·rintro xs vals X' K' hxl hd _ ⟨m1,rfl,q,oq,hP,hA⟩
  simp only[cA,nA]
  rw[d4E hxl]at hP hA
  have hL:wE s es W es.length=wE s es W es.length:=rfl
  generalize hf:lab (wE s es W es.length)=f at hP
  have hlb:=hP.lb
  have m2:PH.le H (X'.or K'):=m1.trans (PH.le_or _ _)
  have oq2:=oq.mono (PH.le_or X' K')
  generalize X'.or K'=H2 at m2 oq2⊢
  refine a0s (a3S rfl) rfl ?_
  rintro _ _ ⟨r,hr,rfl,rfl⟩
  refine⟨fun h=>(nomatch h),?_⟩
  simp only[cA,nA]
  refine a2u (cs:= #[.map none]) (by kernel_rfl) fun pb hpb=> ?_
  simp only[cA,nA]
  refine b1X (u:= .map (some r)) a7h rfl rfl rfl (PH.put_self _ _ _) (by simp) rfl rfl rfl (fun h=>(nomatch h)) ?_
  simp only[cA,nA]
  obtain⟨B,H4,hH4,hHB,hBp,hBH,hMO⟩:=c2A (T:=201) hr hpb
  rw[hH4]
  have hps:=oq2.se.mono hHB
  have hTB:=hT.mono (m2.trans hHB)
  refine a6u (c2v rfl) rfl ?_
  simp only[cA,nA]
  refine a0a ⟨rfl,fun c hc=>by simp[D,Value.cells]at hc;subst hc;rfl⟩ ?_
  refine a1e (b0O (hTB.mono hBH) hs) rfl ?_
  simp only[cA,nA]
  refine a0s (Go.RZ.opn_callw (P:=prog) (ws:=[ii (lst s:Nat)]) (bs:= #[vp]) (caps:= #[]) (vs:=[frt vp,ii (lst s:Nat)]) rfl rfl rfl a5R (a3B (hps.mono hBH) hP (a1D hs (c2k hs h0)))) rfl ?_
  rintro _ _ ⟨rfl,rfl⟩
  refine⟨fun _=>PH.le.refl _,?_⟩
  simp only[cA,nA]
  refine a0n (α:=Nat) (fun x=>[ii (x:Nat)]) (fun x=>fun H'=>x<=64/\PH.le B H'/\MO B H' (.map (some r)) (plL (b1y s f x))) (fun x=>64-x) (0) rfl (⟨Nat.zero_le _,hBH,hMO⟩) fun x H5 ⟨hx,b5,o5⟩=> ?_
  simp only[cA,nA]
  refine a0a ⟨_,rfl⟩ ?_
  refine a0e (b:=decide (((x:Nat):Int)<64)) rfl (fun h=> ?_) (fun h=> ?_)
  ·replace h:=of_decide_eq_true h
   refine a0a ⟨_,rfl⟩ ?_
   refine a0a ⟨_,_,rfl⟩ ?_
   refine a0a (by show(0:Int)<=(x:Nat);omega) ?_
   refine a0e (b:=bit s x) (b7D rfl hs rfl (by omega)) (fun hb=> ?_) (fun hb=> ?_)
   ·skip
    refine a0s (Go.RZ.opn_callw (P:=prog) (ws:=[ii (x:Nat)]) (bs:= #[vp]) (caps:= #[]) (vs:=[frt vp,ii (x:Nat)]) rfl rfl rfl a5R (a3B (hps.mono b5) hP (by omega))) rfl ?_
    rintro _ _ ⟨rfl,rfl⟩
    refine⟨fun h=>(nomatch h),?_⟩
    simp only[cA,nA]
    refine a0a ⟨_,rfl⟩ ?_
    refine a0e (b:=decide (f x=x)) (bEn _ _) (fun h6=> ?_) (fun h6=> ?_)
    ·replace h6:=of_decide_eq_true h6
     refine a0a ⟨_,rfl⟩ ?_
     refine a0e (b:=decide (x≠f (lst s))) (by show Value.bool (((x:Nat):Int) !=((f (lst s):Nat):Int))=_;rw[bN];congr 1;apply decide_eq_decide.2;omega) (fun h7=> ?_) (fun h7=> ?_)
     ·replace h7:=of_decide_eq_true h7
      refine a0C a7h rfl rfl (b5 _ _ hBp) rfl rfl ?_
      simp only[cA,nA]
      refine a0C a7h rfl rfl (b5 _ _ hBp) rfl rfl ?_
      simp only[cA,nA]
      refine a0i (a9s (vs:=[.map (some r)]) rfl rfl a5d o5.mi) rfl ?_
      simp only[cA,nA]
      rw[b2L]
      refine a0s (c5F (P:=prog) (k:=((x:Nat):Int)) (v:=(((b1y s f x).length:Nat):Int)) (vs:=[.map (some r),ii (x:Nat),ii ((b1y s f x).length:Nat)]) rfl rfl rfl rfl a5d a2P b5 o5) rfl ?_
      rintro _ H6 ⟨rfl,b6,o6,-⟩
      refine⟨fun h=>(nomatch h),?_⟩
      simp only[cA,nA]
      exact⟨x+1,by omega,(a5E (a0x rfl (by omega))),⟨by omega,b6,by rw[c5M hb h6 h7,<-d1n c5N];exact o6⟩⟩
     ·replace h7:=of_decide_eq_false h7
      exact⟨x+1,by omega,(a5E (a0x rfl (by omega))),⟨by omega,b5,by rw[b2M (.inr (.inr (Classical.byContradiction h7)))];exact o5⟩⟩
    ·replace h6:=of_decide_eq_false h6
     exact⟨x+1,by omega,(a5E (a0x rfl (by omega))),⟨by omega,b5,by rw[b2M (.inr (.inl h6))];exact o5⟩⟩
   ·skip
    exact⟨x+1,by omega,(a5E (a0x rfl (by omega))),⟨by omega,b5,by rw[b2M (.inl (by simpa using hb))];exact o5⟩⟩
  ·replace h:=of_decide_eq_false h
   obtain rfl:x=64:=by omega
   have hVl:=c5O s 64 f
   have hVd:(b1y s f 64).Nodup:=c7f s f
   have hVe:b1y s f 64=b2G s f:=rfl
   have hmi:=o5.mi
   generalize hV:b1y s f 64=V at hVl hVd hVe hmi o5
   generalize hn:V.length=m at hVl
   refine a0C a7h rfl rfl (b5 _ _ hBp) rfl rfl ?_
   simp only[cA,nA]
   refine a0i (a9s (vs:=[.map (some r)]) rfl rfl a5d hmi) rfl ?_
   simp only[cA,nA]
   rw[b2L,hn]
   refine b1v a1B (z:=(none,0,0)) d4G rfl rfl rfl (by omega) rfl fun go H7 hg7 l7 k7 o7=> ?_
   simp only[cA,nA]
   refine a2u (cs:= #[.slice none 0 0]) (by kernel_rfl) fun qb hqb=> ?_
   simp only[cA,nA]
   refine b1X (u:=vs (rsl m go)) a8q rfl rfl rfl (PH.put_self _ _ _) (by simp) rfl rfl rfl (fun h=>(nomatch h)) ?_
   simp only[cA,nA]
   obtain⟨B1,H8,hH8,hB5,hBq,hMk⟩:=d1p (T:=226) hVl hg7 l7 k7 o7 hqb
   rw[show Value.slice (some ⟨go,0,none⟩) m m=vs (rsl m go)from rfl,hH8]
   have hp1:=hB5 _ _ (b5 _ _ hBp)
   have hm1:=hmi.mono hB5
   refine a0C a8q rfl rfl (hMk.bh _ _ hBq) rfl rfl ?_
   simp only[cA,nA]
   refine a0j a1B rfl rfl hMk.out.se rfl ?_
   simp only[cA,nA]
   rw[hMk.len]
   refine a0n (α:=Nat×List Nat) (fun⟨i,gs⟩=>[ii (i:Nat)]) (fun⟨i,gs⟩=>fun H'=>gs.length=i/\Mk B1 H' go gs m) (fun⟨i,gs⟩=>m-i) ((0,[])) rfl (⟨rfl,hMk⟩) fun⟨i,gs⟩ H9 ⟨hgi,k9⟩=> ?_
   simp only[cA,nA]
   refine a0a ⟨_,rfl⟩ ?_
   refine a0a ⟨_,rfl⟩ ?_
   refine a0e (b:=decide (((i:Nat):Int)<(m:Nat))) rfl (fun h=> ?_) (fun h=> ?_)
   ·replace h:=of_decide_eq_true h
    subst hgi
    refine a0C a8q rfl rfl (k9.bh _ _ hBq) rfl rfl ?_
    simp only[cA,nA]
    refine a0C a7h rfl rfl (k9.bh _ _ hp1) rfl rfl ?_
    simp only[cA,nA]
    refine a0i (a9s (vs:=[.map (some r)]) rfl rfl a5d (hm1.mono k9.bh)) rfl ?_
    simp only[cA,nA]
    rw[b2L,hn]
    refine b1v el_long (z:=(false,(none,0,0))) d4u rfl rfl rfl (by omega) rfl fun g H10 hg10 l10 k10 o10=> ?_
    simp only[cA,nA]
    obtain⟨r1,r2,r3⟩:=k9.row hg10 l10 o10
    refine a1q a1B (a:=(rsl m g)) rfl rfl rfl rfl (fun _=>rfl) (fun _=>rfl) (c2w H10 go) r2 (show gs.length<(gs.map (rsl m)++List.replicate (m-gs.length) (none,0,0)).length by rw[k9.len];omega) rfl (fun _=>rfl) rfl fun p u H11 l11 o11 _=> ?_
    simp only[cA,nA]
    exact⟨(gs.length+1,gs++[g]),by show m-(gs.length+1)<m-gs.length;omega,(a5E (a0x rfl (by omega))),⟨by simp,k9.set r1 r3 (by omega) (k9.bh.trans l10) l11 o11⟩⟩
   ·replace h:=of_decide_eq_false h
    have hgm:gs.length=m:=by have:=k9.le;omega
    obtain⟨X0,x0,hrows,hMt⟩:=k9.done hgm
    have hX0:PH.le H X0:=(m2.trans hHB).trans (b5.trans (hB5.trans x0))
    have hpsX:=hps.mono (b5.trans (hB5.trans x0))
    refine a6u (a2k (vs:=[.pointer (some ⟨pb,0,none⟩),.pointer (some ⟨qb,0,none⟩)]) rfl rfl) rfl ?_
    simp only[cA,nA]
    refine a0a ⟨rfl,fun c hc=>by simp[D,Value.cells]at hc;subst hc;rfl⟩ ?_
    refine a0h (a9t (H:=H9) hwc hw1) rfl ?_
    rintro _ _ ⟨b2,j2,hbj2,rfl,hd2,rfl⟩
    refine⟨fun h=>(nomatch h),?_⟩
    simp only[cA,nA]
    refine b3f (X:=H9) (K:=b1x b2 j2 (ii n) w 38 s) (Ro:=H) (fun pre vals X'=>PH.le H X'/\vals=[]/\∃Xw M,Mt X0 Xw X' gs m 0 M (c5w (oE s es O f pre.length) f V)) (fun _ _ _=>False) (a4z hs hbj2 he64 (by omega) hw hwc) a4y hd2 rfl (fun _ _ _ h=>h.1) ⟨hX0.trans hMt.xh,rfl,X0,_,hMt.x0,hMt.xh,hMt.mx,hMt.vl⟩ ?_ ?_ ?_
    ·rintro pre xs vals X2 ⟨y,hy,rfl⟩ _ ⟨m1,rfl,Xw,M,ht⟩
     refine⟨rfl,?_⟩
     simp only[cA,nA]
     refine a0a (el_edge.vcells y.2) ?_
     have hya:=a5f hy
     have hyb:=hg.mem hya.1
     have hpw:=hpsX.mono (ht.x0.trans ht.xh)
     refine a0s (Go.RZ.opn_callw (P:=prog) (ws:=[ii (y.2.1:Nat)]) (bs:= #[vp]) (caps:= #[]) (vs:=[frt vp,ii (y.2.1:Nat)]) rfl rfl rfl a5R (a3B hpw hP (by omega))) rfl ?_
     rintro _ _ ⟨rfl,rfl⟩
     refine⟨fun _=>PH.le.refl _,?_⟩
     simp only[cA,nA]
     refine a0s (Go.RZ.opn_callw (P:=prog) (ws:=[ii (y.2.2:Nat)]) (bs:= #[vp]) (caps:= #[]) (vs:=[frt vp,ii (y.2.2:Nat)]) rfl rfl rfl a5R (a3B hpw hP (by omega))) rfl ?_
     rintro _ _ ⟨rfl,rfl⟩
     refine⟨fun _=>PH.le.refl _,?_⟩
     simp only[cA,nA]
     refine a0i (b1u (k:=(y.1:Nat)) (vs:=[mo,ii (y.1:Nat)]) rfl rfl rfl a7j a2P c2z (hO.mono m1)) (a1s (a3W rfl (a3C hO).1) rfl) ?_
     simp only[cA,nA]
     refine a0a ⟨_,rfl⟩ ?_
     refine a0e (b:=decide (((y.1:Nat):Int)∈O)) rfl (fun hin=> ?_) (fun hin=> ?_)
     ·skip
      exact⟨m1,rfl,Xw,M,by rw[List.length_append,List.length_singleton,d4C hy (.inl (of_decide_eq_true hin))];exact ht⟩
     ·skip
      have hin:=of_decide_eq_false hin
      refine a0a ⟨_,rfl⟩ ?_
      refine a0a ⟨_,rfl⟩ ?_
      refine a0e (b:=decide (f y.2.1=f y.2.2)) (bEn _ _) (fun h6=> ?_) (fun h6=> ?_)
      ·replace h6:=of_decide_eq_true h6
       exact⟨m1,rfl,Xw,M,by rw[List.length_append,List.length_singleton,d4C hy (.inr h6)];exact ht⟩
      ·replace h6:=of_decide_eq_false h6
       have hz0:∀i k,(c5w (oE s es O f pre.length) f V i k).natAbs<=200:=fun i k=>Nat.le_trans (a6Y _ _ _ i k) (Nat.le_trans c7r hlen)
       have hz1:=b2O (V:=V) (a:=f y.2.1) (b:=f y.2.1) (z:=1) hz0 (by decide)
       have hz2:=b2O (V:=V) (a:=f y.2.2) (b:=f y.2.2) (z:=1) hz1 (by decide)
       have hz3:=b2O (V:=V) (a:=f y.2.1) (b:=f y.2.2) (z:= -1) hz2 (by decide)
       have hpX:=x0 _ _ hp1
       have hqX:=x0 _ _ hBq
       have hmX:=hm1.mono x0
       refine a0s (Go.RZ.opn_callw (P:=prog) (ws:=[ii (f y.2.1:Nat),ii (f y.2.1:Nat),ii 1]) (bs:= #[]) (caps:= #[.pointer (some ⟨pb,0,none⟩),.pointer (some ⟨qb,0,none⟩)]) (vs:=[fcn pb qb,ii (f y.2.1:Nat),ii (f y.2.1:Nat),ii 1]) rfl rfl rfl a4D (a4E ht hpX hqX hmX hrows hgm hn hVd (by decide) fun i k=>b5v (hz0 i k) (by decide))) rfl ?_
       rintro _ Y1 ⟨W1,M1,e1,t1⟩
       refine⟨fun h=>(nomatch h),?_⟩
       simp only[cA,nA]
       refine a0s (Go.RZ.opn_callw (P:=prog) (ws:=[ii (f y.2.2:Nat),ii (f y.2.2:Nat),ii 1]) (bs:= #[]) (caps:= #[.pointer (some ⟨pb,0,none⟩),.pointer (some ⟨qb,0,none⟩)]) (vs:=[fcn pb qb,ii (f y.2.2:Nat),ii (f y.2.2:Nat),ii 1]) rfl rfl rfl a4D (a4E t1 hpX hqX hmX hrows hgm hn hVd (by decide) fun i k=>b5v (hz1 i k) (by decide))) rfl ?_
       rintro _ Y2 ⟨W2,M2,e2,t2⟩
       refine⟨fun h=>(nomatch h),?_⟩
       simp only[cA,nA]
       refine a0s (Go.RZ.opn_callw (P:=prog) (ws:=[ii (f y.2.1:Nat),ii (f y.2.2:Nat),ii (-1)]) (bs:= #[]) (caps:= #[.pointer (some ⟨pb,0,none⟩),.pointer (some ⟨qb,0,none⟩)]) (vs:=[fcn pb qb,ii (f y.2.1:Nat),ii (f y.2.2:Nat),ii (-1)]) rfl rfl rfl a4D (a4E t2 hpX hqX hmX hrows hgm hn hVd (by decide) fun i k=>b5v (hz2 i k) (by decide))) rfl ?_
       rintro _ Y3 ⟨W3,M3,e3,t3⟩
       refine⟨fun h=>(nomatch h),?_⟩
       simp only[cA,nA]
       refine a0s (Go.RZ.opn_callw (P:=prog) (ws:=[ii (f y.2.2:Nat),ii (f y.2.1:Nat),ii (-1)]) (bs:= #[]) (caps:= #[.pointer (some ⟨pb,0,none⟩),.pointer (some ⟨qb,0,none⟩)]) (vs:=[fcn pb qb,ii (f y.2.2:Nat),ii (f y.2.1:Nat),ii (-1)]) rfl rfl rfl a4D (a4E t3 hpX hqX hmX hrows hgm hn hVd (by decide) fun i k=>b5v (hz3 i k) (by decide))) rfl ?_
       rintro _ Y4 ⟨W4,M4,e4,t4⟩
       refine⟨fun h=>(nomatch h),?_⟩
       simp only[cA,nA]
       exact⟨hX0.trans (t4.x0.trans t4.xh),rfl,W4,M4,t4.x0,t4.xh,t4.mx,fun i k h1 h2 h3 h4=>by rw[List.length_append,List.length_singleton,d4B hy hin h6,<-d1q (by omega) (by omega) h6];exact t4.vl i k h1 h2 h3 h4⟩
    ·rintro xs vals X2 K2 hxl hd _ ⟨m1,rfl,Xw,M,ht⟩
     simp only[cA,nA]
     rw[d4F hxl]at ht
     have hle:=PH.le_or X2 K2
     refine a0C a8q rfl rfl (hle _ _ ((ht.x0.trans ht.xh) _ _ (x0 _ _ hBq))) rfl rfl ?_
     simp only[cA,nA]
     refine a0h (c5J (ht.xh.trans hle) (hrows.mono ht.x0) (ht.mx.mono hle fun _ _ h=>h) hgm ht.vl (d4H fun i k=>Nat.le_trans (a6Y _ _ _ i k) (Nat.le_trans c7r hlen)) (fun k hk h=>by rw[<-hn]at hk⊢;rw[b2I];exact c2n _ _ hVd hk h)) rfl ?_
     rintro u H12 ⟨X12,x1,x2,w12⟩
     refine⟨fun h=>(nomatch h),?_⟩
     simp only[cA,nA]
     obtain⟨x12,rfl⟩:=a7u w12
     refine a0a (w12.mono x2).rq ?_
     exact a0f rfl ⟨hX0.trans (ht.x0.trans (x1.trans x2)),by rw[d1r hA hf,<-hVe,<-b2I,hn];exact w12.mono x2⟩
    ·exact fun _ _ _ _ _ _ _ h=>h.elim
 ·rintro pre vals X' K' _ hd _ ⟨m1,u,rfl,w0,hcy⟩
  simp only[cA,nA]
  obtain⟨x0,rfl⟩:=a7u w0
  exact a0f rfl ⟨m1.trans (PH.le_or _ _),by rw[c7t hcy];exact w0.mono (PH.le_or _ _)⟩
end Go.Proofs.YtkcjbfoejpfbbaaGreatDoor

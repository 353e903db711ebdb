/- Lemmas: chapter 32. -/
import Derived.Test.YtmannekkmdockaaGreatDoorLgC
import Derived.Test.YtmannekkmdockaaGreatDoorGsW
open List renaming getElem?_inj->iS,getElem?_range->fS,range->eP
set_option maxRecDepth 100000
namespace Go.RX
open RowKit
theorem Is {P:Program} {G:Value->PH->Prop} {nx:List (List Value->PH->Prop)} {ρ:List Value} {X H:PH} {pf:Bool} {f:FuncId} {args:List SV} {t:Tree} {vs:List Value} {W:Value->PH->Prop} (hc:Con P f vs X fun u X'=>Pl X X'/\W u X') (hX:Pl X H) (ha:args.map (D P ρ)=vs)
  (n:∀u X' H',Pl X X'->W u X'->Pl X' H'->Pl H H'->(∀k,H k≠none->X k=none->X' k=none)->den P G t nx (ρ++[u]) H'):den P G (.call pf f args t) nx ρ H:=by
 refine g9 (hc.frame hX) ha ?_;rintro u H' ⟨X',⟨h1,h2⟩,h3,h4⟩;have pY:Pl H H':=fun k ob hk=>by
  cases e:X k with
  |none=>exact(h4 k ob hk e).2
  |some o2=>
   have:=hX _ _ e;rw[this]at hk;rw[<-hk];exact h3 _ _ (h1 _ _ e)
 exact⟨fun _=>pY,n u X' H' h1 h2 h3 pY fun k hk e=>by
  obtain⟨ob,hk⟩:=Option.ne_none_iff_exists'.1 hk;exact(h4 k ob hk e).1⟩
end Go.RX
namespace Go.Z
open Proofs.Tryz RowKit RX GS WD
abbrev LV:=Bool×Slc
def lc (x:LV):List Value:=[.bool x.1,vs x.2]
def lv (x:LV):Value:= .agg #[.bool x.1,vs x.2]
theorem el_long:El prog 202 116 2 true lc lv where
 und:=aB
 has:=aB
 cel:=aB
 agg:=aB
 pos:=aC
 one1:=fun h=>(nomatch h)
 small:=aC
 inf:=⟨(prog.info? 116).getD default,lv (false,(none,0,0)),aB,aB,aB,rfl,oDt aB⟩
 len:=fun _=>rfl
 val:=fun _=>rfl
 cells:=fun _=>rfl
 one:=fun x c hc=>by simp[lc]at hc;rcases hc with rfl|rfl<;>rfl
theorem Gs:El prog 201 202 1 false (fun s:Slc=>[vs s]) vs where
 und:=aB
 has:=aB
 cel:=aB
 agg:=aB
 pos:=aC
 one1:=fun _=>rfl
 small:=aC
 inf:=⟨(prog.info? 202).getD default,vs (none,0,0),aB,aB,aB,rfl,oDt aB⟩
 len:=fun _=>rfl
 val:=fun _=>rfl
 cells:=fun _=>rfl
 one:=fun x c hc=>by simp at hc;subst hc;rfl
theorem Sz {H:PH} {v:Value} {z:Int} (h:Lw H v z):∃x,v=lv x:=by
 obtain⟨w,rfl,l,⟨⟨_,a,c,rfl,_⟩,_⟩,_⟩:=h;exact⟨(_,(a,l.length,c)),rfl⟩
theorem e0o:r8 prog 116=lv (false,(none,0,0)):=aB
theorem d4Z (H:PH):Lw H (lv (false,(none,0,0))) 0:=⟨.slice none 0 0,rfl,[],⟨⟨rfl,none,0,rfl,aS _,by simp[maxLen],.inl rfl⟩,fun d hd=>by cases hd⟩,fun i hi=>by simp at hi⊢,rfl⟩
def Et (M:Nat->Nat->LV) (n i:Nat):List LV:=(eP n).map (M i)
theorem Ta {M:Nat->Nat->LV} {n i j:Nat} (h:j<n):(Et M n i)[j]? =some (M i j):=by unfold Et;rw[bO,fS h];rfl
theorem QL (M:Nat->Nat->LV) (n i:Nat):(Et M n i).length=n:=by unfold Et;simp
def putM (M:Nat->Nat->LV) (i j:Nat) (x:LV):Nat->Nat->LV:=fun a b=>if a=i/\b=j then x else M a b
theorem c9v (M:Nat->Nat->LV) (n i j:Nat) (x:LV):Et (putM M i j x) n i=(Et M n i).set j x:=by
 apply bG;intro b;unfold Et putM;rw[dH,bO,bO];by_cases hb:b<n
 ·rw[fS hb];by_cases e:b=j
  ·subst e;simp[hb]
  ·have e':¬j=b:=fun h=>e h.symm;simp[e,e']
 ·rw[aW (by simp;omega)];by_cases e:j=b
  ·subst e;simp[hb]
  ·simp[e]
theorem c9w {M:Nat->Nat->LV} {n i a j:Nat} {x:LV} (h:a≠i):Et (putM M i j x) n a=Et M n a:=by
 unfold Et putM;exact bW fun b _=>if_neg fun hh=>h hh.1
def rsl (n g:Nat):Slc:=(some ⟨g,0,none⟩,n,n)
structure MX (X H:PH) (gs:List Nat) (n:Nat) (M:Nat->Nat->LV):Prop where
 nd:gs.Nodup
 n64:n<=64
 row:∀(i g:Nat),gs[i]? =some g->X g=none/\SO (j9 H g) H 116 2 lc (vs (rsl n g)) (Et M n i)
theorem ns (H:PH) (g:Nat):j9 H g g=none:=if_pos rfl
theorem Vy {α:Type} {e:TypeId} {sz:Nat} {ce:α->List Value} {H H':PH} {g n:Nat} {l:List α} (h:SO (j9 H g) H e sz ce (vs (rsl n g)) l) (hk:∀ob,H g=some ob->H' g=some ob):SO (j9 H' g) H' e sz ce (vs (rsl n g)) l:=by
 obtain⟨h1,⟨h2,h3⟩|⟨g',cap,cur,h2,h3,h4,h5⟩⟩:=h
 ·cases h2
 ·simp only[vs,rsl,Value.slice.injEq,dM,Addr.mk.injEq]at h2;obtain⟨⟨rfl,-,-⟩,h6,h7⟩:=h2;exact⟨h1,.inr ⟨g,cap,cur,by simp only[vs,rsl];rw[<-h6,<-h7],ns _ _,hk _ h4,h5⟩⟩
section
variable {X H X' H':PH} {gs:List Nat} {n i j g:Nat} {M:Nat->Nat->LV} {x:LV} {v:Value} {z:Int}
theorem MX.se (h:MX X H gs n M) (hg:gs[i]? =some g):SE H 2 lc (vs (rsl n g)) (Et M n i):=(h.row i g hg).2.se
theorem MX.bound (h:MX X H gs n M) (hg:gs[i]? =some g):∃ob,H g=some ob:=by
 obtain⟨h1,⟨h2,h3⟩|⟨g',cap,cur,h2,h3,h4,h5⟩⟩:=(h.row i g hg).2
 ·cases h2
 ·simp only[vs,rsl,Value.slice.injEq,dM,Addr.mk.injEq]at h2;obtain⟨⟨rfl,-,-⟩,h6,h7⟩:=h2;exact⟨_,h4⟩
theorem MX.mono (h:MX X H gs n M) (hl:Pl H H') (hk:∀k,H k≠none->X k=none->X' k=none):MX X' H' gs n M:=
 ⟨h.nd,h.n64,fun i g hg=>by
  obtain⟨ob,hb⟩:=h.bound hg;exact⟨hk g (by rw[hb];simp) (h.row i g hg).1,Vy (h.row i g hg).2 fun o ho=>hl _ _ ho⟩⟩
theorem MX.put (h:MX X H gs n M) (hg:gs[i]? =some g) (hl:Pl (j9 H g) H') (ho:SO (j9 H g) H' 116 2 lc (vs (rsl n g)) ((Et M n i).set j x)):MX X H' gs n (putM M i j x):=
 ⟨h.nd,h.n64,fun a b hb=>by
  by_cases e:a=i
  ·subst e;obtain rfl:g=b:=Option.some.inj (hg.symm.trans hb);refine⟨(h.row a g hg).1,?_⟩;rw[c9v];have hc:j9 (j9 H g) g=j9 H g:=by
    funext k;unfold j9;split<;>simp_all
   have:SO (j9 H' g) H' 116 2 lc (vs (rsl n g)) ((Et M n a).set j x):=by
    obtain⟨h1,⟨h2,h3⟩|⟨g',cap,cur,h2,h3,h4,h5⟩⟩:=ho
    ·cases h2
    ·simp only[vs,rsl,Value.slice.injEq,dM,Addr.mk.injEq]at h2;obtain⟨⟨rfl,-,-⟩,h6,h7⟩:=h2;exact⟨h1,.inr ⟨g,cap,cur,by simp only[vs,rsl];rw[<-h6,<-h7],ns _ _,h4,h5⟩⟩
   exact this
  ·have qC:b≠g:=fun hh=>by
    subst hh;have l1:=(aH.1 hg).1;exact e ((iS l1 h.nd).1 (hg.trans hb.symm)).symm
   obtain⟨h1,h2⟩:=h.row a b hb;rw[c9w e];exact⟨h1,Vy h2 fun ob sV=>hl _ _ (by unfold j9;rw[if_neg qC];exact sV)⟩⟩
theorem MX.cut (h:MX X H gs n M) (hg:gs[i]? =some g) (hX:Pl X H):Pl X (j9 H g):=fun k ob hk=>by
 unfold j9;rw[if_neg (fun e=>by subst e;rw[(h.row i k hg).1]at hk;cases hk)];exact hX _ _ hk
end
def Vl (X:PH) (n k:Nat) (M:Nat->Nat->LV) (Z:Nat->Nat->Int):Prop:=∀i j,k<=i->k<=j->i<n->j<n->Lw X (lv (M i j)) (Z i j)
theorem Vl.mono {X X':PH} {n k:Nat} {M:Nat->Nat->LV} {Z:Nat->Nat->Int} (h:Vl X n k M Z) (hl:Pl X X'):Vl X' n k M Z:=fun i j a b c d=>(h i j a b c d).mono hl
theorem Vl.put {X:PH} {n k i j:Nat} {M:Nat->Nat->LV} {Z Z':Nat->Nat->Int} {x:LV} (h:Vl X n k M Z) (hx:Lw X (lv x) (Z' i j)) (hz:∀a b,k<=a->k<=b->a<n->b<n->¬(a=i/\b=j)->Z' a b=Z a b):Vl X n k (putM M i j x) Z':=fun a b h1 h2 h3 h4=>by
 unfold putM;by_cases e:a=i/\b=j
 ·rw[if_pos e,e.1,e.2];exact hx
 ·rw[if_neg e,hz a b h1 h2 h3 h4 e];exact h a b h1 h2 h3 h4
def Zk (F:Nat->Nat->Int) (k r c i j:Nat):Int:=if k<i/\(i<r\/i=r/\j<c)then(gk F k i j*gk F k k k-gk F k i k*gk F k k j)/pk F k else gk F k i j
def SmZ (z:Int):Prop:=z.natAbs<BP 100
theorem SmZ.lm {z:Int} (h:SmZ z):Lm z:=aU h (Bt aC)
theorem SmZ.mul {y z:Int} (hy:SmZ y) (hz:SmZ z):(y*z).natAbs<BP 200:=by
 rw[Int.natAbs_mul,show 200=100+100 from rfl,HS];exact Nat.mul_lt_mul'' hy hz
theorem QM {z:Int} (h:z.natAbs<BP 200):Lm z:=aU h (Bt aC)
theorem d8n {y z:Int} (hy:y.natAbs<BP 200) (hz:z.natAbs<BP 200):Lm (y-z):=by
 have h:BP 201<=BP 10000:=Bt aC;rw[BP_succ]at h;unfold Lm;omega
theorem Ns {gs:List Nat} {n i g:Nat} (h:gs[i]? =some g):(gs.map (rsl n))[i]? =some (rsl n g):=by rw[bO,h];rfl
theorem BC {gs:List Nat} {i n:Nat} (hn:gs.length=n) (h:i<n):∃g,gs[i]? =some g:=⟨_,aJ aA⟩
structure Mt (X0 X H:PH) (gs:List Nat) (n k:Nat) (M:Nat->Nat->LV) (Z:Nat->Nat->Int):Prop where
 x0:Pl X0 X
 xh:Pl X H
 mx:MX X H gs n M
 vl:Vl X n k M Z
theorem Mt.grow {X0 X H X' H':PH} {gs:List Nat} {n k:Nat} {M:Nat->Nat->LV} {Z:Nat->Nat->Int} (h:Mt X0 X H gs n k M Z) (a:Pl X X') (b:Pl X' H') (c:Pl H H') (d:∀k,H k≠none->X k=none->X' k=none):Mt X0 X' H' gs n k M Z:=⟨h.x0.trans a,b,h.mx.mono c d,h.vl.mono a⟩
theorem e0p {F:Nat->Nat->Int} (hb:∀k i j,k<=64->SmZ (gk F k i j)) {k:Nat} (hk:k<=64):SmZ (pk F k):=by
 cases k with
 |zero=>
  rw[QH];show(1:Nat)<BP 100;have:BP 0<BP 100:=BP_lt_iff.2 aC;rw[BP_zero]at this;exact this
 |succ k=>rw[<-nr];exact hb k k k aA
theorem Vz {F:Nat->Nat->Int} {k r c i j:Nat} (h:¬(k<i/\(i<r\/i=r/\j<c))):Zk F k r c i j=gk F k i j:=if_neg h
theorem d8o {F:Nat->Nat->Int} {k r c i j:Nat} (h:¬(i=r/\j=c)):Zk F k r (c+1) i j=Zk F k r c i j:=by
 unfold Zk;split<;>split<;>(first|rfl|omega)
theorem d8p {F:Nat->Nat->Int} {k r c i j:Nat} (h:k<=j) (hj:j<c):Zk F k (r+1) k i j=Zk F k r c i j:=by
 unfold Zk;split<;>split<;>(first|rfl|omega)
theorem sgI_zeroG {z:Int}:(sgI z 0==0)=true↔z=0:=by
 unfold sgI;rw[beq_iff_eq];split<;>(try split)<;>simp<;>omega
theorem c9x {H X:PH} {v:Value} {gs:List Nat} {n:Nat} {M:Nat->Nat->LV} {F:Nat->Nat->Int} (hX:Pl X H) (hv:SE X 1 (fun s:Slc=>[vs s]) v (gs.map (rsl n))) (hM:MX X H gs n M) (hn:gs.length=n) (hF:Vl X n 0 M F) (hb:∀k i j,k<=64->SmZ (gk F k i j)) (hc:∀k,k<=n->pk F k=0->pk F n=0):
  Con prog 125 [v] H fun u H'=>∃X',Pl X X'/\Pl X' H'/\Lw X' u (pk F n):=by
 refine i9 mixed d4m ?_;have rM:=hM.n64;refine Is (Us 1 aA aA) hX rfl fun v1 X1 H1 a1 w1 b1 c1 d1=> ?_;simp only[cA,nA];replace hM:=hM.mono c1 d1;obtain⟨x1,rfl⟩:=Sz w1;refine d4 w1.rq ?_;refine j1 Gs (hv.mono (a1.trans b1)) ?_;simp only[cA,nA];rw[aX,hn];refine s8 (α:=Nat×Value×LV) (fun⟨k,y,l⟩=>[ii (k:Nat),y,lv l]) (fun⟨k,y,l⟩=>fun H'=>k<=n/\∃X' M',Mt X X' H' gs n k M' (gk F k)/\Lw X' (lv l) (pk F k)/\pk F k≠0) (fun⟨k,y,l⟩=>n+1-k) ((0,r8 prog 116,x1)) rfl (⟨bI _,X1,M,⟨a1,b1,hM,fun i j h1 h2 h3 h4=>by rw[d4X];exact(hF i j h1 h2 h3 h4).mono a1⟩,w1,by rw[QH];omega⟩) fun⟨k,y,l⟩ H2 ⟨hk,X2,M2,t2,rN,rT⟩=> ?_;simp only[cA,nA];refine d9 (d9 ?_);refine g7 (b:=decide (((k:Nat):Int)<(n:Nat))) rfl (fun h=> ?_) (fun h=> ?_)
 ·replace h:=oDt h;have rX:k<n:=aA;obtain⟨g,hg⟩:=BC hn rX;refine j4 Gs (hv.mono (t2.x0.trans t2.xh)) (Ns hg) fun _=> ?_;simp only[cA,nA];refine j4 el_long (t2.mx.se hg) (Ta rX) fun _=> ?_;simp only[cA,nA];refine g9 (xp ((t2.vl k k (aS _) (aS _) rX rX).mono t2.xh)) rfl ?_;rintro _ _ ⟨rfl,rfl⟩;refine nmI ?_;simp only[cA,nA];refine d9 ?_;refine g7 (b:=(sgI (gk F k k k) 0==0)) rfl (fun h2=> ?_) (fun h2=> ?_)
  ·skip
   refine Is (Us 0 aA aA) t2.xh rfl fun v11 X3 H3 a3 w3 b3 c3 d3=> ?_;simp only[cA,nA];obtain⟨x3,rfl⟩:=Sz w3;refine d4 w3.rq ?_;exact g6 rfl ⟨X3,t2.x0.trans a3,b3,by rw[hc (k+1) rX (by rw[<-nr];exact sgI_zeroG.1 h2)];exact w3⟩
  ·skip
   have a5m:gk F k k k≠0:=fun e=>by rw[sgI_zeroG.2 e]at h2;cases h2
   refine s8 (α:=Nat) (fun r=>[ii (r:Nat),y,lv l]) (fun r=>fun H'=>k<r/\r<=n/\∃X' M',Mt X X' H' gs n k M' (Zk F k r k)/\Lw X' (lv l) (pk F k)) (fun r=>n+1-r) (k+1) (Bo (i6 rfl aA) rfl rfl) (⟨aA,aA,X2,M2,⟨t2.x0,t2.xh,t2.mx,fun i j h1 h2 h3 h4=>by rw[Vz aA];exact t2.vl i j h1 h2 h3 h4⟩,rN⟩) fun r H3 ⟨hr1,hr2,X3,M3,t3,tJ⟩=> ?_;simp only[cA,nA];refine j1 Gs (hv.mono (t3.x0.trans t3.xh)) ?_;simp only[cA,nA];rw[aX,hn];refine d9 (d9 ?_);refine g7 (b:=decide (((r:Nat):Int)<(n:Nat))) rfl (fun h3=> ?_) (fun h3=> ?_)
   ·replace h3:=oDt h3;have hrn:r<n:=aA;obtain⟨g2,xR⟩:=BC hn hrn;refine j4 Gs (hv.mono (t3.x0.trans t3.xh)) (Ns xR) fun _=> ?_;simp only[cA,nA];refine j4 el_long (t3.mx.se xR) (Ta rX) fun _=> ?_;simp only[cA,nA];generalize hf:M3 r k=f;have hf3:Lw X3 (lv f) (gk F k r k):=by rw[<-hf,<-Vz (F:=F) (k:=k) (r:=r) (c:=k) (i:=r) (j:=k) aA];exact t3.vl r k aA (aS _) hrn rX
    refine d4 (el_long.vcells f) ?_;refine s8 (α:=Nat) (fun c=>[ii (c:Nat)]) (fun c=>fun H'=>k<=c/\c<=n/\∃X' M',Mt X X' H' gs n k M' (Zk F k r c)/\Lw X' (lv l) (pk F k)/\Lw X' (lv f) (gk F k r k)) (fun c=>n+1-c) (k) rfl (⟨aS _,aA,X3,M3,t3,tJ,hf3⟩) fun c H4 ⟨sL,rY,X4,M4,t4,hl4,hf4⟩=> ?_;simp only[cA,nA];refine j1 Gs (hv.mono (t4.x0.trans t4.xh)) ?_;simp only[cA,nA];rw[aX,hn];refine d9 (d9 ?_);refine g7 (b:=decide (((c:Nat):Int)<(n:Nat))) rfl (fun h4=> ?_) (fun h4=> ?_)
    ·replace h4:=oDt h4;have wN:c<n:=aA;refine j4 Gs (hv.mono (t4.x0.trans t4.xh)) (Ns xR) fun _=> ?_;simp only[cA,nA];refine j4 el_long (t4.mx.se xR) (Ta wN) fun _=> ?_;simp only[cA,nA];refine j4 Gs (hv.mono (t4.x0.trans t4.xh)) (Ns hg) fun _=> ?_;simp only[cA,nA];refine j4 el_long (t4.mx.se hg) (Ta rX) fun _=> ?_;simp only[cA,nA];refine j4 Gs (hv.mono (t4.x0.trans t4.xh)) (Ns hg) fun _=> ?_;simp only[cA,nA];refine j4 el_long (t4.mx.se hg) (Ta wN) fun _=> ?_;simp only[cA,nA];have e1:Lw X4 (lv (M4 r c)) (gk F k r c):=by rw[<-Vz (F:=F) (k:=k) (r:=r) (c:=c) (i:=r) (j:=c) aA];exact t4.vl r c aA sL hrn wN
     have e2:Lw X4 (lv (M4 k k)) (gk F k k k):=by rw[<-Vz (F:=F) (k:=k) (r:=r) (c:=c) (i:=k) (j:=k) aA];exact t4.vl k k aA (aS _) rX rX
     have e3:Lw X4 (lv (M4 k c)) (gk F k k c):=by rw[<-Vz (F:=F) (k:=k) (r:=r) (c:=c) (i:=k) (j:=c) aA];exact t4.vl k c aA sL rX wN
     have s1:=hb k r c aA;have s2:=hb k k k aA;have s3:=hb k k c aA;have s4:=hb k r k aA;refine Is (Md e1 e2 s1.lm s2.lm) t4.xh rfl fun u1 X5 H5 a5 w5 b5 c5 d5=> ?_;simp only[cA,nA];replace t4:=t4.grow a5 b5 c5 d5;refine Is (Md (hf4.mono a5) (e3.mono a5) s4.lm s3.lm) t4.xh rfl fun u2 X6 H6 a6 w6 b6 c6 d6=> ?_;simp only[cA,nA];replace t4:=t4.grow a6 b6 c6 d6;refine Is (S3 (w5.mono a6) w6 (QM (s1.mul s2)) (QM (s4.mul s3))) t4.xh rfl fun u3 X7 H7 a7 w7 b7 c7 d7=> ?_;simp only[cA,nA];replace t4:=t4.grow a7 b7 c7 d7;obtain⟨x7,rfl⟩:=Sz w7;refine d4 w7.rq ?_;refine j4 Gs (hv.mono (t4.x0.trans t4.xh)) (Ns xR) fun _=> ?_;simp only[cA,nA];refine Is ((xq w7 (hl4.mono (a5.trans (a6.trans a7))) (d8n (s1.mul s2) (s4.mul s3)) (e0p hb aA).lm rT)) t4.xh rfl fun u4 X8 H8 a8 w8 b8 c8 d8=> ?_;simp only[cA,nA];replace t4:=t4.grow a8 b8 c8 d8;obtain⟨qa,qb,rfl,q1,q2⟩:=w8;obtain⟨x8,rfl⟩:=Sz q1;refine i8 (i8 ?_);refine Dp el_long (a:=x8) rfl rfl rfl rfl aE aE (Vk H8 g2) (t4.mx.row r g2 xR).2 (show c<(Et M4 n r).length by rw[QL];exact wN) rfl aE rfl fun p9 u9 H9 l9 o9 _=> ?_;simp only[cA,nA];exact⟨c+1,aA,(z8 (i6 rfl aA)),⟨aA,aA,X8,putM M4 r c x8,⟨t4.x0,(t4.mx.cut xR t4.xh).trans l9,t4.mx.put xR l9 o9,t4.vl.put (by show Lw X8 (lv x8) (Zk F k r (c+1) r c);unfold Zk;rw[if_pos aA];exact q1) (fun i j h1 h2 h3 h4 h5=>d8o h5)⟩,hl4.mono (a5.trans (a6.trans (a7.trans a8))),hf4.mono (a5.trans (a6.trans (a7.trans a8)))⟩⟩
    ·replace h4:=oDf h4;exact⟨r+1,aA,(Bo (i6 rfl aA) rfl rfl),⟨aA,aA,X4,M4,⟨t4.x0,t4.xh,t4.mx,fun i j h1 h2 h3 h4=>by have:=t4.vl i j h1 h2 h3 h4;rw[d8p (c:=c) h2 aA];exact this⟩,hl4⟩⟩
   ·replace h3:=oDf h3;have hrn:r=n:=aA;refine j4 Gs (hv.mono (t3.x0.trans t3.xh)) (Ns hg) fun _=> ?_;simp only[cA,nA];refine j4 el_long (t3.mx.se hg) (Ta rX) fun _=> ?_;simp only[cA,nA];refine d4 (el_long.vcells _) ?_;exact⟨(k+1,y,M3 k k),by show n+1-(k+1)<n+1-k;omega,(Bo (i6 rfl aA) rfl rfl),⟨rX,X3,M3,⟨t3.x0,t3.xh,t3.mx,fun i j h1 h2 h3 h4=>by have:=t3.vl i j aA aA h3 h4;rw[<-d8l rT];unfold Zk at this;rw[if_pos aA]at this;exact this⟩,by rw[<-nr,<-Vz (F:=F) (k:=k) (r:=r) (c:=k) (i:=k) (j:=k) aA];exact t3.vl k k (aS _) (aS _) rX rX,by rw[<-nr];exact a5m⟩⟩
 ·replace h:=oDf h;have yK:k=n:=aA;subst yK;exact g6 rfl ⟨X2,t2.x0,t2.xh,rN⟩
theorem Nv:prog.underlying 140=some (.map 3 3):=aB
theorem Qf:prog.underlying 3=some (.int .i64):=aB
theorem BD:∀w,(zeroValue 3).run prog w= .ok (.int .i64 0) w:=fun w=>by
 have h:(prog.info? 3).bind (·.zero)=some (.int .i64 0):=aB;cases hi:prog.info? 3 with
 |none=>rw[hi]at h;cases h
 |some i=>
  rw[hi]at h;simp only[Option.bind_some]at h;simp[zeroValue,typeInfo,hi,h]
open Go.WD (BP Bt)
theorem d5b {n:Nat} {w:Value} (h1:Dm w=true):o0 (Value.cells (.agg #[ii n,w])):=fun c hc=>by
 simp[Value.cells]at hc;rcases hc with hc|hc
 ·subst hc;rfl
 ·subst hc;exact h1
theorem QN {H:PH} {n s:Nat} {w:Value} (hw:w.cells= #[w]) (h1:Dm w=true):Con prog 119 [gv n w,GS.uv s] H fun u H'=>∃b j,b≠j/\H'=H.or (Hk b j (ii n) w 37 s)/\Disj H (Hk b j (ii n) w 37 s)/\u= .func (.func 190) #[] #[.pointer (some ⟨b,0,none⟩),.pointer (some ⟨j,0,none⟩)]:=by
 refine i9 mixed d4l ?_;refine d4 ⟨rfl,d5b h1⟩ ?_;refine Gm (cs:= #[ii (n:Nat),w]) rfl fun b hb=> ?_;refine d4 ⟨rfl,fun c hc=>by simp[D,Value.cells,GS.uv]at hc;subst hc;rfl⟩ ?_;refine Gm (cs:= #[GS.uv s]) rfl fun j hj=> ?_;refine Na (Rm (vs:=[.pointer (some ⟨b,0,none⟩),.pointer (some ⟨j,0,none⟩)]) rfl rfl) rfl ?_;have hbj:b≠j:=fun e=>by subst e;rw[PH.put_self]at hj;cases hj
 have sU:H j=none:=by rwa[PH.put_ne _ _ (fun e=>hbj e.symm)]at hj
 exact g6 rfl ⟨b,j,hbj,by unfold Hk;rw[PH.put_or hb,PH.or_put (X:=H) sU],yc (yc (LG H) hb) sU,rfl⟩
def plL (V:List Nat):List (Int×Int):=(eP V.length).map fun i=>(((V.getD i 0:Nat):Int),(i:Int))
theorem d5c {V:List Nat} {a i:Nat} (h:V[i]? =some a):((a:Int),(i:Int))∈plL V:=by
 unfold plL;refine aY.2 ⟨i,bR.2 (aH.1 h).1,?_⟩;rw[aK,h];rfl
theorem c9y (V:List Nat):(plL V).map (·.1)=V.map fun x:Nat=>(x:Int):=by
 unfold plL;rw[cZ];apply bG;intro i;rw[bO,bO];by_cases h:i<V.length
 ·rw[fS h,aJ h];simp[aK,aJ h]
 ·rw[aW (by simp;omega),aW aA];rfl
theorem QO {V:List Nat} {a:Nat} (h:a∉V):((a:Nat):Int)∉(plL V).map (·.1):=by
 rw[c9y];intro hh;obtain⟨x,hx,e⟩:=aY.1 hh;have:x=a:=aA;exact h (this ▸ hx)
theorem c9z (V:List Nat) (x:Nat):plL (V++[x])=plL V++[((x:Int),(V.length:Int))]:=by
 unfold plL;rw[aM,List.length_singleton,List.range_succ,aT];congr 1
 ·refine bW fun i hi=> ?_;rw[bR]at hi;simp[aK,bS hi]
 ·simp[aK]
theorem BE (V:List Nat):(plL V).length=V.length:=by unfold plL;simp
theorem d5d {V:List Nat} {x:Nat} (h:x∉V):Kw (plL V) (x:Int) (V.length:Int)=plL (V++[x]):=by
 unfold Kw;rw[if_neg (QO h),c9z]
def addZ (V:List Nat) (Z:Nat->Nat->Int) (a b:Nat) (z:Int) (i k:Nat):Int:=if V[i]? =some a/\V[k]? =some b then Z i k+z else Z i k
theorem Tc:Sc prog 140:=⟨aB,aB,aB⟩
theorem Wa:Sc prog 201:=⟨aB,aB,aB⟩
theorem nu:Da prog 123=true:=aB
section
variable {X0 X H:PH} {gs:List Nat} {n pb qb a b:Nat} {mp v:Value} {V:List Nat} {M:Nat->Nat->LV} {Z:Nat->Nat->Int} {Tp Tq:TypeId} {z:Int} {fz:Nat×Nat}
theorem Vl.addZ (h:Vl X n 0 M Z) (hn:V.Nodup) {i k:Nat} {x:LV} (hi:V[i]? =some a) (hk:V[k]? =some b) (hx:Lw X (lv x) (Z i k+z)):Vl X n 0 (putM M i k x) (addZ V Z a b z):=by
 refine h.put (by unfold Go.Z.addZ;rw[if_pos ⟨hi,hk⟩];exact hx) fun c d _ _ _ _ qC=> ?_;unfold Go.Z.addZ;rw[if_neg];rintro⟨h1,h2⟩;exact qC ⟨(iS (aH.1 h1).1 hn).1 (h1.trans hi.symm),(iS (aH.1 h2).1 hn).1 (h2.trans hk.symm)⟩
theorem QP (h:a∉V\/b∉V):addZ V Z a b z=Z:=by
 funext i k;unfold addZ;rw[if_neg];rintro⟨h1,h2⟩;rcases h with h|h
 ·exact h (aG h1)
 ·exact h (aG h2)
theorem nw (ht:Mt X0 X H gs n 0 M Z) (hp:X0 pb=some (.cells #[mp] Tp fz)) (hq:X0 qb=some (.cells #[v] Tq fz)) (hm:MI X0 mp (plL V)) (hv:SE X0 1 (fun s:Slc=>[vs s]) v (gs.map (rsl n))) (hn:gs.length=n) (hVn:V.length=n) (tM:V.Nodup) (hz: -2<=z/\z<=2) (hZ:∀i k,Lm (Z i k)):
  Con prog 123 [ii (a:Nat),ii (b:Nat),ii z,.pointer (some ⟨pb,0,none⟩),.pointer (some ⟨qb,0,none⟩)] H fun _ H'=>∃X' M',Pl X X'/\Mt X0 X' H' gs n 0 M' (addZ V Z a b z):=by
 refine i9 mixed c9d ?_;have hp':=(ht.x0.trans ht.xh) _ _ hp;have vU:=(ht.x0.trans ht.xh) _ _ hq;have tW:=hm.mono (ht.x0.trans ht.xh);have hv':=hv.mono (ht.x0.trans ht.xh);have huk:prog.underlying 3=some (.int .i64):=Qf;have look:∀{c:Nat},∃(u:Int) (bb:Bool),((bb=false/\u=0/\((c:Nat):Int)∉(plL V).map (·.1))\/(bb=true/\(((c:Nat):Int),u)∈plL V))/\(bb=false/\c∉V\/bb=true/\∃i:Nat,u=(i:Int)/\V[i]? =some c):=fun{c}=>by
  by_cases h:c∈V
  ·obtain⟨i,hi⟩:=cN.1 h;exact⟨(i:Int),true,.inr ⟨rfl,d5c hi⟩,.inr ⟨rfl,i,rfl,hi⟩⟩
  ·exact⟨0,false,.inl ⟨rfl,rfl,QO h⟩,.inl ⟨rfl,h⟩⟩
 obtain⟨u1,b1,sC,sL⟩:=look (c:=a);obtain⟨u2,b2,rQ,rY⟩:=look (c:=b);have off1:b1=false->a∉V:=fun e=>by
  rcases sL with⟨_,h⟩|⟨h,_⟩
  ·exact h
  ·rw[e]at h;cases h
 have off2:b2=false->b∉V:=fun e=>by
  rcases rY with⟨_,h⟩|⟨h,_⟩
  ·exact h
  ·rw[e]at h;cases h
 have on1:b1=true->∃i:Nat,u1=(i:Int)/\V[i]? =some a:=fun e=>by
  rcases sL with⟨h,_⟩|⟨_,h⟩
  ·rw[e]at h;cases h
  ·exact h
 have on2:b2=true->∃i:Nat,u2=(i:Int)/\V[i]? =some b:=fun e=>by
  rcases rY with⟨h,_⟩|⟨_,h⟩
  ·rw[e]at h;cases h
  ·exact h
 refine Bn Tc rfl rfl hp' rfl rfl ?_;simp only[cA,nA];refine j7 (AZ (k:=(a:Nat)) (vs:=[mp,ii (a:Nat)]) rfl rfl rfl Nv Qf BD tW sC) rfl ?_;simp only[cA,nA];refine i8 (i8 ?_);refine Bn Tc rfl rfl hp' rfl rfl ?_;simp only[cA,nA];refine j7 (AZ (k:=(b:Nat)) (vs:=[mp,ii (b:Nat)]) rfl rfl rfl Nv Qf BD tW rQ) rfl ?_;simp only[cA,nA];refine i8 (i8 (d9 ?_));refine g7 (b:=b1) rfl (fun h1=> ?_) (fun h1=> ?_)
 ·skip
  refine d9 ?_;refine g7 (b:=b2) rfl (fun h2=> ?_) (fun h2=> ?_)
  ·skip
   obtain⟨i,rfl,hi⟩:=on1 h1;obtain⟨k,rfl,hk⟩:=on2 h2;have qP:i<n:=by have:=(aH.1 hi).1;omega
   have rX:k<n:=by have:=(aH.1 hk).1;omega
   obtain⟨g,hg⟩:=BC hn qP;refine Bn Wa rfl rfl vU rfl rfl ?_;simp only[cA,nA];refine j4 Gs hv' (Ns hg) fun _=> ?_;simp only[cA,nA];refine Bn Wa rfl rfl vU rfl rfl ?_;simp only[cA,nA];refine j4 Gs hv' (Ns hg) fun _=> ?_;simp only[cA,nA];refine j4 el_long (ht.mx.se hg) (Ta rX) fun _=> ?_;simp only[cA,nA];refine Is (Us z aA aA) ht.xh rfl fun w1 X5 H5 a5 w5 b5 c5 d5=> ?_;simp only[cA,nA];replace ht:=ht.grow a5 b5 c5 d5;refine Is (Yw ((ht.vl i k (bI _) (bI _) qP rX)) w5 (hZ i k) (by unfold Lm;have:=Bt (i:=1) (j:=10000) aC;rw[Go.WD.BP_succ,Go.WD.BP_zero]at this;omega)) ht.xh rfl fun w2 X6 H6 a6 w6 b6 c6 d6=> ?_;simp only[cA,nA];replace ht:=ht.grow a6 b6 c6 d6;obtain⟨x6,rfl⟩:=Sz w6;refine Dp el_long (a:=x6) rfl rfl rfl rfl aE aE (Vk H6 g) (ht.mx.row i g hg).2 (show k<(Et M n i).length by rw[QL];exact rX) rfl aE rfl fun p9 u9 H9 l9 o9 _=> ?_;simp only[cA,nA];exact g6 rfl ⟨X6,putM M i k x6,a5.trans a6,⟨ht.x0,(ht.mx.cut hg ht.xh).trans l9,ht.mx.put hg l9 o9,ht.vl.addZ tM hi hk w6⟩⟩
  ·skip
   exact g6 rfl ⟨X,M,Pl.refl _,by rw[QP (.inr (off2 (by simpa using h2)))];exact ht⟩
 ·skip
  exact g6 rfl ⟨X,M,Pl.refl _,by rw[QP (.inl (off1 (by simpa using h1)))];exact ht⟩
end
section
variable {H:PH} {n:Nat} {w:Value} {es:List (Nat×Nat)} {set:Nat}
def Trs (H0 H:PH) (es:List (Nat×Nat)) (set:Nat) (r:Value) (l:List Slc):Prop:=
 SO H0 H 32 1 (fun s:Slc=>[vs s]) r l/\(∀s∈l,∃t,SO H0 H 3 1 (fun z:Int=>[ii z]) (vs s) t/\TreeOk es set t)/\l.length<=68719476736
theorem QQ (hw:SG H w es) (hg:GV n es) (hs:set<2^n) (h0:set≠0) (h9:card set<=9):Con prog 42 [gv n w,uv set] H fun r H'=>Pl H H'/\∃(l:List Slc) (T:List (List Int)),SO H H' 32 1 (fun s:Slc=>[vs s]) r l/\Zp (fun s t=>SO H H' 3 1 (fun z:Int=>[ii z]) (vs s) t) l T/\Grn es set [] T/\l.length<=68719476736:=by
 refine i9 mixed c3R ?_;have h36:=PT hg (By hg.n64 hs) h9;refine d4 (t8 hw) ?_;refine g9 (b6a hg hs h0 h36 _ [] (.slice none 0 0) H (aS _) hw (SE.nil _ _ _) (Beg.nil _ _)) rfl ?_;rintro r H1 ⟨l1,l,h1,⟨T,h2,h3⟩,h4⟩;refine nmI ?_;exact g6 rfl ⟨l1,l,T,h1,h2,h3,bD h4 (bD (aR aC h36) aC)⟩
theorem b6e (hw:SG H w es) (hg:GV n es) (hs:set<2^n) (h0:set≠0) (h9:card set<=9):Con prog 42 [gv n w,uv set] H fun r H'=>Pl H H'/\∃(l:List Slc) (T:List (List Int)),SE H' 1 (fun s:Slc=>[vs s]) r l/\Zp (fun s t=>SI H' (vs s) t) l T/\T.Perm (trees es set)/\l.length<=68719476736:=
 (QQ hw hg hs h0 h9).mono fun r H' ⟨l1,l,T,h1,h2,h3,h4⟩=>⟨l1,l,T,h1.se,h2.imp fun _ _ h=>h.se,h3.perm,h4⟩
theorem c0g (hw:SG H w es) (hg:GV n es) (hs:set<2^n) (h0:set≠0) (h9:card set<=9):Con prog 42 [gv n w,uv set] H fun r H'=>Pl H H'/\∃l,Trs H H' es set r l/\(Cn es set->l≠[]):=
 (QQ hw hg hs h0 h9).mono fun r H' ⟨l1,l,T,h1,h2,h3,h4⟩=>⟨l1,l,⟨h1,(fun s hs=>by
  obtain⟨i,hi⟩:=cN.1 hs;have pX:=(aH.1 hi).1;have ht:=aJ (l:=T) (i:=i) (by have:=h2.1;omega);exact⟨_,h2.2 i s _ hi ht,((h3.mem _).1 (aG ht)).1⟩),h4⟩,fun hc e=>by
  have hM:=By hg.n64 hs;have h5:=ak hM h0 _ 0 [] rfl (Beg.nil es set) (fun i h=>by cases h) (Spn.start hc);rw[<-AY hM h0,<-h3.perm.length_eq,<-h2.1,e]at h5;exact absurd h5 aC⟩
end
end Go.Z

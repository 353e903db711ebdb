/- Lemmas: chapter 32. -/
import Derived.Test.YtmannekkmdockaaGreatDoorGzI
open Int renaming lt_or_le->pI
open List renaming filter_congr->gG
open List.Perm renaming eq_of_pairwise->oY
open Nat renaming le_mul_of_pos_right->mC,pos_of_ne_zero->kR
set_option maxRecDepth 100000
namespace Go.GS
theorem DC {es:List (Nat×Nat)} {S:Nat}:∀(f j:Nat) (t:List Int),es.length-j=f->(trL es S f j t).length<=2^Aw es S j
 |0,j,t,_=>by
  have:=Nat.two_pow_pos (Aw es S j);unfold trL;split
  ·simp;omega
  ·simp
 |f+1,j,t,hf=>by
  have hj:j<es.length:=aA;have h1:=DC (es:=es) (S:=S) f (j+1) t aA;unfold trL;rw[aM];split
  ·rename_i h;have h2:=DC (es:=es) (S:=S) f (j+1) (t++[(j:Int)]) aA;rw[zz (Fa hj) h.1,Nat.pow_succ];omega
  ·have:=aR (n:=2) aC (me es S j);simp only[bX];omega
theorem US {es:List (Nat×Nat)} {S n:Nat} (hg:GV n es) (hs:S<M64) (h9:card S<=9):tn es S<=2^36:=by
 refine bD (DC _ _ _ aA) (aR aC (PT hg hs h9))
theorem d8U:∀k:Fin 5,(i0 k.val).length<=6:=aC
theorem Qd.unit {D B:Nat} {r:Rat} (h:Qd D B r) (hD:0<D) (h0:0<=r) (h1:r<=1):Qd D D r:=by
 obtain⟨A,rfl,_⟩:=h;refine⟨A,rfl,?_⟩;have hD':(0:Rat)<((D:Nat):Int):=by exact_mod_cast hD
 have a0:0<=A:=by
  rcases pI A 0 with h|h
  ·exfalso;have:((A:Int):Rat)/((D:Nat):Int)<0:=(Rat.div_lt_iff hD').2 (by rw[Rat.zero_mul];exact_mod_cast h);exact absurd h0 (Rat.not_le.2 this)
  ·exact h
 have a1:A<=D:=by
  rcases pI (D:Int) A with h|h
  ·exfalso;have:1<((A:Int):Rat)/((D:Nat):Int):=(Rat.lt_div_iff hD').2 (by rw[Rat.one_mul];exact_mod_cast h);exact absurd h1 (Rat.not_le.2 this)
  ·exact h
 omega
end Go.GS
namespace Go.Z
open Proofs.Tryz RowKit RX GS RZ
open WD (BP Bt wd rs toI HM sgI Rb)
section
variable {es:List (Nat×Nat)} {wl:List Int} {lo hi:Int} {n k m S a:Nat} {p:List Int}
theorem d8V:2^256<=HM:=by
 rw[xf];have:(2:Nat)^256=BP 8:=by unfold BP;rfl
 rw[this];exact bD (Bt aC) (mC _ aC)
theorem DD {D:Nat} {r:Rat} (h:Qd D D r) (hD:0<D) (hb:D<2^256):Rb 256 r:=ax (k:=256) h aA hb hb
theorem d8W {r:Rat} (h:Rb 256 r):tok r=true:=by
 obtain⟨h1,h2⟩:=h;have:=d8V;refine oDd ⟨⟨aA,aA⟩,aA⟩
structure SitO (es:List (Nat×Nat)) (n k:Nat) (p:List Int):Prop where
 gv:GV n es
 n9:n<=9
 lab:LabOk p (k:Nat)
 used:Ai p k
 can:j6 p=p
 len:p.length=n
 k1:1<=k
 k4:k<=4
theorem SitO.kn (h:SitO es n k p):k<=n:=by have:=CU h.used;have:=h.len;omega
theorem SitO.pr (h:SitO es n k p) {pr:Nat×Nat} (qF:pr∈i0 k):PrO p n k pr:=CX h.used h.len (by have:=h.n9;omega) qF
theorem SitO.n2 (h:SitO es n k p) {pr:Nat×Nat} (qF:pr∈i0 k):0<n-1/\0<(i0 k).length/\(i0 k).length<=6:=by
 have h1:=Su qF;have:=h.kn;exact⟨aA,List.length_pos_of_mem qF,d8U ⟨k,by have:=h.k4;omega⟩⟩
structure e1y (es:List (Nat×Nat)) (wl:List Int) (lo hi:Int) (n k:Nat) (p:List Int) (x:(Nat×Nat)×Nat):Prop where
 pr:x.1∈i0 k
 pl:x.2∈Aj (unP p x.1)
 sub:∀y,bit x.2 y=true->bit (unP p x.1) y=true
 lst:bit x.2 (lst (unP p x.1))=true
 ts:tn es (unP p x.1)≠0
 ta:tn es x.2≠0
 tb:tn es (sdf (unP p x.1) x.2)≠0
 a0:x.2≠0/\x.2<2^n
 b0:sdf (unP p x.1) x.2≠0/\sdf (unP p x.1) x.2<2^n
 ala:alB es wl lo hi x.2=true
 alb:alB es wl lo hi (sdf (unP p x.1) x.2)=true
 ne:p≠Ad p x.1 x.2
 prt:Prt p k x.1.1 x.1.2 x.2
theorem SitO.hit (h:SitO es n k p) {x:(Nat×Nat)×Nat} (hx:x∈Ei es wl lo hi k p):e1y es wl lo hi n k p x:=by
 obtain⟨x1,x2,x3,x4,x5,x6⟩:=idx_mem.1 hx;have hn:n<=64:=by have:=h.n9;omega
 have hP:=h.pr x1;obtain⟨a0,b0⟩:=Tf hP.s2 hn hP.s0 x2;obtain⟨q1,q2⟩:=CP h.lab h.used h.len hn x1 x2;have hca:Cn es x.2:=by unfold alB at x4;rw[bA]at x4;exact cnB_iff.1 x4.1
 have hcb:Cn es (sdf (unP p x.1) x.2):=by unfold alB at x5;rw[bA]at x5;exact cnB_iff.1 x5.1
 exact⟨x1,x2,q1.sub,q2,fun e=>x3 (by rw[Ic hP.sM hP.s0,e];rfl),bm (By hn a0.2) a0.1 hca,bm (By hn b0.2) b0.1 hcb,a0,b0,x4,x5,fun e=>x6 (by rw[<-e]),q1⟩
theorem SitO.val (h:SitO es n k p) {x:(Nat×Nat)×Nat} (hx:x∈Ei es wl lo hi k p):0<Gu es n (i0 k).length p x.1 x.2/\Gu es n (i0 k).length p x.1 x.2<=1/\Rb 256 (Gu es n (i0 k).length p x.1 x.2):=by
 have hh:=h.hit hx;have hn:n<=64:=by have:=h.n9;omega
 have hP:=h.pr hh.pr;obtain⟨n1,m1,m6⟩:=h.n2 hh.pr;have sB:x.2∈Cm es wl lo hi p x.1:=by
  obtain⟨_,x2,x3,x4,x5,x6⟩:=idx_mem.1 hx;exact par_mem.2 ⟨x3,x2,x4,x5,x6⟩
 have h1:tn es x.2*tn es (sdf (unP p x.1) x.2)<=tn es (unP p x.1)*(card (unP p x.1)-1):=by
  refine bD ?_ (UK (wl:=wl) (lo:=lo) (hi:=hi) hP);obtain⟨l1,l2,hl⟩:=List.append_of_mem sB;rw[hl,aT,aN,List.sum_append,List.sum_cons];omega
 have hts:=hh.ts;have hD:0<tn es (unP p x.1)*((n-1)*(i0 k).length):=eE aA (eE n1 m1);have hND:tn es x.2*tn es (sdf (unP p x.1) x.2)<=tn es (unP p x.1)*((n-1)*(i0 k).length):=by
  refine bD h1 (cE _ ?_);have:=hP.cd;have h2:n-1<=(n-1)*(i0 k).length:=mC _ m1;omega
 have hN0:0<tn es x.2*tn es (sdf (unP p x.1) x.2):=eE (kR hh.ta) (kR hh.tb);have hD2:tn es (unP p x.1)*((n-1)*(i0 k).length)<2^256:=by
  have h2:=US h.gv hP.sM (by have:=hP.cd;have:=h.n9;omega);have h3:(n-1)*(i0 k).length<=8*6:=bU (by have:=h.n9;omega) m6;have h4:=bU h2 h3;have h5:2^36*(8*6)<2^256:=aC;omega
 rw[bq hP hn hh.pl];have hD':=Ie hD;refine⟨(Rat.lt_div_iff hD').2 (by rw[Rat.zero_mul];exact Ie hN0),Rat.not_lt.1 fun pX=> ?_,DD (D:=tn es (unP p x.1)*((n-1)*(i0 k).length)) ⟨_,rfl,aA⟩ hD hD2⟩;rw[Rat.lt_div_iff hD',Rat.one_mul]at pX;have:((tn es (unP p x.1)*((n-1)*(i0 k).length):Nat):Int)<((tn es x.2*tn es (sdf (unP p x.1) x.2):Nat):Int):=by exact_mod_cast pX
 omega
theorem SitO.odds (h:SitO es n k p):Bc es wl lo hi n k p=(Ei es wl lo hi k p).map (Ti es n (i0 k).length p):=CQ h.lab h.used h.can h.len (by have:=h.n9;omega)
theorem UT:∀{l:List Rat},(∀q∈l,0<=q)->0<=sQ l
 |[],_=>Rat.le_refl
 |a::l,h=>by
  have h1:=h a aD;have h2:=UT (l:=l) fun q hq=>h q (by simp[hq]);simp only[sQ];grind
theorem SitO.tot (h:SitO es n k p):0<=Bq es wl lo hi n k p/\Bq es wl lo hi n k p<=1:=by
 refine⟨?_,UM h.lab h.used h.can h.len (by have:=h.n9;omega)⟩;unfold Bq;rw[h.odds,cZ];refine UT fun q hq=> ?_;obtain⟨x,hx,rfl⟩:=aY.1 hq;exact Rat.le_of_lt (h.val hx).1
theorem SitO.stay (h:SitO es n k p):0<=1-Bq es wl lo hi n k p/\1-Bq es wl lo hi n k p<=1/\Rb 256 (1-Bq es wl lo hi n k p):=by
 obtain⟨t0,t1⟩:=h.tot (wl:=wl) (lo:=lo) (hi:=hi);have a0:0<=1-Bq es wl lo hi n k p:=by grind
 have a1:1-Bq es wl lo hi n k p<=1:=by grind
 refine⟨a0,a1,?_⟩;by_cases hd:i0 k=[]
 ·have e:Bq es wl lo hi n k p=0:=by unfold Bq;rw[h.odds];unfold Ei;rw[hd];rfl
  rw[e];rw[show(1:Rat)-0=1 from by grind];exact DD (D:=1) (Qd.one aC) aC aC
 ·obtain⟨pr,qF⟩:=List.exists_mem_of_ne_nil _ hd;obtain⟨n1,m1,m6⟩:=h.n2 qF;have sW:0<(n-1)*(i0 k).length:=eE n1 m1;have hD:=Wn (es:=es) (p:=p) sW (i0 k);have hDb:Bv es n (i0 k).length p (i0 k)<=2^(42*(i0 k).length):=by
   have:∀l:List (Nat×Nat),(∀pr∈l,pr∈i0 k)->Bv es n (i0 k).length p l<=2^(42*l.length):=by
    intro l;induction l with
    |nil=>intro _;simp[Bv]
    |cons pr l ih=>
     intro hl;have ih:=ih fun pr qF=>hl pr (by simp[qF]);have hP:=h.pr (hl pr aD);have hf:Gt es n (i0 k).length p pr<=2^42:=by
      unfold Gt;split
      ·decide
      ·rw[Ic hP.sM hP.s0,dJ];have h2:=US h.gv hP.sM (by have:=hP.cd;have:=h.n9;omega);have h3:(n-1)*(i0 k).length<=8*6:=bU (by have:=h.n9;omega) m6;have h4:=bU h2 h3;have h5:2^36*(8*6)<=2^42:=aC;omega
     simp only[Bv,aO];rw[Nat.mul_succ,Nat.pow_add,cX (2^(42*l.length))];exact bU hf ih
   exact this _ fun _ h=>h
  have a6f:Bv es n (i0 k).length p (i0 k)<2^256:=by
   refine aZ hDb (dA aC aA)
  obtain⟨J,hJ⟩:∃J,J=320:=⟨_,rfl⟩;have hq:=pu hJ (es:=es) (wl:=wl) (lo:=lo) (hi:=hi) h.gv (by have:=h.n9;omega) h.len sW;have hs:Qd (Bv es n (i0 k).length p (i0 k)) _ (Bq es wl lo hi n k p):=pq (l:=(Bc es wl lo hi n k p).map (·.2)) fun q vU=>by
   obtain⟨x,hx,rfl⟩:=aY.1 vU;exact hq x hx
  exact DD (((Qd.one aA).sub hs).unit hD a0 a1) hD a6f
theorem UU (h:SitO es n k p):j5 p∉(Bc es wl lo hi n k p).map (·.1):=fun hm=>by
 obtain⟨x,hx,e⟩:=aY.1 hm;obtain⟨pr,_,a,_,_,_,_,h1,h2,_⟩:=(bf x hx).ex;exact h1 (e ▸ h2)
theorem SitO.all (h:SitO es n k p):Ap es wl lo hi n k p=Bc es wl lo hi n k p++if 0<1-Bq es wl lo hi n k p then[(j5 p,1-Bq es wl lo hi n k p)]else[]:=by
 unfold Ap;split
 ·rename_i hs;rw[if_pos (show 0<1-Bq es wl lo hi n k p from hs)];unfold Cb;rw[if_neg (UU h)];rfl
 ·rename_i hs;rw[if_neg (show ¬0<1-Bq es wl lo hi n k p from hs),bQ]
theorem SitO.stayv (h:SitO es n k p):vO (Ap es wl lo hi n k p) (j5 p)=1-Bq es wl lo hi n k p:=by
 by_cases hs:0<1-Bq es wl lo hi n k p
 ·exact Jr Wu (by rw[h.all,if_pos hs];simp)
 ·have h0:=(h.stay (wl:=wl) (lo:=lo) (hi:=hi)).1;rw[Wt]
  ·grind
  ·rw[h.all,if_neg hs,bQ];exact UU h
end
end Go.Z
namespace Go.GS
def cnC (es:List (Nat×Nat)) (S:Nat):Bool:= !decide (S=0)&&decide (Ab S es es.length (2^lst S)=S)
theorem d8Y {es:List (Nat×Nat)} {S n:Nat} (hg:GV n es) (hs:S<M64):cnB es S=cnC es S:=by
 rw[bC,cnB_iff];unfold cnC;by_cases h0:S=0
 ·subst h0;simp only[decide_true,Bool.not_true,Bool.false_and,bZ,iff_false];rintro⟨x,hx,_⟩;rw[Dc]at hx;cases hx
 ·have hx:=Qa hs h0;have hL:∀e∈es,e.1<64/\e.2<64:=fun e he=>by have:=hg.ed e he;have:=hg.n64;omega
  have hc:=lz hx (Nj (set:=S) hL (Aq (Bz hs hx)) es.length).1 (NB S es (2^lst S));rw[decide_eq_false h0,Bool.not_false,Bool.true_and,oDi];constructor
  ·intro hC;refine Ao fun y=> ?_;rw[bC,hc.2];exact⟨fun h=>h.mem hx,fun h=>hC.all hx h⟩
  ·intro e;refine⟨lst S,hx,fun y hy=>(hc.2 y).1 (by rw[e];exact hy)⟩
def alC (es:List (Nat×Nat)) (wl:List Int) (lo hi:Int) (S:Nat):Bool:=cnC es S&&(decide (Sj wl S≥lo)&&decide (Sj wl S<=hi))
theorem Wv {es:List (Nat×Nat)} {wl:List Int} {lo hi:Int} {S n:Nat} (hg:GV n es) (hs:S<M64):alB es wl lo hi S=alC es wl lo hi S:=by
 unfold alB alC;rw[d8Y hg hs]
theorem d5W {n:Nat} {es:List (Nat×Nat)} {wl p:List Int} {lo hi ds:Int} (hg:GV n es) (hl:p.length<=64):As n es wl lo hi ds p=(decide (plE n p ds=0)&&(masks p ds.toNat).all (alC es wl lo hi)):=by
 unfold As;congr 1;rw[bC,dE,dE];refine⟨fun h m hm=> ?_,fun h m hm=> ?_⟩
 ·rw[<-Wv hg (aU (zf hm hl) (aR (n:=2) aC hl))];exact h m hm
 ·rw[Wv hg (aU (zf hm hl) (aR (n:=2) aC hl))];exact h m hm
def es3:List (Nat×Nat):=[(0,1),(1,2),(2,3)]
def wl1:List Int:=[1,1,1,1]
theorem gv3:GV 4 es3:=⟨aC,aC,aC,aC,by unfold es3 elt;simp⟩
theorem bd3:bdE 4 wl1 1 3 2=0/\bdE 4 wl1 2 3 2=0:=aC
theorem DF:As 4 es3 wl1 1 3 2 [0,1,0,1]=false/\As 4 es3 wl1 1 3 2 [0,0,0,0]=false/\As 4 es3 wl1 1 3 2 [0,0,1,1]=true/\As 4 es3 wl1 2 3 2 [0,0,1,1]=true/\As 4 es3 wl1 1 3 2 [1,1,1,0]=true:=by
 refine⟨?_,?_,?_,?_,?_⟩<;>(rw[d5W gv3 aC];decide+kernel)
theorem DG:TreeOk es3 15 [0,1,2]:=by
 refine⟨aD,fun i hi=> ?_,fun i e hi he=> ?_,aC⟩
 ·simp only[aP,bP,or_false]at hi;rcases hi with rfl|rfl|rfl
  ·exact(aC:OkI es3 15 0)
  ·exact(aC:OkI es3 15 1)
  ·exact(aC:OkI es3 15 2)
 ·simp only[aO,bX]at hi
  match i,hi with
  |0,_=>cases he;decide
  |1,_=>cases he;decide
  |2,_=>cases he;decide
theorem bal3:z7 es3 wl1 1 3 15 [0,1,2] [0,1,2]=[0,1,2]/\z7 es3 wl1 2 3 15 [0,1,2] [0,1,2]=[1]:=by
 have h:∀lo,z7 es3 wl1 lo 3 15 [0,1,2] [0,1,2]=[0,1,2].filter fun k=>alC es3 wl1 lo 3 (p8 es3 15 [0,1,2] k)&&alC es3 wl1 lo 3 (sdf 15 (p8 es3 15 [0,1,2] k)):=fun lo=>by
  refine gG fun k _=> ?_;have h1:=Zy aC aC DG k;rw[Wv gv3 (aZ (sub_le h1) aC),Wv gv3 (sdf_lt aC)]
 rw[h,h];decide+kernel
end Go.GS
namespace Go.Z
open Proofs.Tryz RowKit RX GS RZ
open WD (BP Bt wd rs toI HM sgI Rb)
theorem sit3:SitO es3 4 2 [0,0,1,1]:=⟨gv3,aC,aC,aC,aC,aC,aC,aC⟩
def UV (lo:Int) (a:Nat):Bool:=alC es3 wl1 lo 3 a&&(alC es3 wl1 lo 3 (sdf 15 a)&& !decide (j5 [0,0,1,1]=j5 (Ad [0,0,1,1] (0,1) a)))
theorem tr3:trN es3 15 [] 0=1/\trN es3 7 [] 0=1/\trN es3 8 [] 0=1/\trN es3 1 [] 0=1/\trN es3 14 [] 0=1:=by decide+kernel
theorem tn3 {S:Nat} (hs:S<M64) (h0:S≠0) (h:trN es3 S [] 0=1):tn es3 S=1:=by
 have h1:=AY (es:=es3) hs h0;rw[h]at h1;unfold tn;omega
theorem UW {lo:Int}:Cm es3 wl1 lo 3 [0,0,1,1] (0,1)=(Aj 15).filter (UV lo):=by
 have hu:unP [0,0,1,1] (0,1)=15:=aC;unfold Cm;rw[hu,if_neg (by rw[Ic aC aC,tn3 aC aC tr3.1];decide)];refine gG fun a ha=> ?_;have h1:=(Qh (S:=15) aC aC ha).1;unfold Ld UV;rw[hu,Wv gv3 (aZ (sub_le h1) aC),Wv gv3 (sdf_lt aC)]
theorem par3a:Cm es3 wl1 1 3 [0,0,1,1] (0,1)=[7,1]/\Cm es3 wl1 2 3 [0,0,1,1] (0,1)=[]:=by
 rw[UW,UW];decide+kernel
theorem idx3:Ei es3 wl1 1 3 2 [0,0,1,1]=[((0,1),7),((0,1),1)]/\Ei es3 wl1 2 3 2 [0,0,1,1]=[]:=by
 have hd:i0 2=[(0,1)]:=aC;unfold Ei;rw[hd];simp only[eA,List.flatMap_nil,bQ,par3a.1,par3a.2,aN,bJ,and_self]
theorem UX {a:Nat} (ha:a∈Aj 15) (h1:tn es3 a=1) (h2:tn es3 (sdf 15 a)=1):Gu es3 4 1 [0,0,1,1] (0,1) a=1/3:=by
 have hu:unP [0,0,1,1] (0,1)=15:=aC;rw[bq (k:=2) (sit3.pr (pr:=(0,1)) aC) aC (by rw[hu];exact ha),hu,h1,h2,tn3 aC aC tr3.1];decide+kernel
theorem val3a:Gu es3 4 1 [0,0,1,1] (0,1) 7=1/3/\Gu es3 4 1 [0,0,1,1] (0,1) 1=1/3:=by
 have hm:7∈Aj 15/\1∈Aj 15:=by decide+kernel
 refine⟨UX hm.1 (tn3 aC aC tr3.2.1) ?_,UX hm.2 (tn3 aC aC tr3.2.2.2.1) ?_⟩
 ·exact tn3 (S:=sdf 15 7) aC aC (by have:=tr3.2.2.1;exact this)
 ·exact tn3 (S:=sdf 15 1) aC aC (by have:=tr3.2.2.2.2;exact this)
theorem odds3:Bc es3 wl1 1 3 4 2 [0,0,1,1]=[(j5 [0,0,0,1],1/3),(j5 [0,1,1,1],1/3)]/\Bc es3 wl1 2 3 4 2 [0,0,1,1]=[]:=by
 rw[sit3.odds,sit3.odds,idx3.1,idx3.2];have hl:(i0 2).length=1:=aC;have e1:Ad [0,0,1,1] (0,1) 7=[0,0,0,1]:=aC;have e2:Ad [0,0,1,1] (0,1) 1=[0,1,1,1]:=aC;simp only[aN,bJ,Ti,hl,val3a.1,val3a.2,e1,e2,and_self]
theorem tot3:Bq es3 wl1 1 3 4 2 [0,0,1,1]=2/3/\Bq es3 wl1 2 3 4 2 [0,0,1,1]=0:=by
 unfold Bq;rw[odds3.1,odds3.2];simp only[aN,bJ,sQ];decide+kernel
theorem DI:Ap es3 wl1 1 3 4 2 [0,0,1,1]=[(j5 [0,0,0,1],1/3),(j5 [0,1,1,1],1/3),(j5 [0,0,1,1],1/3)]:=by
 rw[sit3.all,odds3.1,tot3.1,if_pos (by decide+kernel),show(1:Rat)-2/3=1/3 by decide+kernel];rfl
theorem go3:goQ es3 wl1 1 3 4 2 [0,0,1,1] [1,1,1,0]=1/3/\goQ es3 wl1 2 3 4 2 [0,0,1,1] [0,0,1,1]=1:=by
 have hc:j6 [0,0,1,1]=[0,0,1,1]:=aC;have rY:j6 [1,1,1,0]=[0,0,0,1]:=aC;unfold goQ;rw[hc,rY];refine⟨Jr Wu (by rw[DI];simp),?_⟩;rw[sit3.stayv,tot3.2];decide+kernel
theorem rb3:Rb 256 (1/3)/\Rb 256 1:=by
 unfold Rb;decide+kernel
theorem e1z {ps:List (List Int)} (hp:ps.Perm ((Ap es3 wl1 1 3 4 2 [0,0,1,1]).map fun x=>x.1.take 4)) (ho:ps.Pairwise (fun a b=>¬s7 b a<0)):ps=[[0,0,0,1],[0,0,1,1],[0,1,1,1]]:=by
 rw[DI]at hp;have rT:ps.Perm [[0,0,0,1],[0,0,1,1],[0,1,1,1]]:=hp.trans (by decide+kernel);refine oY (le:=fun a b=>¬s7 b a<0) (fun a b ha hb h1 h2=> ?_) ho aC rT;have tI:=rT.mem_iff.1 ha;have rJ:=hb
 revert h1 h2
 simp only[aP,bP,or_false]at tI rJ;rcases tI with rfl|rfl|rfl<;>rcases rJ with rfl|rfl|rfl<;>decide
theorem e0B {q:List Int} (hq:q∈[[0,0,0,1],[0,0,1,1],[0,1,1,1]]):vO (Ap es3 wl1 1 3 4 2 [0,0,1,1]) (j5 q)=1/3:=by
 refine Jr Wu ?_;rw[DI];simp only[aP,bP,or_false]at hq;rcases hq with rfl|rfl|rfl<;>simp
open Go.WD (BP Bt wd iw rs toI HM sgI Rb Je)
section
variable {H:PH} {u v w wts:Value} {l:List Nat} {p wl:List Int} {n k:Nat} {es:List (Nat×Nat)} {lo hi:Int}
theorem DJ (hb:bdE n wl lo hi (k:Nat)=0) (hn:n<=12) (l:List (List Int)) (hf:∀p∈l,As n es wl lo hi (k:Nat) p=true):smE n es wl lo hi (k:Nat) l=0:=by
 unfold smE;rw[if_neg (by rw[hb];simp),if_neg aA,if_neg];rw[List.any_eq_true];rintro⟨p,hp,h⟩;rw[hf p hp]at h;cases h
end
section
variable {H:PH} {u v w wts:Value} {p wl:List Int} {n k:Nat} {es:List (Nat×Nat)} {lo hi ds:Int}
theorem UY {l m:List Slc} {cont cont2:Slc->List Int} (hu:SE H 1 (fun s:Slc=>[vs s]) u l) (hv:SE H 1 (fun s:Slc=>[vs s]) v m) (hl:∀s∈l,SI H (vs s) (cont s)) (hm:∀s∈m,SI H (vs s) (cont2 s)):Asks prog 14 [u,v] H (.bool (decide (l.map cont=m.map cont2))):=by
 refine i9 mixed c3Y ?_;have h1:=hu.len;have h2:=hv.len;refine j1 Ba hu ?_;refine j1 Ba hv ?_;refine d9 (d9 ?_);refine j8 (p:=(l.length≠m.length)) (by show Value.bool (((l.length:Nat):Int) !=((m.length:Nat):Int))=_;rw[bN];congr 1;apply decide_eq_decide.2;omega) (fun qC=> ?_) fun qC=> ?_
 ·exact g6 rfl ⟨rfl,by rw[decide_eq_false (fun e=>qC (by simpa using congrArg List.length e))];rfl⟩
 ·have hlm:l.length=m.length:=bB qC;refine Bf (α:=Nat) (fun i=>[.bool false,ii (i:Nat)]) (fun i=>i<=l.length/\(l.take i).map cont=(m.take i).map cont2) (fun i=>l.length-i) (0) rfl (⟨bI _,rfl⟩) fun i hQ=> ?_;obtain⟨hi,hq⟩:=hQ;refine j1 Ba hu ?_;refine d9 (d9 ?_);refine g7 (b:=decide (((i:Nat):Int)<(l.length:Nat))) rfl (fun h=> ?_) (fun h=> ?_)
  ·replace h:=oDt h;have qB:i<l.length:=aA;obtain⟨x,hx,_⟩:=m7 qB;obtain⟨y,hy,_⟩:=m7 (show i<m.length by omega);refine j4 Ba hu hx fun _=> ?_;refine j4 Ba hv hy fun _=> ?_;refine s6 (ow (hl x (aG hx)) (hm y (aG hy))) rfl ?_;refine d9 ?_;refine g7 (b:= !decide (cont x=cont2 y)) rfl (fun uB=> ?_) (fun uB=> ?_)
   ·skip
    have wA:¬l.map cont=m.map cont2:=fun e=>by
     have e2:=congrArg (fun z=>z[i]?) e;simp only[bO,hx,hy,dF,dM]at e2;simp[e2]at uB
    exact g6 rfl ⟨rfl,by rw[decide_eq_false wA];rfl⟩
   ·skip
    exact⟨i+1,aA,(i7 rfl (i6 rfl aA)),⟨⟨qB,by rw[take_snoc hx,take_snoc hy,aT,aT,hq];simp at uB;simp[uB]⟩,rfl⟩⟩
  ·replace h:=oDf h;rw[aF aA,aF aA]at hq;exact g6 rfl ⟨rfl,by rw[oDd hq];rfl⟩
theorem UZ {l m:List Rat} (hu:SE H 16 shc u (l.map tpr)) (hv:SE H 16 shc v (m.map tpr)) (hl:∀r∈l,Rg r) (hm:∀r∈m,Rg r):Asks prog 15 [u,v] H (.bool (decide (l=m))):=by
 refine i9 mixed d3J ?_;have h1:=hu.len;have h2:=hv.len;have e1:(l.map tpr).length=l.length:=aX _;have e2:(m.map tpr).length=m.length:=aX _;rw[e1]at h1;rw[e2]at h2;refine j1 el_sha hu ?_;refine j1 el_sha hv ?_;refine d9 (d9 ?_);refine j8 (p:=(l.length≠m.length)) (by rw[e1,e2];show Value.bool (((l.length:Nat):Int) !=((m.length:Nat):Int))=_;rw[bN];congr 1;apply decide_eq_decide.2;omega) (fun qC=> ?_) fun qC=> ?_
 ·exact g6 rfl ⟨rfl,by rw[decide_eq_false (fun e=>qC (by rw[e]))];rfl⟩
 ·have hlm:l.length=m.length:=bB qC;refine j1 el_sha hu ?_;refine Bf (α:=Nat) (fun i=>[.bool false,ii (i:Nat)]) (fun i=>i<=l.length/\l.take i=m.take i) (fun i=>l.length-i) (0) rfl (⟨bI _,rfl⟩) fun i hQ=> ?_;obtain⟨hi,hq⟩:=hQ;refine d9 (d9 ?_);refine j8 (p:=(((i:Nat):Int)<(l.length:Nat))) (by rw[e1];rfl) (fun h=> ?_) fun h=> ?_
  ·have qB:i<l.length:=aA;obtain⟨x,hx,_⟩:=m7 qB;obtain⟨y,hy,_⟩:=m7 (show i<m.length by omega);refine j4 el_sha hu (show(l.map tpr)[i]? =some (tpr x)from by rw[bO,hx];rfl) fun _=> ?_;refine j4 el_sha hv (show(m.map tpr)[i]? =some (tpr y)from by rw[bO,hy];rfl) fun _=> ?_;refine j7 ((d7k (hl x (aG hx)) (hm y (aG hy)) rfl (fun _ _=>rfl) (fun _ _=>rfl)).rds _) rfl ?_;refine d9 ?_;refine g7 (b:= !decide (x=y)) rfl (fun uB=> ?_) (fun uB=> ?_)
   ·skip
    have wA:¬l=m:=fun e=>by
     subst e;rw[hx]at hy
     injection hy with hy
     simp[hy]at uB
    exact g6 rfl ⟨rfl,by rw[decide_eq_false wA];rfl⟩
   ·skip
    exact⟨i+1,aA,(i7 rfl (i6 rfl aA)),⟨⟨qB,by rw[take_snoc hx,take_snoc hy,hq];simp at uB;rw[uB]⟩,rfl⟩⟩
  ·rw[aF aA,aF aA]at hq;exact g6 rfl ⟨rfl,by rw[oDd hq];rfl⟩
theorem VA {a b:Int} {t:Rat} (p0: -9223372036854775808<=a) (p1:a<9223372036854775808) (q0: -9223372036854775808<=b) (q1:b<9223372036854775808) (hb:b≠0) (ht:Rat.divInt a b=t) (hT:Rg t):Ae prog 32 [.int .i64 a,.int .i64 b] H (shR t):=by
 refine i9 mixed e0n ?_;refine g9 (Y8 a b p0 p1 q0 q1) rfl ?_;rintro _ H1 ⟨l1,rfl⟩;refine nmI ?_;rw[show Hw a b= .tuple #[shR t,ii 0]from by unfold Hw;rw[if_neg hb,ht];exact xy hT];refine i8 (i8 ?_);refine d4 (Dx _ _) ?_;exact g6 rfl ⟨l1,rfl⟩
theorem c5S (hT:Tb H) (hw:SG H w es) (hg:GV n es) (qO:SI H wts wl) (hu:SI H u p) (hb:bdE n wl lo hi ds=0):Ae prog 24 [gv n w,bv wts lo hi ds,u] H (.bool (As n es wl lo hi ds p)):=by
 refine i9 mixed d4w ?_;refine d4 (t8 hw) ?_;refine d4 (Cj (u0 qO) _ _ _) ?_;refine y9 (zj (lo:=lo) (hi:=hi) (ds:=ds) hT hw hg qO hu) rfl fun H1 l1=> ?_;rw[hb];refine i8 (i8 (d9 ?_));refine g7 (b:=decide ((0:Int)=0)&&As n es wl lo hi ds p) rfl (fun hf=> ?_) (fun hf=> ?_)
 ·skip
  have hf:As n es wl lo hi ds p=true:=by simpa using hf
  refine d9 ?_;exact g6 rfl ⟨l1,by rw[hf];rfl⟩
 ·skip
  have hf:As n es wl lo hi ds p=false:=by simpa using hf
  exact g6 rfl ⟨l1,by rw[hf];rfl⟩
theorem c5T {c:Nat} (hT:Tb H) (hw:SG H w es) (hg:GV n es) (qO:SI H wts wl) (hu:SI H u p) (hb:bdE n wl lo hi ds=0) (hf:As n es wl lo hi ds p=false):Ae prog 19 [gv n w,bv wts lo hi ds,u,chV c] H (.tuple #[.slice none 0 0,.bool false,chV 0,ii 8]):=by
 refine i9 mixed c9b ?_;have hbd:=Ni hb;refine d4 (t8 hw) ?_;refine d4 (Cj (u0 qO) _ _ _) ?_;refine d4 (d3I c) ?_;refine y9 (ly hw hg qO) rfl fun H1 l1=> ?_;refine d9 ?_;refine r9 (by show Value.bool (bdE n wl lo hi ds !=0)=_;rw[hb];rfl) ?_;refine Gm (cs:=rwc wts lo hi ds n w c 0) (by show(Value.agg ((Value.agg ((bv wts lo hi ds).cells++(gv n w).cells)).cells++(Value.agg ((chV c).cells++(r8 prog 43).cells)).cells)).cells=_;rw[e0h];rfl) fun bw hbw=> ?_;have l1B:=l1.trans (PH.le_put hbw (RwO wts lo hi ds n w c 0));have hBb:(H1.put bw (RwO wts lo hi ds n w c 0)) bw=some (RwO wts lo hi ds n w c 0):=PH.put_self _ _ _;have a6g:Chn (H1.put bw (RwO wts lo hi ds n w c 0)) n w wts es wl:=⟨hT.mono l1B,hw.mono l1B,hg,qO.mono l1B,hbd.1,hbd.2.2.2.2.2⟩;refine d7z ?_;refine Hf e0u ?_;refine Ux (vs:=[wts,ii lo,ii hi,ii ds,ii n,w]) MY rfl rfl hBb rfl (show 0+0+6<=8 by omega) rfl ?_;refine y9 (zi (lo:=lo) (hi:=hi) (ds:=ds) a6g (hu.mono l1B)) rfl fun H2 l2=> ?_;rw[hf];refine d9 ?_;refine Fh rfl ?_;exact g6 (by show Value.tuple #[.slice none 0 0,.bool false,r8 prog _,ii 8]=_;rw[MG]) ⟨l1B.trans l2,rfl⟩
theorem DK {ρ:List Value} {x y:SV} {o m:Nat} {a:Array Value} {b:Value} (hx:D prog ρ x= .agg a) (hy:D prog ρ y=b):D prog ρ (.put x o m y 0 noI)= .agg (spl a o b.cells.toList):=by
 show Value.agg (spl (D prog ρ x).cells (o+0*t6 (D prog ρ noI)) (D prog ρ y).cells.toList)=_;rw[hx,hy,cD];rfl
theorem VB {ρ:List Value} {x:SV} {s:Slc} (hx:D prog ρ x=vs s):D prog ρ (.cat x 1 (.cat (.z 3) 1 (.cat (.z 3) 1 (.z 3))))=bv (vs s) 0 0 0:=by
 have hz:D prog ρ (.z 3)=ii 0:=Vd;rw[Ib hx (Ib hz (Ib hz hz))];rfl
theorem VC {ρ:List Value} {x y:SV} {s:Slc} {low:Int} (hx:D prog ρ x=vs s) (hy:D prog ρ y=ii low):
  D prog ρ (.put (.cat (.sub (.put (.cat x 1 (.cat (.z 3) 1 (.cat (.z 3) 1 (.z 3)))) 1 1 y 0 noI) 0 2 0 noI) 2 (.cat (.k (.int .i64 3)) 1 (.sub (.put (.cat x 1 (.cat (.z 3) 1 (.cat (.z 3) 1 (.z 3)))) 1 1 y 0 noI) 3 1 0 noI))) 3 1 (.k (.int .i64 2)) 0 noI)=bv (vs s) low 3 2:=by
 have h1:D prog ρ (.put (.cat x 1 (.cat (.z 3) 1 (.cat (.z 3) 1 (.z 3)))) 1 1 y 0 noI)=bv (vs s) low 0 0:=by
  rw[DK (VB hx) hy];rfl
 have h2:D prog ρ (.cat (.sub (.put (.cat x 1 (.cat (.z 3) 1 (.cat (.z 3) 1 (.z 3)))) 1 1 y 0 noI) 0 2 0 noI) 2 (.cat (.k (.int .i64 3)) 1 (.sub (.put (.cat x 1 (.cat (.z 3) 1 (.cat (.z 3) 1 (.z 3)))) 1 1 y 0 noI) 3 1 0 noI)))=bv (vs s) low 3 0:=by
  rw[Ib (Nw h1) (Ib (show D prog ρ (.k (.int .i64 3))=ii 3 from rfl) (Nw h1))];rfl
 rw[DK h2 (show D prog ρ (.k (.int .i64 2))=ii 2 from rfl)];rfl
theorem VD (low:Int):Con prog 35 [ii low] H fun r H'=>Pl H H'/\∃w wts,r= .tuple #[gv 4 w,bv wts low 3 2]/\SG H' w es3/\SI H' wts wl1:=by
 refine i9 mixed d4v ?_;refine Fp el_edge (l:=es3) (vs:=[ev2 (0,1),ev2 (1,2),ev2 (2,3)]) rfl aC aC rfl rfl (Bo (Ky (a:=0) (b:=1) rfl rfl) (Ky (a:=1) (b:=2) rfl rfl) (Ky (a:=2) (b:=3) rfl rfl)) fun v H1 l1 o1 _=> ?_;obtain⟨sa,rfl⟩:=Ec o1.se;refine d4 o1.se.one ?_;refine Fp el_int (l:=wl1) (vs:=[ii 1,ii 1,ii 1,ii 1]) rfl aC aC rfl rfl rfl fun v2 H2 l2 o2 _=> ?_;obtain⟨sb,rfl⟩:=Ec o2.se;refine d4 o2.se.one ?_;refine d4 (Kx low) ?_;refine d4 (by show(D prog _ (.put _ 3 1 _ 0 noI)).cells.size=4/\_;rw[VC (s:=sb) (low:=low) rfl rfl];exact Cj (u0 o2.se) _ _ _) ?_;exact g6 (by show Value.tuple #[_,D prog _ (.put _ 3 1 _ 0 noI)]=_;rw[VC (s:=sb) (low:=low) rfl rfl];rfl) ⟨l1.trans l2,_,_,rfl,o1.se.mono l2,o2.se⟩
end
end Go.Z

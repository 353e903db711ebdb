/- Lemmas: chapter 32. -/
import Derived.Test.YtmannekkmdockaaGreatDoorGvF
open List renaming getElem?_append->kE,getElem?_take->fF
namespace Go.Z
open Proofs.Tryz RowKit RX GS RZ
open WD (BP Bt wd rs toI HM sgI Rb)
theorem d9c {α:Type} (f:List Int->Rat) (k:α->List Int) (v:α->Rat) (l:List α):vF f (l.map fun x=>(k x,v x))=sQ (l.map fun x=>f (k x)*v x):=by
 unfold vF;rw[cZ];rfl
section
variable {es:List (Nat×Nat)} {wl:List Int} {lo hi:Int} {n k:Nat} {p:List Int} {pr:Nat×Nat} {L M:List (List Int×Rat)}
structure SitK (es:List (Nat×Nat)) (n k:Nat) (p:List Int):Prop where
 gv:GV n es
 n9:n<=9
 lab:LabOk p (k:Nat)
 used:Ai p k
 can:j6 p=p
 len:p.length=n
 k1:1<=k
 k8:k<=8
theorem SitK.n64 (h:SitK es n k p):n<=64:=by have:=h.n9;omega
theorem SitK.kn (h:SitK es n k p):k<=n:=by have:=CU h.used;have:=h.len;omega
theorem SitK.pro (h:SitK es n k p) (qF:pr∈i0 k):PrO p n k pr:=CX h.used h.len h.n64 qF
theorem SitK.n2 (h:SitK es n k p) (qF:pr∈i0 k):0<n-1/\0<(i0 k).length:=by
 have h1:=Su qF;have:=h.kn;exact⟨aA,List.length_pos_of_mem qF⟩
noncomputable def Gg (es:List (Nat×Nat)) (wl:List Int) (lo hi:Int) (n k:Nat) (p:List Int):List (List Int×Rat):=(Ei es wl lo hi k p).map fun x=>(Ad p x.1 x.2,Gu es n (i0 k).length p x.1 x.2)
noncomputable def Ii (es:List (Nat×Nat)) (wl:List Int) (lo hi:Int) (n k:Nat) (p:List Int):List (List Int×Rat):=Gg es wl lo hi n k p++if 0<1-Bq es wl lo hi n k p then[(p,1-Bq es wl lo hi n k p)]else[]
theorem SitK.odds (h:SitK es n k p):Bc es wl lo hi n k p=(Gg es wl lo hi n k p).map fun y=>(j5 y.1,y.2):=by
 rw[CQ h.lab h.used h.can h.len h.n64];unfold Gg;rw[cZ];rfl
theorem SitK.dnd (h:SitK es n k p):((Gg es wl lo hi n k p).map (·.1)).Nodup:=by
 have h1:=UC (es:=es) (wl:=wl) (lo:=lo) (hi:=hi) (n:=n) (m:=(i0 k).length) h.lab h.used h.can h.len h.n64;have h2:(((Gg es wl lo hi n k p).map (·.1)).map j5).Nodup:=by
  unfold Gg;rw[cZ,cZ]at*;exact h1
 rw[List.Nodup,List.pairwise_map]at h2;exact h2.imp fun h e=>h (by rw[e])
theorem VT {q:List Int} (h:q∈(Gg es wl lo hi n k p).map (·.1)):∃x∈Ei es wl lo hi k p,q=Ad p x.1 x.2:=by
 obtain⟨y,hy,rfl⟩:=aY.1 h;unfold Gg at hy;obtain⟨x,hx,rfl⟩:=aY.1 hy;exact⟨x,hx,rfl⟩
theorem DZ:p∉(Gg es wl lo hi n k p).map (·.1):=fun h=>by
 obtain⟨x,hx,e⟩:=VT h;exact(idx_mem.1 hx).2.2.2.2.2 (by rw[<-e])
theorem SitK.dlen (h:SitK es n k p) {q:List Int} (hq:q∈(Gg es wl lo hi n k p).map (·.1)):q.length=n:=by
 obtain⟨x,_,rfl⟩:=VT hq;rw[bg,h.len]
theorem SitK.dpos (h:SitK es n k p):∀y∈Gg es wl lo hi n k p,0<y.2:=fun y hy=>by
 unfold Gg at hy;obtain⟨x,hx,rfl⟩:=aY.1 hy;obtain⟨x1,x2,x3,x4,x5,x6⟩:=idx_mem.1 hx;have hP:=h.pro x1;have hn:=h.n64;obtain⟨a0,b0⟩:=Tf hP.s2 hn hP.s0 x2;have hca:Cn es x.2:=by unfold alB at x4;rw[bA]at x4;exact cnB_iff.1 x4.1
 have hcb:Cn es (sdf (unP p x.1) x.2):=by unfold alB at x5;rw[bA]at x5;exact cnB_iff.1 x5.1
 have ha:=bm (By hn a0.2) a0.1 hca;have hb:=bm (By hn b0.2) b0.1 hcb;have hs:tn es (unP p x.1)≠0:=fun e=>x3 (by rw[Ic hP.sM hP.s0,e];rfl);obtain⟨n1,m1⟩:=h.n2 x1;show 0<Gu es n (i0 k).length p x.1 x.2;rw[bq hP hn x2];have hD:0<tn es (unP p x.1)*((n-1)*(i0 k).length):=eE aA (eE n1 m1);exact(Rat.lt_div_iff (Ie hD)).2 (by rw[Rat.zero_mul];exact Ie (eE aA aA))
theorem VU (f:List Int->Rat):vF f (Gg es wl lo hi n k p)=sQ ((i0 k).map fun pr=>sQ ((Cm es wl lo hi p pr).map fun a=>f (Ad p pr a)*Gu es n (i0 k).length p pr a)):=by
 unfold Gg;rw[d9c];unfold Ei;rw[Qi];refine Iu fun pr _=> ?_;rw[cZ];rfl
theorem d9d (L:List (List Int×Rat)):vF (fun _=>1) L=sQ (L.map (·.2)):=by
 unfold vF;exact Iu fun y _=>by grind
theorem SitK.tot (h:SitK es n k p):Bq es wl lo hi n k p=vF (fun _=>1) (Gg es wl lo hi n k p):=by
 rw[d9d];unfold Bq;rw[h.odds,cZ];rfl
theorem SitK.tot1 (h:SitK es n k p):Bq es wl lo hi n k p<=1:=UM h.lab h.used h.can h.len h.n64
theorem SitK.all (h:SitK es n k p):Ap es wl lo hi n k p=(Ii es wl lo hi n k p).map fun y=>(j5 y.1,y.2):=by
 unfold Ii;rw[aT,<-h.odds];unfold Ap;split
 ·rename_i hs;rw[if_pos (show 0<1-Bq es wl lo hi n k p from hs)];unfold Cb;rw[if_neg (fun hm=>by
   obtain⟨x,hx,e⟩:=aY.1 hm;obtain⟨pr,_,a,_,_,_,_,h1,h2,_⟩:=(bf x hx).ex;exact h1 (e ▸ h2))];rfl
 ·rename_i hs;rw[if_neg (show ¬0<1-Bq es wl lo hi n k p from hs),bJ,bQ]
theorem SitK.nlen (h:SitK es n k p) {q:List Int} (hq:q∈(Ii es wl lo hi n k p).map (·.1)):q.length=n:=by
 unfold Ii at hq;rw[aT,aQ]at hq;rcases hq with hq|hq
 ·exact h.dlen hq
 ·split at hq
  ·rw[aN,bJ,aL]at hq;rw[hq];exact h.len
  ·cases hq
theorem SitK.nnd (h:SitK es n k p):((Ii es wl lo hi n k p).map (·.1)).Nodup:=by
 unfold Ii;rw[aT,cQ];refine⟨h.dnd,by split<;>simp,fun a ha b hb e=> ?_⟩;subst e;split at hb
 ·rw[aN,bJ,aL]at hb;subst hb;exact DZ ha
 ·cases hb
theorem SitK.npos (h:SitK es n k p):∀y∈Ii es wl lo hi n k p,0<y.2:=fun y hy=>by
 unfold Ii at hy;rcases aQ.1 hy with hy|hy
 ·exact h.dpos y hy
 ·split at hy
  ·rename_i hs;rw[aL.1 hy];exact hs
  ·cases hy
structure To (es:List (Nat×Nat)) (wl:List Int) (lo hi:Int) (n k:Nat) (p:List Int) (L:List (List Int×Rat)):Prop where
 off:∀f:List Int->Rat,f p=0->vF f L=vF f (Gg es wl lo hi n k p)
 tot:vF (fun _=>1) L=1
 lns:Lns n L
theorem SitK.same (h:SitK es n k p) (hL:To es wl lo hi n k p L) (q:List Int):vF (ind q) L=vF (ind q) (Ii es wl lo hi n k p):=by
 unfold Ii;rw[DN];by_cases e:q=p
 ·subst e;have h1:=hL.off (fun r=>1+ -1*ind q r) (by show 1+ -1*ind q q=0;rw[qg];grind);have qT:∀M:List (List Int×Rat),vF (fun r=>1+ -1*ind q r) M=vF (fun _=>1) M-vF (ind q) M:=fun M=>by
   rw[VJ];have:vF (fun r=> -1*ind q r) M= -vF (ind q) M:=by
    unfold vF;rw[show(M.map fun y=> -1*ind q y.1*y.2)=M.map fun y=> -1*(ind q y.1*y.2)from bW fun y _=>by grind,qj]
    grind
   rw[this];grind
  rw[qT,qT,hL.tot,Tn (DZ (p:=q)),<-h.tot]at h1;rw[Tn (DZ (p:=q))];have h2:=h.tot1 (wl:=wl) (lo:=lo) (hi:=hi);split
  ·rw[Gv,If,qg];grind
  ·rw[If];grind
 ·rw[hL.off (ind q) (bu fun h=>e h.symm)];split
  ·rw[Gv,If,bu (fun h=>e h.symm)];grind
  ·rw[If];grind
theorem VV {q:List Int} (hp:∀y∈L,0<y.2):q∈L.map (·.1)↔0<vF (ind q) L:=
 ⟨DU hp,fun h=>bB fun hc=>by rw[Tn hc]at h;exact absurd h aC⟩
theorem SitK.perm (h:SitK es n k p) (hL:To es wl lo hi n k p L):((Ap es wl lo hi n k p).map fun x=>x.1.take n).Perm (L.map (·.1)):=by
 have e:((Ap es wl lo hi n k p).map fun x=>x.1.take n)=(Ii es wl lo hi n k p).map (·.1):=by
  rw[h.all,cZ];refine bW fun y hy=> ?_;show(j5 y.1).take n=y.1;rw[<-h.nlen (aY.2 ⟨y,hy,rfl⟩)];exact UO
 rw[e];refine(List.perm_ext_iff_of_nodup h.nnd hL.lns.nd).2 fun q=> ?_;rw[VV h.npos,VV hL.lns.pos,h.same hL]
theorem SitK.val (h:SitK es n k p) (hL:To es wl lo hi n k p L) {q:List Int} (hq:q.length=n):vO (Ap es wl lo hi n k p) (j5 q)=vO L q:=by
 rw[<-VI hL.lns.nd,h.same hL,VI h.nnd];by_cases hm:q∈(Ii es wl lo hi n k p).map (·.1)
 ·obtain⟨⟨r,x⟩,hy,rfl⟩:=aY.1 hm;rw[Jr h.nnd hy];exact Jr Wu (by rw[h.all];exact aY.2 ⟨_,hy,rfl⟩)
 ·rw[Wt hm,Wt];rw[h.all,cZ];intro hc;obtain⟨y,hy,e⟩:=aY.1 hc;have hym:y.1∈(Ii es wl lo hi n k p).map (·.1):=aY.2 ⟨y,hy,rfl⟩;have:=BS (by rw[h.nlen hym,hq]) (show j5 y.1=j5 q from e);exact hm (this ▸ hym)
end
end Go.Z
namespace Go.RX
open RowKit
section
variable {P:Program} {T e e2:TypeId} {sz:Nat} {ag:Bool} {α:Type} {ce:α->List Value} {ve:α->Value} (E:El P T e sz ag ce ve)
variable {G:Value->PH->Prop} {nx:List (List Value->PH->Prop)} {ρ:List Value} {H H0:PH} {o1 o2 o3:Oper} {x y x2 x3 y3:Operand} {id1 i1 id2 i2 id3 i3:Nat} {args1 args2 args3:List SV} {t:Tree} {v c:Value} {l:List α} {a a':α} {k:IntKind} {j f off:Nat} {pf:Bool}
include E
theorem Iy (hF:FA P e f off) (hS:Sc P e2) (hc:(ce a)[off]? =some c) (sR:o1.op= .indexAddr T x y) (sS:o2.op= .fieldAddr e x2 f) (zA:o3.op= .load e2 x3) (hx:g8 [x,y] [v,.int k (j:Nat)] x=v) (hy:g8 [x,y] [v,.int k (j:Nat)] y= .int k (j:Nat)) (rG:∀p,g8 [x2] [p] x2=p) (vY:∀p,g8 [x3] [p] x3=p)
  (h:SE H sz ce v l) (hj:l[j]? =some a) (ha:args1.map (D P ρ)=[v,.int k (j:Nat)]) (rI:∀p,args2.map (D P (ρ++[p]))=[p]) (wP:∀p p',args3.map (D P (ρ++[p]++[p']))=[p'])
  (n:∀p p',den P G t nx (ρ++[p]++[p']++[c]) H):den P G (.prim id1 i1 o1 args1 (.prim id2 i2 o2 args2 (.prim id3 i3 o3 args3 t))) nx ρ H:=by
 refine Yx E sR hx hy h hj ha fun p hp=> ?_;obtain⟨b,q,cs,T',fz,rfl,h2,h3,h4⟩:=hp;have pX:=(aH.1 hc).1;refine ko hF sS (rG _) (rI _) ?_;refine Bn hS zA (vY _) h2 ?_ (wP _ _) (n _ _);rw[<-cT];rw[<-h4,dO pX,cS]at hc;exact hc
theorem EA {ws:List Value} (hF:FA P e f off) (hA:Ag P e2 ws.length) (hw:((ce a).drop off).take ws.length=ws) (hlw:off+ws.length<=sz) (sR:o1.op= .indexAddr T x y) (sS:o2.op= .fieldAddr e x2 f) (zA:o3.op= .load e2 x3) (hx:g8 [x,y] [v,.int k (j:Nat)] x=v) (hy:g8 [x,y] [v,.int k (j:Nat)] y= .int k (j:Nat)) (rG:∀p,g8 [x2] [p] x2=p) (vY:∀p,g8 [x3] [p] x3=p)
  (h:SE H sz ce v l) (hj:l[j]? =some a) (ha:args1.map (D P ρ)=[v,.int k (j:Nat)]) (rI:∀p,args2.map (D P (ρ++[p]))=[p]) (wP:∀p p',args3.map (D P (ρ++[p]++[p']))=[p'])
  (n:∀p p',den P G t nx (ρ++[p]++[p']++[.agg ws.toArray]) H):den P G (.prim id1 i1 o1 args1 (.prim id2 i2 o2 args2 (.prim id3 i3 o3 args3 t))) nx ρ H:=by
 refine Yx E sR hx hy h hj ha fun p hp=> ?_;obtain⟨b,q,cs,T',fz,rfl,h2,h3,h4⟩:=hp;rw[E.len]at h3 h4;refine ko hF sS (rG _) (rI _) ?_;refine Ux hA zA (vY _) h2 ?_ aA (wP _ _) (n _ _);rw[<-h4,List.drop_take,List.take_take,bY aA,List.drop_drop]at hw;exact hw
theorem d0n (hF:FA P e f off) (hS:Sc P e2) (a0w:off<sz) (hce:ce a'=(ce a).set off c) (sL:c.cells= #[c]) (hco:Dm c=true) (sR:o1.op= .indexAddr T x y) (sS:o2.op= .fieldAddr e x2 f) (zA:o3.op= .store e2 x3 y3) (hx:g8 [x,y] [v,.int k (j:Nat)] x=v) (hy:g8 [x,y] [v,.int k (j:Nat)] y= .int k (j:Nat)) (rG:∀p,g8 [x2] [p] x2=p) (vY:∀p,g8 [x3,y3] [p,c] x3=p) (hy3:∀p,g8 [x3,y3] [p,c] y3=c)
  (pY:Pl H0 H) (h:SO H0 H e sz ce v l) (hj:l[j]? =some a) (ha:args1.map (D P ρ)=[v,.int k (j:Nat)]) (rI:∀p,args2.map (D P (ρ++[p]))=[p]) (wP:∀p p',args3.map (D P (ρ++[p]++[p']))=[p',c]) (uT:pf=false)
  (n:∀p p' u H',Pl H0 H'->SO H0 H' e sz ce v (l.set j a')->den P G t nx (ρ++[p]++[p']++[u]) H'):den P G (.prim id1 i1 o1 args1 (.prim id2 i2 o2 args2 (.eff pf id3 i3 o3 args3 t))) nx ρ H:=by
 obtain⟨hjl,hja⟩:=aH.1 hj;have hs:=h.se;obtain⟨qD,hv⟩:=h;rcases hv with⟨_,h0⟩|⟨g,cap,cur,rfl,rZ,hg,hnc,uC,qM,vA⟩
 ·omega
 have rO:=E.pos;have hjs:(j+1)*sz<=l.length*sz:=bL _ hjl;have a0j:l.length*sz<=cap*sz:=bL _ hnc;rw[cK,cM]at hjs;have xY:=Xz (P:=P) (m:=(j:Int)) (n:=l.length) (c:=cap) sR hx hy E.und E.has aA aA;rw[aV,E.cel,bK]at xY;refine j7 (xY.rds H) ha (ko hF sS (rG _) (rI _) ?_);have hq:j*sz+off<cur.size:=aA;refine Zf hS zA (vY _) (hy3 _) hg hq sL hco (wP _ _) (fun h=>by rw[uT]at h;cases h) ?_;refine n _ _ _ _ (fun k' ob hk=> ?_) ⟨by rw[Kq E.len,cJ],.inr ⟨g,cap,_,by rw[cJ],rZ,PH.put_self _ _ _,by rw[cJ];exact hnc,uC,by rw[Array.size_setIfInBounds];exact qM,?_⟩⟩
 ·rw[PH.put_ne _ _ (fun e=>by rw[e,rZ]at hk;cases hk)];exact pY _ _ hk
 ·have a0k:l.length*sz<=cur.size:=by rw[qM];exact a0j
  have hN:(cur.toList.take (l.length*sz)).length=l.length*sz:=by rw[bM,dC];exact bY a0k
  have hat:((l.flatMap ce).drop (j*sz)).take sz=ce a:=LD E.len hj;rw[<-vA]at hat;clear qM a0j hs;rw[cJ,LE E.len hjl,<-vA,hce,Array.toList_setIfInBounds];apply bG;intro m;rw[fF,dH,bH,kE,bM,hN,bY aA,kE,cJ,E.len,fF,cS,fF,fF,dH,E.len,dC (xs:=cur)];by_cases h1:m<l.length*sz
  ·rw[if_pos h1];by_cases h2:m<j*sz
   ·rw[if_neg aA,if_pos h2,if_pos h2,if_pos h1]
   ·rw[if_neg h2];by_cases h3:m-j*sz<sz
    ·rw[if_pos h3];by_cases h4:j*sz+off=m
     ·rw[if_pos h4,if_pos hq,if_pos aA,if_pos a0w]
     ·rw[if_neg h4,if_neg aA,<-hat,dO h3,cS,dO aA,show j*sz+(m-j*sz)=m by omega]
    ·rw[if_neg h3,if_neg aA];rw[if_pos aA,show j*sz+sz+(m-j*sz-sz)=m from aA]
  ·rw[if_neg h1,if_neg aA,if_neg aA,if_neg aA]
end
end Go.RX
namespace Go.Z
open Proofs.Tryz RowKit RX
set_option maxRecDepth 100000
theorem d6e:tree prog [] [] [] [] 11=some (.cq 2 V0
(.rq (.int .i64 (.cn V0 0)) (.ret [(.io .leq (.cn V0 0) (.ki 9))]))):=aB
theorem c6l:tree prog [57,61,999997,999998] [] [⟨0,9,[],[]⟩] [⟨2000014,[],[],[],[7],[10]⟩,⟨14,[0,0,0,6,14,30,62,127,0,0,767,2047,4095,8191],[0,0,0,7,7,7,8,8,0,5,8,8,0,0],[0,0,0,0,0,0,0,0,0,2,0,0,0,0],[],[0,1,2,3,4,5,8,9,6,7,10,11,12,13]⟩,⟨1000014,[0,0,0,6,14,30,62,1151,0,0,512,2047,4095,8191],[0,0,0,1,1,1,3,8,0,5,3,8,0,0],[0,0,0,0,0,0,0,0,0,2,0,0,0,0],[0,1,2,3,4,5,8,9,6,10],[7,11,12,13]⟩] 13=some (.cq 2 V0
(.cq 4 V1
(.ef false f13 1 3 [V2]
(.cf 53 [(.ag V0),(.ag V1),V3]
(.ri V4
(.br (.io .neq V4 (.ki 0)) (.ret [(.k (.slice none 0 0)),(.k (.slice none 0 0)),V4])
(.cf 54 [V2]
(.tq 0 V5
(.tq 1 V5
(.cf 55 [(.ag V0),(.ag V1),(.pj V5 0)]
(.loop [(.k (.slice none 0 0)),(.k (.slice none 0 0)),(.ki 0),(.k (.slice none 0 0)),(.k (.slice none 0 0)),(.ki 0)]
(.pm f13 9 2 [V6]
(.ri V12
(.ri V13
(.br (.io .lss V12 V13)
(.pm f13 11 2 [V6,V12]
(.pm f13 11 3 [V14]
(.pm f13 11 4 [V15]
(.cf 56 [V16]
(.tq 0 V17
(.tq 1 V17
(.cq 16 (.pj V17 0) (.rq (.int .i64 (.pj V17 1)) (.br (.io .neq (.pj V17 1) (.ki 0)) (.ret [(.k (.slice none 0 0)),(.k (.slice none 0 0)),(.pj V17 1)])
(.both
(.pm f13 14 3 [V6,V12]
(.pm f13 14 4 [V18]
(.pm f13 14 5 [V19]
(.mq f13 14 6 [V20]
(.ef false f13 14 7 [V10,V21]
(.mq f13 14 10 [(.ag (.pj V17 0))]
(.ef false f13 14 11 [V11,V23]
(.next 0 [V7,V8,V9,V22,V24,(.io .add V12 (.ki 1))]))))))))
(.pm f13 14 3 [V6,V12]
(.pm f13 14 4 [V18]
(.pm f13 14 5 [V19]
(.mq f13 14 6 [V20]
(.mq f13 14 10 [(.ag (.pj V17 0))]
(.ef false f13 14 7 [V10,V21]
(.ef false f13 14 11 [V11,V22]
(.next 0 [V7,V8,V9,V23,V24,(.io .add V12 (.ki 1))])))))))))))))))))) (.ret [V10,V11,(.ki 0)])))))))))))))))):=aB
theorem d0o:tree prog [] [] [⟨0,8,[],[]⟩] [] 17=some (.cq 2 V0
(.cq 4 V1
(.ef false f17 1 4 [V2,V3]
(.cf 53 [(.ag V0),(.ag V1),V4]
(.ri V5
(.br (.io .neq V5 (.ki 0)) (.ret [(.cat (.z 56) 8 (.z 56)),V5])
(.cf 54 [V2]
(.tq 0 V6
(.tq 1 V6
(.cf 54 [V3]
(.tq 0 V7
(.tq 1 V7
(.cf 55 [(.ag V0),(.ag V1),(.pj V6 0)]
(.loop [(.ki 0),(.ki 0)]
(.pm f17 8 2 [V8]
(.ri V10
(.ri V11
(.br (.io .lss V10 V11)
(.pm f17 10 2 [V8,V10]
(.pm f17 10 3 [V12]
(.pm f17 10 4 [V13]
(.cf 57 [V14,(.pj V7 0)]
(.rb V15
(.br V15
(.pm f17 11 2 [V8,V10]
(.pm f17 11 3 [V16]
(.pm f17 11 4 [V17]
(.cf 56 [V18]
(.tq 0 V19
(.tq 1 V19
(.cq 16 (.pj V19 0) (.ret [(.ag (.pj V19 0)),(.pj V19 1)])))))))) (.next 0 [V9,(.io .add V10 (.ki 1))])))))))
(.cf 59 [(.ki 0),(.ki 1)]
(.tq 0 V12
(.tq 1 V12
(.cq 16 (.pj V12 0) (.ret [(.ag (.pj V12 0)),(.pj V12 1)]))))))))))))))))))))))):=aB
theorem c6m:tree prog [] [] [⟨0,7,[],[]⟩] [⟨9,[0,0,0,0,12,28,63,127],[5,5,0,0,1,1,2,0],[0,1,0,0,0,0,0,0],[0,1,2,3,4,5,6,7],[]⟩] 53=some (.cq 2 V0
(.cq 4 V1
(.cf 94 [(.ag V0),(.ag V1)]
(.ri V3
(.br (.io .neq V3 (.ki 0)) (.ret [V3]) (.rq (.int .i64 (.cn V0 0)) (.br (.io .gtr (.cn V0 0) (.ki 12)) (.ret [(.ki 3)]) (.loop [(.ki 0),(.ki 0)]
(.pm f53 7 2 [V2]
(.ri V5
(.ri V6
(.br (.io .lss V5 V6)
(.pm f53 9 4 [V2,V5]
(.pm f53 9 5 [V7]
(.ct 95 [(.ag V0),(.ag V1),V8]
(.rb V9
(.br (.nt V9) (.ret [(.ki 8)]) (.next 0 [V4,(.io .add V5 (.ki 1))])))))) (.ret [(.ki 0)]))))))))))))):=aB
theorem c6n:tree prog [] [] [⟨0,6,[],[]⟩] [⟨8,[0,0,0,0,0,0,48,112,0,256,1023,2047],[0,5,5,0,0,0,1,1,0,1,2,0],[0,0,1,0,0,0,0,0,0,0,0,0],[0,1,2,3,4,5,6,7,8,9,10,11],[]⟩] 55=some (.cq 2 V0
(.cq 4 V1
(.cf 97 [(.cn V1 3)]
(.pm f55 2 1 [V3]
(.ri V4
(.br (.io .eql V4 (.ki 0))
(.cf 98 [(.ki 1),(.ki 1)]
(.cq 1 V2
(.cq 4 V5
(.ef false f55 3 3 [(.pn (.cat V2 1 (.z 128)) 1 4 V5)]
(.ret [V6]))))) (.loop [(.k (.slice none 0 0)),(.ki 0)]
(.pm f55 6 2 [V3]
(.ri V6
(.ri V7
(.br (.io .lss V6 V7)
(.pm f55 8 6 [V3,V6]
(.pm f55 8 7 [V8]
(.pm f55 8 9 [V3]
(.ct 99 [V5,(.ag V0),(.ag V1),V2,V9,V10]
(.next 0 [V11,(.io .add V6 (.ki 1))]))))) (.ret [V5])))))))))))):=aB
theorem c6o:tree prog [] [] [⟨0,8,[],[]⟩,⟨0,13,[],[]⟩,⟨0,20,[],[]⟩] [⟨10,[0,0,0,0,0,24,56,127,255],[5,5,0,0,0,1,1,2,0],[0,1,0,0,0,0,0,0,0],[0,1,2,3,4,5,6,7,8],[]⟩,⟨15,[0,0,0,0,12,28,0,0,192,448,1023,2047,4095,4095,4095,8191,49151,131071],[5,0,0,0,1,1,0,0,1,1,2,0,0,0,0,0,0,0],[0,0,0,0,0,0,0,0,0,0,0,0,0,0,0,0,0,0],[0,1,2,3,4,5,6,7,8,9,10,11,12,13,14,15,16,17],[]⟩,⟨23,[0,0,0,6,14,30,0,0,0,384,896,1920,0,0,12288,28672,61440,130944,262080,524287,1048575],[0,0,0,1,1,1,5,0,0,1,1,1,0,0,1,1,1,2,2,2,0],[0,0,0,0,0,0,3,0,0,0,0,0,0,0,0,0,0,0,0,0,0],[0,1,2,3,4,5,6,7,8,9,10,11,12,13,14,15,16,17,18,19,20],[]⟩] 99=some (.cq 2 V1
(.cq 4 V2
(.cq 2 V4
(.cf 164 [V3,(.ag V4)]
(.cf 41 [(.ag V1),V6]
(.rb V7
(.br (.nt V7)
(.cf 98 [(.ki 1),V5]
(.cf 165 [V0,V3,V8]
(.ret [V9])))
(.cf 42 [(.ag V1),V6]
(.pm f99 5 2 [V8]
(.ri V5
(.ri V9
(.rq (.int .i64 (.cn V1 0))
(.cf 98 [(.ki 1),(.io .mul (.io .mul V5 V9) (.io .sub (.cn V1 0) (.ki 1)))]
(.cq 4 V10
(.loop [(.k (.slice none 0 0)),(.ki 0)]
(.pm f99 8 2 [V8]
(.ri V12
(.ri V13
(.br (.io .lss V12 V13)
(.pm f99 10 5 [V8,V12]
(.pm f99 10 6 [V14]
(.ct 166 [(.ag V1),(.ag V2),V6,V15]
(.pm f99 11 6 [V16]
(.ri V17
(.cf 167 [V11,V3,(.io .sub (.io .sub (.cn V1 0) (.ki 1)) V17),(.ki 1)]
(.loop [V18,(.ki 0)]
(.pm f99 13 2 [V16]
(.ri V20
(.ri V21
(.br (.io .lss V20 V21)
(.pm f99 15 4 [V8,V12]
(.pm f99 15 5 [V22]
(.pm f99 15 8 [V16,V20]
(.pm f99 15 9 [V24]
(.ct 168 [(.ag V1),V6,V23,V25]
(.tq 0 V26
(.tq 1 V26
(.tq 2 V26
(.cf 169 [(.ag V1),(.pj V26 0),(.pj V26 1)]
(.cf 170 [V3,(.ag V4),(.pj V26 0)]
(.cf 167 [V19,V28,(.ki 1),V27]
(.ri V27
(.cf 167 [V29,V3,(.io .sub V27 (.ki 1)),V27]
(.next 1 [V30,(.io .add V20 (.ki 1))])))))))))))))) (.next 0 [V19,(.io .add V12 (.ki 1))])))))))))))) (.loop [V0,(.ki 0)]
(.pm f99 20 2 [V11]
(.ri V15
(.ri V16
(.br (.io .lss V15 V16)
(.pm f99 22 2 [V11,V15]
(.pm f99 22 3 [V17]
(.pm f99 22 4 [V18]
(.ri V19
(.br (.io .gtr V19 (.ki 0))
(.pm f99 23 3 [V11,V15]
(.pm f99 23 4 [V20]
(.pm f99 23 5 [V21]
(.pm f99 23 9 [V11,V15]
(.pm f99 23 10 [V23]
(.pm f99 23 11 [V24]
(.pm f99 23 14 [V11,V15]
(.pm f99 23 15 [V26]
(.pm f99 23 16 [V27]
(.ct 98 [V25,V28]
(.ct 171 [(.ag V10),V29]
(.ct 165 [V14,V22,V30]
(.next 1 [V31,(.io .add V15 (.ki 1))]))))))))))))) (.next 1 [V14,(.io .add V15 (.ki 1))])))))) (.ret [V14]))))))))))))))))))))))))):=aB
theorem c6p:tree prog [999998] [] [⟨0,4,[],[]⟩] [⟨7,[0,0,0,0,12,28,60,0,252,510,1022,2047,4095],[0,0,0,0,7,7,7,5,8,0,8,8,0],[0,0,0,0,0,0,0,0,0,0,0,0,0],[],[0,1,2,3,4,5,6,7,8,9,10,11,12]⟩] 165=some (.cq 4 V2
(.loop [kF,(.k (.slice none 0 0)),(.ki 0)]
(.pm f165 4 2 [V0]
(.ri V5
(.ri V6
(.br (.io .lss V5 V6)
(.rb V3
(.br (.nt V3)
(.pm f165 6 5 [V0,V5]
(.pm f165 6 6 [V7]
(.pm f165 6 7 [V8]
(.cf 57 [V9,V1]
(.rb V10
(.br V10
(.pm f165 7 4 [V0,V5]
(.pm f165 7 5 [V11]
(.pm f165 7 6 [V12]
(.cf 214 [V13,(.ag V2)]
(.cq 1 V1
(.cq 4 V14
(.ef false f165 7 10 [(.pn (.cat V1 1 (.z 128)) 1 4 V14)]
(.ef false f165 7 11 [V4,V15]
(.next 0 [kT,V16,(.io .add V5 (.ki 1))])))))))))
(.pm f165 9 6 [V0,V5]
(.pm f165 9 7 [V11]
(.pm f165 9 8 [V12]
(.cf 215 [V1,V13]
(.rb V14
(.br V14
(.cq 1 V1
(.ef false f165 10 4 [(.pn (.cat V1 1 (.z 128)) 1 4 (.ag V2))]
(.ef false f165 10 5 [V4,V15]
(.pm f165 12 3 [V0,V5]
(.pm f165 12 4 [V17]
(.ef false f165 12 5 [V18]
(.ef false f165 12 6 [V16,V19]
(.next 0 [kT,V20,(.io .add V5 (.ki 1))]))))))))
(.pm f165 12 3 [V0,V5]
(.pm f165 12 4 [V15]
(.ef false f165 12 5 [V16]
(.ef false f165 12 6 [V4,V17]
(.next 0 [V3,V18,(.io .add V5 (.ki 1))])))))))))))))))))
(.pm f165 12 3 [V0,V5]
(.pm f165 12 4 [V7]
(.ef false f165 12 5 [V8]
(.ef false f165 12 6 [V4,V9]
(.next 0 [V3,V10,(.io .add V5 (.ki 1))])))))))
(.rb V3
(.br (.nt V3)
(.cq 1 V1
(.ef false f165 14 4 [(.pn (.cat V1 1 (.z 128)) 1 4 (.ag V2))]
(.ef false f165 14 5 [V4,V7]
(.ret [V8])))) (.ret [V4]))))))))):=aB
theorem c6q:tree prog [] [] [⟨0,2,[],[]⟩] [] 167=some (.loop [(.k (.slice none 0 0)),(.ki 0)]
(.pm f167 2 2 [V0]
(.ri V5
(.ri V6
(.br (.io .lss V5 V6)
(.pm f167 4 2 [V0,V5]
(.pm f167 4 3 [V7]
(.pm f167 4 4 [V8]
(.ri V9
(.ri V3
(.br (.io .eql V9 V3)
(.pm f167 4 10 [V0,V5]
(.pm f167 4 11 [V10]
(.pm f167 4 12 [V11]
(.cf 57 [V12,V1]
(.rb V13
(.br V13
(.pm f167 5 4 [V0,V5]
(.pm f167 5 5 [V14]
(.pm f167 5 6 [V15]
(.ri V16
(.ri V2
(.pm f167 5 9 [V0,V5]
(.pm f167 5 10 [V17]
(.ef false f167 5 11 [V18,(.io .add V16 V2)]
(.ret [V0]))))))))) (.next 0 [V4,(.io .add V5 (.ki 1))]))))))) (.next 0 [V4,(.io .add V5 (.ki 1))])))))))
(.cq 1 V1
(.cq 1 V2
(.cq 1 V3
(.ef false f167 7 5 [(.cat (.sn (.pn (.cat V1 1 (.cat (.z 3) 1 (.z 3))) 1 1 V2) 0 2) 2 V3)]
(.ef false f167 7 6 [V0,V7]
(.ret [V8]))))))))))):=aB
theorem c6r:tree prog [] [] [⟨0,2,[],[]⟩] [⟨4,[0,0,3,7,0,0,48,112,255],[0,0,1,1,0,0,1,1,0],[0,0,0,0,0,0,0,0,0],[0,1,2,3,4,5,6,7,8],[]⟩,⟨5,[0,0,3,7,0,0,48,112,255,511],[0,0,1,1,0,0,1,1,0,0],[0,0,0,0,0,0,0,0,0,0],[0,1,2,3,4,5,6,7,8,9],[]⟩] 215=some (.loop [kF,(.ki 0)]
(.pm f215 2 2 [V0]
(.ri V3
(.ri V4
(.br (.io .lss V3 V4)
(.pm f215 4 2 [V0,V3]
(.pm f215 4 3 [V5]
(.pm f215 4 6 [V1,V3]
(.pm f215 4 7 [V7]
(.ri V6
(.ri V8
(.br (.io .neq V6 V8)
(.pm f215 5 2 [V0,V3]
(.pm f215 5 3 [V9]
(.pm f215 5 6 [V1,V3]
(.pm f215 5 7 [V11]
(.ri V10
(.ri V12
(.ret [(.io .lss V10 V12)]))))))) (.next 0 [V2,(.io .add V3 (.ki 1))])))))))) (.ret [kF])))))):=aB
@[reducible] def Wy:SV:= .cell (.sub (.put (.put (.z 47) 0 7 (.cat (.ag (.pj V5 0)) 2 (.cat (.ag (.pj V5 1)) 4 (.pj V5 2))) 0 noI) 7 7 (.cat (.ag (.pj V6 0)) 2 (.cat (.ag (.pj V6 1)) 4 (.pj V6 2))) 0 noI) 0 7 7 V10) 6 0 noI
theorem d9e:tree prog [] [(50,true),(54,false)] [⟨0,8,[],[0,1,2,3,4,5]⟩,⟨0,18,[],[]⟩] [] 3=some (.cq 10 V0
(.cq 3 V1
(.cf 7 []
(.rb V4
(.br (.nt V4) (.ret [kF])
(.cf 8 [(.ag V0)]
(.tq 0 V5
(.tq 1 V5
(.tq 2 V5
(.cq 2 (.pj V5 0)
(.cq 4 (.pj V5 1)
(.cf 9 [(.ag V1),(.ag (.pj V5 0)),(.ag (.pj V5 1)),(.pj V5 2)]
(.tq 0 V6
(.tq 1 V6
(.tq 2 V6
(.cq 2 (.pj V6 0)
(.cq 4 (.pj V6 1)
(.cf 10 [(.ag (.pj V6 0))]
(.ri V7
(.rq (.isb true (.io .eql V7 (.ki 0)))
(.cf 11 [(.ag (.pj V6 0))]
(.rb V8
(.rq (.isb false (.nt V8))
(.cq 1 (.pj V5 2)
(.cq 1 (.pj V6 2) (.loop [kF,(.ki 0),V0,V1,(.pj V5 0),(.pj V5 1),(.pj V6 0),(.pj V6 1)]
(.ri V10
(.br (.io .lss V10 (.ki 2)) (.rq (.num V10) (.rq (.lt 2 V10)
(.cq 7 (.sub (.pn (.pn (.z 47) 0 7 (.cat (.ag (.pj V5 0)) 2 (.cat (.ag (.pj V5 1)) 4 (.pj V5 2)))) 7 7 (.cat (.ag (.pj V6 0)) 2 (.cat (.ag (.pj V6 1)) 4 (.pj V6 2)))) 0 7 7 V10)
(.cf 12 [(.sn (.sub (.pn (.pn (.z 47) 0 7 (.cat (.ag (.pj V5 0)) 2 (.cat (.ag (.pj V5 1)) 4 (.pj V5 2)))) 7 7 (.cat (.ag (.pj V6 0)) 2 (.cat (.ag (.pj V6 1)) 4 (.pj V6 2)))) 0 7 7 V10) 0 2),(.sn (.sub (.pn (.pn (.z 47) 0 7 (.cat (.ag (.pj V5 0)) 2 (.cat (.ag (.pj V5 1)) 4 (.pj V5 2)))) 7 7 (.cat (.ag (.pj V6 0)) 2 (.cat (.ag (.pj V6 1)) 4 (.pj V6 2)))) 0 7 7 V10) 2 4),Wy]
(.tq 0 V17
(.tq 1 V17
(.tq 2 V17
(.cf 13 [(.sn (.sub (.pn (.pn (.z 47) 0 7 (.cat (.ag (.pj V5 0)) 2 (.cat (.ag (.pj V5 1)) 4 (.pj V5 2)))) 7 7 (.cat (.ag (.pj V6 0)) 2 (.cat (.ag (.pj V6 1)) 4 (.pj V6 2)))) 0 7 7 V10) 0 2),(.sn (.sub (.pn (.pn (.z 47) 0 7 (.cat (.ag (.pj V5 0)) 2 (.cat (.ag (.pj V5 1)) 4 (.pj V5 2)))) 7 7 (.cat (.ag (.pj V6 0)) 2 (.cat (.ag (.pj V6 1)) 4 (.pj V6 2)))) 0 7 7 V10) 2 4),Wy]
(.tq 0 V18
(.tq 1 V18
(.tq 2 V18
(.cf 14 [(.pj V17 0),(.pj V18 0)]
(.rb V19
(.br (.nt V19) (.ret [kF])
(.cf 15 [(.pj V17 1),(.pj V18 1)]
(.rb V20
(.br (.nt V20) (.ret [kF]) (.rq (.int .i64 (.pj V17 2)) (.rq (.int .i64 (.pj V18 2)) (.br (.io .neq (.pj V17 2) (.pj V18 2)) (.ret [kF])
(.pm f3 14 3 [V2]
(.pm f3 14 4 [V21,(.ki 12)]
(.pm f3 14 5 [V2,V22]
(.ef false f3 14 6 [(.pj V6 2),V23]
(.pm f3 15 1 [(.pj V18 0)]
(.ri V25
(.br (.io .gtr V25 (.ki 0)) (.rq (.int .u16 V3)
(.pm f3 16 5 [(.pj V18 0)]
(.ri V26
(.rq (.nz V26)
(.pm f3 16 7 [(.pj V18 0),(.io .rem (.cv .i64 V3) V26)]
(.pm f3 16 8 [V27]
(.ef false f3 16 9 [V28]
(.ef false f3 16 10 [V24,V29]
(.pm f3 17 1 [V30]
(.loop [V9,(.ki 0)]
(.ri V33
(.ri V31
(.br (.io .lss V33 V31)
(.pm f3 19 0 [V30,V33]
(.pm f3 19 1 [V34]
(.cf 16 [(.sn (.sub (.pn (.pn (.z 47) 0 7 (.cat (.ag (.pj V5 0)) 2 (.cat (.ag (.pj V5 1)) 4 (.pj V5 2)))) 7 7 (.cat (.ag (.pj V6 0)) 2 (.cat (.ag (.pj V6 1)) 4 (.pj V6 2)))) 0 7 7 V10) 0 2),(.sn (.sub (.pn (.pn (.z 47) 0 7 (.cat (.ag (.pj V5 0)) 2 (.cat (.ag (.pj V5 1)) 4 (.pj V5 2)))) 7 7 (.cat (.ag (.pj V6 0)) 2 (.cat (.ag (.pj V6 1)) 4 (.pj V6 2)))) 0 7 7 V10) 2 4),Wy,V35]
(.tq 0 V36
(.tq 1 V36
(.cq 16 (.pj V36 0)
(.cf 17 [(.sn (.sub (.pn (.pn (.z 47) 0 7 (.cat (.ag (.pj V5 0)) 2 (.cat (.ag (.pj V5 1)) 4 (.pj V5 2)))) 7 7 (.cat (.ag (.pj V6 0)) 2 (.cat (.ag (.pj V6 1)) 4 (.pj V6 2)))) 0 7 7 V10) 0 2),(.sn (.sub (.pn (.pn (.z 47) 0 7 (.cat (.ag (.pj V5 0)) 2 (.cat (.ag (.pj V5 1)) 4 (.pj V5 2)))) 7 7 (.cat (.ag (.pj V6 0)) 2 (.cat (.ag (.pj V6 1)) 4 (.pj V6 2)))) 0 7 7 V10) 2 4),Wy,V35]
(.tq 0 V37
(.tq 1 V37
(.cq 16 (.pj V37 0)
(.pm f3 22 2 [(.ag (.pj V36 0)),(.ag (.pj V37 0))]
(.rb V38
(.br V38
(.ret [kF]) (.rq (.int .i64 (.pj V36 1)) (.rq (.int .i64 (.pj V37 1)) (.br (.io .neq (.pj V36 1) (.pj V37 1)) (.ret [kF]) (.next 1 [V32,(.io .add V33 (.ki 1))]))))))))))))))))) (.next 0 [V32,(.io .add V10 (.ki 1)),V11,V12,V13,V14,V15,V16]))))))))))))))
(.pm f3 17 1 [V24]
(.loop [V9,(.ki 0)]
(.ri V28
(.ri V26
(.br (.io .lss V28 V26)
(.pm f3 19 0 [V24,V28]
(.pm f3 19 1 [V29]
(.cf 16 [(.sn (.sub (.pn (.pn (.z 47) 0 7 (.cat (.ag (.pj V5 0)) 2 (.cat (.ag (.pj V5 1)) 4 (.pj V5 2)))) 7 7 (.cat (.ag (.pj V6 0)) 2 (.cat (.ag (.pj V6 1)) 4 (.pj V6 2)))) 0 7 7 V10) 0 2),(.sn (.sub (.pn (.pn (.z 47) 0 7 (.cat (.ag (.pj V5 0)) 2 (.cat (.ag (.pj V5 1)) 4 (.pj V5 2)))) 7 7 (.cat (.ag (.pj V6 0)) 2 (.cat (.ag (.pj V6 1)) 4 (.pj V6 2)))) 0 7 7 V10) 2 4),Wy,V30]
(.tq 0 V31
(.tq 1 V31
(.cq 16 (.pj V31 0)
(.cf 17 [(.sn (.sub (.pn (.pn (.z 47) 0 7 (.cat (.ag (.pj V5 0)) 2 (.cat (.ag (.pj V5 1)) 4 (.pj V5 2)))) 7 7 (.cat (.ag (.pj V6 0)) 2 (.cat (.ag (.pj V6 1)) 4 (.pj V6 2)))) 0 7 7 V10) 0 2),(.sn (.sub (.pn (.pn (.z 47) 0 7 (.cat (.ag (.pj V5 0)) 2 (.cat (.ag (.pj V5 1)) 4 (.pj V5 2)))) 7 7 (.cat (.ag (.pj V6 0)) 2 (.cat (.ag (.pj V6 1)) 4 (.pj V6 2)))) 0 7 7 V10) 2 4),Wy,V30]
(.tq 0 V32
(.tq 1 V32
(.cq 16 (.pj V32 0)
(.pm f3 22 2 [(.ag (.pj V31 0)),(.ag (.pj V32 0))]
(.rb V33
(.br V33
(.ret [kF]) (.rq (.int .i64 (.pj V31 1)) (.rq (.int .i64 (.pj V32 1)) (.br (.io .neq (.pj V31 1) (.pj V32 1)) (.ret [kF]) (.next 1 [V27,(.io .add V28 (.ki 1))]))))))))))))))))) (.next 0 [V27,(.io .add V10 (.ki 1)),V11,V12,V13,V14,V15,V16]))))))))))))))))))))))))))))))))) (.ret [kT]))))))))))))))))))))))))))))):=aB
theorem b6x:(opr f3 14 5).op= .slice 33 (.tmp 106) none (some (.tmp 109)) none:=aB
end Go.Z

/- Lemmas: chapter 32. -/
import Derived.Test.YtmannekkmdockaaGreatDoorGyG
open Classical renaming byContradiction->aP
open List renaming getD_eq_getElem?_getD->aB,getElem?_eq_none->aW,mem_of_getElem?->aI,take_of_length_le->aK
open Nat renaming zero_le->bI
open Option renaming some->bZ
open Prod.mk renaming injEq->eB
namespace Go.Proofs.Z
open Go.Proofs.Tryz
open Go.RowKit Go.RX Go.GS
section
variable {H H0:PH} {u v w wts:Value} {p q wl t l m:List Int} {n a b:Nat} {es:List (Nat×Nat)} {lo hi ds k:Int} {set x:Nat}
theorem b9y (hu:SI H u l) (hv:SI H v m):Asks prog 57 [u,v] H (.bool (decide (l=m))):=by
 refine j3 mixed c2X ?_;have h1:=hu.len;have h2:=hv.len;refine j7 el_plan hu ?_;refine j7 el_plan hv ?_;refine d4 (d4 ?_);refine r9 (p:=(l.length≠m.length)) (by show Value.bool (((l.length:Nat):Int) !=((m.length:Nat):Int))=_;rw[bN];congr 1;apply decide_eq_decide.2;omega) (fun h=> ?_) fun h=> ?_
 ·exact g8 rfl ⟨rfl,by rw[decide_eq_false (fun e=>h (by rw[e]))];rfl⟩
 ·have hlm:l.length=m.length:=by omega
  refine Dq (α:=Nat×Value) (fun⟨i,z⟩=>[z,ii (i:Nat)]) (fun⟨i,z⟩=>i<=l.length/\∀j,j<i->l[j]? =m[j]?) (fun⟨i,z⟩=>l.length-i) ((0,.bool false)) rfl (⟨bI _,fun j hj=>absurd hj (Nat.not_lt_zero _)⟩) fun⟨i,z⟩ hQ=> ?_;obtain⟨hi,hq⟩:=hQ;refine j7 el_plan hu ?_;refine d4 (d4 ?_);refine i0 (b:=decide (((i:Nat):Int)<(l.length:Nat))) rfl (fun h3=> ?_) (fun h3=> ?_)
  ·replace h3:=oDt h3;obtain⟨y,hy,_⟩:=t7 (l:=l) (i:=i) (by omega);obtain⟨z2,hz,_⟩:=t7 (l:=m) (i:=i) (by omega);refine j8 el_plan hu hy fun _=> ?_;refine j8 el_plan hv hz fun _=> ?_;refine d4 (d4 ?_);refine r9 (p:=(y≠z2)) (bN _ _) (fun h4=> ?_) fun h4=> ?_
   ·exact g8 rfl ⟨rfl,by rw[decide_eq_false (fun e=>by subst e;rw[hy]at hz;exact h4 (bZ.inj hz))];rfl⟩
   ·have h4':y=z2:=aP h4;exact⟨(i+1,z),by show l.length-(i+1)<l.length-i;omega,(j4 rfl (i9 rfl (by omega))),⟨⟨by show i+1<=l.length;omega,fun j hj=>by
     by_cases e:j=i
     ·subst e;rw[hy,hz,h4']
     ·exact hq j (by have:j<i+1:=hj;omega)⟩,rfl⟩⟩
  ·replace h3:=oDf h3;have he:i=l.length:=by omega
   subst he;have a5w:l=m:=List.ext_getElem? fun j=>by
    by_cases hj:j<l.length
    ·exact hq j hj
    ·rw[aW (by omega),aW (by omega)]
   exact g8 rfl ⟨rfl,by rw[oDd a5w];rfl⟩
end
end Go.Proofs.Z
/- Chapter 32: the reference's random spanning trees. -/
namespace Go.GS
open Go.RowKit Go.RX
theorem PY {P:Program} {ρ:List Value} {a:SV} {p:Nat} (ha:D P ρ a=ii (p:Nat)) (h0:0<p) (h:p<9223372036854775807):D P ρ (.op2 .sub .i64 a (.k (.int .i64 1)))=ii ((p-1:Nat):Int):=by
 obtain⟨k,rfl⟩:∃k,p=k+1:=⟨p-1,by omega⟩;exact Ou ha (by omega)
end Go.GS
/- Chapter 32: a step, by the program. -/
namespace Go.GS
def Io (c e m:Nat):Nat×Nat×Nat:=if e=0 then j9 c m else(0,c,e)
theorem d4G {s n:Nat} (h:0<n):(j9 s n).1<n:=by
 by_cases h0:(j9 s n).2.2=0
 ·exact Na h0
 ·unfold j9 at h0⊢;rw[if_neg (by omega)]at h0⊢;cases hf:Du n 200 s with
  |none=>exact h
  |some p=>rw[hf]at h0;exact absurd rfl h0
theorem d8c {s n:Nat} (h:(j9 s n).2.2≠0):(j9 s n).1=0:=by
 unfold j9 at h⊢;split
 ·rfl
 ·rename_i hn;rw[if_neg hn]at h;cases hf:Du n 200 s with
  |none=>rfl
  |some p=>rw[hf]at h;exact absurd rfl h
end Go.GS
namespace Go.Proofs.Z
open Go.Proofs.Tryz
open Go.RowKit Go.RX Go.GS
theorem Tc:Sc prog 43:=⟨by kernel_rfl,by kernel_rfl,by kernel_rfl⟩
theorem Jk:FA prog 137 0 0:=⟨by kernel_rfl,oDt (by kernel_rfl),by kernel_rfl,by kernel_rfl,oDt (by kernel_rfl)⟩
theorem al:FA prog 137 1 6:=⟨by kernel_rfl,oDt (by kernel_rfl),by kernel_rfl,by kernel_rfl,oDt (by kernel_rfl)⟩
theorem Td:FA prog 137 2 7:=⟨by kernel_rfl,oDt (by kernel_rfl),by kernel_rfl,by kernel_rfl,oDt (by kernel_rfl)⟩
theorem e0h:FA prog 37 0 0:=⟨by kernel_rfl,oDt (by kernel_rfl),by kernel_rfl,by kernel_rfl,oDt (by kernel_rfl)⟩
theorem AC:Au prog 110=true:=by kernel_rfl
def fwr (bw:Nat):Value:= .func (.func 110) #[.pointer (some ⟨bw,0,none⟩)] #[]
section
variable {H H0:PH} {u v w wts:Value} {p q wl t l:List Int} {n c e m bw:Nat} {es:List (Nat×Nat)} {lo hi ds:Int} {set x:Nat}
def rwc (wts:Value) (lo hi ds:Int) (n:Nat) (w:Value) (c e:Nat):Array Value:= #[wts,ii lo,ii hi,ii ds,ii (n:Nat),w,uv c,ii (e:Nat)]
def RwO (wts:Value) (lo hi ds:Int) (n:Nat) (w:Value) (c e:Nat):Obj:= .cells (rwc wts lo hi ds n w c e) 137 (0,0)
theorem SO.cut {α:Type} {e:TypeId} {sz:Nat} {ce:α->List Value} {v:Value} {l:List α} {X H:PH} {b:Nat} (h:SO X H e sz ce v l) (hX:X b≠none):SE (j1 H b) sz ce v l:=
 SO.se (H0:=X) (h.tr fun g ob h3 h4=>⟨h3,by unfold j1;rw[if_neg (fun e=>by subst e;exact hX h3)];exact h4⟩)
theorem AD {m:List Int} (hu:SI H u l) (hv:SI H v m):Asks prog 20 [u,v] H (.bool (decide (l=m))):=by
 refine j3 mixed U9 ?_;have hl:=hu.len;have hm:=hv.len;refine j7 el_plan hu ?_;refine j7 el_plan hv ?_;refine d4 (d4 ?_);refine r9 (p:=(l.length≠m.length)) (by show Value.bool (((l.length:Nat):Int) !=((m.length:Nat):Int))=_;rw[bN];congr 1;apply decide_eq_decide.2;omega) (fun h=> ?_) fun h=> ?_
 ·exact g8 rfl ⟨rfl,by rw[decide_eq_false (fun e=>h (by rw[e]))];rfl⟩
 ·have hlm:l.length=m.length:=by omega
  refine j7 el_plan hu ?_;refine Dq (α:=Nat×Value) (fun⟨i,p⟩=>[p,ii (i:Nat)]) (fun⟨i,p⟩=>i<=l.length/\l.take i=m.take i) (fun⟨i,p⟩=>l.length-i) ((0,.bool false)) rfl (⟨bI _,rfl⟩) fun⟨i,p⟩ hQ=> ?_;obtain⟨hi,hq⟩:=hQ;refine d4 (d4 ?_);refine i0 (b:=decide (((i:Nat):Int)<(l.length:Nat))) rfl (fun h2=> ?_) (fun h2=> ?_)
  ·replace h2:=oDt h2;have pW:i<l.length:=by omega
   obtain⟨x,hx,tB⟩:=t7 pW;refine j8 el_plan hu hx fun _=> ?_;obtain⟨y,hy,vC⟩:=t7 (l:=m) (i:=i) (by omega);refine j8 el_plan hv hy fun _=> ?_;refine d4 (d4 ?_);refine r9 (p:=(x≠y)) (bN x y) (fun tC=> ?_) fun tC=> ?_
   ·exact g8 rfl ⟨rfl,by rw[decide_eq_false (fun e=>tC (by subst e;rw[hx]at hy;exact bZ.inj hy))];rfl⟩
   ·have tC:x=y:=aP tC;exact⟨(i+1,p),by show l.length-(i+1)<l.length-i;omega,(j4 rfl (i9 rfl (by omega))),⟨⟨pW,by rw[take_snoc hx,take_snoc hy,hq,tC]⟩,rfl⟩⟩
  ·replace h2:=oDf h2;rw[aK (by omega),aK (by omega)]at hq;exact g8 rfl ⟨rfl,by rw[oDd hq];rfl⟩
theorem AE (hb:H bw=some (RwO wts lo hi ds n w c e)) (hc:c<M64) (hm:m<9223372036854775808):Con prog 110 [.pointer (some ⟨bw,0,none⟩),ii (m:Nat)] H fun u H'=>u=ii ((Io c e m).1:Nat)/\PH.le (H.put bw (RwO wts lo hi ds n w (Io c e m).2.1 (Io c e m).2.2)) H':=by
 refine j3 mixed d2F ?_;have qF:=Vr c m;refine As ?_;refine s6 Td ?_;refine w9 Tc rfl rfl hb rfl rfl ?_;refine d4 ?_;refine r9 (p:=(e≠0)) (bN0 e) (fun h=> ?_) fun h=> ?_
 ·exact g8 rfl ⟨by unfold Io;rw[if_neg h];rfl,by unfold Io;rw[if_neg h];exact Vs (Jb H bw) hb⟩
 ·have h0:e=0:=by omega
  subst h0;rw[show Io c 0 m=j9 c m from if_pos rfl];refine As ?_;refine s6 al ?_;refine Fj (vs:=[uv c]) Md rfl rfl hb rfl (show 0+6+1<=8 by omega) rfl ?_;refine x9 ((MC c m ▸ KT (s:=c) (z:=(m:Nat)) hc (by omega))) rfl fun H1 l1=> ?_;refine i8 (i8 (i8 ?_));refine d9 (Hf _) ?_;refine As ?_;refine s6 al ?_;refine yl (vs:=[uv (j9 c m).2.1]) Md rfl rfl rfl (l1 _ _ hb) (by show 0+6+1<=8;omega) (by intro c hc;simp at hc;subst hc;rfl) rfl rfl ?_;have qR:=PH.put_self H1 bw (.cells (spl (rwc wts lo hi ds n w c 0) (0+6) [uv (j9 c m).2.1]) 137 (0,0));refine As ?_;refine s6 Td ?_;refine Oq (u:=ii ((j9 c m).2.2:Nat)) Tc rfl rfl rfl qR (by show 0+7<8;omega) rfl rfl rfl (fun h=>(nomatch h)) ?_;rw[PH.put_put];exact g8 rfl ⟨rfl,Vs (MD l1 _) (PH.put_self _ _ _)⟩
theorem DraO.case {H':PH} {r:Value} {R:Nat ⊕ (List Int×Nat)} (h:DraO H H' r R):∃v c e t,r= .tuple #[v,chV c,ii (e:Nat)]/\OI H H' v t/\((e≠0/\R= .inl e/\c=0/\t=[])\/(e=0/\∃tr,R= .inr (tr,c)/\c<M64/\t=Dc tr)):=by
 cases R with
 |inl e=>obtain⟨h1,h2⟩:=h;exact⟨_,0,e,[],h2,SO.nil _ _ _ _ _,.inl ⟨h1,rfl,rfl,rfl⟩⟩
 |inr p=>
  obtain⟨tr,c⟩:=p;obtain⟨h1,v,h3,h4⟩:=h;exact⟨v,c,0,Dc tr,h3,h4,.inr ⟨rfl,tr,rfl,h1,rfl⟩⟩
theorem c3T {n:Nat} {es:List (Nat×Nat)} (hg:GV n es) (qK:n<=64) {set:Nat} (hs:set<M64):∀(k d:Nat) (tr:List Int) (c left:Nat) {tr':List Int} {c':Nat},k<=n->d<2^n->tr.length+1<=card d->Ea es set n k d tr c left= .inr (tr',c')->tr'.length<=n:=by
 intro k;induction k with
 |zero=>
  intro d tr c left tr' c' hk hd ht h;simp only[Ea,Sum.inr.injEq,eB]at h;have:=kx hd qK;rw[<-h.1];omega
 |succ k ih=>
  intro d tr c left tr' c' hk hd ht h;simp only[Ea]at h;split at h
  ·split at h
   ·cases h
   ·rename_i l c1 left1 hW;obtain⟨h1,h2,h3,h4,h5⟩:=OT hg qK hs (by omega) hd hW;refine ih _ _ _ _ (by omega) h5 ?_ h;have qW:0<(u0 l).length:=by unfold u0;simp
    rw[List.length_append,ae];omega
  ·exact ih _ _ _ _ (by omega) hd ht h
def StR (wts:Value) (lo hi ds:Int) (n:Nat) (w:Value) (bw:Nat) (q:List Int) (H':PH) (r:Value) (R:Nat ⊕ (List Int×Bool×Nat)):Prop:=∃c e,H' bw=some (RwO wts lo hi ds n w c e)/\((e≠0/\R= .inl e)\/(e=0/\c<M64/\∃q' mv,R= .inr (q',mv,c)/\SI H' r q'/\mv= !decide (q=q')))
set_option maxHeartbeats 4000000 in
theorem c8G {k:Nat} (hb:H bw=some (RwO wts lo hi (k:Nat) n w c 0)) (hch:Chn (j1 H bw) n w wts es wl) (hu:SI (j1 H bw) u q) (hn:n<=9) (hql:q.length=n) (tH:1<=k) (uN:k<=8) (hL:LabOk q (k:Nat)) (hU:Ak q k) (hc:c<M64):
  Con prog 62 [.pointer (some ⟨bw,0,none⟩),u] H fun r H'=>PH.le (j1 H bw) H'/\StR wts lo hi (k:Nat) n w bw q H' r (stP n es wl lo hi k q c):=by
 refine j3 mixed d2L ?_;have qK:n<=64:=by omega
 have hg:=hch.ok;have yC:H bw≠none:=by rw[hb];exact fun h=>nomatch h
 have a3f:PH.le (H.put bw (RwO wts lo hi (k:Nat) n w c 0)) H:=Vs (Jb H bw) hb;have hL8:LabOk q 8:=⟨fun x hx=>by have:=hL.1 x hx;omega,hL.2⟩;have a3g:∀ca mm:Nat,Io ca 0 mm=j9 ca mm:=fun ca mm=>if_pos rfl;refine He (jj rfl) rfl ?_;simp only[cA,nA];refine As ?_;simp only[cA,nA];refine s6 Jk ?_;simp only[cA,nA];refine s6 Pg ?_;simp only[cA,nA];refine s6 Zj ?_;simp only[cA,nA];refine w9 sc_int rfl rfl hb rfl rfl ?_;simp only[cA,nA];refine i6 (AB uN) rfl ?_;rintro v8 H1 ⟨l1,h8⟩;refine nmI ?_;simp only[cA,nA];refine Om el_edge rfl rfl h8.se rfl ?_;simp only[cA,nA];refine r7 ((FQ (a:=((i7 k).length:Nat)) (b:=1) rfl rfl rfl).rds _) rfl ?_;simp only[cA,nA];have a7d:=zu k uN;rw[show(if(1:Int)<(((i7 k).length:Nat):Int)then(1:Int)else(((i7 k).length:Nat):Int))=((min (i7 k).length 1:Nat):Int) by split<;>omega];have k1:=Pm a3f l1;refine s9 (α:=Nat×Nat) (fun⟨i,cc⟩=>[.slice none 0 0,ii (i:Nat)]) (fun⟨i,cc⟩=>fun H'=>(i=0/\cc=c/\H'=H1)\/(i=1/\cc<M64/\stP n es wl lo hi k q c= .inr (q,false,cc)/\PH.le (H.put bw (RwO wts lo hi (k:Nat) n w cc 0)) H')) (fun⟨i,cc⟩=>1-i) ((0,c)) rfl (.inl ⟨rfl,rfl,rfl⟩) fun⟨i,cc⟩ H' hQ=> ?_;simp only[cA,nA];refine d4 (d4 ?_);refine i0 (b:=decide (((i:Nat):Int)<((min (i7 k).length 1:Nat):Int))) rfl (fun pO=> ?_) (fun pO=> ?_)
 ·replace pO:=oDt pO;obtain⟨rfl,rfl,rfl⟩:i=0/\cc=c/\H'=H1:=hQ.resolve_right (fun h=>by omega);have hLp:0<(i7 k).length:=by omega
  have a5x:k≠1:=fun e=>by subst e;rw[c8s]at hLp;cases hLp
  have hbx:=(Ah k1).2;refine As ?_;simp only[cA,nA];refine s6 Jk ?_;simp only[cA,nA];refine s6 Pg ?_;simp only[cA,nA];refine s6 Zj ?_;simp only[cA,nA];refine w9 sc_int rfl rfl hbx rfl rfl ?_;simp only[cA,nA];refine i6 (AB uN) rfl ?_;rintro v18 H2 ⟨l2,h18⟩;refine nmI ?_;simp only[cA,nA];have k2:=Pm k1 l2;have h1n:H' bw≠none:=by rw[hbx];exact fun h=>nomatch h
  have a5y:=SO.cut h18 h1n;refine r4 (Go.RZ.opn_callw (P:=prog) (ws:=[ii ((i7 k).length:Nat)]) (bs:= #[.pointer (some ⟨bw,0,none⟩)]) (caps:= #[]) (vs:=[fwr bw,ii ((i7 k).length:Nat)]) rfl rfl rfl AC (AE (m:=(i7 k).length) (Ah k2).2 hc (by omega))) rfl ?_;rintro v19 H3 ⟨rfl,l3⟩;refine nmI ?_;simp only[cA,nA];rw[a3g]at l3⊢;have k3:=Si k2 l3;have hxL:=d4G (s:=cc) hLp;obtain⟨pr,qT,_⟩:=t7 hxL;have hgp:(i7 k).getD (j9 cc (i7 k).length).1 (0,0)=pr:=by rw[aB,qT];rfl
  have a7h:=Ta (aI qT);have zQ:stP n es wl lo hi k q cc=if(j9 cc (i7 k).length).2.2≠0 then .inl (j9 cc (i7 k).length).2.2 else stA n es wl lo hi q pr (Av q pr) (j9 cc (i7 k).length).2.1:=by unfold stP;rw[if_neg a5x,hgp]
  have sG:=Vr cc (i7 k).length;generalize hB1:j9 cc (i7 k).length=B1 at*;obtain⟨x1,c1,e1⟩:=B1;simp only at*;refine j8 el_edge (a5y.mono (Ah l3).1) qT fun _=> ?_;simp only[cA,nA];refine d9 (el_edge.vcells pr) ?_;have uC:=(Ah k3).2;have yK:=hu.mono (Ah k3).1;refine As ?_;simp only[cA,nA];refine s6 Jk ?_;simp only[cA,nA];refine s6 Pg ?_;simp only[cA,nA];refine s6 Zj ?_;simp only[cA,nA];refine w9 sc_int rfl rfl uC rfl rfl ?_;simp only[cA,nA];refine i6 (yb yK k tH uN hL hU) rfl ?_;rintro r27 H4 ⟨l4,z,rfl,hz⟩;refine nmI ?_;simp only[cA,nA];have k4:=Pm k3 l4;have hb4:=(Ah k4).2;have hc4:=hch.mono (Ah k4).1;refine i8 (i8 ?_);refine j8 el_u64 hz (Rw q q.length (show pr.1<k by omega)) fun _=> ?_;simp only[cA,nA];refine j8 el_u64 hz (Rw q q.length (show pr.2<k by omega)) fun _=> ?_;simp only[cA,nA];refine d4 (d4 ?_);refine As ?_;simp only[cA,nA];refine s6 Jk ?_;simp only[cA,nA];refine s6 Vm ?_;simp only[cA,nA];refine Fj (vs:=[ii n,w]) Zl rfl rfl hb4 rfl (show 0+0+4+2<=8 by omega) rfl ?_;simp only[cA,nA];have zR:=Ox q (pr.1:Nat) (m:=q.length) (by omega);have uM:=Ox q (pr.2:Nat) (m:=q.length) (by omega);have a0d:=Zh q (pr.1:Nat) (m:=q.length) (by omega);have a0e:=Zh q (pr.2:Nat) (m:=q.length) (by omega);have wM:Av q pr<2^n:=by unfold Av j5;rw[<-hql];exact Nat.or_lt_two_pow zR uM
  have zS:Av q pr≠0:=fun e=>by
   have h1:bit (Av q pr)=bit 0:=by rw[e]
   obtain⟨x,g1,_⟩:=Ru (a:=0) (b:=j5 q (pr.1:Nat)) (fun e=>hU pr.1 (by omega) e.symm) (fun y hy=>by rw[Bz]at hy;cases hy);have h2:=congrFun h1 x;rw[Bz,Av,aa,g1]at h2;cases h2
  have a1r:=Ci qK wM;refine x9 (ya hc4.tb hc4.gr hg a1r) (j4 rfl (Cb rfl rfl a0d a0e)) fun H5 l5=> ?_;simp only[cA,nA];rw[show Vk n es (Av q pr)= .tuple #[.bool (cnB es (Av q pr)),ii 0]from if_pos wM];have k5:=Pm k4 l5;have vE:=(Ah k5).2;refine i8 (i8 (d4 ?_));refine i0 (b:= !cnB es (Av q pr)) rfl (fun g1=> ?_) (fun g1=> ?_)
  ·skip
   exact g8 rfl ⟨(Ah k5).1,c1,e1,vE,by
    by_cases h0:e1=0
    ·subst h0;refine .inr ⟨rfl,sG,q,false,?_,hu.mono (Ah k5).1,by simp⟩;rw[zQ,if_neg (by simp)];unfold stA;rw[if_neg (by simpa using g1)]
    ·exact .inl ⟨h0,by rw[zQ,if_pos h0]⟩⟩
  ·skip
   have tA:cnB es (Av q pr)=true:=by simpa using g1
   refine As ?_;simp only[cA,nA];refine s6 Td ?_;simp only[cA,nA];refine w9 Tc rfl rfl vE rfl rfl ?_;simp only[cA,nA];refine d4 ?_;refine r9 (p:=(e1≠0)) (bN0 e1) (fun g2=> ?_) fun g2=> ?_
   ·exact g8 rfl ⟨(Ah k5).1,c1,e1,vE,.inl ⟨g2,by rw[zQ,if_pos g2]⟩⟩
   ·have h0:e1=0:=by omega
    subst h0;rw[if_neg (by simp)]at zQ;refine As ?_;simp only[cA,nA];refine s6 Jk ?_;simp only[cA,nA];refine s6 Vm ?_;simp only[cA,nA];refine Fj (vs:=[ii n,w]) Zl rfl rfl vE rfl (show 0+0+4+2<=8 by omega) rfl ?_;simp only[cA,nA];refine As ?_;simp only[cA,nA];refine s6 al ?_;simp only[cA,nA];refine Fj (vs:=[uv c1]) Md rfl rfl vE rfl (show 0+6+1<=8 by omega) rfl ?_;simp only[cA,nA];have hc5:=hch.mono (Ah k5).1;obtain⟨x0,r0,rJ,a5z,_,_⟩:=Je a1r zS;refine i6 (c8z hc5.tb hc5.gr hg hn zS wM tA sG rJ) (Cc rfl (Cb rfl rfl a0d a0e) rfl) ?_;rintro r47 H6 ⟨l6,hD⟩;refine⟨fun _=>l6,?_⟩;simp only[cA,nA];have a3h:stP n es wl lo hi k q cc=match Ea es (Av q pr) n n (2^x0) [] c1 10000 with| .inl e=> .inl e| .inr (tr,c2)=>stB n es wl lo hi q pr (Av q pr) (Dc tr) c2:=by rw[zQ];unfold stA;rw[if_pos tA,show(els (Av q pr)).headD 64=x0 by rw[rJ];rfl];rfl
    obtain⟨v47,c2,e2,t,rfl,ht,rT⟩:=DraO.case hD;have a1p:=Zg wM a5z;have zN:1<=card (2^x0):=by
     have:=kw [x0] 0 (by simp) (fun y hy=>by obtain rfl:=List.mem_singleton.1 hy;exact⟨Bz _,by omega⟩);have e:orL 0 [x0]=2^x0:=by unfold orL;simp
     rw[e]at this;simp at this;omega
    have zK:t.length<=1000/\c2<M64:=by
     rcases rT with⟨_,_,h1,rfl⟩|⟨_,tr,hR,h1,rfl⟩
     ·subst h1;exact⟨bI _,Jy⟩
     ·have:=c3T hg qK a1r n (2^x0) [] c1 10000 (Nat.le_refl _) (Nat.pow_lt_pow_right (by decide) a1p) zN hR;rw[(Wc tr).1.length_eq];exact⟨by omega,h1⟩
    obtain⟨zK,rD⟩:=zK;have a1s:(e2≠0/\stP n es wl lo hi k q cc= .inl e2)\/(e2=0/\stP n es wl lo hi k q cc=stB n es wl lo hi q pr (Av q pr) t c2):=by
     rcases rT with⟨h1,hR,_,_⟩|⟨h1,tr,hR,_,rfl⟩
     ·exact .inl ⟨h1,by rw[a3h,hR]⟩
     ·exact .inr ⟨h1,by rw[a3h,hR]⟩
    have k6:=Pm k5 l6;have hb6:=(Ah k6).2;have h5n:H5 bw≠none:=by rw[vE];exact fun h=>nomatch h
    have htc:=SO.cut ht h5n;refine i8 (i8 (i8 ?_));refine d9 (Hf c2) ?_;refine As ?_;simp only[cA,nA];refine s6 al ?_;simp only[cA,nA];refine yl (vs:=[uv c2]) Md rfl rfl rfl hb6 (by show 0+6+1<=8;omega) (by intro c hc;simp at hc;subst hc;rfl) rfl rfl ?_;simp only[cA,nA];have a6a:=PH.put_self H6 bw (.cells (spl (rwc wts lo hi (k:Nat) n w c1 0) (0+6) [uv c2]) 137 (0,0));refine As ?_;simp only[cA,nA];refine s6 Td ?_;simp only[cA,nA];refine Oq (u:=ii (e2:Nat)) Tc rfl rfl rfl a6a (by show 0+7<8;omega) rfl rfl rfl (fun h=>(nomatch h)) ?_;simp only[cA,nA];rw[PH.put_put];show den prog _ _ _ _ (H6.put bw (RwO wts lo hi (k:Nat) n w c2 e2));have k7:PH.le (H.put bw (RwO wts lo hi (k:Nat) n w c2 e2)) (H6.put bw (RwO wts lo hi (k:Nat) n w c2 e2)):=Si k6 (PH.le.refl _);have a6b:SI (H6.put bw (RwO wts lo hi (k:Nat) n w c2 e2)) v47 t:=htc.mono (jl _ _ _);have a0p:SI (j1 (H6.put bw (RwO wts lo hi (k:Nat) n w c2 e2)) bw) v47 t:=htc.mono (fun k o hk=>by
     unfold j1 at hk⊢;by_cases e:k=bw
     ·rw[if_pos e]at hk;cases hk
     ·rw[if_neg e]at hk⊢;rw[PH.put_ne _ _ e];exact hk)
    generalize H6.put bw (RwO wts lo hi (k:Nat) n w c2 e2)=H7 at k7 a6b a0p⊢;have hb7:=(Ah k7).2;refine As ?_;simp only[cA,nA];refine s6 Jk ?_;simp only[cA,nA];refine s6 Vm ?_;simp only[cA,nA];refine s6 e0h ?_;simp only[cA,nA];refine w9 sc_int rfl rfl hb7 rfl rfl ?_;simp only[cA,nA];have tW:=hg.n1;refine d4 ?_;refine r4 (Go.RZ.opn_callw (P:=prog) (ws:=[ii ((n-1:Nat):Int)]) (bs:= #[.pointer (some ⟨bw,0,none⟩)]) (caps:= #[]) (vs:=[fwr bw,ii ((n-1:Nat):Int)]) rfl rfl rfl AC (AE (m:=n-1) hb7 rD (by omega))) (j4 rfl (PY (p:=n) rfl tW (by omega))) ?_;rintro v59 H8 ⟨rfl,l8⟩;refine nmI ?_;simp only[cA,nA];have k8:=Si k7 l8;have vN:(Io c2 e2 (n-1)).2.1<M64:=by unfold Io;split;exact Vr _ _;exact rD
    have hY:(e2≠0/\Io c2 e2 (n-1)=(0,c2,e2))\/(e2=0/\Io c2 e2 (n-1)=j9 c2 (n-1)):=by
     by_cases h:e2=0
     ·exact .inr ⟨h,if_pos h⟩
     ·exact .inl ⟨h,if_neg h⟩
    generalize Io c2 e2 (n-1)=B3 at*;obtain⟨y,c3,e3⟩:=B3;simp only at*;have hb8:=(Ah k8).2;have hc8:=hch.mono (Ah k8).1;have ht8:=a0p.mono (Ah l8).1;refine As ?_;simp only[cA,nA];refine s6 Jk ?_;simp only[cA,nA];refine Fj (vs:=[wts,ii lo,ii hi,ii (k:Nat),ii n,w]) Zm rfl rfl hb8 rfl (show 0+0+6<=8 by omega) rfl ?_;simp only[cA,nA];refine i6 (c3R (lo:=lo) (hi:=hi) (ds:=(k:Nat)) hc8 ht8 ⟨zS,wM⟩ zK) (Cc rfl (Cb rfl rfl a0d a0e) rfl) ?_;rintro v63 H9 ⟨l9,xI⟩;refine nmI ?_;simp only[cA,nA];have k9:=Pm k8 l9;have hb9:=(Ah k9).2;refine j7 el_int xI ?_;simp only[cA,nA];refine d4 (d4 ?_);refine i0 (b:=decide (((y:Nat):Int)≥((Gu es wl lo hi (Av q pr) t t).length:Nat))) rfl (fun g5=> ?_) (fun g5=> ?_)
    ·replace g5:=oDt g5;exact g8 rfl ⟨(Ah k9).1,c3,e3,hb9,by
      rcases a1s with⟨h1,h2⟩|⟨h1,h2⟩
      ·obtain⟨_,h3⟩:=hY.resolve_right (fun h=>h1 h.1);simp only[eB]at h3;obtain⟨rfl,rfl,rfl⟩:=h3;exact .inl ⟨h1,h2⟩
      ·obtain⟨_,h3⟩:=hY.resolve_left (fun h=>h.1 h1);by_cases h4:e3=0
       ·subst h4;refine .inr ⟨rfl,vN,q,false,?_,hu.mono (Ah k9).1,by simp⟩;rw[h2];unfold stB;rw[<-h3,if_neg (by simp),if_pos (by simp only;omega)]
       ·exact .inl ⟨h4,by rw[h2];unfold stB;rw[<-h3,if_pos h4]⟩⟩
    ·replace g5:=oDf g5;refine As ?_;simp only[cA,nA];refine s6 Td ?_;simp only[cA,nA];refine w9 Tc rfl rfl hb9 rfl rfl ?_;simp only[cA,nA];refine d4 ?_;refine r9 (p:=(e3≠0)) (bN0 e3) (fun g6=> ?_) fun g6=> ?_
     ·exact g8 rfl ⟨(Ah k9).1,c3,e3,hb9,.inl ⟨g6,by
       rcases a1s with⟨h1,h2⟩|⟨h1,h2⟩
       ·obtain⟨_,h3⟩:=hY.resolve_right (fun h=>h1 h.1);simp only[eB]at h3;obtain⟨rfl,rfl,rfl⟩:=h3;exact h2
       ·obtain⟨_,h3⟩:=hY.resolve_left (fun h=>h.1 h1);rw[h2];unfold stB;rw[<-h3,if_pos g6]⟩⟩
     ·have h30:e3=0:=by omega
      subst h30;obtain⟨h20,a6c⟩:e2=0/\stP n es wl lo hi k q cc=stB n es wl lo hi q pr (Av q pr) t c2:=a1s.resolve_left (fun h=>by
       obtain⟨_,h3⟩:=hY.resolve_right (fun h4=>h.1 h4.1);simp only[eB]at h3;exact h.1 h3.2.2.symm)
      obtain⟨_,hBQ⟩:=hY.resolve_left (fun h=>h.1 h20);obtain⟨kk,hkk,_⟩:=t7 (l:=Gu es wl lo hi (Av q pr) t t) (i:=y) (by omega);have hgk:(Gu es wl lo hi (Av q pr) t t).getD y 0=kk:=by rw[aB,hkk];rfl
      have hkt:kk∈t:=(List.mem_filter.1 (aI hkk)).1;have a0f:stP n es wl lo hi k q cc=stC es q pr (sdP es (Av q pr) t kk) c3:=by rw[a6c];unfold stB;rw[<-hBQ,if_neg (by simp),if_neg (by simp only;omega)];simp only[hgk]
      have hc9:=hch.mono (Ah k9).1;refine As ?_;simp only[cA,nA];refine s6 Jk ?_;simp only[cA,nA];refine s6 Vm ?_;simp only[cA,nA];refine Fj (vs:=[ii n,w]) Zl rfl rfl hb9 rfl (show 0+0+4+2<=8 by omega) rfl ?_;simp only[cA,nA];refine j8 el_int xI hkk fun _=> ?_;simp only[cA,nA];refine x9 (PP (k:=kk) hc9.tb hc9.gr hg (ht8.mono l9) ⟨zS,wM⟩ hkt) (Ot rfl (Cb rfl rfl a0d a0e) rfl rfl) fun H10 l10=> ?_;simp only[cA,nA];have k10:=Pm k9 l10;have a3i:=(Ah k10).2;have a3j:=hch.mono (Ah k10).1;obtain⟨hA,hBs⟩:=PE (es:=es) (t:=t) qK ⟨zS,wM⟩ kk;refine i8 (i8 (i8 ?_));refine As ?_;simp only[cA,nA];refine s6 Jk ?_;simp only[cA,nA];refine Fj (vs:=[wts,ii lo,ii hi,ii (k:Nat),ii n,w]) Zm rfl rfl a3i rfl (show 0+0+6<=8 by omega) rfl ?_;simp only[cA,nA];refine Aq (c8F (lo:=lo) (hi:=hi) (ds:=(k:Nat)) a3j.gr hg a3j.wt (Ci qK hA) (Ci qK hBs)) rfl ?_;simp only[cA,nA];have vY:Br es (sdP es (Av q pr) t kk).1 (sdP es (Av q pr) t kk).2<=200:=Nat.le_trans (List.length_filter_le _ _) hg.len;refine r4 (Go.RZ.opn_callw (P:=prog) (ws:=[ii ((Br es (sdP es (Av q pr) t kk).1 (sdP es (Av q pr) t kk).2:Nat):Int)]) (bs:= #[.pointer (some ⟨bw,0,none⟩)]) (caps:= #[]) (vs:=[fwr bw,ii ((Br es (sdP es (Av q pr) t kk).1 (sdP es (Av q pr) t kk).2:Nat):Int)]) rfl rfl rfl AC (AE (m:=Br es (sdP es (Av q pr) t kk).1 (sdP es (Av q pr) t kk).2) a3i vN (by omega))) rfl ?_;rintro v79 H11 ⟨rfl,l11⟩;refine nmI ?_;simp only[cA,nA];rw[a3g]at l11⊢;have k11:=Si k10 l11;have a7i:=(Ah k11).2;have a3k:=Vr c3 (Br es (sdP es (Av q pr) t kk).1 (sdP es (Av q pr) t kk).2);have uO:=d8c (s:=c3) (n:=Br es (sdP es (Av q pr) t kk).1 (sdP es (Av q pr) t kk).2);unfold stC at a0f;generalize j9 c3 (Br es (sdP es (Av q pr) t kk).1 (sdP es (Av q pr) t kk).2)=B4 at*;obtain⟨zz,c4,e4⟩:=B4;simp only at*;refine d4 ?_;refine r9 (p:=(zz=0)) (bE0 zz) (fun g7=> ?_) fun g7=> ?_
      ·refine i6 (PX (hu.mono (Ah k11).1) hL8 (by omega) (by omega) (Ci qK hA)) rfl ?_;rintro v80 H12 ⟨l12,h80⟩;refine nmI ?_;simp only[cA,nA];have k12:=Pm k11 l12;exact g8 rfl ⟨(Ah k12).1,c4,e4,(Ah k12).2,by
        by_cases h4:e4=0
        ·subst h4;refine .inr ⟨rfl,a3k,_,_,?_,h80,rfl⟩;rw[a0f,if_neg (by simp),if_neg (by simpa using g7)]
        ·exact .inl ⟨h4,by rw[a0f,if_pos h4]⟩⟩
      ·have h40:e4=0:=aP fun e=>g7 (uO e);subst h40;exact⟨(1,c4),by show 1-1<1-0;omega,(j4 rfl rfl),.inr ⟨rfl,a3k,by rw[a0f,if_neg (by simp),if_pos g7],k11⟩⟩
 ·replace pO:=oDf pO;rcases hQ with⟨rfl,rfl,rfl⟩|⟨rfl,xN,hR,k13⟩
  ·have a6d:k=1:=by
    apply aP;intro e;have:=PD ⟨k,by omega⟩ (by show 2<=k;omega);simp only at this;omega
   exact g8 rfl ⟨(Ah k1).1,cc,0,(Ah k1).2,.inr ⟨rfl,hc,q,false,by unfold stP;rw[if_pos a6d],hu.mono (Ah k1).1,by simp⟩⟩
  exact g8 rfl ⟨(Ah k13).1,cc,0,(Ah k13).2,.inr ⟨rfl,xN,q,false,hR,hu.mono (Ah k13).1,by simp⟩⟩
end
end Go.Proofs.Z
